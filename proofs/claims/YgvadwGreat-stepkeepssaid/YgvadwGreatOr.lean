import Derived.Test.YgvadwGreatOq
namespace Go.Proofs.YgvadwGreat
set_option linter.unusedSimpArgs false
set_option linter.unusedVariables false
structure CrS (C t b9 : Nat) (A : List Int) (r : Array Value) (w : World) : Prop where
  ch : ∃ c, Hb w C (.cells c 86 (0, 0)) ∧ c.size = 27024 ∧ Ce c 0 (.pointer (some ⟨C, 2435, none⟩)) ∧ Xt c (1803 + t * 65 + 9) (1803 + t * 65 + 9 + 20) (ic .u8 A)
  h9 : Hb w b9 (.cells r 65 (0, 0))
theorem CrS.of {w : World} {C : Nat} {c : Array Value} {v : V} {B : VB} {m : Mc} {t b9 : Nat} {f : Fm} {r : Array Value} (hM : MS w C c v B m) (hf : m.frames[t]? = some f) (h9 : Hb w b9 (.cells r 65 (0, 0))) : CrS C t b9 f.self r w := ⟨⟨c, hM.vs.blk, hM.sz, hM.rep.s, (hM.openF hf).2.2.self⟩, h9⟩
/-- no frame is entered -/
theorem op_stay {scan : List Int → List Int} {v v1 : V} {m : Mc} {t : Nat} {c S : Int} (hI : RI scan v m t c S) {f f3 : Fm} (hf : m.frames[t]? = some f) {dj da : Nat} (hadv : Adv v v1 dj da 0) (hda : da ≤ 1) {st : Int} (hmc : costTo m.frames m.base (t + 1) + st ≤ 1048576)
    (h1 : 25 * (dj : Int) ≤ c - st) (h2 : 2600 * (da : Int) ≤ c - st) (h3 : st < c) (hf3 : f3 = { f with gas := f.gas + st }) {k : Int} {W : List Int} (hk : 0 ≤ k ∧ k ≤ f.sp) (hg : f.sp - k < 64) (hpc : f.pc + 1 ≤ (f.cb.length : Int) + 33) :
    OpP scan m t c S v1 (({ m with ret := (none, 0, 0), frames := m.frames.set t f3 } : Mc).settle t f3 k true W 1) := by
  subst hf3
  have hF := hI.fr t f (Nat.le_refl _) hf
  obtain ⟨hJ, hgg⟩ := hI.set2 (v' := v) (f' := { f with gas := f.gas + st }) (stk := m.stack) (ret' := (none, 0, 0)) hf st hI.rw_ hI.ti.vi (fun _ h => h) (Int.le_refl _) ⟨by show 0 ≤ 717280; decide, Nat.le_refl _⟩ (by omega) hmc rfl rfl rfl { hF with }
  have hr : RW v1 { m with ret := (none, 0, 0), frames := m.frames.set t { f with gas := f.gas + st } } S (m.txgas - gasTo (m.frames.set t { f with gas := f.gas + st }) (t + 1)) :=
    hI.rw_.adv hadv hda (by omega) (by omega) (by omega) (by omega) (by omega) rfl rfl
  have := hJ.settle (v' := v1) (k := k) (st := 1) (g := true) (W := W) (f := { f with gas := f.gas + st }) (by show (m.frames.set t _)[t]? = _; rw [List.getElem?_set_self (lt_of_getElem? hf)]) hr hadv.vi hadv.en (by rw [hadv.nm]; omega) hk (fun _ => hg) hpc (by omega)
  rcases this.2 with ⟨t', h5, h6⟩ | ⟨h5, h6⟩
  · refine Or.inl ⟨t', h5, ?_⟩
    replace h6 : _ < gasTo (m.frames.set t { f with gas := f.gas + st }) (t + 1) + (c - st) ∨ (_ = gasTo (m.frames.set t { f with gas := f.gas + st }) (t + 1) + (c - st) ∧ t' < t) := h6
    rw [hgg] at h6; omega
  · refine Or.inr ⟨h5, ?_⟩
    replace h6 : _ ≤ gasTo (m.frames.set t { f with gas := f.gas + st }) (t + 1) + (c - st) := h6
    rw [hgg] at h6; omega
theorem set_selfF {m : Mc} {t : Nat} {f : Fm} (hf : m.frames[t]? = some f) : m.frames.set t f = m.frames := by
  apply List.ext_getElem?
  intro i
  by_cases hi : i = t
  · subst hi; rw [List.getElem?_set_self (lt_of_getElem? hf), hf]
  · rw [List.getElem?_set_ne (fun e => hi e.symm)]

set_option maxRecDepth 10000 in
set_option maxHeartbeats 8000000 in
theorem opCreate_spec (C : Nat) (c : Array Value) (v : V) (B : VB) (m : Mc) (t : Nat) (f : Fm) (o c' S : Int) (w : World) (hM : MS w C c v B m) (hop : Mc.opc f = o) (hAd : Adm scanW v m t f o (infoW o).2.2.1 c' S) (hk : (infoW o).1 ≤ f.sp ∧ f.sp - (infoW o).1 + (infoW o).2.1 ≤ 64) (hc : 0 < c') (ho : o = 240 ∨ o = 245) : Ret Hvad.prog 108 #[.pointer (some ⟨C, 0, none⟩)] w fun _ w' => ∃ v' m', MRet w C B m w' v' m' ∧ OpP scanW m t c' S v' m' := by
  have hI := hAd.ri
  have hf := hAd.fr
  have hR := hI.run hf
  have hA := hR.fa
  have hblk := hM.vs.blk
  have hCl := hblk.lt
  have hcs := hM.sz
  have hc_s := hM.rep.s
  obtain ⟨ht7, hfty, hF⟩ := hM.openF hf
  have hFk := hI.fr t f (Nat.le_refl _) hf
  have hvi := hI.ti.vi
  have hcbl := (hM.code f (List.mem_of_getElem? hf)).1.len
  have hcb5 := hFk.cl
  have hcl : f.code.2.1 ≤ 100000 := by omega
  have hpct := hfty.pc
  have hspt := hfty.sp
  have hwdA := fun i => argW_wd hM.ty f i
  have hpcl : f.pc < (f.cb.length : Int) := opc_pc (by rw [hop]; omega)
  obtain ⟨lo, n, hlo, hhi, hszn, hlon, hn32⟩ := hI.mem hM.ty (i := t) (Nat.le_refl _)
  have hbl0 := hI.ti.bl
  have hT : MemT m t lo n := ⟨hI.mtY, by omega, hlo, hhi, hlon, by omega⟩
  have hl0 := (hwdA 0).1
  have hl1 := (hwdA 1).1
  have hl2 := (hwdA 2).1
  have hl3 := (hwdA 3).1
  have hroom := hI.room hM.ty
  have hself := hfty.self
  have hselfl := hself.1
  have hgast := hfty.gas
  have hfg : f.gas ≤ 1048576 := by have h1 := (gas_bd hI hM.ty (t + 1) (Nat.le_refl _)).2; have h2 := (gas_bd hI hM.ty t (by omega)).1; simp only [gasTo, gasOf_some hf] at h1; omega
  have hfl : isFlat o = false := by rcases ho with h | h <;> (rw [h]; rfl)
  have hst0 : (infoW o).2.2.1 = 32000 := by rcases ho with h | h <;> (rw [h]; rfl)
  have hcs0 := hAd.cs
  rw [hst0] at hcs0
  have hcr := hAd.cr ho
  have hre := hAd.re hfl
  rw [hszn] at hre
  have hrr : reachesW m f o = reachW (m.argW f 1) (m.argW f 2) := by rcases ho with h | h <;> (rw [h]; rfl)
  rw [hrr] at hre
  have hft : wv (m.argW f 2) = 0 ∨ wv (m.argW f 1) + wv (m.argW f 2) ≤ n := by
    rcases reach_fit (hwdA 2) hre.1 with h | h
    · exact Or.inl h
    · exact Or.inr (by omega)
  have hwb2 := wv_bd (hwdA 2)
  have hnon := nonce_bd hM.vs.ty f.self
  have hmc0 := hI.mc
  
  refine Ret_of_W Hvad.func108 rfl rfl ?_
  refine W_seq ?_
  refine W_region rfl ?_
  refine WO_p (PS_move_ptr rfl) ?_
  refine WO_call Hvad.call91 (by rfl) (Ret.mono (running_spec C c v B m t f _ (MS.ext hM (by repeat (first | assumption | exact Ext.refl _ | refine Ext.alloc ?_ _ | refine Ext.drew ?_ | refine Ext.setB ?_ (by first | omega | (simp only [size_alloc, size_setB, size_drew]; omega)) _ | exact Ext.trans (by assumption) (by assumption) | refine Ext.trans ?_ (by assumption)))) hR) ?_)
  rintro _ w91_0 ⟨hE91_0, rfl⟩
  have hz91_0 := hE91_0.1
  try simp only [size_alloc, size_setB, size_drew] at hz91_0
  refine WO_p (PS_assign_ptr rfl) ?_
  refine WO_nil ?_
  refine thn_normal ?_
  refine W_seq ?_
  refine W_seq ?_
  refine W_region rfl ?_
  refine WO_p (PS_move_ptr rfl) ?_
  refine WO_p (PS_eqlnil Hvad.underlying182 rfl) ?_
  refine WO_nil ?_
  refine thn_normal ?_
  refine W_if rfl (fun hb3 => ?_) (fun hb3 => ?_)
  · have hb3p := hb3.h; try simp only [al_ete, al_dfn, Bool.not_eq_true', Bool.not_eq_false', al_ne, Bool.not_not, al_nn] at hb3p
    simp at hb3p --END
  · have hb3p := hb3.h; try simp only [al_ete, al_dfn, Bool.not_eq_true', Bool.not_eq_false', al_ne, Bool.not_not, al_nn] at hb3p
    refine W_skip ?_
    refine thn_normal ?_
    refine W_seq ?_
    refine W_region rfl ?_
    refine WO_p (PS_move_ptr rfl) ?_
    refine WO_call Hvad.call49 (by rfl) (Ret.mono (opcode_spec C c v B m t f _ (MS.ext hM (by repeat (first | assumption | exact Ext.refl _ | refine Ext.alloc ?_ _ | refine Ext.drew ?_ | refine Ext.setB ?_ (by first | omega | (simp only [size_alloc, size_setB, size_drew]; omega)) _ | exact Ext.trans (by assumption) (by assumption) | refine Ext.trans ?_ (by assumption)))) hR hcl) ?_)
    rintro _ w49_3 ⟨hE49_3, rfl⟩
    have hz49_3 := hE49_3.1
    try simp only [size_alloc, size_setB, size_drew] at hz49_3
    try rw [hop]
    refine WO_p (PS_eql rfl rfl) ?_
    refine WO_p (PS_assign_bool rfl) ?_
    refine WO_nil ?_
    refine thn_normal ?_
    refine W_seq ?_
    refine W_region rfl ?_
    refine WO_p (PS_assign_int rfl) ?_
    refine WO_nil ?_
    refine thn_normal ?_
    refine W_seqJ (fun ρ w' => ∃ tkv : Int, Fr [(0, .pointer (some ⟨C, 0, none⟩)), (2, .pointer (some ⟨C, 1803 + t * 65, none⟩)), (3, .bool (decide (o = 245))), (4, .int .u16 tkv)] ρ ∧ Ext w w' ∧ tkv = (infoW o).1 ∧ 3 ≤ tkv ∧ tkv ≤ 4) ?_ ?_
    · skip
      refine W_seq ?_
      refine W_region rfl ?_
      refine WO_p (PS_move_bool rfl) ?_
      refine WO_nil ?_
      refine thn_normal ?_
      refine W_if rfl (fun hb6 => ?_) (fun hb6 => ?_)
      · have hb6p := hb6.h; try simp only [al_ete, al_dfn, Bool.not_eq_true', Bool.not_eq_false', al_ne, Bool.not_not, al_nn] at hb6p
        refine W_region rfl ?_
        refine WO_p (PS_assign_int rfl) ?_
        refine WO_nil ?_
        refine thn_normal ?_
        exact ⟨4, ⟨rfl, rfl, rfl, rfl, trivial⟩, (by repeat (first | assumption | exact Ext.refl _ | refine Ext.alloc ?_ _ | refine Ext.drew ?_ | refine Ext.setB ?_ (by first | omega | (simp only [size_alloc, size_setB, size_drew]; omega)) _ | exact Ext.trans (by assumption) (by assumption) | refine Ext.trans ?_ (by assumption))), by rw [show o = 245 by omega]; rfl, by omega, by omega⟩
      · have hb6p := hb6.h; try simp only [al_ete, al_dfn, Bool.not_eq_true', Bool.not_eq_false', al_ne, Bool.not_not, al_nn] at hb6p
        refine W_skip ?_
        refine thn_normal ?_
        exact ⟨3, ⟨rfl, rfl, rfl, rfl, trivial⟩, (by repeat (first | assumption | exact Ext.refl _ | refine Ext.alloc ?_ _ | refine Ext.drew ?_ | refine Ext.setB ?_ (by first | omega | (simp only [size_alloc, size_setB, size_drew]; omega)) _ | exact Ext.trans (by assumption) (by assumption) | refine Ext.trans ?_ (by assumption))), by rw [show o = 240 by omega]; rfl, by omega, by omega⟩
    · rintro ρ w6 ⟨tkv, hFr6, hE6, htkv, htk3, htk4⟩
      refine W_env _ hFr6 ?_
      have hz6 := hE6.1
      have hk1 := hk
      rw [← htkv] at hk1
      have hgv1 : (infoW o).2.1 = 1 := by rcases ho with h | h <;> (rw [h]; rfl)
      rw [hgv1] at hk1
      obtain ⟨hM7, hS7⟩ := (hM.ext hE6).put_ret (none, 0, 0) (Or.inl ⟨rfl, rfl⟩)
      have hblk6 := (hM.ext hE6).vs.blk
      refine W_seq ?_
      refine W_region rfl ?_
      refine WO_p (PS_move_ptr rfl) ?_
      refine WO_p (PS_nilCheck rfl) ?_
      refine WO_p (PS_fieldAddr 2259 Hvad.runUnderlying69 rfl Hvad.sizeOf32 rfl rfl) ?_
      refine WO_store1 Hvad.sizeOf32 rfl (v := (.slice _ _ _)) rfl (Hb.h (by repeat (first | assumption | exact Hb.newY _ _ | refine Hb.alloc ?_ | refine Hb.drew ?_ | refine Hb.ext (by assumption) ?_ | exact Hb.setSameL (by first | omega | (simp only [size_alloc, size_setB, size_drew]; omega)) | exact Hb.setSame (by assumption) | refine Hb.set (by first | omega | (simp only [size_alloc, size_setB, size_drew]; omega)) ?_ ))) rfl (by first | omega | assumption | rfl | decide | exact Nat.le_refl _ | (simp only [size_ic, Value.cells]; omega) | simp) rfl ?_
      refine WO_nil ?_
      refine thn_normal ?_
      refine W_seq ?_
      refine W_gen fun w7 hw7 => ?_
      obtain ⟨c7, hM7', hS7'⟩ : ∃ c7, MS w7 C c7 v B { m with ret := (none, 0, 0) } ∧ MStep w w7 C B m B { m with ret := (none, 0, 0) } := ⟨_, by rw [hw7]; exact hM7, by rw [hw7]; exact (MStep.ext hE6).trans hS7⟩
      clear hw7 hM7 hS7
      have hz7 := hS7'.keep.sz
      have hblk7 := hM7'.vs.blk
      have hcs7 := hM7'.sz
      have hc_s7 := hM7'.rep.s
      have hc_top7 : Ce c7 2258 (.int .i8 (t : Int)) := by have := hM7'.rep.top; rw [show ({ m with ret := (none, 0, 0) } : Mc).top = (t : Int) from hI.top] at this; exact this
      obtain ⟨_, _, hF7⟩ := hM7'.openF hf
      have hf_self7 := hF7.self
      have hf_gas7 := hF7.gas
      have hA7 : FrA { m with ret := (none, 0, 0) } t f := ⟨hA.t6, hA.fr, hA.sb, hA.sp⟩
      have hAW7 : ∀ i, ({ m with ret := (none, 0, 0) } : Mc).argW f i = m.argW f i := fun i => rfl
      have hT7 : MemT { m with ret := (none, 0, 0) } t lo n := ⟨hT.1, hT.2, hT.3, hT.4, hT.5, hT.6⟩
      have hbw7 := bal_wd hM7'.vs.ty f.self
      have hbwl7 := hbw7.1
      refine W_region rfl ?_
      refine WO_p (PS_move_ptr rfl) ?_
      refine WO_p (PS_move_ptr rfl) ?_
      refine WO_call Hvad.call160 (by rfl) (Ret.mono (arg_spec C c7 v B { m with ret := (none, 0, 0) } t f _ _ (MS.ext hM7' (by repeat (first | assumption | exact Ext.refl _ | refine Ext.alloc ?_ _ | refine Ext.drew ?_ | refine Ext.setB ?_ (by first | omega | (simp only [size_alloc, size_setB, size_drew]; omega)) _ | exact Ext.trans (by assumption) (by assumption) | refine Ext.trans ?_ (by assumption)))) hA7 (by omega)) ?_)
      rintro _ w160_6 ⟨hE160_6, rfl⟩
      have hz160_6 := hE160_6.1
      try simp only [size_alloc, size_setB, size_drew] at hz160_6
      rw [hAW7]
      refine WO_allocG Hvad.zeroValue59 ?_
      intro b5 v5 hg5 hE5 hH5 hl5
      try simp only [size_alloc, size_setB, size_drew] at hg5
      have hzz5 := hE5.1
      try simp only [size_alloc, size_setB, size_drew] at hzz5
      replace hH5 : Hb v5 b5 (.cells (ic .u64 [0, 0, 0, 0]) 59 (0, 0)) := hH5
      first | refine WO_storeW Hvad.sizeOf59 rfl (v := .agg _) rfl (Hb.h (by repeat (first | assumption | exact Hb.newY _ _ | refine Hb.alloc ?_ | refine Hb.drew ?_ | refine Hb.ext (by assumption) ?_ | exact Hb.setSameL (by first | omega | (simp only [size_alloc, size_setB, size_drew]; omega)) | exact Hb.setSame (by assumption) | refine Hb.set (by first | omega | (simp only [size_alloc, size_setB, size_drew]; omega)) ?_ ))) rfl (by first | omega | assumption | rfl | decide | exact Nat.le_refl _ | (simp only [size_ic, Value.cells]; omega) | simp) (by first | omega | assumption | rfl | decide | exact Nat.le_refl _ | (simp only [size_ic, Value.cells]; omega) | simp) (by first | exact oneCell_ic | assumption) ?_ | refine WO_store Hvad.sizeOf59 rfl (v := .agg _) rfl (Hb.h (by repeat (first | assumption | exact Hb.newY _ _ | refine Hb.alloc ?_ | refine Hb.drew ?_ | refine Hb.ext (by assumption) ?_ | exact Hb.setSameL (by first | omega | (simp only [size_alloc, size_setB, size_drew]; omega)) | exact Hb.setSame (by assumption) | refine Hb.set (by first | omega | (simp only [size_alloc, size_setB, size_drew]; omega)) ?_ ))) (by first | omega | assumption | rfl | decide | exact Nat.le_refl _ | (simp only [size_ic, Value.cells]; omega) | simp) (by first | omega | assumption | rfl | decide | exact Nat.le_refl _ | (simp only [size_ic, Value.cells]; omega) | simp) (by first | exact oneCell_ic | assumption) ?_
      refine WO_nil ?_
      refine thn_normal ?_
      refine W_seq ?_
      refine W_drawE [false, false, false, false, false, false, false, false, false, false] hmix (by kernel_rfl) rfl ?_
      refine WH_p (PS_move_ptr rfl) rfl ?_
      refine WH_p (PS_nilCheck rfl) rfl ?_
      refine WH_p (PS_fieldAddr 0 Hvad.runUnderlying69 rfl Hvad.sizeOf53 rfl rfl) rfl ?_
      refine WH_load (.pointer _) Hvad.isAgg53 rfl (Hb.h (by repeat (first | assumption | exact Hb.newY _ _ | refine Hb.alloc ?_ | refine Hb.drew ?_ | refine Hb.ext (by assumption) ?_ | exact Hb.setSameL (by first | omega | (simp only [size_alloc, size_setB, size_drew]; omega)) | exact Hb.setSame (by assumption) | refine Hb.set (by first | omega | (simp only [size_alloc, size_setB, size_drew]; omega)) ?_ ))) (Ce.h (by first | assumption | exact ⟨rfl⟩)) ?_
      refine WH_p (PS_move_ptr rfl) rfl ?_
      refine WH_p (PS_nilCheck rfl) rfl ?_
      refine WH_p (PS_fieldAddr 9 Hvad.runUnderlying65 rfl Hvad.sizeOf25 rfl rfl) rfl ?_
      refine WH_loadA _ Hvad.isAgg25 Hvad.sizeOf25 rfl (Hb.h (by repeat (first | assumption | exact Hb.newY _ _ | refine Hb.alloc ?_ | refine Hb.drew ?_ | refine Hb.ext (by assumption) ?_ | exact Hb.setSameL (by first | omega | (simp only [size_alloc, size_setB, size_drew]; omega)) | exact Hb.setSame (by assumption) | refine Hb.set (by first | omega | (simp only [size_alloc, size_setB, size_drew]; omega)) ?_ ))) (by first | omega | assumption | rfl | decide | exact Nat.le_refl _ | (simp only [size_ic, Value.cells]; omega) | simp) (Xt.h (by first | assumption | exact Xt.whole rfl rfl | exact Xt.whole rfl (by simp only [size_ic, Value.cells]; omega) | exact ⟨rfl⟩)) ?_
      refine WH_call Hvad.call62 (by rfl) (Ret.mono (nonce_spec C c7 v B (bb m) _ _ (VS.ext hM7'.vs (by repeat (first | assumption | exact Ext.refl _ | refine Ext.alloc ?_ _ | refine Ext.drew ?_ | refine Ext.setB ?_ (by first | omega | (simp only [size_alloc, size_setB, size_drew]; omega)) _ | exact Ext.trans (by assumption) (by assumption) | refine Ext.trans ?_ (by assumption)))) hself) ?_)
      rintro _ w62_7 ⟨rfl, hE62_7⟩
      refine ⟨(fun h => by cases h), ?_⟩
      have hz62_7 := hE62_7.1
      try simp only [size_alloc, size_setB, size_drew] at hz62_7
      refine WH_p (PS_assign_int rfl) rfl ?_
      refine WH_nil ?_
      refine thn_normal ?_
      refine W_seq ?_
      refine W_seq ?_
      refine W_drawE [false, false, false, false, false, false, false, false, false, false, false, false, false, false, true, false, false, false, false, false, false, false] hmix (by kernel_rfl) rfl ?_
      refine WH_p (PS_move_ptr rfl) rfl ?_
      refine WH_p (PS_nilCheck rfl) rfl ?_
      refine WH_p (PS_fieldAddr 2258 Hvad.runUnderlying69 rfl Hvad.sizeOf67 rfl rfl) rfl ?_
      refine WH_load (.int _ _) Hvad.isAgg67 rfl (Hb.h (by repeat (first | assumption | exact Hb.newY _ _ | refine Hb.alloc ?_ | refine Hb.drew ?_ | refine Hb.ext (by assumption) ?_ | exact Hb.setSameL (by first | omega | (simp only [size_alloc, size_setB, size_drew]; omega)) | exact Hb.setSame (by assumption) | refine Hb.set (by first | omega | (simp only [size_alloc, size_setB, size_drew]; omega)) ?_ ))) (Ce.h (by first | assumption | exact ⟨rfl⟩)) ?_
      refine WH_p (PS_geq rfl rfl) rfl ?_
      refine WH_p (PS_move_bool rfl) rfl ?_
      refine WH_if (t := 38) rfl (fun hb10 => ?_) (fun hb10 => ?_)
      · have hb10p := hb10.h; try simp only [al_ete, al_dfn, Bool.not_eq_true', Bool.not_eq_false', al_ne, Bool.not_not, al_nn] at hb10p
        refine WH_guardF rfl rfl hb10.h ?_
        refine WH_guardF rfl rfl hb10.h ?_
        refine WH_guardF rfl rfl hb10.h ?_
        refine WH_guardF rfl rfl hb10.h ?_
        refine WH_guardF rfl rfl hb10.h ?_
        refine WH_guardF rfl rfl hb10.h ?_
        refine WH_guardF rfl rfl hb10.h ?_
        refine WH_guardF rfl rfl hb10.h ?_
        refine WH_guardF rfl rfl hb10.h ?_
        refine WH_guardF rfl rfl hb10.h ?_
        refine WH_guardF rfl rfl hb10.h ?_
        refine WH_p (PS_pickT rfl hb10.h rfl) rfl ?_
        refine WH_p (PS_move_bool rfl) rfl ?_
        refine WH_guardF rfl rfl rfl ?_
        refine WH_guardF rfl rfl rfl ?_
        refine WH_p (PS_pickT rfl rfl rfl) rfl ?_
        refine WH_nil ?_
        refine thn_normal ?_
        refine W_condT rfl rfl ?_
        refine W_seq ?_
        refine W_region rfl ?_
        refine WO_p (PS_move_ptr rfl) ?_
        refine WO_p (PS_move_ptr rfl) ?_
        refine WO_p (PS_move_int rfl) ?_
        refine WO_p (PS_buildI (k := .u64) (zs := [0, 0, 0, 0]) (ps := []) (L := [0, 0, 0, 0]) Hvad.zeroValue59 Hvad.runUnderlying59 Hvad.sizeOf26 rfl rfl rfl rfl) ?_
        refine WO_call Hvad.call155 (by rfl) (Ret.mono (settle_spec C c7 v B { m with ret := (none, 0, 0) } t f tkv _ _ _ _ (MS.ext hM7' (by repeat (first | assumption | exact Ext.refl _ | refine Ext.alloc ?_ _ | refine Ext.drew ?_ | refine Ext.setB ?_ (by first | omega | (simp only [size_alloc, size_setB, size_drew]; omega)) _ | exact Ext.trans (by assumption) (by assumption) | refine Ext.trans ?_ (by assumption)))) hA7 (by omega) (by intro _; omega) Wd0 (by omega)) ?_)
        rintro _ wS hRS
        refine WO_nil ?_
        refine thn_normal ?_
        refine W_ret ?_
        refine thn_ret ?_
        first | refine bodyQ_ret0 Hvad.results108 ?_ | refine bodyQ_end0 Hvad.results108 ?_
        exact ⟨v, _, MRet.trans hS7' (MRet.pre (by repeat (first | assumption | exact Ext.refl _ | refine Ext.alloc ?_ _ | refine Ext.drew ?_ | refine Ext.setB ?_ (by first | omega | (simp only [size_alloc, size_setB, size_drew]; omega)) _ | exact Ext.trans (by assumption) (by assumption) | refine Ext.trans ?_ (by assumption))) hRS), by have h := op_stay hI hf (Adv.refl hvi) (by omega) (st := 0) (by omega) (by omega) (by omega) (by omega) (f3 := f) (by simp) (k := tkv) (W := [0, 0, 0, 0]) (by omega) (by omega) (by omega); rw [set_selfF hf] at h; exact h⟩
      · have hb10p := hb10.h; try simp only [al_ete, al_dfn, Bool.not_eq_true', Bool.not_eq_false', al_ne, Bool.not_not, al_nn] at hb10p
        refine WH_guardT rfl rfl hb10.h ?_
        refine WH_p (PS_move_ptr rfl) rfl ?_
        refine WH_guardT rfl rfl hb10.h ?_
        refine WH_p (PS_nilCheck rfl) rfl ?_
        refine WH_guardT rfl rfl hb10.h ?_
        refine WH_p (PS_fieldAddr 0 Hvad.runUnderlying69 rfl Hvad.sizeOf53 rfl rfl) rfl ?_
        refine WH_guardT rfl rfl hb10.h ?_
        refine WH_load (.pointer _) Hvad.isAgg53 rfl (Hb.h (by repeat (first | assumption | exact Hb.newY _ _ | refine Hb.alloc ?_ | refine Hb.drew ?_ | refine Hb.ext (by assumption) ?_ | exact Hb.setSameL (by first | omega | (simp only [size_alloc, size_setB, size_drew]; omega)) | exact Hb.setSame (by assumption) | refine Hb.set (by first | omega | (simp only [size_alloc, size_setB, size_drew]; omega)) ?_ ))) (Ce.h (by first | assumption | exact ⟨rfl⟩)) ?_
        refine WH_guardT rfl rfl hb10.h ?_
        refine WH_p (PS_move_ptr rfl) rfl ?_
        refine WH_guardT rfl rfl hb10.h ?_
        refine WH_p (PS_nilCheck rfl) rfl ?_
        refine WH_guardT rfl rfl hb10.h ?_
        refine WH_p (PS_fieldAddr 9 Hvad.runUnderlying65 rfl Hvad.sizeOf25 rfl rfl) rfl ?_
        refine WH_guardT rfl rfl hb10.h ?_
        refine WH_loadA _ Hvad.isAgg25 Hvad.sizeOf25 rfl (Hb.h (by repeat (first | assumption | exact Hb.newY _ _ | refine Hb.alloc ?_ | refine Hb.drew ?_ | refine Hb.ext (by assumption) ?_ | exact Hb.setSameL (by first | omega | (simp only [size_alloc, size_setB, size_drew]; omega)) | exact Hb.setSame (by assumption) | refine Hb.set (by first | omega | (simp only [size_alloc, size_setB, size_drew]; omega)) ?_ ))) (by first | omega | assumption | rfl | decide | exact Nat.le_refl _ | (simp only [size_ic, Value.cells]; omega) | simp) (Xt.h (by first | assumption | exact Xt.whole rfl rfl | exact Xt.whole rfl (by simp only [size_ic, Value.cells]; omega) | exact ⟨rfl⟩)) ?_
        refine WH_guardT rfl rfl hb10.h ?_
        refine WH_call Hvad.call36 (by rfl) (Ret.mono (balance_spec C c7 v B (bb m) _ _ (VS.ext hM7'.vs (by repeat (first | assumption | exact Ext.refl _ | refine Ext.alloc ?_ _ | refine Ext.drew ?_ | refine Ext.setB ?_ (by first | omega | (simp only [size_alloc, size_setB, size_drew]; omega)) _ | exact Ext.trans (by assumption) (by assumption) | refine Ext.trans ?_ (by assumption)))) hself) ?_)
        rintro _ w36_11 ⟨rfl, hE36_11⟩
        refine ⟨fun _ => (by repeat (first | assumption | exact Ext.refl _ | refine Ext.alloc ?_ _ | refine Ext.drew ?_ | refine Ext.setB ?_ (by first | omega | (simp only [size_alloc, size_setB, size_drew]; omega)) _ | exact Ext.trans (by assumption) (by assumption) | refine Ext.trans ?_ (by assumption))), ?_⟩
        have hz36_11 := hE36_11.1
        try simp only [size_alloc, size_setB, size_drew] at hz36_11
        refine WH_guardT rfl rfl hb10.h ?_
        refine WH_loadA _ Hvad.isAgg59 Hvad.sizeOf59 rfl (Hb.h (by repeat (first | assumption | exact Hb.newY _ _ | refine Hb.alloc ?_ | refine Hb.drew ?_ | refine Hb.ext (by assumption) ?_ | exact Hb.setSameL (by first | omega | (simp only [size_alloc, size_setB, size_drew]; omega)) | exact Hb.setSame (by assumption) | refine Hb.set (by first | omega | (simp only [size_alloc, size_setB, size_drew]; omega)) ?_ ))) (by first | omega | assumption | rfl | decide | exact Nat.le_refl _ | (simp only [size_ic, Value.cells]; omega) | simp) (Xt.h (by first | assumption | exact Xt.whole rfl rfl | exact Xt.whole rfl (by simp only [size_ic, Value.cells]; omega) | exact ⟨rfl⟩)) ?_
        refine WH_guardT rfl rfl hb10.h ?_
        refine WH_call Hvad.call66 (by rfl) (Ret.mono (lt_spec _ _ _ hbw7 (hwdA 0)) ?_)
        rintro _ w66_12 ⟨rfl, hE66_12⟩
        refine ⟨(fun h => by cases h), ?_⟩
        have hz66_12 := hE66_12.1
        try simp only [size_alloc, size_setB, size_drew] at hz66_12
        refine WH_p (PS_pickF rfl hb10.h rfl) rfl ?_
        refine WH_p (PS_move_bool rfl) rfl ?_
        refine WH_if (t := 51) rfl (fun hb15 => ?_) (fun hb15 => ?_)
        · have hb15p := hb15.h; try simp only [al_ete, al_dfn, Bool.not_eq_true', Bool.not_eq_false', al_ne, Bool.not_not, al_nn] at hb15p
          refine WH_guardF rfl rfl hb15.h ?_
          refine WH_guardF rfl rfl hb15.h ?_
          refine WH_p (PS_pickT rfl hb15.h rfl) rfl ?_
          refine WH_nil ?_
          refine thn_normal ?_
          refine W_condT rfl rfl ?_
          refine W_seq ?_
          refine W_region rfl ?_
          refine WO_p (PS_move_ptr rfl) ?_
          refine WO_p (PS_move_ptr rfl) ?_
          refine WO_p (PS_move_int rfl) ?_
          refine WO_p (PS_buildI (k := .u64) (zs := [0, 0, 0, 0]) (ps := []) (L := [0, 0, 0, 0]) Hvad.zeroValue59 Hvad.runUnderlying59 Hvad.sizeOf26 rfl rfl rfl rfl) ?_
          refine WO_call Hvad.call155 (by rfl) (Ret.mono (settle_spec C c7 v B { m with ret := (none, 0, 0) } t f tkv _ _ _ _ (MS.ext hM7' (by repeat (first | assumption | exact Ext.refl _ | refine Ext.alloc ?_ _ | refine Ext.drew ?_ | refine Ext.setB ?_ (by first | omega | (simp only [size_alloc, size_setB, size_drew]; omega)) _ | exact Ext.trans (by assumption) (by assumption) | refine Ext.trans ?_ (by assumption)))) hA7 (by omega) (by intro _; omega) Wd0 (by omega)) ?_)
          rintro _ wS hRS
          refine WO_nil ?_
          refine thn_normal ?_
          refine W_ret ?_
          refine thn_ret ?_
          first | refine bodyQ_ret0 Hvad.results108 ?_ | refine bodyQ_end0 Hvad.results108 ?_
          exact ⟨v, _, MRet.trans hS7' (MRet.pre (by repeat (first | assumption | exact Ext.refl _ | refine Ext.alloc ?_ _ | refine Ext.drew ?_ | refine Ext.setB ?_ (by first | omega | (simp only [size_alloc, size_setB, size_drew]; omega)) _ | exact Ext.trans (by assumption) (by assumption) | refine Ext.trans ?_ (by assumption))) hRS), by have h := op_stay hI hf (Adv.refl hvi) (by omega) (st := 0) (by omega) (by omega) (by omega) (by omega) (f3 := f) (by simp) (k := tkv) (W := [0, 0, 0, 0]) (by omega) (by omega) (by omega); rw [set_selfF hf] at h; exact h⟩
        · have hb15p := hb15.h; try simp only [al_ete, al_dfn, Bool.not_eq_true', Bool.not_eq_false', al_ne, Bool.not_not, al_nn] at hb15p
          refine WH_guardT rfl rfl hb15.h ?_
          refine WH_p (PS_move_int rfl) rfl ?_
          refine WH_guardT rfl rfl hb15.h ?_
          refine WH_p (PS_eql rfl rfl) rfl ?_
          refine WH_p (PS_pickF rfl hb15.h rfl) rfl ?_
          refine WH_nil ?_
          refine thn_normal ?_
          refine W_if rfl (fun hb18 => ?_) (fun hb18 => ?_)
          · have hb18p := hb18.h; try simp only [al_ete, al_dfn, Bool.not_eq_true', Bool.not_eq_false', al_ne, Bool.not_not, al_nn] at hb18p
            refine W_seq ?_
            refine W_region rfl ?_
            refine WO_p (PS_move_ptr rfl) ?_
            refine WO_p (PS_move_ptr rfl) ?_
            refine WO_p (PS_move_int rfl) ?_
            refine WO_p (PS_buildI (k := .u64) (zs := [0, 0, 0, 0]) (ps := []) (L := [0, 0, 0, 0]) Hvad.zeroValue59 Hvad.runUnderlying59 Hvad.sizeOf26 rfl rfl rfl rfl) ?_
            refine WO_call Hvad.call155 (by rfl) (Ret.mono (settle_spec C c7 v B { m with ret := (none, 0, 0) } t f tkv _ _ _ _ (MS.ext hM7' (by repeat (first | assumption | exact Ext.refl _ | refine Ext.alloc ?_ _ | refine Ext.drew ?_ | refine Ext.setB ?_ (by first | omega | (simp only [size_alloc, size_setB, size_drew]; omega)) _ | exact Ext.trans (by assumption) (by assumption) | refine Ext.trans ?_ (by assumption)))) hA7 (by omega) (by intro _; omega) Wd0 (by omega)) ?_)
            rintro _ wS hRS
            refine WO_nil ?_
            refine thn_normal ?_
            refine W_ret ?_
            refine thn_ret ?_
            first | refine bodyQ_ret0 Hvad.results108 ?_ | refine bodyQ_end0 Hvad.results108 ?_
            exact ⟨v, _, MRet.trans hS7' (MRet.pre (by repeat (first | assumption | exact Ext.refl _ | refine Ext.alloc ?_ _ | refine Ext.drew ?_ | refine Ext.setB ?_ (by first | omega | (simp only [size_alloc, size_setB, size_drew]; omega)) _ | exact Ext.trans (by assumption) (by assumption) | refine Ext.trans ?_ (by assumption))) hRS), by have h := op_stay hI hf (Adv.refl hvi) (by omega) (st := 0) (by omega) (by omega) (by omega) (by omega) (f3 := f) (by simp) (k := tkv) (W := [0, 0, 0, 0]) (by omega) (by omega) (by omega); rw [set_selfF hf] at h; exact h⟩
          · have hb18p := hb18.h; try simp only [al_ete, al_dfn, Bool.not_eq_true', Bool.not_eq_false', al_ne, Bool.not_not, al_nn] at hb18p
            have hnm : ¬ v.nonce f.self = 18446744073709551615 := by simpa using hb18p
            refine W_skip ?_
            refine thn_normal ?_
            refine W_seq ?_
            refine W_region rfl ?_
            refine WO_p (PS_move_ptr rfl) ?_
            refine WO_p (PS_move_ptr rfl) ?_
            refine WO_p (PS_move_ptr rfl) ?_
            refine WO_call Hvad.call160 (by rfl) (Ret.mono (arg_spec C c7 v B { m with ret := (none, 0, 0) } t f _ _ (MS.ext hM7' (by repeat (first | assumption | exact Ext.refl _ | refine Ext.alloc ?_ _ | refine Ext.drew ?_ | refine Ext.setB ?_ (by first | omega | (simp only [size_alloc, size_setB, size_drew]; omega)) _ | exact Ext.trans (by assumption) (by assumption) | refine Ext.trans ?_ (by assumption)))) hA7 (by omega)) ?_)
            rintro _ w160_19 ⟨hE160_19, rfl⟩
            have hz160_19 := hE160_19.1
            try simp only [size_alloc, size_setB, size_drew] at hz160_19
            rw [hAW7]
            refine WO_p (PS_move_ptr rfl) ?_
            refine WO_p (PS_move_ptr rfl) ?_
            refine WO_call Hvad.call160 (by rfl) (Ret.mono (arg_spec C c7 v B { m with ret := (none, 0, 0) } t f _ _ (MS.ext hM7' (by repeat (first | assumption | exact Ext.refl _ | refine Ext.alloc ?_ _ | refine Ext.drew ?_ | refine Ext.setB ?_ (by first | omega | (simp only [size_alloc, size_setB, size_drew]; omega)) _ | exact Ext.trans (by assumption) (by assumption) | refine Ext.trans ?_ (by assumption)))) hA7 (by omega)) ?_)
            rintro _ w160_20 ⟨hE160_20, rfl⟩
            have hz160_20 := hE160_20.1
            try simp only [size_alloc, size_setB, size_drew] at hz160_20
            rw [hAW7]
            refine WO_call Hvad.call188 (by rfl) (Ret.mono (read_spec C c7 v B { m with ret := (none, 0, 0) } t lo n _ _ _ (MS.ext hM7' (by repeat (first | assumption | exact Ext.refl _ | refine Ext.alloc ?_ _ | refine Ext.drew ?_ | refine Ext.setB ?_ (by first | omega | (simp only [size_alloc, size_setB, size_drew]; omega)) _ | exact Ext.trans (by assumption) (by assumption) | refine Ext.trans ?_ (by assumption)))) hT7 (hwdA _) (hwdA _) hft) ?_)
            rintro _ w11 ⟨hE11, s7, L7, rfl, hN7, hL7, hB7⟩
            have hz11 := hE11.1
            try simp only [size_alloc, size_setB, size_drew] at hz11
            have hb511 : Hb w11 b5 (.cells (ic .u64 (m.argW f 0)) 59 (0, 0)) := Hb.mk (Hb.h (by repeat (first | assumption | exact Hb.newY _ _ | refine Hb.alloc ?_ | refine Hb.drew ?_ | refine Hb.ext (by assumption) ?_ | exact Hb.setSameL (by first | omega | (simp only [size_alloc, size_setB, size_drew]; omega)) | exact Hb.setSame (by assumption) | refine Hb.set (by first | omega | (simp only [size_alloc, size_setB, size_drew]; omega)) ?_ )))
            have hE711 : Ext w7 w11 := (by repeat (first | assumption | exact Ext.refl _ | refine Ext.alloc ?_ _ | refine Ext.drew ?_ | refine Ext.setB ?_ (by first | omega | (simp only [size_alloc, size_setB, size_drew]; omega)) _ | exact Ext.trans (by assumption) (by assumption) | refine Ext.trans ?_ (by assumption)))
            have hcap7 := hN7.cap
            have hlen7 := hN7.len
            have hcd11 : BX w11 (bb m) s7 L7 := hN7.bx (fun b hb => Nat.lt_of_lt_of_le (bb_lt hM b hb) (by omega)) hB7
            have hsc11 := hN7.sc
            refine WO_p (PS_move_tuple rfl) ?_
            refine WO_p (PS_extract_slice rfl rfl) ?_
            refine WO_p (PS_extract_bool rfl rfl) ?_
            refine WO_p (PS_assign_slice rfl) ?_
            refine WO_p (PS_assign_bool rfl) ?_
            refine WO_nil ?_
            refine thn_normal ?_
            refine W_seq ?_
            refine W_seq ?_
            refine W_region rfl ?_
            refine WO_p (PS_move_bool rfl) ?_
            refine WO_p (PS_not rfl) ?_
            refine WO_nil ?_
            refine thn_normal ?_
            refine W_if rfl (fun hb25 => ?_) (fun hb25 => ?_)
            · have hb25p := hb25.h; try simp only [al_ete, al_dfn, Bool.not_eq_true', Bool.not_eq_false', al_ne, Bool.not_not, al_nn] at hb25p
              simp at hb25p --END
            · have hb25p := hb25.h; try simp only [al_ete, al_dfn, Bool.not_eq_true', Bool.not_eq_false', al_ne, Bool.not_not, al_nn] at hb25p
              refine W_skip ?_
              refine thn_normal ?_
              refine W_seqJ (fun ρ w' => ∃ b9 A1, Fr [(0, .pointer (some ⟨C, 0, none⟩)), (2, .pointer (some ⟨C, 1803 + t * 65, none⟩)), (3, .bool (decide (o = 245))), (4, .int .u16 tkv), (6, .int .u64 (v.nonce f.self)), (7, .slice s7.1 s7.2.1 s7.2.2), (9, .pointer (some ⟨b9, 0, none⟩))] ρ ∧ Ext w11 w' ∧ w11.heap.size ≤ b9 ∧ b9 < w'.heap.size ∧ Hb w' b9 (.cells (encF (kF 5 0 false A1 f.self (m.argW f 0) s7)).toArray 65 (0, 0)) ∧ By A1 20) ?_ ?_
              · skip
                skip
                refine W_drawF [false, false, false, false, false, false, false, false, false, false, false, true, false, true, false] [13] [0, 1, 2, 3, 4, 5, 6, 7, 8, 9, 10, 11, 12, 14] hmix (by kernel_rfl) rfl rfl rfl ?_
                refine F_q (i := 0) rfl (by kernel_rfl) ?_
                refine WH_p (PS_move_ptr rfl) rfl ?_
                refine WH_nil ?_
                refine F_q (i := 1) rfl (by kernel_rfl) ?_
                refine WH_p (PS_nilCheck rfl) rfl ?_
                refine WH_nil ?_
                refine F_q (i := 2) rfl (by kernel_rfl) ?_
                refine WH_p (PS_fieldAddr 9 Hvad.runUnderlying65 rfl Hvad.sizeOf25 rfl rfl) rfl ?_
                refine WH_nil ?_
                refine F_q (i := 3) rfl (by kernel_rfl) ?_
                refine WH_loadA _ Hvad.isAgg25 Hvad.sizeOf25 rfl (Hb.h (by repeat (first | assumption | exact Hb.newY _ _ | refine Hb.alloc ?_ | refine Hb.drew ?_ | refine Hb.ext (by assumption) ?_ | exact Hb.setSameL (by first | omega | (simp only [size_alloc, size_setB, size_drew]; omega)) | exact Hb.setSame (by assumption) | refine Hb.set (by first | omega | (simp only [size_alloc, size_setB, size_drew]; omega)) ?_ ))) (by first | omega | assumption | rfl | decide | exact Nat.le_refl _ | (simp only [size_ic, Value.cells]; omega) | simp) (Xt.h (by first | assumption | exact Xt.whole rfl rfl | exact Xt.whole rfl (by simp only [size_ic, Value.cells]; omega) | exact ⟨rfl⟩)) ?_
                refine WH_nil ?_
                refine F_q (i := 4) rfl (by kernel_rfl) ?_
                refine WH_loadA _ Hvad.isAgg59 Hvad.sizeOf59 rfl (Hb.h (by repeat (first | assumption | exact Hb.newY _ _ | refine Hb.alloc ?_ | refine Hb.drew ?_ | refine Hb.ext (by assumption) ?_ | exact Hb.setSameL (by first | omega | (simp only [size_alloc, size_setB, size_drew]; omega)) | exact Hb.setSame (by assumption) | refine Hb.set (by first | omega | (simp only [size_alloc, size_setB, size_drew]; omega)) ?_ ))) (by first | omega | assumption | rfl | decide | exact Nat.le_refl _ | (simp only [size_ic, Value.cells]; omega) | simp) (Xt.h (by first | assumption | exact Xt.whole rfl rfl | exact Xt.whole rfl (by simp only [size_ic, Value.cells]; omega) | exact ⟨rfl⟩)) ?_
                refine WH_nil ?_
                refine F_q (i := 5) rfl (by kernel_rfl) ?_
                refine WH_p (PS_move_slice rfl) rfl ?_
                refine WH_nil ?_
                refine F_q (i := 6) rfl (by kernel_rfl) ?_
                refine WH_p (PS_move_ptr rfl) rfl ?_
                refine WH_nil ?_
                refine F_q (i := 7) rfl (by kernel_rfl) ?_
                refine WH_p (PS_nilCheck rfl) rfl ?_
                refine WH_nil ?_
                refine F_q (i := 8) rfl (by kernel_rfl) ?_
                refine WH_p (PS_fieldAddr 9 Hvad.runUnderlying65 rfl Hvad.sizeOf25 rfl rfl) rfl ?_
                refine WH_nil ?_
                refine F_q (i := 9) rfl (by kernel_rfl) ?_
                refine WH_loadA _ Hvad.isAgg25 Hvad.sizeOf25 rfl (Hb.h (by repeat (first | assumption | exact Hb.newY _ _ | refine Hb.alloc ?_ | refine Hb.drew ?_ | refine Hb.ext (by assumption) ?_ | exact Hb.setSameL (by first | omega | (simp only [size_alloc, size_setB, size_drew]; omega)) | exact Hb.setSame (by assumption) | refine Hb.set (by first | omega | (simp only [size_alloc, size_setB, size_drew]; omega)) ?_ ))) (by first | omega | assumption | rfl | decide | exact Nat.le_refl _ | (simp only [size_ic, Value.cells]; omega) | simp) (Xt.h (by first | assumption | exact Xt.whole rfl rfl | exact Xt.whole rfl (by simp only [size_ic, Value.cells]; omega) | exact ⟨rfl⟩)) ?_
                refine WH_nil ?_
                refine F_q (i := 10) rfl (by kernel_rfl) ?_
                refine WH_p (PS_move_int rfl) rfl ?_
                refine WH_nil ?_
                refine F_fork1 (i := 11) rfl rfl ?_ ?_
                · refine WH_call Hvad.call30 (by rfl) (Ret.mono (createAddr_spec f.self (v.nonce f.self) _ hself hnon) ?_)
                  rintro _ w30_25 ⟨hE30_25, A1, rfl, hA1⟩
                  refine ⟨fun _ => (by repeat (first | assumption | exact Ext.refl _ | refine Ext.alloc ?_ _ | refine Ext.drew ?_ | refine Ext.setB ?_ (by first | omega | (simp only [size_alloc, size_setB, size_drew]; omega)) _ | exact Ext.trans (by assumption) (by assumption) | refine Ext.trans ?_ (by assumption))), ?_⟩
                  have hz30_25 := hE30_25.1
                  try simp only [size_alloc, size_setB, size_drew] at hz30_25
                  have hA1l := hA1.1
                  refine WH_nil ?_
                  refine F_q (i := 12) rfl (by kernel_rfl) ?_
                  refine WH_p (PS_b65_0_10_11_12_9 rfl rfl hselfl rfl hl0 rfl rfl hA1l) rfl ?_
                  obtain ⟨K0, hK0e⟩ : ∃ K0 : Fm, K0 = (kF 5 0 false A1 f.self (m.argW f 0) s7) := ⟨_, rfl⟩
                  change WH _ _ _ _ _ (upd _ _ (.agg (encF (kF 5 0 false A1 f.self (m.argW f 0) s7)).toArray)) _
                  rw [← hK0e]
                  have hK0 : FmTy K0 := by rw [hK0e]; exact kF_ty (by decide) (by decide) hA1 hself (hwdA 0)
                  have hKs0 := (openFB hK0).bd
                  have hone := @one_encF K0
                  have hks0 : (Value.agg (encF K0).toArray).cells.size = 65 := by have := encF_len hK0; simpa [Value.cells] using this
                  refine WH_nil ?_
                  refine F_fork1B (i := 14) (by kernel_rfl) rfl ?_
                  · refine WH_allocG Hvad.zeroValue65 ?_
                    intro b9 v9 hg9 hE9 hH9 hl9
                    try simp only [size_alloc, size_setB, size_drew] at hg9
                    have hzz9 := hE9.1
                    try simp only [size_alloc, size_setB, size_drew] at hzz9
                    replace hH9 : Hb v9 b9 (.cells ((encF zF).toArray) 65 (0, 0)) := hH9
                    refine ⟨fun _ => (by repeat (first | assumption | exact Ext.refl _ | refine Ext.alloc ?_ _ | refine Ext.drew ?_ | refine Ext.setB ?_ (by first | omega | (simp only [size_alloc, size_setB, size_drew]; omega)) _ | exact Ext.trans (by assumption) (by assumption) | refine Ext.trans ?_ (by assumption))), ?_⟩
                    refine WH_nil ?_
                    refine F_q (i := 14) rfl (by kernel_rfl) ?_
                    refine WH_storeW Hvad.sizeOf65 rfl (v := .agg _) rfl (Hb.h (by repeat (first | assumption | exact Hb.newY _ _ | refine Hb.alloc ?_ | refine Hb.drew ?_ | refine Hb.ext (by assumption) ?_ | exact Hb.setSameL (by first | omega | (simp only [size_alloc, size_setB, size_drew]; omega)) | exact Hb.setSame (by assumption) | refine Hb.set (by first | omega | (simp only [size_alloc, size_setB, size_drew]; omega)) ?_ ))) rfl hks0 (by decide) hone (fun h => by cases h) ?_
                    change WH _ _ _ _ _ _ (setB _ _ (.cells (encF K0).toArray 65 (0, 0)))
                    refine WH_nil ?_
                    refine F_end ?_
                    refine thn_normal ?_
                    exact ⟨b9, A1, ⟨rfl, rfl, rfl, rfl, rfl, rfl, rfl, trivial⟩, (by repeat (first | assumption | exact Ext.refl _ | refine Ext.alloc ?_ _ | refine Ext.drew ?_ | refine Ext.setB ?_ (by first | omega | (simp only [size_alloc, size_setB, size_drew]; omega)) _ | exact Ext.trans (by assumption) (by assumption) | refine Ext.trans ?_ (by assumption))), by omega, by first | omega | (simp only [size_setB]; omega), by rw [← hK0e]; exact Hb.mk (Hb.h (by repeat (first | assumption | exact Hb.newY _ _ | refine Hb.alloc ?_ | refine Hb.drew ?_ | refine Hb.ext (by assumption) ?_ | exact Hb.setSameL (by first | omega | (simp only [size_alloc, size_setB, size_drew]; omega)) | exact Hb.setSame (by assumption) | refine Hb.set (by first | omega | (simp only [size_alloc, size_setB, size_drew]; omega)) ?_ ))), hA1⟩
                · refine WH_allocG Hvad.zeroValue65 ?_
                  intro b9 v9 hg9 hE9 hH9 hl9
                  try simp only [size_alloc, size_setB, size_drew] at hg9
                  have hzz9 := hE9.1
                  try simp only [size_alloc, size_setB, size_drew] at hzz9
                  replace hH9 : Hb v9 b9 (.cells ((encF zF).toArray) 65 (0, 0)) := hH9
                  refine ⟨fun _ => (by repeat (first | assumption | exact Ext.refl _ | refine Ext.alloc ?_ _ | refine Ext.drew ?_ | refine Ext.setB ?_ (by first | omega | (simp only [size_alloc, size_setB, size_drew]; omega)) _ | exact Ext.trans (by assumption) (by assumption) | refine Ext.trans ?_ (by assumption))), ?_⟩
                  refine WH_nil ?_
                  refine F_q (i := 11) rfl (by kernel_rfl) ?_
                  refine WH_call Hvad.call30 (by rfl) (Ret.mono (createAddr_spec f.self (v.nonce f.self) _ hself hnon) ?_)
                  rintro _ w30_26 ⟨hE30_26, A1, rfl, hA1⟩
                  refine ⟨fun _ => (by repeat (first | assumption | exact Ext.refl _ | refine Ext.alloc ?_ _ | refine Ext.drew ?_ | refine Ext.setB ?_ (by first | omega | (simp only [size_alloc, size_setB, size_drew]; omega)) _ | exact Ext.trans (by assumption) (by assumption) | refine Ext.trans ?_ (by assumption))), ?_⟩
                  have hz30_26 := hE30_26.1
                  try simp only [size_alloc, size_setB, size_drew] at hz30_26
                  have hA1l := hA1.1
                  refine WH_nil ?_
                  refine F_q (i := 12) rfl (by kernel_rfl) ?_
                  refine WH_p (PS_b65_0_10_11_12_9 rfl rfl hselfl rfl hl0 rfl rfl hA1l) rfl ?_
                  obtain ⟨K0, hK0e⟩ : ∃ K0 : Fm, K0 = (kF 5 0 false A1 f.self (m.argW f 0) s7) := ⟨_, rfl⟩
                  change WH _ _ _ _ _ (upd _ _ (.agg (encF (kF 5 0 false A1 f.self (m.argW f 0) s7)).toArray)) _
                  rw [← hK0e]
                  have hK0 : FmTy K0 := by rw [hK0e]; exact kF_ty (by decide) (by decide) hA1 hself (hwdA 0)
                  have hKs0 := (openFB hK0).bd
                  have hone := @one_encF K0
                  have hks0 : (Value.agg (encF K0).toArray).cells.size = 65 := by have := encF_len hK0; simpa [Value.cells] using this
                  refine WH_nil ?_
                  refine F_q (i := 14) rfl (by kernel_rfl) ?_
                  refine WH_storeW Hvad.sizeOf65 rfl (v := .agg _) rfl (Hb.h (by repeat (first | assumption | exact Hb.newY _ _ | refine Hb.alloc ?_ | refine Hb.drew ?_ | refine Hb.ext (by assumption) ?_ | exact Hb.setSameL (by first | omega | (simp only [size_alloc, size_setB, size_drew]; omega)) | exact Hb.setSame (by assumption) | refine Hb.set (by first | omega | (simp only [size_alloc, size_setB, size_drew]; omega)) ?_ ))) rfl hks0 (by decide) hone (fun h => by cases h) ?_
                  change WH _ _ _ _ _ _ (setB _ _ (.cells (encF K0).toArray 65 (0, 0)))
                  refine WH_nil ?_
                  refine F_end ?_
                  refine thn_normal ?_
                  exact ⟨b9, A1, ⟨rfl, rfl, rfl, rfl, rfl, rfl, rfl, trivial⟩, (by repeat (first | assumption | exact Ext.refl _ | refine Ext.alloc ?_ _ | refine Ext.drew ?_ | refine Ext.setB ?_ (by first | omega | (simp only [size_alloc, size_setB, size_drew]; omega)) _ | exact Ext.trans (by assumption) (by assumption) | refine Ext.trans ?_ (by assumption))), by omega, by first | omega | (simp only [size_setB]; omega), by rw [← hK0e]; exact Hb.mk (Hb.h (by repeat (first | assumption | exact Hb.newY _ _ | refine Hb.alloc ?_ | refine Hb.drew ?_ | refine Hb.ext (by assumption) ?_ | exact Hb.setSameL (by first | omega | (simp only [size_alloc, size_setB, size_drew]; omega)) | exact Hb.setSame (by assumption) | refine Hb.set (by first | omega | (simp only [size_alloc, size_setB, size_drew]; omega)) ?_ ))), hA1⟩
              · rintro ρ w15 ⟨b9, A1, hFr15, hE15, hgb9, hlb915, hb915, hA1⟩
                refine W_env _ hFr15 ?_
                have hz15 := hE15.1
                have hA1l := hA1.1
                obtain ⟨K0, hK0e⟩ : ∃ K0 : Fm, K0 = (kF 5 0 false A1 f.self (m.argW f 0) s7) := ⟨_, rfl⟩
                rw [← hK0e] at hb915
                have hK0 : FmTy K0 := by rw [hK0e]; exact kF_ty (by decide) (by decide) hA1 hself (hwdA 0)
                have hKs0 := (openFB hK0).bd
                refine W_seqJ (fun ρ w' => ∃ kk aa, Fr [(0, .pointer (some ⟨C, 0, none⟩)), (2, .pointer (some ⟨C, 1803 + t * 65, none⟩)), (4, .int .u16 tkv), (6, .int .u64 (v.nonce f.self)), (9, .pointer (some ⟨b9, 0, none⟩))] ρ ∧ Ext w11 w' ∧ b9 < w'.heap.size ∧ Hb w' b9 (.cells (encF (kF kk 0 false aa f.self (m.argW f 0) s7)).toArray 65 (0, 0)) ∧ o = kindOpW kk ∧ (kk = 5 ∨ kk = 6) ∧ By aa 20) ?_ ?_
                · skip
                  refine W_seq ?_
                  refine W_region rfl ?_
                  refine WO_p (PS_move_bool rfl) ?_
                  refine WO_nil ?_
                  refine thn_normal ?_
                  refine W_if rfl (fun hb29 => ?_) (fun hb29 => ?_)
                  · have hb29p := hb29.h; try simp only [al_ete, al_dfn, Bool.not_eq_true', Bool.not_eq_false', al_ne, Bool.not_not, al_nn] at hb29p
                    have ho5 : o = 245 := by omega
                    refine W_seq ?_
                    refine W_region rfl ?_
                    refine WO_p (PS_fieldAddr 0 Hvad.runUnderlying65 rfl Hvad.sizeOf5 rfl rfl) ?_
                    refine WO_store1 Hvad.sizeOf5 rfl (v := .int _ _) rfl (Hb.h (by repeat (first | assumption | exact Hb.newY _ _ | refine Hb.alloc ?_ | refine Hb.drew ?_ | refine Hb.ext (by assumption) ?_ | exact Hb.setSameL (by first | omega | (simp only [size_alloc, size_setB, size_drew]; omega)) | exact Hb.setSame (by assumption) | refine Hb.set (by first | omega | (simp only [size_alloc, size_setB, size_drew]; omega)) ?_ ))) rfl (by omega) rfl ?_
                    rw [fs_kind]
                    have hK6 : FmTy (K0.sKind 6) := hK0.sKind (by decide)
                    have hK6b := (openFB hK6).bd
                    refine WO_nil ?_
                    refine thn_normal ?_
                    refine W_drawE [false, false, false, false, false, false, true, false, false, false, false] hmix (by kernel_rfl) rfl ?_
                    refine WH_p (PS_move_ptr rfl) rfl ?_
                    refine WH_p (PS_nilCheck rfl) rfl ?_
                    refine WH_p (PS_fieldAddr 9 Hvad.runUnderlying65 rfl Hvad.sizeOf25 rfl rfl) rfl ?_
                    refine WH_loadA _ Hvad.isAgg25 Hvad.sizeOf25 rfl (Hb.h (by repeat (first | assumption | exact Hb.newY _ _ | refine Hb.alloc ?_ | refine Hb.drew ?_ | refine Hb.ext (by assumption) ?_ | exact Hb.setSameL (by first | omega | (simp only [size_alloc, size_setB, size_drew]; omega)) | exact Hb.setSame (by assumption) | refine Hb.set (by first | omega | (simp only [size_alloc, size_setB, size_drew]; omega)) ?_ ))) (by first | omega | assumption | rfl | decide | exact Nat.le_refl _ | (simp only [size_ic, Value.cells]; omega) | simp) (Xt.h (by first | assumption | exact Xt.whole rfl rfl | exact Xt.whole rfl (by simp only [size_ic, Value.cells]; omega) | exact ⟨rfl⟩)) ?_
                    refine WH_p (PS_move_ptr rfl) rfl ?_
                    refine WH_p (PS_move_ptr rfl) rfl ?_
                    refine WH_call Hvad.call160 (by rfl) (Ret.mono (arg_spec C c7 v B { m with ret := (none, 0, 0) } t f _ _ (MS.ext hM7' (by repeat (first | assumption | exact Ext.refl _ | refine Ext.alloc ?_ _ | refine Ext.drew ?_ | refine Ext.setB ?_ (by first | omega | (simp only [size_alloc, size_setB, size_drew]; omega)) _ | exact Ext.trans (by assumption) (by assumption) | refine Ext.trans ?_ (by assumption)))) hA7 (by omega)) ?_)
                    rintro _ w160_29 ⟨hE160_29, rfl⟩
                    refine ⟨fun _ => (by repeat (first | assumption | exact Ext.refl _ | refine Ext.alloc ?_ _ | refine Ext.drew ?_ | refine Ext.setB ?_ (by first | omega | (simp only [size_alloc, size_setB, size_drew]; omega)) _ | exact Ext.trans (by assumption) (by assumption) | refine Ext.trans ?_ (by assumption))), ?_⟩
                    have hz160_29 := hE160_29.1
                    try simp only [size_alloc, size_setB, size_drew] at hz160_29
                    rw [hAW7]
                    refine WH_p (PS_move_slice rfl) rfl ?_
                    refine WH_call Hvad.call206 (by rfl) (Ret.mono (create2_spec f.self (m.argW f 3) s7 L7 _ hself (hwdA 3) (SC.ext hsc11 (by repeat (first | assumption | exact Ext.refl _ | refine Ext.alloc ?_ _ | refine Ext.drew ?_ | refine Ext.setB ?_ (by first | omega | (simp only [size_alloc, size_setB, size_drew]; omega)) _ | exact Ext.trans (by assumption) (by assumption) | refine Ext.trans ?_ (by assumption)))) hB7 hcap7 (by omega)) ?_)
                    rintro _ w206_30 ⟨hE206_30, A2, rfl, hA2⟩
                    refine ⟨(fun h => by cases h), ?_⟩
                    have hz206_30 := hE206_30.1
                    try simp only [size_alloc, size_setB, size_drew] at hz206_30
                    have hA2l := hA2.1
                    refine WH_p (PS_fieldAddr 9 Hvad.runUnderlying65 rfl Hvad.sizeOf25 rfl rfl) rfl ?_
                    refine WH_store Hvad.sizeOf25 rfl (v := .agg _) rfl (Hb.h (by repeat (first | assumption | exact Hb.newY _ _ | refine Hb.alloc ?_ | refine Hb.drew ?_ | refine Hb.ext (by assumption) ?_ | exact Hb.setSameL (by first | omega | (simp only [size_alloc, size_setB, size_drew]; omega)) | exact Hb.setSame (by assumption) | refine Hb.set (by first | omega | (simp only [size_alloc, size_setB, size_drew]; omega)) ?_ ))) (by simp only [size_ic, Value.cells]; omega) (by omega) oneCell_ic (fun h => by cases h) ?_
                    rw [fs_self hK6 hA2l]
                    refine WH_nil ?_
                    refine thn_normal ?_
                    exact ⟨6, A2, ⟨rfl, rfl, rfl, rfl, rfl, trivial⟩, (by repeat (first | assumption | exact Ext.refl _ | refine Ext.alloc ?_ _ | refine Ext.drew ?_ | refine Ext.setB ?_ (by first | omega | (simp only [size_alloc, size_setB, size_drew]; omega)) _ | exact Ext.trans (by assumption) (by assumption) | refine Ext.trans ?_ (by assumption))), by first | omega | (simp only [size_setB]; omega), (by have e : (K0.sKind 6).sSelf A2 = kF 6 0 false A2 f.self (m.argW f 0) s7 := (by subst hK0e; rfl); rw [← e]; exact Hb.mk (Hb.h (by repeat (first | assumption | exact Hb.newY _ _ | refine Hb.alloc ?_ | refine Hb.drew ?_ | refine Hb.ext (by assumption) ?_ | exact Hb.setSameL (by first | omega | (simp only [size_alloc, size_setB, size_drew]; omega)) | exact Hb.setSame (by assumption) | refine Hb.set (by first | omega | (simp only [size_alloc, size_setB, size_drew]; omega)) ?_ )))), by rw [ho5]; rfl, Or.inr rfl, hA2⟩
                  · have hb29p := hb29.h; try simp only [al_ete, al_dfn, Bool.not_eq_true', Bool.not_eq_false', al_ne, Bool.not_not, al_nn] at hb29p
                    have ho5 : o = 240 := by omega
                    refine W_skip ?_
                    refine thn_normal ?_
                    exact ⟨5, A1, ⟨rfl, rfl, rfl, rfl, rfl, trivial⟩, (by repeat (first | assumption | exact Ext.refl _ | refine Ext.alloc ?_ _ | refine Ext.drew ?_ | refine Ext.setB ?_ (by first | omega | (simp only [size_alloc, size_setB, size_drew]; omega)) _ | exact Ext.trans (by assumption) (by assumption) | refine Ext.trans ?_ (by assumption))), by first | omega | (simp only [size_setB]; omega), (by rw [← hK0e]; exact Hb.mk (Hb.h (by repeat (first | assumption | exact Hb.newY _ _ | refine Hb.alloc ?_ | refine Hb.drew ?_ | refine Hb.ext (by assumption) ?_ | exact Hb.setSameL (by first | omega | (simp only [size_alloc, size_setB, size_drew]; omega)) | exact Hb.setSame (by assumption) | refine Hb.set (by first | omega | (simp only [size_alloc, size_setB, size_drew]; omega)) ?_ )))), by rw [ho5]; rfl, Or.inl rfl, hA1⟩
                · rintro ρ w18 ⟨kk, aa, hFr18, hE18, hlb918, hb918, hkk, hkk5, haa⟩
                  refine W_env _ hFr18 ?_
                  have hz18 := hE18.1
                  obtain ⟨K, hKe⟩ : ∃ K, K = (kF kk 0 false aa f.self (m.argW f 0) s7) := ⟨_, rfl⟩
                  rw [← hKe] at hb918
                  have hKty : FmTy K := by rw [hKe]; exact kF_ty (by omega) (by decide) haa hself (hwdA 0)
                  have hKbd := (openFB hKty).bd
                  have haal := haa.1
                  obtain ⟨sg, hsg⟩ : ∃ sg, (f.gas - f.gas / 64) = sg := ⟨_, rfl⟩
                  have hsgb : 0 ≤ sg ∧ sg ≤ f.gas := by omega
                  have hKg : FmTy (K.sGas sg) := hKty.sGas (by omega)
                  have hKgas : Ce (encF (K.sGas sg)).toArray (0 + 7) (.int .u64 sg) := (openFB hKg).gas
                  have hKself : Xt (encF (K.sGas sg)).toArray (0 + 9) (0 + 9 + 20) (ic .u8 aa) := by have := (openFB hKg).self; rw [show (K.sGas sg).self = aa by rw [hKe]; rfl] at this; exact this
                  have hKgb := (openFB hKg).bd
                  have hKx : Xt (encF (K.sGas sg)).toArray 0 (0 + 65) (encF (K.sGas sg)).toArray := Xt.whole rfl (by have := encF_len hKg; simp only [List.size_toArray]; omega)
                  refine W_seq ?_
                  refine W_drawE [false, false, false, false, false, false, false, false, false, false, false, false] hmix (by kernel_rfl) rfl ?_
                  refine WH_p (PS_move_ptr rfl) rfl ?_
                  refine WH_p (PS_nilCheck rfl) rfl ?_
                  refine WH_p (PS_fieldAddr 7 Hvad.runUnderlying65 rfl Hvad.sizeOf26 rfl rfl) rfl ?_
                  refine WH_load (.int _ _) Hvad.isAgg26 rfl (Hb.h (by repeat (first | assumption | exact Hb.newY _ _ | refine Hb.alloc ?_ | refine Hb.drew ?_ | refine Hb.ext (by assumption) ?_ | exact Hb.setSameL (by first | omega | (simp only [size_alloc, size_setB, size_drew]; omega)) | exact Hb.setSame (by assumption) | refine Hb.set (by first | omega | (simp only [size_alloc, size_setB, size_drew]; omega)) ?_ ))) (Ce.h (by first | assumption | exact ⟨rfl⟩)) ?_
                  refine WH_p (PS_move_ptr rfl) rfl ?_
                  refine WH_p (PS_nilCheck rfl) rfl ?_
                  refine WH_p (PS_fieldAddr 7 Hvad.runUnderlying65 rfl Hvad.sizeOf26 rfl rfl) rfl ?_
                  refine WH_load (.int _ _) Hvad.isAgg26 rfl (Hb.h (by repeat (first | assumption | exact Hb.newY _ _ | refine Hb.alloc ?_ | refine Hb.drew ?_ | refine Hb.ext (by assumption) ?_ | exact Hb.setSameL (by first | omega | (simp only [size_alloc, size_setB, size_drew]; omega)) | exact Hb.setSame (by assumption) | refine Hb.set (by first | omega | (simp only [size_alloc, size_setB, size_drew]; omega)) ?_ ))) (Ce.h (by first | assumption | exact ⟨rfl⟩)) ?_
                  refine WH_p (PS_quo_u64 rfl rfl (by omega) (by omega) (by omega)) rfl ?_
                  refine WH_p (PS_sub_u64n rfl rfl (by omega) (by omega)) rfl ?_
                  refine WH_p (PS_fieldAddr 7 Hvad.runUnderlying65 rfl Hvad.sizeOf26 rfl rfl) rfl ?_
                  refine WH_store1 Hvad.sizeOf26 rfl (v := .int _ _) rfl (Hb.h (by repeat (first | assumption | exact Hb.newY _ _ | refine Hb.alloc ?_ | refine Hb.drew ?_ | refine Hb.ext (by assumption) ?_ | exact Hb.setSameL (by first | omega | (simp only [size_alloc, size_setB, size_drew]; omega)) | exact Hb.setSame (by assumption) | refine Hb.set (by first | omega | (simp only [size_alloc, size_setB, size_drew]; omega)) ?_ ))) rfl (by omega) rfl (fun h => by cases h) ?_
                  rw [fs_gas, hsg]
                  refine WH_nil ?_
                  refine thn_normal ?_
                  refine W_seq ?_
                  refine W_gen fun w19 hw19 => ?_
                  have hE19 : Ext w11 w19 := by rw [hw19]; exact (by repeat (first | assumption | exact Ext.refl _ | refine Ext.alloc ?_ _ | refine Ext.drew ?_ | refine Ext.setB ?_ (by first | omega | (simp only [size_alloc, size_setB, size_drew]; omega)) _ | exact Ext.trans (by assumption) (by assumption) | refine Ext.trans ?_ (by assumption)))
                  have hb919 : Hb w19 b9 (.cells (encF (K.sGas sg)).toArray 65 (0, 0)) := by rw [hw19]; exact Hb.mk (Hb.h (by repeat (first | assumption | exact Hb.newY _ _ | refine Hb.alloc ?_ | refine Hb.drew ?_ | refine Hb.ext (by assumption) ?_ | exact Hb.setSameL (by first | omega | (simp only [size_alloc, size_setB, size_drew]; omega)) | exact Hb.setSame (by assumption) | refine Hb.set (by first | omega | (simp only [size_alloc, size_setB, size_drew]; omega)) ?_ )))
                  clear hw19
                  have hz19 := hE19.1
                  have hlb919 := hb919.lt
                  have hM19 := (hM7'.ext hE711).ext hE19
                  have hblk19 := hM19.vs.blk
                  obtain ⟨hM20, hS20⟩ := (hM19.ext (Ext.drew (Ext.refl _))).putF_gas (t := t) (f := f) hf (f.gas - sg) (by omega)
                  have hcd19 : BX w19 (bb m) s7 L7 := hcd11.ext hE19
                  refine W_drawE [false, false, false, false, false, false, false, false, false, false] hmix (by kernel_rfl) rfl ?_
                  refine WH_p (PS_move_ptr rfl) rfl ?_
                  refine WH_p (PS_nilCheck rfl) rfl ?_
                  refine WH_p (PS_fieldAddr 7 Hvad.runUnderlying65 rfl Hvad.sizeOf26 rfl rfl) rfl ?_
                  refine WH_load (.int _ _) Hvad.isAgg26 rfl (Hb.h (by repeat (first | assumption | exact Hb.newY _ _ | refine Hb.alloc ?_ | refine Hb.drew ?_ | refine Hb.ext (by assumption) ?_ | exact Hb.setSameL (by first | omega | (simp only [size_alloc, size_setB, size_drew]; omega)) | exact Hb.setSame (by assumption) | refine Hb.set (by first | omega | (simp only [size_alloc, size_setB, size_drew]; omega)) ?_ ))) (Ce.h (by first | assumption | exact ⟨rfl⟩)) ?_
                  refine WH_p (PS_fieldAddr 7 Hvad.runUnderlying65 rfl Hvad.sizeOf26 rfl rfl) rfl ?_
                  refine WH_load (.int _ _) Hvad.isAgg26 rfl (Hb.h (by repeat (first | assumption | exact Hb.newY _ _ | refine Hb.alloc ?_ | refine Hb.drew ?_ | refine Hb.ext (by assumption) ?_ | exact Hb.setSameL (by first | omega | (simp only [size_alloc, size_setB, size_drew]; omega)) | exact Hb.setSame (by assumption) | refine Hb.set (by first | omega | (simp only [size_alloc, size_setB, size_drew]; omega)) ?_ ))) (Ce.h (by first | assumption | exact ⟨rfl⟩)) ?_
                  refine WH_p (PS_sub_u64n rfl rfl (by omega) (by omega)) rfl ?_
                  refine WH_p (PS_nilCheck rfl) rfl ?_
                  refine WH_p (PS_fieldAddr 7 Hvad.runUnderlying65 rfl Hvad.sizeOf26 rfl rfl) rfl ?_
                  refine WH_store1 Hvad.sizeOf26 rfl (v := (.int _ _)) rfl (Hb.h (by repeat (first | assumption | exact Hb.newY _ _ | refine Hb.alloc ?_ | refine Hb.drew ?_ | refine Hb.ext (by assumption) ?_ | exact Hb.setSameL (by first | omega | (simp only [size_alloc, size_setB, size_drew]; omega)) | exact Hb.setSame (by assumption) | refine Hb.set (by first | omega | (simp only [size_alloc, size_setB, size_drew]; omega)) ?_ ))) rfl (by first | omega | assumption | rfl | decide | exact Nat.le_refl _ | (simp only [size_ic, Value.cells]; omega) | simp) rfl (fun h => by cases h) ?_
                  refine WH_nil ?_
                  refine thn_normal ?_
                  refine W_seq ?_
                  refine W_seq ?_
                  refine W_gen fun w20 hw20 => ?_
                  obtain ⟨c20, hM20', hS20'⟩ : ∃ c20, MS w20 C c20 v B { m with ret := (none, 0, 0), frames := m.frames.set t { f with gas := f.gas - sg } } ∧ MStep w19 w20 C B { m with ret := (none, 0, 0) } B { m with ret := (none, 0, 0), frames := m.frames.set t { f with gas := f.gas - sg } } := ⟨_, by rw [hw20]; exact hM20, by rw [hw20]; exact (MStep.ext (Ext.drew (Ext.refl _))).trans hS20⟩
                  have hb920 : Hb w20 b9 (.cells (encF (K.sGas sg)).toArray 65 (0, 0)) := by rw [hw20]; exact Hb.mk (Hb.h (by repeat (first | assumption | exact Hb.newY _ _ | refine Hb.alloc ?_ | refine Hb.drew ?_ | refine Hb.ext (by assumption) ?_ | exact Hb.setSameL (by first | omega | (simp only [size_alloc, size_setB, size_drew]; omega)) | exact Hb.setSame (by assumption) | refine Hb.set (by first | omega | (simp only [size_alloc, size_setB, size_drew]; omega)) ?_ )))
                  clear hw20 hM20 hS20
                  have hlb920 := hb920.lt
                  have hz20 := hS20'.keep.sz
                  have hcd20 : BX w20 (bb m) s7 L7 := BX.mstep (m := { m with ret := (none, 0, 0) }) hM19 hS20' hcd19
                  have hS20w : MStep w w20 C B m B { m with ret := (none, 0, 0), frames := m.frames.set t { f with gas := f.gas - sg } } := ((hS7'.trans (MStep.ext hE711)).trans (MStep.ext hE19)).trans hS20'
                  have hz20w := hS20w.keep.sz
                  have hf20 : ({ m with ret := (none, 0, 0), frames := m.frames.set t { f with gas := f.gas - sg } } : Mc).frames[t]? = some { f with gas := f.gas - sg } := by show (m.frames.set t _)[t]? = _; rw [List.getElem?_set_self (lt_of_getElem? hf)]
                  obtain ⟨k21, a21, hset21⟩ := putNonce_go hvi (A := f.self) (n := v.nonce f.self + 1) (Or.inl hFk.en) (by have := hroom.j; omega)
                  have ha21 := hset21.a0 hFk.en
                  subst ha21
                  obtain ⟨y1, hy1⟩ : ∃ y1, v.putNonce f.self (v.nonce f.self + 1) = (true, y1) := ⟨_, Prod.ext k21 rfl⟩
                  rw [hy1] at hset21
                  replace hset21 : SetA v f.self _ 0 y1 := hset21
                  have hadv21 : Adv v y1 1 0 0 := hset21.adv rfl
                  have hb21 := hset21.bals rfl
                  have hroom1 : Room y1 := by
                    have h1 := hI.rw_.adv (s' := m.txgas - gasTo m.frames (t + 1)) (m' := m) hadv21 (by omega) (by omega) (by omega) (by omega) (by omega) (by omega) rfl rfl
                    exact h1.room (by have := hI.sb hM.ty; omega) hI.ti.a0 hI.ti.s0
                  obtain ⟨q2, y2, hy2⟩ : ∃ q2 y2, y1.warmT aa = (q2, y2) := ⟨_, _, rfl⟩
                  have hwm := warm_adv (A := aa) hadv21.vi hroom1
                  rw [hy2] at hwm
                  obtain ⟨hq2, dj, da, hadv22, hwa2, hcj, hca, hda1, hdj1, hbal2, hsum2⟩ := hwm
                  replace hq2 : q2 = true := hq2
                  subst hq2
                  replace hadv22 : Adv y1 y2 dj da 0 := hadv22
                  replace hwa2 : y2.isWarmA aa = true := hwa2
                  replace hbal2 : ∀ X, y2.bal X = y1.bal X := hbal2
                  replace hsum2 : sumW y2.sc.bals = sumW y1.sc.bals := hsum2
                  have hent2 := warm_ent hadv22.vi hwa2
                  have hadv2 : Adv v y2 (1 + dj) da 0 := by have h := hadv21.trans hadv22; simpa using h
                  refine W_drawT2 [false, false, false, false, false, false, false, false, false, false, true, false, false, false, false, false, false, false, false] (CrS C t b9 f.self (encF (K.sGas sg)).toArray) hmix (by kernel_rfl) rfl (CrS.of (f := { f with gas := f.gas - sg }) (MS.ext hM20' (by repeat (first | assumption | exact Ext.refl _ | refine Ext.alloc ?_ _ | refine Ext.drew ?_ | refine Ext.setB ?_ (by first | omega | (simp only [size_alloc, size_setB, size_drew]; omega)) _ | exact Ext.trans (by assumption) (by assumption) | refine Ext.trans ?_ (by assumption)))) hf20 (Hb.mk (Hb.h (by repeat (first | assumption | exact Hb.newY _ _ | refine Hb.alloc ?_ | refine Hb.drew ?_ | refine Hb.ext (by assumption) ?_ | exact Hb.setSameL (by first | omega | (simp only [size_alloc, size_setB, size_drew]; omega)) | exact Hb.setSame (by assumption) | refine Hb.set (by first | omega | (simp only [size_alloc, size_setB, size_drew]; omega)) ?_ ))))) ?_
                  intro hSt1
                  refine WH_p (PS_move_ptr rfl) rfl ?_
                  refine WH_p (PS_nilCheck rfl) rfl ?_
                  refine WH_p (PS_fieldAddr 0 Hvad.runUnderlying69 rfl Hvad.sizeOf53 rfl rfl) rfl ?_
                  refine WH_load0 (.pointer (some ⟨C, 2435, none⟩)) Hvad.isAgg53 rfl (fun w' hS => by obtain ⟨c', k1, k2, k3, k4⟩ := hS.ch; exact ⟨_, _, _, k1.h, k3.h⟩) ?_
                  refine WH_p (PS_move_ptr rfl) rfl ?_
                  refine WH_p (PS_nilCheck rfl) rfl ?_
                  refine WH_p (PS_fieldAddr 9 Hvad.runUnderlying65 rfl Hvad.sizeOf25 rfl rfl) rfl ?_
                  refine WH_loadA0 (ic .u8 f.self) Hvad.isAgg25 Hvad.sizeOf25 rfl (fun w' hS => by obtain ⟨c', k1, k2, k3, k4⟩ := hS.ch; exact ⟨_, _, _, k1.h, by omega, k4.h⟩) ?_
                  refine WH_p (PS_move_int rfl) rfl ?_
                  refine WH_p (PS_add_u64n rfl rfl (by omega) (by omega)) rfl ?_
                  refine WH_call Hvad.call33 (by rfl) (Ret.mono (putNonce_spec C c20 v B (bb m) f.self (v.nonce f.self + 1) _ (VS.ext hM20'.vs (by repeat (first | assumption | exact Ext.refl _ | refine Ext.alloc ?_ _ | refine Ext.drew ?_ | refine Ext.setB ?_ (by first | omega | (simp only [size_alloc, size_setB, size_drew]; omega)) _ | exact Ext.trans (by assumption) (by assumption) | refine Ext.trans ?_ (by assumption)))) hself (by omega)) ?_)
                  rintro _ w21 ⟨rfl, hR21⟩
                  rw [hy1] at hR21 ⊢
                  replace hR21 : VRet _ _ _ _ _ w21 y1 := hR21
                  obtain ⟨c21, B21, hM21, hS21⟩ := (MS.ext hM20' (by repeat (first | assumption | exact Ext.refl _ | refine Ext.alloc ?_ _ | refine Ext.drew ?_ | refine Ext.setB ?_ (by first | omega | (simp only [size_alloc, size_setB, size_drew]; omega)) _ | exact Ext.trans (by assumption) (by assumption) | refine Ext.trans ?_ (by assumption)))).vret hR21
                  have hz21 := hS21.keep.sz
                  try simp only [size_alloc, size_setB, size_drew] at hz21
                  have hb921 := MS.box (MS.ext hM20' (by repeat (first | assumption | exact Ext.refl _ | refine Ext.alloc ?_ _ | refine Ext.drew ?_ | refine Ext.setB ?_ (by first | omega | (simp only [size_alloc, size_setB, size_drew]; omega)) _ | exact Ext.trans (by assumption) (by assumption) | refine Ext.trans ?_ (by assumption)))) hS21 (b := b9) (r := (encF (K.sGas sg)).toArray) (T := 65) (fz := (0, 0)) (Hb.mk (Hb.h (by repeat (first | assumption | exact Hb.newY _ _ | refine Hb.alloc ?_ | refine Hb.drew ?_ | refine Hb.ext (by assumption) ?_ | exact Hb.setSameL (by first | omega | (simp only [size_alloc, size_setB, size_drew]; omega)) | exact Hb.setSame (by assumption) | refine Hb.set (by first | omega | (simp only [size_alloc, size_setB, size_drew]; omega)) ?_ )))) (by decide) (by decide)
                  refine ⟨fun _ => CrS.of (f := { f with gas := f.gas - sg }) hM21 hf20 hb921, ?_⟩
                  refine WH_p (PS_not rfl) rfl ?_
                  refine WH_p (PS_move_bool rfl) rfl ?_
                  refine WH_if (t := 132) rfl (fun hb35 => ?_) (fun hb35 => ?_)
                  · have hb35p := hb35.h; try simp only [al_ete, al_dfn, Bool.not_eq_true', Bool.not_eq_false', al_ne, Bool.not_not, al_nn] at hb35p
                    simp at hb35p --END
                  · have hb35p := hb35.h; try simp only [al_ete, al_dfn, Bool.not_eq_true', Bool.not_eq_false', al_ne, Bool.not_not, al_nn] at hb35p
                    refine WH_guardT rfl rfl hb35.h ?_
                    refine WH_p (PS_move_ptr rfl) rfl ?_
                    refine WH_guardT rfl rfl hb35.h ?_
                    refine WH_p (PS_fieldAddr 9 Hvad.runUnderlying65 rfl Hvad.sizeOf25 rfl rfl) rfl ?_
                    refine WH_guardT rfl rfl hb35.h ?_
                    refine WH_loadA0 (ic .u8 aa) Hvad.isAgg25 Hvad.sizeOf25 rfl (fun w' hS => ⟨_, _, _, hS.h9.h, by omega, hKself.h⟩) ?_
                    refine WH_guardT rfl rfl hb35.h ?_
                    refine WH_call Hvad.call190 (by rfl) (Ret.mono (warmAcct_spec C c21 y1 B21 { m with ret := (none, 0, 0), frames := m.frames.set t { f with gas := f.gas - sg } } aa _ (MS.ext hM21 (by repeat (first | assumption | exact Ext.refl _ | refine Ext.alloc ?_ _ | refine Ext.drew ?_ | refine Ext.setB ?_ (by first | omega | (simp only [size_alloc, size_setB, size_drew]; omega)) _ | exact Ext.trans (by assumption) (by assumption) | refine Ext.trans ?_ (by assumption)))) haa) ?_)
                    rintro _ w22 ⟨rfl, hR22⟩
                    rw [hy2] at hR22 ⊢
                    replace hR22 : MRet _ C B21 { m with ret := (none, 0, 0), frames := m.frames.set t { f with gas := f.gas - sg } } w22 y2 { m with ret := (none, 0, 0), frames := m.frames.set t { f with gas := f.gas - sg } } := hR22
                    obtain ⟨c22, B22, hM22, hS22⟩ := hR22
                    have hz22 := hS22.keep.sz
                    try simp only [size_alloc, size_setB, size_drew] at hz22
                    have hb922 := MS.box (MS.ext hM21 (by repeat (first | assumption | exact Ext.refl _ | refine Ext.alloc ?_ _ | refine Ext.drew ?_ | refine Ext.setB ?_ (by first | omega | (simp only [size_alloc, size_setB, size_drew]; omega)) _ | exact Ext.trans (by assumption) (by assumption) | refine Ext.trans ?_ (by assumption)))) hS22 (b := b9) (r := (encF (K.sGas sg)).toArray) (T := 65) (fz := (0, 0)) (Hb.mk (Hb.h (by repeat (first | assumption | exact Hb.newY _ _ | refine Hb.alloc ?_ | refine Hb.drew ?_ | refine Hb.ext (by assumption) ?_ | exact Hb.setSameL (by first | omega | (simp only [size_alloc, size_setB, size_drew]; omega)) | exact Hb.setSame (by assumption) | refine Hb.set (by first | omega | (simp only [size_alloc, size_setB, size_drew]; omega)) ?_ )))) (by decide) (by decide)
                    refine ⟨fun _ => CrS.of (f := { f with gas := f.gas - sg }) hM22 hf20 hb922, ?_⟩
                    have hS22' : MStep w20 w22 C B { m with ret := (none, 0, 0), frames := m.frames.set t { f with gas := f.gas - sg } } B22 { m with ret := (none, 0, 0), frames := m.frames.set t { f with gas := f.gas - sg } } := ((MStep.ext (by repeat (first | assumption | exact Ext.refl _ | refine Ext.alloc ?_ _ | refine Ext.drew ?_ | refine Ext.setB ?_ (by first | omega | (simp only [size_alloc, size_setB, size_drew]; omega)) _ | exact Ext.trans (by assumption) (by assumption) | refine Ext.trans ?_ (by assumption)))).trans hS21).trans ((MStep.ext (by repeat (first | assumption | exact Ext.refl _ | refine Ext.alloc ?_ _ | refine Ext.drew ?_ | refine Ext.setB ?_ (by first | omega | (simp only [size_alloc, size_setB, size_drew]; omega)) _ | exact Ext.trans (by assumption) (by assumption) | refine Ext.trans ?_ (by assumption)))).trans hS22)
                    have hS22w := hS20w.trans hS22'
                    have hcd22 : BX w22 (bb m) s7 L7 := BX.mstep (m := { m with ret := (none, 0, 0), frames := m.frames.set t { f with gas := f.gas - sg } }) hM20' hS22' hcd20
                    have hz22w := hS22w.keep.sz
                    have hlb922 := hb922.lt
                    have hblk22 := hM22.vs.blk
                    have hcs22 := hM22.sz
                    have hA22 : FrA { m with ret := (none, 0, 0), frames := m.frames.set t { f with gas := f.gas - sg } } t { f with gas := f.gas - sg } := ⟨hA.t6, hf20, hA.sb, hA.sp⟩
                    refine WH_guardT rfl rfl hb35.h ?_
                    refine WH_p (PS_not rfl) rfl ?_
                    refine WH_p (PS_pickF rfl hb35.h rfl) rfl ?_
                    refine WH_nil ?_
                    refine thn_normal ?_
                    refine W_if rfl (fun hb39 => ?_) (fun hb39 => ?_)
                    · have hb39p := hb39.h; try simp only [al_ete, al_dfn, Bool.not_eq_true', Bool.not_eq_false', al_ne, Bool.not_not, al_nn] at hb39p
                      simp at hb39p --END
                    · have hb39p := hb39.h; try simp only [al_ete, al_dfn, Bool.not_eq_true', Bool.not_eq_false', al_ne, Bool.not_not, al_nn] at hb39p
                      refine W_skip ?_
                      refine thn_normal ?_
                      refine W_seq ?_
                      refine W_seq ?_
                      refine W_region rfl ?_
                      refine WO_p (PS_move_ptr rfl) ?_
                      refine WO_p (PS_fieldAddr 9 Hvad.runUnderlying65 rfl Hvad.sizeOf25 rfl rfl) ?_
                      refine WO_loadA _ Hvad.isAgg25 Hvad.sizeOf25 rfl (Hb.h (by repeat (first | assumption | exact Hb.newY _ _ | refine Hb.alloc ?_ | refine Hb.drew ?_ | refine Hb.ext (by assumption) ?_ | exact Hb.setSameL (by first | omega | (simp only [size_alloc, size_setB, size_drew]; omega)) | exact Hb.setSame (by assumption) | refine Hb.set (by first | omega | (simp only [size_alloc, size_setB, size_drew]; omega)) ?_ ))) (by first | omega | assumption | rfl | decide | exact Nat.le_refl _ | (simp only [size_ic, Value.cells]; omega) | simp) (Xt.h (by first | assumption | exact Xt.whole rfl rfl | exact Xt.whole rfl (by simp only [size_ic, Value.cells]; omega) | exact ⟨rfl⟩)) ?_
                      refine WO_call Hvad.call44 (by rfl) (Ret.mono (taken_spec C c22 y2 B22 { m with ret := (none, 0, 0), frames := m.frames.set t { f with gas := f.gas - sg } } aa _ (MS.ext hM22 (by repeat (first | assumption | exact Ext.refl _ | refine Ext.alloc ?_ _ | refine Ext.drew ?_ | refine Ext.setB ?_ (by first | omega | (simp only [size_alloc, size_setB, size_drew]; omega)) _ | exact Ext.trans (by assumption) (by assumption) | refine Ext.trans ?_ (by assumption)))) hadv2.vi haa) ?_)
                      rintro _ w44_39 ⟨hE44_39, qt, rfl⟩
                      have hz44_39 := hE44_39.1
                      try simp only [size_alloc, size_setB, size_drew] at hz44_39
                      refine WO_nil ?_
                      refine thn_normal ?_
                      refine W_if rfl (fun hb41 => ?_) (fun hb41 => ?_)
                      · have hb41p := hb41.h; try simp only [al_ete, al_dfn, Bool.not_eq_true', Bool.not_eq_false', al_ne, Bool.not_not, al_nn] at hb41p
                        refine W_seq ?_
                        refine W_region rfl ?_
                        refine WO_p (PS_move_ptr rfl) ?_
                        refine WO_p (PS_move_ptr rfl) ?_
                        refine WO_p (PS_move_int rfl) ?_
                        refine WO_p (PS_buildI (k := .u64) (zs := [0, 0, 0, 0]) (ps := []) (L := [0, 0, 0, 0]) Hvad.zeroValue59 Hvad.runUnderlying59 Hvad.sizeOf26 rfl rfl rfl rfl) ?_
                        refine WO_call Hvad.call155 (by rfl) (Ret.mono (settle_spec C c22 y2 B22 { m with ret := (none, 0, 0), frames := m.frames.set t { f with gas := f.gas - sg } } t { f with gas := f.gas - sg } tkv _ _ _ _ (MS.ext hM22 (by repeat (first | assumption | exact Ext.refl _ | refine Ext.alloc ?_ _ | refine Ext.drew ?_ | refine Ext.setB ?_ (by first | omega | (simp only [size_alloc, size_setB, size_drew]; omega)) _ | exact Ext.trans (by assumption) (by assumption) | refine Ext.trans ?_ (by assumption)))) hA22 (by show 0 ≤ _ ∧ _ ≤ f.sp; omega) (by intro _; show f.sp - _ < 64; omega) Wd0 (by show (0:Int) ≤ 1 ∧ f.pc + 1 ≤ 65535; omega)) ?_)
                        rintro _ wS hRS
                        refine WO_nil ?_
                        refine thn_normal ?_
                        refine W_ret ?_
                        refine thn_ret ?_
                        first | refine bodyQ_ret0 Hvad.results108 ?_ | refine bodyQ_end0 Hvad.results108 ?_
                        exact ⟨y2, _, MRet.trans hS22w (MRet.pre (by repeat (first | assumption | exact Ext.refl _ | refine Ext.alloc ?_ _ | refine Ext.drew ?_ | refine Ext.setB ?_ (by first | omega | (simp only [size_alloc, size_setB, size_drew]; omega)) _ | exact Ext.trans (by assumption) (by assumption) | refine Ext.trans ?_ (by assumption))) hRS), op_stay hI hf hadv2 hda1 (st := -sg) (by omega) (by omega) (by omega) (by omega) (by rw [show f.gas + -sg = f.gas - sg by omega]) (by omega) (by omega) (by omega)⟩
                      · have hb41p := hb41.h; try simp only [al_ete, al_dfn, Bool.not_eq_true', Bool.not_eq_false', al_ne, Bool.not_not, al_nn] at hb41p
                        refine W_skip ?_
                        refine thn_normal ?_
                        refine W_seq ?_
                        refine W_gen fun w24 hw24 => ?_
                        have hE24 : Ext w22 w24 := by rw [hw24]; exact (by repeat (first | assumption | exact Ext.refl _ | refine Ext.alloc ?_ _ | refine Ext.drew ?_ | refine Ext.setB ?_ (by first | omega | (simp only [size_alloc, size_setB, size_drew]; omega)) _ | exact Ext.trans (by assumption) (by assumption) | refine Ext.trans ?_ (by assumption)))
                        clear hw24
                        have hz24 := hE24.1
                        have hM24 := hM22.ext hE24
                        have hblk24 := hM24.vs.blk
                        have hcs24 := hM24.sz
                        have hcd24 := hcd22.ext hE24
                        have hb924 : Hb w24 b9 (.cells (encF (K.sGas sg)).toArray 65 (0, 0)) := Hb.ext hE24 hb922
                        obtain ⟨hM25, hS25⟩ := hM24.putF_outOff (t := t) (f := { f with gas := f.gas - sg }) hf20 0 (by omega)
                        replace hM25 := hM25.castY (m' := { m with ret := (none, 0, 0), frames := m.frames.set t { f with gas := f.gas - sg, outOff := 0 } }) (by simp [List.set_set])
                        replace hS25 := hS25.castY (m'' := { m with ret := (none, 0, 0), frames := m.frames.set t { f with gas := f.gas - sg, outOff := 0 } }) (by simp [List.set_set])
                        have hblk25 := hM25.vs.blk
                        have hcs25 := hM25.sz
                        obtain ⟨hM26, hS26⟩ := hM25.putF_outLen (t := t) (f := { f with gas := f.gas - sg, outOff := 0 }) (by show (m.frames.set t _)[t]? = _; rw [List.getElem?_set_self (lt_of_getElem? hf)] : ({ m with ret := (none, 0, 0), frames := m.frames.set t { f with gas := f.gas - sg, outOff := 0 } } : Mc).frames[t]? = some { f with gas := f.gas - sg, outOff := 0 }) 0 (by omega)
                        replace hM26 := hM26.castY (m' := { m with ret := (none, 0, 0), frames := m.frames.set t { f with gas := f.gas - sg, outOff := 0, outLen := 0 } }) (by simp [List.set_set])
                        replace hS26 := hS26.castY (m'' := { m with ret := (none, 0, 0), frames := m.frames.set t { f with gas := f.gas - sg, outOff := 0, outLen := 0 } }) (by simp [List.set_set])
                        refine W_region rfl ?_
                        refine WO_p (PS_move_ptr rfl) ?_
                        refine WO_p (PS_nilCheck rfl) ?_
                        refine WO_p (PS_fieldAddr 63 Hvad.runUnderlying65 rfl Hvad.sizeOf54 rfl rfl) ?_
                        refine WO_store1 Hvad.sizeOf54 rfl (v := (.int _ _)) rfl (Hb.h (by repeat (first | assumption | exact Hb.newY _ _ | refine Hb.alloc ?_ | refine Hb.drew ?_ | refine Hb.ext (by assumption) ?_ | exact Hb.setSameL (by first | omega | (simp only [size_alloc, size_setB, size_drew]; omega)) | exact Hb.setSame (by assumption) | refine Hb.set (by first | omega | (simp only [size_alloc, size_setB, size_drew]; omega)) ?_ ))) rfl (by first | omega | assumption | rfl | decide | exact Nat.le_refl _ | (simp only [size_ic, Value.cells]; omega) | simp) rfl ?_
                        refine WO_nil ?_
                        refine thn_normal ?_
                        refine W_seq ?_
                        refine W_region rfl ?_
                        refine WO_p (PS_move_ptr rfl) ?_
                        refine WO_p (PS_nilCheck rfl) ?_
                        refine WO_p (PS_fieldAddr 64 Hvad.runUnderlying65 rfl Hvad.sizeOf54 rfl rfl) ?_
                        refine WO_store1 Hvad.sizeOf54 rfl (v := (.int _ _)) rfl (Hb.h (by repeat (first | assumption | exact Hb.newY _ _ | refine Hb.alloc ?_ | refine Hb.drew ?_ | refine Hb.ext (by assumption) ?_ | exact Hb.setSameL (by first | omega | (simp only [size_alloc, size_setB, size_drew]; omega)) | exact Hb.setSame (by assumption) | refine Hb.set (by first | omega | (simp only [size_alloc, size_setB, size_drew]; omega)) ?_ ))) rfl (by first | omega | assumption | rfl | decide | exact Nat.le_refl _ | (simp only [size_ic, Value.cells]; omega) | simp) rfl ?_
                        refine WO_nil ?_
                        refine thn_normal ?_
                        refine W_seq ?_
                        refine W_gen fun w26 hw26 => ?_
                        obtain ⟨c26, hM26', hS26'⟩ : ∃ c26, MS w26 C c26 y2 B22 { m with ret := (none, 0, 0), frames := m.frames.set t { f with gas := f.gas - sg, outOff := 0, outLen := 0 } } ∧ MStep w24 w26 C B22 { m with ret := (none, 0, 0), frames := m.frames.set t { f with gas := f.gas - sg } } B22 { m with ret := (none, 0, 0), frames := m.frames.set t { f with gas := f.gas - sg, outOff := 0, outLen := 0 } } := ⟨_, by rw [hw26]; exact hM26, by rw [hw26]; exact hS25.trans hS26⟩
                        have hb926 : Hb w26 b9 (.cells (encF (K.sGas sg)).toArray 65 (0, 0)) := by rw [hw26]; exact Hb.mk (Hb.h (by repeat (first | assumption | exact Hb.newY _ _ | refine Hb.alloc ?_ | refine Hb.drew ?_ | refine Hb.ext (by assumption) ?_ | exact Hb.setSameL (by first | omega | (simp only [size_alloc, size_setB, size_drew]; omega)) | exact Hb.setSame (by assumption) | refine Hb.set (by first | omega | (simp only [size_alloc, size_setB, size_drew]; omega)) ?_ )))
                        clear hw26 hM26 hS26 hM25 hS25
                        have hz26 := hS26'.keep.sz
                        have hcd26 : BX w26 (bb m) s7 L7 := BX.mstep (m := { m with ret := (none, 0, 0), frames := m.frames.set t { f with gas := f.gas - sg } }) hM24 hS26' hcd24
                        have hA26 : FrA { m with ret := (none, 0, 0), frames := m.frames.set t { f with gas := f.gas - sg, outOff := 0, outLen := 0 } } t { f with gas := f.gas - sg, outOff := 0, outLen := 0 } := ⟨hA.t6, (by show (m.frames.set t _)[t]? = _; rw [List.getElem?_set_self (lt_of_getElem? hf)] : ({ m with ret := (none, 0, 0), frames := m.frames.set t { f with gas := f.gas - sg, outOff := 0, outLen := 0 } } : Mc).frames[t]? = some { f with gas := f.gas - sg, outOff := 0, outLen := 0 }), hA.sb, hA.sp⟩
                        have hblk26 := hM26'.vs.blk
                        refine W_region rfl ?_
                        refine WO_p (PS_move_ptr rfl) ?_
                        refine WO_p (PS_move_ptr rfl) ?_
                        refine WO_p (PS_move_int rfl) ?_
                        refine WO_p (PS_buildI (k := .u64) (zs := [0, 0, 0, 0]) (ps := []) (L := [0, 0, 0, 0]) Hvad.zeroValue59 Hvad.runUnderlying59 Hvad.sizeOf26 rfl rfl rfl rfl) ?_
                        refine WO_call Hvad.call155 (by rfl) (Ret.mono (settle_spec C c26 y2 B22 { m with ret := (none, 0, 0), frames := m.frames.set t { f with gas := f.gas - sg, outOff := 0, outLen := 0 } } t { f with gas := f.gas - sg, outOff := 0, outLen := 0 } tkv 0 false [0, 0, 0, 0] _ (MS.ext hM26' (by repeat (first | assumption | exact Ext.refl _ | refine Ext.alloc ?_ _ | refine Ext.drew ?_ | refine Ext.setB ?_ (by first | omega | (simp only [size_alloc, size_setB, size_drew]; omega)) _ | exact Ext.trans (by assumption) (by assumption) | refine Ext.trans ?_ (by assumption)))) hA26 (by show 0 ≤ _ ∧ _ ≤ f.sp; omega) (by intro h; cases h) Wd0 (by show (0:Int) ≤ 0 ∧ f.pc + 0 ≤ 65535; omega)) ?_)
                        rintro _ w27 hR27
                        obtain ⟨c27, B27, hM27, hS27⟩ := hR27
                        replace hM27 : MS w27 C c27 y2 B27 (({ m with ret := (none, 0, 0), frames := m.frames.set t { f with gas := f.gas - sg, outOff := 0, outLen := 0 } } : Mc).settle t { f with gas := f.gas - sg, outOff := 0, outLen := 0 } tkv false [0, 0, 0, 0] 0) := hM27
                        have hz27 := hS27.keep.sz
                        try simp only [size_alloc, size_setB, size_drew] at hz27
                        have hb927 := MS.box (MS.ext hM26' (by repeat (first | assumption | exact Ext.refl _ | refine Ext.alloc ?_ _ | refine Ext.drew ?_ | refine Ext.setB ?_ (by first | omega | (simp only [size_alloc, size_setB, size_drew]; omega)) _ | exact Ext.trans (by assumption) (by assumption) | refine Ext.trans ?_ (by assumption)))) hS27 (b := b9) (r := (encF (K.sGas sg)).toArray) (T := 65) (fz := (0, 0)) (Hb.mk (Hb.h (by repeat (first | assumption | exact Hb.newY _ _ | refine Hb.alloc ?_ | refine Hb.drew ?_ | refine Hb.ext (by assumption) ?_ | exact Hb.setSameL (by first | omega | (simp only [size_alloc, size_setB, size_drew]; omega)) | exact Hb.setSame (by assumption) | refine Hb.set (by first | omega | (simp only [size_alloc, size_setB, size_drew]; omega)) ?_ )))) (by decide) (by decide)
                        have hS26_27 : MStep w26 w27 C B22 { m with ret := (none, 0, 0), frames := m.frames.set t { f with gas := f.gas - sg, outOff := 0, outLen := 0 } } B27 (({ m with ret := (none, 0, 0), frames := m.frames.set t { f with gas := f.gas - sg, outOff := 0, outLen := 0 } } : Mc).settle t { f with gas := f.gas - sg, outOff := 0, outLen := 0 } tkv false [0, 0, 0, 0] 0) := (MStep.ext (by repeat (first | assumption | exact Ext.refl _ | refine Ext.alloc ?_ _ | refine Ext.drew ?_ | refine Ext.setB ?_ (by first | omega | (simp only [size_alloc, size_setB, size_drew]; omega)) _ | exact Ext.trans (by assumption) (by assumption) | refine Ext.trans ?_ (by assumption)))).trans hS27
                        have hcd27 : BX w27 (bb m) s7 L7 := BX.mstep (m := { m with ret := (none, 0, 0), frames := m.frames.set t { f with gas := f.gas - sg, outOff := 0, outLen := 0 } }) hM26' hS26_27 hcd26
                        refine WO_nil ?_
                        refine thn_normal ?_
                        have hGty : FmTy ((K.sGas sg).sCb L7) := hKg.sCb
                        have htop5 : t ≤ 5 := by omega
                        have hwn1 := hI.rw_.wn.sum
                        have hhS := hI.ti.hS
                        have hhd := wv_bd hM.ty.held
                        have hsbd := hI.sb hM.ty
                        have hjj := hI.rw_.j
                        have hadvj := hadv2.j
                        have hadvn := hadv2.nm
                        have hnn := hM.vs.ty.nmarks
                        have hrn := hroom.n
                        have hsnf := hI.sn t f (Nat.le_refl _) hf
                        have hbalE : ∀ X, y2.bal X = v.bal X := fun X => by rw [hbal2, hb21.1]
                        have hEn : EnP y2 (({ m with ret := (none, 0, 0), frames := m.frames.set t { f with gas := f.gas - sg, outOff := 0, outLen := 0 } } : Mc).settle t { f with gas := f.gas - sg, outOff := 0, outLen := 0 } tkv false [0, 0, 0, 0] 0) (t + 1) ((K.sGas sg).sCb L7) := by
                          refine ⟨?_, by omega, ?_, hGty, by show L7.length ≤ 512; omega, hadv2.vi, ⟨by omega, by omega⟩, by omega, ?_, fun h3 h7 => ?_, fun h3 h7 => ?_, by rw [hsum2, hb21.2]; omega⟩
                          · show m.top = ((t + 1 : Nat) : Int) - 1; rw [hI.top]; omega
                          · show m.mtop = ((t + 1 : Nat) : Int); rw [hI.mtY]; omega
                          · show y2.entered K.self; rw [hKe]; exact hent2
                          · show y2.entered K.caller; rw [hKe]; exact hadv2.en _ hFk.en
                          · show wv K.value ≤ wv (y2.bal K.caller); rw [hKe]; show wv (m.argW f 0) ≤ wv (y2.bal f.self); rw [hbalE]; omega
                        have hmk : makes K.kind = true := by rw [hKe]; show makes kk = true; rcases hkk5 with h | h <;> (rw [h]; rfl)
                        have hKkd : K.kind = kk := by rw [hKe]; rfl
                        have hKcodeS : ((K.sGas sg).sCb L7).code = s7 := by show K.code = s7; rw [hKe]; rfl
                        have hKinpS : ((K.sGas sg).sCb L7).inputY = (none, 0, 0) := by show K.inputY = _; rw [hKe]; rfl
                        have hblk27 := hM27.vs.blk
                        have hopk : f.cb.getD f.pc.toNat 0 = kindOpW K.kind := by have h := hop; unfold Mc.opc at h; rw [if_neg (by omega)] at h; rw [h, hKkd]; exact hkk
                        refine W_region rfl ?_
                        refine WO_p (PS_move_ptr rfl) ?_
                        refine WO_loadA _ Hvad.isAgg65 Hvad.sizeOf65 rfl (Hb.h (by repeat (first | assumption | exact Hb.newY _ _ | refine Hb.alloc ?_ | refine Hb.drew ?_ | refine Hb.ext (by assumption) ?_ | exact Hb.setSameL (by first | omega | (simp only [size_alloc, size_setB, size_drew]; omega)) | exact Hb.setSame (by assumption) | refine Hb.set (by first | omega | (simp only [size_alloc, size_setB, size_drew]; omega)) ?_ ))) (by first | omega | assumption | rfl | decide | exact Nat.le_refl _ | (simp only [size_ic, Value.cells]; omega) | simp) (Xt.h (by first | assumption | exact Xt.whole rfl rfl | exact Xt.whole rfl (by simp only [size_ic, Value.cells]; omega) | exact ⟨rfl⟩)) ?_
                        refine WO_call Hvad.call43 (by rfl) (Ret.mono (enter_spec C c27 y2 B27 (({ m with ret := (none, 0, 0), frames := m.frames.set t { f with gas := f.gas - sg, outOff := 0, outLen := 0 } } : Mc).settle t { f with gas := f.gas - sg, outOff := 0, outLen := 0 } tkv false [0, 0, 0, 0] 0) (t + 1) ((K.sGas sg).sCb L7) _ (MS.ext hM27 (by repeat (first | assumption | exact Ext.refl _ | refine Ext.alloc ?_ _ | refine Ext.drew ?_ | refine Ext.setB ?_ (by first | omega | (simp only [size_alloc, size_setB, size_drew]; omega)) _ | exact Ext.trans (by assumption) (by assumption) | refine Ext.trans ?_ (by assumption)))) hEn (by rw [hKcodeS]; exact BX.ext hcd27 (by repeat (first | assumption | exact Ext.refl _ | refine Ext.alloc ?_ _ | refine Ext.drew ?_ | refine Ext.setB ?_ (by first | omega | (simp only [size_alloc, size_setB, size_drew]; omega)) _ | exact Ext.trans (by assumption) (by assumption) | refine Ext.trans ?_ (by assumption)))) (by rw [hKinpS]; exact Or.inl ⟨rfl, rfl⟩)) ?_)
                        rintro _ wE ⟨x, y, hbx, hRE, hadvE⟩
                        rw [show makes ((K.sGas sg).sCb L7).kind = true from hmk] at hadvE
                        replace hadvE : Adv y2 y 4 0 1 := hadvE
                        have hadvT : Adv v y (1 + dj + 4) da 1 := by have h := hadv2.trans hadvE; simpa using h
                        have hFg : FOK scanW y (t + 1) (((K.sGas sg).sCb L7).at_ (t + 1) y2.nmarks) := ⟨rfl, by show ((t + 1 : Nat) : Int) * 64 = 64 * ((t + 1 : Nat) : Int); omega, by show K.sp ≤ 64; rw [hKe]; show (0 : Int) ≤ 64; decide, by show L7.length ≤ 512; omega, by show K.pc ≤ _; rw [hKe]; show (0 : Int) ≤ _; omega, rfl, by show ((K.sGas sg).sCb L7).inputY.2.1 ≤ _ ∧ ((K.sGas sg).sCb L7).inputY.2.1 ≤ ((K.sGas sg).sCb L7).inputY.2.2; rw [hKinpS]; exact ⟨by show 0 ≤ 717280; decide, Nat.le_refl _⟩, by show ((K.sGas sg).sCb L7).code.2.1 ≤ ((K.sGas sg).sCb L7).code.2.2; rw [hKcodeS]; exact hcap7, fun hn => absurd (show K.ntv = 0 by rw [hKe]; rfl) hn, ⟨by show K.kind ≤ 7; omega, by show K.kind ≤ 1 ↔ t + 1 = 0; omega⟩, hadvE.en _ hEn.es⟩
                        refine WO_nil ?_
                        first | refine bodyQ_ret0 Hvad.results108 ?_ | refine bodyQ_end0 Hvad.results108 ?_
                        exact ⟨y, _, MRet.trans hS22w (MRet.trans (MStep.ext hE24) (MRet.trans hS26' (MRet.trans hS26_27 (MRet.pre (by repeat (first | assumption | exact Ext.refl _ | refine Ext.alloc ?_ _ | refine Ext.drew ?_ | refine Ext.setB ?_ (by first | omega | (simp only [size_alloc, size_setB, size_drew]; omega)) _ | exact Ext.trans (by assumption) (by assumption) | refine Ext.trans ?_ (by assumption))) hRE)))), call_in hI hM.ty htop5 hf hbx hadvT hda1 (st := 0) (sg := sg) (Int.le_refl _) hsgb (by omega) (by omega) (by omega) (by omega) rfl (by omega) (by show sg = sg + 0; omega) hFg (by show y2.nmarks = v.nmarks; omega) hpcl (by show 2 ≤ K.kind; omega) hopk (by omega) (Or.inl rfl)⟩

end Go.Proofs.YgvadwGreat
