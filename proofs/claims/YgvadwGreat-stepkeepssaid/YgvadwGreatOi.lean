import Derived.Test.YgvadwGreatOh
namespace Go.Proofs.YgvadwGreat
set_option linter.unusedSimpArgs false
set_option linter.unusedVariables false
theorem warm_ent {v : V} (h : VInv v) {A : List Int} (hw : v.isWarmA A = true) : v.entered A := by
  unfold V.isWarmA at hw
  cases hg : v.get A with
  | none => rw [hg] at hw; cases hw
  | some x => obtain ⟨i, hi, hx⟩ := (get_iff h).1 hg; exact ⟨x, List.mem_of_getElem? hi, hx⟩
theorem RI.vault {scan : List Int → List Int} {v v' : V} {m : Mc} {t : Nat} {c S : Int} (h : RI scan v m t c S) {f : Fm} (hf : m.frames[t]? = some f) (hr : RW v' m S (m.txgas - gasTo m.frames (t + 1))) (hv : VInv v') (he : ∀ A, v.entered A → v'.entered A) (hn : v.nmarks ≤ v'.nmarks) : RI scan v' m t 0 S := by
  have hF := h.fr t f (Nat.le_refl _) hf
  have := h.set (v' := v') (f' := f) (stk := m.stack) (ret' := m.ret) hf hr hv he hn h.ti.rt rfl rfl rfl (hF.ent he)
  have e : m.frames.set t f = m.frames := by
    apply List.ext_getElem?
    intro i
    by_cases hi : i = t
    · subst hi; rw [List.getElem?_set_self (lt_of_getElem? hf), hf]
    · rw [List.getElem?_set_ne (fun e => hi e.symm)]
  have e2 : ({ m with stack := m.stack, ret := m.ret, frames := m.frames.set t f } : Mc) = m := by rw [e]
  rw [e2] at this
  exact this.1
/-- the vault has gone on -/
structure GP (v y : V) (m : Mc) (S s : Int) : Prop where
  rw_ : RW y m S s
  vi : VInv y
  en : ∀ X, v.entered X → y.entered X
  nm : y.nmarks = v.nmarks
theorem GP.calm {v y y' : V} {m : Mc} {S s s' : Int} {dj : Nat} (h : GP v y m S s) (hc : Calm y y' dj) (hs : s + 25 * dj ≤ s') : GP v y' m S s' :=
  ⟨h.rw_.calm hc hs rfl rfl, hc.go.inv, fun X hX => hc.go.ent _ (h.en X hX), hc.go.nm.trans h.nm⟩
theorem GP.mono {v y : V} {m : Mc} {S s s' : Int} (h : GP v y m S s) (hs : s ≤ s') : GP v y m S s' := ⟨h.rw_.mono hs, h.vi, h.en, h.nm⟩
theorem GP.setA {v y y' : V} {m : Mc} {S s s' : Int} {A : List Int} {g : Acct → Acct} {a : Nat} (h : GP v y m S s) (hc : SetA y A g a y') (hb : (g (y.acY A)).bal = (y.acY A).bal) (h1 : s + 25 ≤ s') (h2 : s + 2600 * a ≤ s') : GP v y' m S s' :=
  ⟨h.rw_.setA hc hb h1 h2, hc.go.inv, fun X hX => hc.go.ent _ (h.en X hX), hc.go.nm.trans h.nm⟩

set_option maxRecDepth 10000 in
set_option maxHeartbeats 4000000 in
theorem opDestruct_spec (scan : List Int → List Int) (C : Nat) (c : Array Value) (v : V) (B : VB) (m : Mc) (t : Nat) (f : Fm) (o c' S : Int) (w : World) (hM : MS w C c v B m) (hop : Mc.opc f = o) (hAd : Adm scan v m t f o (infoW o).2.2.1 c' S) (hk : (infoW o).1 ≤ f.sp ∧ f.sp - (infoW o).1 + (infoW o).2.1 ≤ 64) (hc : 0 < c') (ho : o = 255) : Ret Hvad.prog 110 #[.pointer (some ⟨C, 0, none⟩)] w fun _ w' => ∃ v' m', MRet w C B m w' v' m' ∧ OpP scan m t c' S v' m' := by
  have hI := hAd.ri
  have hf := hAd.fr
  have hR := hI.run hf
  have hA := hR.fa
  have hblk := hM.vs.blk
  have hCl := hblk.lt
  have hcs := hM.sz
  have hc_s := hM.rep.s
  obtain ⟨ht7, hfty, hF⟩ := hM.openF hf
  have hFk := hI.fr t f (Nat.le_refl _) hf
  have hvi := hI.ti.vi
  have hcbl := (hM.code f (List.mem_of_getElem? hf)).1.len
  have hcb5 := hFk.cl
  have hcl : f.code.2.1 ≤ 100000 := by omega
  have hpct := hfty.pc
  have hspt := hfty.sp
  have hwdA := fun i => argW_wd hM.ty f i
  have hpcl : f.pc < (f.cb.length : Int) := opc_pc (by rw [hop]; omega)
  have hin : (1 : Int) ≤ f.sp ∧ f.sp - 1 + 0 ≤ 64 := by have h := hk; rw [ho] at h; exact h
  have hst0 : (infoW o).2.2.1 = 5000 := by rw [ho]; rfl
  have hcs0 := hAd.cs
  rw [hst0] at hcs0
  have hacc : accW v (addrW (m.argW f 0)) ≤ 2600 := by unfold accW; split <;> omega
  have hl0 := (hwdA 0).1
  have hroom := hI.room hM.ty
  have hf_self := hF.self
  have hby := hfty.self
  have hbyl := hby.1
  have hbd := hI.sb hM.ty
  have hwn := hI.rw_.wn.sum
  have hhS := hI.ti.hS
  have hhd := wv_bd hM.ty.held
  obtain ⟨q1, y1, hv1⟩ : ∃ q1 y1, v.warmT (addrW (m.argW f 0)) = (q1, y1) := ⟨_, _, rfl⟩
  have hwm := RW.warm (A := addrW (m.argW f 0)) (s' := (m.txgas - gasTo m.frames (t + 1)) - 75) hI.rw_ hvi hroom (by omega)
  rw [hv1] at hwm
  obtain ⟨hq1, hrw1, dj1, da1, hgo1, hwa1⟩ := hwm
  replace hq1 : q1 = true := hq1
  replace hgo1 : VGo v y1 dj1 da1 0 0 0 := hgo1
  replace hwa1 : y1.isWarmA (addrW (m.argW f 0)) = true := hwa1
  subst hq1
  have hG1 : GP v y1 m S ((m.txgas - gasTo m.frames (t + 1)) - 75) := ⟨hrw1, hgo1.inv, hgo1.ent, hgo1.nm⟩
  have hroom1 := hG1.rw_.room (by omega) hI.ti.a0 hI.ti.s0
  have hent1 := warm_ent hgo1.inv hwa1
  have hsum1 := hG1.rw_.wn.sum
  
  refine Ret_of_W Hvad.func110 rfl rfl ?_
  refine W_seq ?_
  refine W_region rfl ?_
  refine WO_p (PS_move_ptr rfl) ?_
  refine WO_call Hvad.call91 (by rfl) (Ret.mono (running_spec C c v B m t f _ (MS.ext hM (by repeat (first | assumption | exact Ext.refl _ | refine Ext.alloc ?_ _ | refine Ext.drew ?_ | refine Ext.setB ?_ (by first | omega | (simp only [size_alloc, size_setB, size_drew]; omega)) _ | exact Ext.trans (by assumption) (by assumption) | refine Ext.trans ?_ (by assumption)))) hR) ?_)
  rintro _ w91_0 ⟨hE91_0, rfl⟩
  have hz91_0 := hE91_0.1
  try simp only [size_alloc, size_setB, size_drew] at hz91_0
  refine WO_p (PS_assign_ptr rfl) ?_
  refine WO_nil ?_
  refine thn_normal ?_
  refine W_seq ?_
  refine W_seq ?_
  refine W_region rfl ?_
  refine WO_p (PS_move_ptr rfl) ?_
  refine WO_p (PS_eqlnil Hvad.underlying182 rfl) ?_
  refine WO_nil ?_
  refine thn_normal ?_
  refine W_if rfl (fun hb3 => ?_) (fun hb3 => ?_)
  · have hb3p := hb3.h; try simp only [al_ete, al_dfn, Bool.not_eq_true', Bool.not_eq_false', al_ne, Bool.not_not, al_nn] at hb3p
    simp at hb3p --END
  · have hb3p := hb3.h; try simp only [al_ete, al_dfn, Bool.not_eq_true', Bool.not_eq_false', al_ne, Bool.not_not, al_nn] at hb3p
    refine W_skip ?_
    refine thn_normal ?_
    refine W_seq ?_
    refine W_region rfl ?_
    refine WO_p (PS_move_ptr rfl) ?_
    refine WO_p (PS_move_ptr rfl) ?_
    refine WO_call Hvad.call160 (by rfl) (Ret.mono (arg_spec C c v B m t f _ _ (MS.ext hM (by repeat (first | assumption | exact Ext.refl _ | refine Ext.alloc ?_ _ | refine Ext.drew ?_ | refine Ext.setB ?_ (by first | omega | (simp only [size_alloc, size_setB, size_drew]; omega)) _ | exact Ext.trans (by assumption) (by assumption) | refine Ext.trans ?_ (by assumption)))) hA (by omega)) ?_)
    rintro _ w160_3 ⟨hE160_3, rfl⟩
    have hz160_3 := hE160_3.1
    try simp only [size_alloc, size_setB, size_drew] at hz160_3
    refine WO_call Hvad.call189 (by rfl) (Ret.mono (addrOf_spec _ _ (by first | assumption | exact argW_wd hM.ty _ _ | exact Wd0)) ?_)
    rintro _ w189_4 ⟨hE189_4, rfl⟩
    have hz189_4 := hE189_4.1
    try simp only [size_alloc, size_setB, size_drew] at hz189_4
    refine WO_allocG Hvad.zeroValue25 ?_
    intro b3 v3 hg3 hE3 hH3 hl3
    try simp only [size_alloc, size_setB, size_drew] at hg3
    have hzz3 := hE3.1
    try simp only [size_alloc, size_setB, size_drew] at hzz3
    replace hH3 : Hb v3 b3 (.cells (ic .u8 (List.replicate 20 0)) 25 (0, 0)) := hH3
    first | refine WO_storeW Hvad.sizeOf25 rfl (v := .agg _) rfl (Hb.h (by repeat (first | assumption | exact Hb.newY _ _ | refine Hb.alloc ?_ | refine Hb.drew ?_ | refine Hb.ext (by assumption) ?_ | exact Hb.setSameL (by first | omega | (simp only [size_alloc, size_setB, size_drew]; omega)) | exact Hb.setSame (by assumption) | refine Hb.set (by first | omega | (simp only [size_alloc, size_setB, size_drew]; omega)) ?_ ))) rfl (by first | omega | assumption | rfl | decide | exact Nat.le_refl _ | (simp only [size_ic, Value.cells]; omega) | simp) (by first | omega | assumption | rfl | decide | exact Nat.le_refl _ | (simp only [size_ic, Value.cells]; omega) | simp) (by first | exact oneCell_ic | assumption) ?_ | refine WO_store Hvad.sizeOf25 rfl (v := .agg _) rfl (Hb.h (by repeat (first | assumption | exact Hb.newY _ _ | refine Hb.alloc ?_ | refine Hb.drew ?_ | refine Hb.ext (by assumption) ?_ | exact Hb.setSameL (by first | omega | (simp only [size_alloc, size_setB, size_drew]; omega)) | exact Hb.setSame (by assumption) | refine Hb.set (by first | omega | (simp only [size_alloc, size_setB, size_drew]; omega)) ?_ ))) (by first | omega | assumption | rfl | decide | exact Nat.le_refl _ | (simp only [size_ic, Value.cells]; omega) | simp) (by first | omega | assumption | rfl | decide | exact Nat.le_refl _ | (simp only [size_ic, Value.cells]; omega) | simp) (by first | exact oneCell_ic | assumption) ?_
    refine WO_nil ?_
    refine thn_normal ?_
    refine W_seq ?_
    refine W_region rfl ?_
    refine WO_p (PS_move_ptr rfl) ?_
    refine WO_loadA _ Hvad.isAgg25 Hvad.sizeOf25 rfl (Hb.h (by repeat (first | assumption | exact Hb.newY _ _ | refine Hb.alloc ?_ | refine Hb.drew ?_ | refine Hb.ext (by assumption) ?_ | exact Hb.setSameL (by first | omega | (simp only [size_alloc, size_setB, size_drew]; omega)) | exact Hb.setSame (by assumption) | refine Hb.set (by first | omega | (simp only [size_alloc, size_setB, size_drew]; omega)) ?_ ))) (by first | omega | assumption | rfl | decide | exact Nat.le_refl _ | (simp only [size_ic, Value.cells]; omega) | simp) (Xt.h (by first | assumption | exact Xt.whole rfl rfl | exact Xt.whole rfl (by simp only [size_ic, Value.cells]; omega) | exact ⟨rfl⟩)) ?_
    refine WO_call Hvad.call190 (by rfl) (Ret.mono (warmAcct_spec C c v B m (addrW (m.argW f 0)) _ (MS.ext hM (by repeat (first | assumption | exact Ext.refl _ | refine Ext.alloc ?_ _ | refine Ext.drew ?_ | refine Ext.setB ?_ (by first | omega | (simp only [size_alloc, size_setB, size_drew]; omega)) _ | exact Ext.trans (by assumption) (by assumption) | refine Ext.trans ?_ (by assumption)))) (addrW_by _)) ?_)
    rintro _ w1 ⟨rfl, hR1⟩
    rw [hv1] at hR1 ⊢
    obtain ⟨c1, B1, hM1, hS1⟩ := hR1
    replace hM1 : MS w1 C c1 y1 B1 m := hM1
    have hz1 := hS1.keep.sz
    try simp only [size_alloc, size_setB, size_drew] at hz1
    have hb31 := hS1.hb (b := b3) (o := .cells (Value.agg (ic .u8 (addrW (m.argW f 0)))).cells 25 (0, 0)) (Hb.mk (Hb.h (by repeat (first | assumption | exact Hb.newY _ _ | refine Hb.alloc ?_ | refine Hb.drew ?_ | refine Hb.ext (by assumption) ?_ | exact Hb.setSameL (by first | omega | (simp only [size_alloc, size_setB, size_drew]; omega)) | exact Hb.setSame (by assumption) | refine Hb.set (by first | omega | (simp only [size_alloc, size_setB, size_drew]; omega)) ?_ )))) (hM.fresh (by omega))
    have hS1w := (MStep.ext (w := w) (C := C) (B := B) (m := m) (by repeat (first | assumption | exact Ext.refl _ | refine Ext.alloc ?_ _ | refine Ext.drew ?_ | refine Ext.setB ?_ (by first | omega | (simp only [size_alloc, size_setB, size_drew]; omega)) _ | exact Ext.trans (by assumption) (by assumption) | refine Ext.trans ?_ (by assumption)))).trans hS1
    have hblk1 := hM1.vs.blk
    have hcs1 := hM1.sz
    have hc_s1 := hM1.rep.s
    obtain ⟨_, _, hF1⟩ := hM1.openF hf
    have hf_self1 := hF1.self
    have hbw1 := bal_wd hM1.vs.ty f.self
    have hbwl1 := hbw1.1
    have hadl := (addrW_by (m.argW f 0)).1
    refine WO_p (PS_assign_bool rfl) ?_
    refine WO_nil ?_
    refine thn_normal ?_
    refine W_seqJ (fun ρ w' => ∃ c2 B2 y2, Fr [(0, .pointer (some ⟨C, 0, none⟩)), (2, .pointer (some ⟨C, 1803 + t * 65, none⟩)), (4, .bool true)] ρ ∧ MS w' C c2 y2 B2 m ∧ MStep w w' C B m B2 m ∧ GP v y2 m S ((m.txgas - gasTo m.frames (t + 1)) - 25)) ?_ ?_
    · skip
      refine W_seq ?_
      refine W_drawE [false, false, false, false, false, false, false, false, false] hmix (by kernel_rfl) rfl ?_
      refine WH_p (PS_move_bool rfl) rfl ?_
      refine WH_p (PS_move_bool rfl) rfl ?_
      refine WH_if (t := 17) rfl (fun hb8 => ?_) (fun hb8 => ?_)
      · have hb8p := hb8.h; try simp only [al_ete, al_dfn, Bool.not_eq_true', Bool.not_eq_false', al_ne, Bool.not_not, al_nn] at hb8p
        refine WH_guardT rfl rfl hb8.h ?_
        refine WH_loadA _ Hvad.isAgg25 Hvad.sizeOf25 rfl (Hb.h (by repeat (first | assumption | exact Hb.newY _ _ | refine Hb.alloc ?_ | refine Hb.drew ?_ | refine Hb.ext (by assumption) ?_ | exact Hb.setSameL (by first | omega | (simp only [size_alloc, size_setB, size_drew]; omega)) | exact Hb.setSame (by assumption) | refine Hb.set (by first | omega | (simp only [size_alloc, size_setB, size_drew]; omega)) ?_ ))) (by first | omega | assumption | rfl | decide | exact Nat.le_refl _ | (simp only [size_ic, Value.cells]; omega) | simp) (Xt.h (by first | assumption | exact Xt.whole rfl rfl | exact Xt.whole rfl (by simp only [size_ic, Value.cells]; omega) | exact ⟨rfl⟩)) ?_
        refine WH_guardT rfl rfl hb8.h ?_
        refine WH_p (PS_move_ptr rfl) rfl ?_
        refine WH_guardT rfl rfl hb8.h ?_
        refine WH_p (PS_nilCheck rfl) rfl ?_
        refine WH_guardT rfl rfl hb8.h ?_
        refine WH_p (PS_fieldAddr 9 Hvad.runUnderlying65 rfl Hvad.sizeOf25 rfl rfl) rfl ?_
        refine WH_guardT rfl rfl hb8.h ?_
        refine WH_loadA _ Hvad.isAgg25 Hvad.sizeOf25 rfl (Hb.h (by repeat (first | assumption | exact Hb.newY _ _ | refine Hb.alloc ?_ | refine Hb.drew ?_ | refine Hb.ext (by assumption) ?_ | exact Hb.setSameL (by first | omega | (simp only [size_alloc, size_setB, size_drew]; omega)) | exact Hb.setSame (by assumption) | refine Hb.set (by first | omega | (simp only [size_alloc, size_setB, size_drew]; omega)) ?_ ))) (by first | omega | assumption | rfl | decide | exact Nat.le_refl _ | (simp only [size_ic, Value.cells]; omega) | simp) (Xt.h (by first | assumption | exact Xt.whole rfl rfl | exact Xt.whole rfl (by simp only [size_ic, Value.cells]; omega) | exact ⟨rfl⟩)) ?_
        refine WH_guardT rfl rfl hb8.h ?_
        refine WH_p (PS_neqA Hvad.underlying25 Hvad.underlying5 Hvad.sizeOf5 Hvad.eqGuardType25 rfl rfl (by first | omega | assumption | rfl | decide | exact Nat.le_refl _ | (simp only [size_ic, Value.cells]; omega) | simp) (by first | omega | assumption | rfl | decide | exact Nat.le_refl _ | (simp only [size_ic, Value.cells]; omega) | simp)) rfl ?_
        refine WH_p (PS_pickT rfl hb8.h rfl) rfl ?_
        refine WH_nil ?_
        refine thn_normal ?_
        refine W_if rfl (fun hb10 => ?_) (fun hb10 => ?_)
        · have hb10p := hb10.h; try simp only [al_ete, al_dfn, Bool.not_eq_true', Bool.not_eq_false', al_ne, Bool.not_not, al_nn] at hb10p
          refine W_drawE [false, false, false, false, false, false, false, false, false, false, false, false, false, false, true, false, false] hmix (by kernel_rfl) rfl ?_
          refine WH_p (PS_move_ptr rfl) rfl ?_
          refine WH_p (PS_move_ptr rfl) rfl ?_
          refine WH_p (PS_nilCheck rfl) rfl ?_
          refine WH_p (PS_fieldAddr 9 Hvad.runUnderlying65 rfl Hvad.sizeOf25 rfl rfl) rfl ?_
          refine WH_loadA _ Hvad.isAgg25 Hvad.sizeOf25 rfl (Hb.h (by repeat (first | assumption | exact Hb.newY _ _ | refine Hb.alloc ?_ | refine Hb.drew ?_ | refine Hb.ext (by assumption) ?_ | exact Hb.setSameL (by first | omega | (simp only [size_alloc, size_setB, size_drew]; omega)) | exact Hb.setSame (by assumption) | refine Hb.set (by first | omega | (simp only [size_alloc, size_setB, size_drew]; omega)) ?_ ))) (by first | omega | assumption | rfl | decide | exact Nat.le_refl _ | (simp only [size_ic, Value.cells]; omega) | simp) (Xt.h (by first | assumption | exact Xt.whole rfl rfl | exact Xt.whole rfl (by simp only [size_ic, Value.cells]; omega) | exact ⟨rfl⟩)) ?_
          refine WH_loadA _ Hvad.isAgg25 Hvad.sizeOf25 rfl (Hb.h (by repeat (first | assumption | exact Hb.newY _ _ | refine Hb.alloc ?_ | refine Hb.drew ?_ | refine Hb.ext (by assumption) ?_ | exact Hb.setSameL (by first | omega | (simp only [size_alloc, size_setB, size_drew]; omega)) | exact Hb.setSame (by assumption) | refine Hb.set (by first | omega | (simp only [size_alloc, size_setB, size_drew]; omega)) ?_ ))) (by first | omega | assumption | rfl | decide | exact Nat.le_refl _ | (simp only [size_ic, Value.cells]; omega) | simp) (Xt.h (by first | assumption | exact Xt.whole rfl rfl | exact Xt.whole rfl (by simp only [size_ic, Value.cells]; omega) | exact ⟨rfl⟩)) ?_
          refine WH_p (PS_move_ptr rfl) rfl ?_
          refine WH_p (PS_nilCheck rfl) rfl ?_
          refine WH_p (PS_fieldAddr 0 Hvad.runUnderlying69 rfl Hvad.sizeOf53 rfl rfl) rfl ?_
          refine WH_load (.pointer _) Hvad.isAgg53 rfl (Hb.h (by repeat (first | assumption | exact Hb.newY _ _ | refine Hb.alloc ?_ | refine Hb.drew ?_ | refine Hb.ext (by assumption) ?_ | exact Hb.setSameL (by first | omega | (simp only [size_alloc, size_setB, size_drew]; omega)) | exact Hb.setSame (by assumption) | refine Hb.set (by first | omega | (simp only [size_alloc, size_setB, size_drew]; omega)) ?_ ))) (Ce.h (by first | assumption | exact ⟨rfl⟩)) ?_
          refine WH_p (PS_move_ptr rfl) rfl ?_
          refine WH_p (PS_nilCheck rfl) rfl ?_
          refine WH_p (PS_fieldAddr 9 Hvad.runUnderlying65 rfl Hvad.sizeOf25 rfl rfl) rfl ?_
          refine WH_loadA _ Hvad.isAgg25 Hvad.sizeOf25 rfl (Hb.h (by repeat (first | assumption | exact Hb.newY _ _ | refine Hb.alloc ?_ | refine Hb.drew ?_ | refine Hb.ext (by assumption) ?_ | exact Hb.setSameL (by first | omega | (simp only [size_alloc, size_setB, size_drew]; omega)) | exact Hb.setSame (by assumption) | refine Hb.set (by first | omega | (simp only [size_alloc, size_setB, size_drew]; omega)) ?_ ))) (by first | omega | assumption | rfl | decide | exact Nat.le_refl _ | (simp only [size_ic, Value.cells]; omega) | simp) (Xt.h (by first | assumption | exact Xt.whole rfl rfl | exact Xt.whole rfl (by simp only [size_ic, Value.cells]; omega) | exact ⟨rfl⟩)) ?_
          refine WH_call Hvad.call36 (by rfl) (Ret.mono (balance_spec C c1 y1 B1 (bb m) _ _ (VS.ext hM1.vs (by repeat (first | assumption | exact Ext.refl _ | refine Ext.alloc ?_ _ | refine Ext.drew ?_ | refine Ext.setB ?_ (by first | omega | (simp only [size_alloc, size_setB, size_drew]; omega)) _ | exact Ext.trans (by assumption) (by assumption) | refine Ext.trans ?_ (by assumption)))) hby) ?_)
          rintro _ w36_10 ⟨rfl, hE36_10⟩
          refine ⟨fun _ => (by repeat (first | assumption | exact Ext.refl _ | refine Ext.alloc ?_ _ | refine Ext.drew ?_ | refine Ext.setB ?_ (by first | omega | (simp only [size_alloc, size_setB, size_drew]; omega)) _ | exact Ext.trans (by assumption) (by assumption) | refine Ext.trans ?_ (by assumption))), ?_⟩
          have hz36_10 := hE36_10.1
          try simp only [size_alloc, size_setB, size_drew] at hz36_10
          refine WH_call Hvad.call87 (by rfl) (Ret.mono (move_spec C c1 y1 B1 m f.self (addrW (m.argW f 0)) (y1.bal f.self) _ (MS.ext hM1 (by repeat (first | assumption | exact Ext.refl _ | refine Ext.alloc ?_ _ | refine Ext.drew ?_ | refine Ext.setB ?_ (by first | omega | (simp only [size_alloc, size_setB, size_drew]; omega)) _ | exact Ext.trans (by assumption) (by assumption) | refine Ext.trans ?_ (by assumption)))) hby (addrW_by _) hbw1 hgo1.inv (by have := hG1.rw_.j; omega) (hgo1.ent _ hFk.en) hent1 (Int.le_refl _) (by omega)) ?_)
          rintro _ w2 ⟨rfl, y2, ⟨c2, B2, hM2, hS2⟩, hcalm⟩
          refine ⟨(fun h => by cases h), ?_⟩
          have hz2 := hS2.keep.sz
          refine WH_p (PS_assign_bool rfl) rfl ?_
          refine WH_nil ?_
          refine thn_normal ?_
          exact ⟨c2, B2, y2, ⟨rfl, rfl, rfl, trivial⟩, hM2, hS1w.trans ((MStep.ext (by repeat (first | assumption | exact Ext.refl _ | refine Ext.alloc ?_ _ | refine Ext.drew ?_ | refine Ext.setB ?_ (by first | omega | (simp only [size_alloc, size_setB, size_drew]; omega)) _ | exact Ext.trans (by assumption) (by assumption) | refine Ext.trans ?_ (by assumption)))).trans hS2), hG1.calm hcalm (by omega)⟩
        · have hb10p := hb10.h; try simp only [al_ete, al_dfn, Bool.not_eq_true', Bool.not_eq_false', al_ne, Bool.not_not, al_nn] at hb10p
          skip
          refine W_skip ?_
          refine thn_normal ?_
          exact ⟨c1, B1, y1, ⟨rfl, rfl, rfl, trivial⟩, MS.ext hM1 (by repeat (first | assumption | exact Ext.refl _ | refine Ext.alloc ?_ _ | refine Ext.drew ?_ | refine Ext.setB ?_ (by first | omega | (simp only [size_alloc, size_setB, size_drew]; omega)) _ | exact Ext.trans (by assumption) (by assumption) | refine Ext.trans ?_ (by assumption))), hS1w.trans (MStep.ext (by repeat (first | assumption | exact Ext.refl _ | refine Ext.alloc ?_ _ | refine Ext.drew ?_ | refine Ext.setB ?_ (by first | omega | (simp only [size_alloc, size_setB, size_drew]; omega)) _ | exact Ext.trans (by assumption) (by assumption) | refine Ext.trans ?_ (by assumption)))), hG1.mono (by omega)⟩
      · have hb8p := hb8.h; try simp only [al_ete, al_dfn, Bool.not_eq_true', Bool.not_eq_false', al_ne, Bool.not_not, al_nn] at hb8p
        simp at hb8p --END
    · rintro ρ w2 ⟨c2, B2, y2, hFr2, hM2, hS2w, hG2⟩
      refine W_env _ hFr2 ?_
      have hz2 := hS2w.keep.sz
      have hblk2 := hM2.vs.blk
      have hcs2 := hM2.sz
      have hc_s2 := hM2.rep.s
      obtain ⟨_, _, hF2⟩ := hM2.openF hf
      have hf_self2 := hF2.self
      have hroom2 := hG2.rw_.room (by omega) hI.ti.a0 hI.ti.s0
      refine W_seqJ (fun ρ w' => ∃ c3 B3 y3, Fr [(0, .pointer (some ⟨C, 0, none⟩)), (2, .pointer (some ⟨C, 1803 + t * 65, none⟩)), (4, .bool true)] ρ ∧ MS w' C c3 y3 B3 m ∧ MStep w w' C B m B3 m ∧ GP v y3 m S ((m.txgas - gasTo m.frames (t + 1)) - 0)) ?_ ?_
      · skip
        refine W_seq ?_
        refine W_drawE [false, false, false, false, false, false, false, false, false, false, true, false, false, false, false, false, false, false, false, false, false, false, false, false] hmix (by kernel_rfl) rfl ?_
        refine WH_p (PS_move_bool rfl) rfl ?_
        refine WH_p (PS_move_bool rfl) rfl ?_
        refine WH_if (t := 42) rfl (fun hb15 => ?_) (fun hb15 => ?_)
        · have hb15p := hb15.h; try simp only [al_ete, al_dfn, Bool.not_eq_true', Bool.not_eq_false', al_ne, Bool.not_not, al_nn] at hb15p
          refine WH_guardT rfl rfl hb15.h ?_
          refine WH_p (PS_move_ptr rfl) rfl ?_
          refine WH_guardT rfl rfl hb15.h ?_
          refine WH_p (PS_nilCheck rfl) rfl ?_
          refine WH_guardT rfl rfl hb15.h ?_
          refine WH_p (PS_fieldAddr 0 Hvad.runUnderlying69 rfl Hvad.sizeOf53 rfl rfl) rfl ?_
          refine WH_guardT rfl rfl hb15.h ?_
          refine WH_load (.pointer _) Hvad.isAgg53 rfl (Hb.h (by repeat (first | assumption | exact Hb.newY _ _ | refine Hb.alloc ?_ | refine Hb.drew ?_ | refine Hb.ext (by assumption) ?_ | exact Hb.setSameL (by first | omega | (simp only [size_alloc, size_setB, size_drew]; omega)) | exact Hb.setSame (by assumption) | refine Hb.set (by first | omega | (simp only [size_alloc, size_setB, size_drew]; omega)) ?_ ))) (Ce.h (by first | assumption | exact ⟨rfl⟩)) ?_
          refine WH_guardT rfl rfl hb15.h ?_
          refine WH_p (PS_move_ptr rfl) rfl ?_
          refine WH_guardT rfl rfl hb15.h ?_
          refine WH_p (PS_nilCheck rfl) rfl ?_
          refine WH_guardT rfl rfl hb15.h ?_
          refine WH_p (PS_fieldAddr 9 Hvad.runUnderlying65 rfl Hvad.sizeOf25 rfl rfl) rfl ?_
          refine WH_guardT rfl rfl hb15.h ?_
          refine WH_loadA _ Hvad.isAgg25 Hvad.sizeOf25 rfl (Hb.h (by repeat (first | assumption | exact Hb.newY _ _ | refine Hb.alloc ?_ | refine Hb.drew ?_ | refine Hb.ext (by assumption) ?_ | exact Hb.setSameL (by first | omega | (simp only [size_alloc, size_setB, size_drew]; omega)) | exact Hb.setSame (by assumption) | refine Hb.set (by first | omega | (simp only [size_alloc, size_setB, size_drew]; omega)) ?_ ))) (by first | omega | assumption | rfl | decide | exact Nat.le_refl _ | (simp only [size_ic, Value.cells]; omega) | simp) (Xt.h (by first | assumption | exact Xt.whole rfl rfl | exact Xt.whole rfl (by simp only [size_ic, Value.cells]; omega) | exact ⟨rfl⟩)) ?_
          refine WH_guardT rfl rfl hb15.h ?_
          refine WH_call Hvad.call209 (by rfl) (Ret.mono (isMade_spec C c2 y2 B2 (bb m) _ _ (VS.ext hM2.vs (by repeat (first | assumption | exact Ext.refl _ | refine Ext.alloc ?_ _ | refine Ext.drew ?_ | refine Ext.setB ?_ (by first | omega | (simp only [size_alloc, size_setB, size_drew]; omega)) _ | exact Ext.trans (by assumption) (by assumption) | refine Ext.trans ?_ (by assumption)))) hby) ?_)
          rintro _ w209_15 ⟨rfl, hE209_15⟩
          refine ⟨fun _ => (by repeat (first | assumption | exact Ext.refl _ | refine Ext.alloc ?_ _ | refine Ext.drew ?_ | refine Ext.setB ?_ (by first | omega | (simp only [size_alloc, size_setB, size_drew]; omega)) _ | exact Ext.trans (by assumption) (by assumption) | refine Ext.trans ?_ (by assumption))), ?_⟩
          have hz209_15 := hE209_15.1
          try simp only [size_alloc, size_setB, size_drew] at hz209_15
          refine WH_p (PS_pickT rfl hb15.h rfl) rfl ?_
          refine WH_p (PS_move_bool rfl) rfl ?_
          refine WH_if (t := 53) rfl (fun hb18 => ?_) (fun hb18 => ?_)
          · have hb18p := hb18.h; try simp only [al_ete, al_dfn, Bool.not_eq_true', Bool.not_eq_false', al_ne, Bool.not_not, al_nn] at hb18p
            refine WH_guardT rfl rfl hb18.h ?_
            refine WH_p (PS_move_ptr rfl) rfl ?_
            refine WH_guardT rfl rfl hb18.h ?_
            refine WH_p (PS_nilCheck rfl) rfl ?_
            refine WH_guardT rfl rfl hb18.h ?_
            refine WH_p (PS_fieldAddr 0 Hvad.runUnderlying69 rfl Hvad.sizeOf53 rfl rfl) rfl ?_
            refine WH_guardT rfl rfl hb18.h ?_
            refine WH_load (.pointer _) Hvad.isAgg53 rfl (Hb.h (by repeat (first | assumption | exact Hb.newY _ _ | refine Hb.alloc ?_ | refine Hb.drew ?_ | refine Hb.ext (by assumption) ?_ | exact Hb.setSameL (by first | omega | (simp only [size_alloc, size_setB, size_drew]; omega)) | exact Hb.setSame (by assumption) | refine Hb.set (by first | omega | (simp only [size_alloc, size_setB, size_drew]; omega)) ?_ ))) (Ce.h (by first | assumption | exact ⟨rfl⟩)) ?_
            refine WH_guardT rfl rfl hb18.h ?_
            refine WH_p (PS_move_ptr rfl) rfl ?_
            refine WH_guardT rfl rfl hb18.h ?_
            refine WH_p (PS_nilCheck rfl) rfl ?_
            refine WH_guardT rfl rfl hb18.h ?_
            refine WH_p (PS_fieldAddr 9 Hvad.runUnderlying65 rfl Hvad.sizeOf25 rfl rfl) rfl ?_
            refine WH_guardT rfl rfl hb18.h ?_
            refine WH_loadA _ Hvad.isAgg25 Hvad.sizeOf25 rfl (Hb.h (by repeat (first | assumption | exact Hb.newY _ _ | refine Hb.alloc ?_ | refine Hb.drew ?_ | refine Hb.ext (by assumption) ?_ | exact Hb.setSameL (by first | omega | (simp only [size_alloc, size_setB, size_drew]; omega)) | exact Hb.setSame (by assumption) | refine Hb.set (by first | omega | (simp only [size_alloc, size_setB, size_drew]; omega)) ?_ ))) (by first | omega | assumption | rfl | decide | exact Nat.le_refl _ | (simp only [size_ic, Value.cells]; omega) | simp) (Xt.h (by first | assumption | exact Xt.whole rfl rfl | exact Xt.whole rfl (by simp only [size_ic, Value.cells]; omega) | exact ⟨rfl⟩)) ?_
            refine WH_guardT rfl rfl hb18.h ?_
            refine WH_call Hvad.call210 (by rfl) (Ret.mono (isGone_spec C c2 y2 B2 (bb m) _ _ (VS.ext hM2.vs (by repeat (first | assumption | exact Ext.refl _ | refine Ext.alloc ?_ _ | refine Ext.drew ?_ | refine Ext.setB ?_ (by first | omega | (simp only [size_alloc, size_setB, size_drew]; omega)) _ | exact Ext.trans (by assumption) (by assumption) | refine Ext.trans ?_ (by assumption)))) hby) ?_)
            rintro _ w210_18 ⟨rfl, hE210_18⟩
            refine ⟨(fun h => by cases h), ?_⟩
            have hz210_18 := hE210_18.1
            try simp only [size_alloc, size_setB, size_drew] at hz210_18
            refine WH_guardT rfl rfl hb18.h ?_
            refine WH_p (PS_not rfl) rfl ?_
            refine WH_p (PS_pickT rfl hb18.h rfl) rfl ?_
            refine WH_nil ?_
            refine thn_normal ?_
            refine W_if rfl (fun hb22 => ?_) (fun hb22 => ?_)
            · have hb22p := hb22.h; try simp only [al_ete, al_dfn, Bool.not_eq_true', Bool.not_eq_false', al_ne, Bool.not_not, al_nn] at hb22p
              refine W_drawE [false, false, false, false, false, false, false, false, false, false] hmix (by kernel_rfl) rfl ?_
              refine WH_p (PS_move_ptr rfl) rfl ?_
              refine WH_p (PS_nilCheck rfl) rfl ?_
              refine WH_p (PS_fieldAddr 0 Hvad.runUnderlying69 rfl Hvad.sizeOf53 rfl rfl) rfl ?_
              refine WH_load (.pointer _) Hvad.isAgg53 rfl (Hb.h (by repeat (first | assumption | exact Hb.newY _ _ | refine Hb.alloc ?_ | refine Hb.drew ?_ | refine Hb.ext (by assumption) ?_ | exact Hb.setSameL (by first | omega | (simp only [size_alloc, size_setB, size_drew]; omega)) | exact Hb.setSame (by assumption) | refine Hb.set (by first | omega | (simp only [size_alloc, size_setB, size_drew]; omega)) ?_ ))) (Ce.h (by first | assumption | exact ⟨rfl⟩)) ?_
              refine WH_p (PS_move_ptr rfl) rfl ?_
              refine WH_p (PS_nilCheck rfl) rfl ?_
              refine WH_p (PS_fieldAddr 9 Hvad.runUnderlying65 rfl Hvad.sizeOf25 rfl rfl) rfl ?_
              refine WH_loadA _ Hvad.isAgg25 Hvad.sizeOf25 rfl (Hb.h (by repeat (first | assumption | exact Hb.newY _ _ | refine Hb.alloc ?_ | refine Hb.drew ?_ | refine Hb.ext (by assumption) ?_ | exact Hb.setSameL (by first | omega | (simp only [size_alloc, size_setB, size_drew]; omega)) | exact Hb.setSame (by assumption) | refine Hb.set (by first | omega | (simp only [size_alloc, size_setB, size_drew]; omega)) ?_ ))) (by first | omega | assumption | rfl | decide | exact Nat.le_refl _ | (simp only [size_ic, Value.cells]; omega) | simp) (Xt.h (by first | assumption | exact Xt.whole rfl rfl | exact Xt.whole rfl (by simp only [size_ic, Value.cells]; omega) | exact ⟨rfl⟩)) ?_
              refine WH_call Hvad.call211 (by rfl) (Ret.mono (markGone_spec C c2 y2 B2 (bb m) _ _ (VS.ext hM2.vs (by repeat (first | assumption | exact Ext.refl _ | refine Ext.alloc ?_ _ | refine Ext.drew ?_ | refine Ext.setB ?_ (by first | omega | (simp only [size_alloc, size_setB, size_drew]; omega)) _ | exact Ext.trans (by assumption) (by assumption) | refine Ext.trans ?_ (by assumption)))) hby) ?_)
              rintro _ w3 ⟨rfl, hR3⟩
              refine ⟨(fun h => by cases h), ?_⟩
              obtain ⟨k1, a3, hset3⟩ := markGone_go hG2.vi (A := f.self) (Or.inl (hG2.en _ hFk.en)) (by have := hroom2.j; omega)
              rw [k1]
              have ha3 := hset3.a0 (hG2.en _ hFk.en)
              subst ha3
              obtain ⟨c3, B3, hM3, hS3⟩ := (MS.ext hM2 (by repeat (first | assumption | exact Ext.refl _ | refine Ext.alloc ?_ _ | refine Ext.drew ?_ | refine Ext.setB ?_ (by first | omega | (simp only [size_alloc, size_setB, size_drew]; omega)) _ | exact Ext.trans (by assumption) (by assumption) | refine Ext.trans ?_ (by assumption)))).vret hR3
              refine WH_p (PS_assign_bool rfl) rfl ?_
              refine WH_nil ?_
              refine thn_normal ?_
              exact ⟨c3, B3, _, ⟨rfl, rfl, rfl, trivial⟩, hM3, hS2w.trans ((MStep.ext (by repeat (first | assumption | exact Ext.refl _ | refine Ext.alloc ?_ _ | refine Ext.drew ?_ | refine Ext.setB ?_ (by first | omega | (simp only [size_alloc, size_setB, size_drew]; omega)) _ | exact Ext.trans (by assumption) (by assumption) | refine Ext.trans ?_ (by assumption)))).trans hS3), hG2.setA hset3 rfl (by omega) (by omega)⟩
            · have hb22p := hb22.h; try simp only [al_ete, al_dfn, Bool.not_eq_true', Bool.not_eq_false', al_ne, Bool.not_not, al_nn] at hb22p
              refine W_skip ?_
              refine thn_normal ?_
              exact ⟨c2, B2, y2, ⟨rfl, rfl, rfl, trivial⟩, MS.ext hM2 (by repeat (first | assumption | exact Ext.refl _ | refine Ext.alloc ?_ _ | refine Ext.drew ?_ | refine Ext.setB ?_ (by first | omega | (simp only [size_alloc, size_setB, size_drew]; omega)) _ | exact Ext.trans (by assumption) (by assumption) | refine Ext.trans ?_ (by assumption))), hS2w.trans (MStep.ext (by repeat (first | assumption | exact Ext.refl _ | refine Ext.alloc ?_ _ | refine Ext.drew ?_ | refine Ext.setB ?_ (by first | omega | (simp only [size_alloc, size_setB, size_drew]; omega)) _ | exact Ext.trans (by assumption) (by assumption) | refine Ext.trans ?_ (by assumption)))), hG2.mono (by omega)⟩
          · have hb18p := hb18.h; try simp only [al_ete, al_dfn, Bool.not_eq_true', Bool.not_eq_false', al_ne, Bool.not_not, al_nn] at hb18p
            refine WH_guardF rfl rfl hb18.h ?_
            refine WH_guardF rfl rfl hb18.h ?_
            refine WH_guardF rfl rfl hb18.h ?_
            refine WH_guardF rfl rfl hb18.h ?_
            refine WH_guardF rfl rfl hb18.h ?_
            refine WH_guardF rfl rfl hb18.h ?_
            refine WH_guardF rfl rfl hb18.h ?_
            refine WH_guardF rfl rfl hb18.h ?_
            refine WH_guardF rfl rfl hb18.h ?_
            refine WH_guardF rfl rfl hb18.h ?_
            refine WH_p (PS_pickF rfl hb18.h rfl) rfl ?_
            refine WH_nil ?_
            refine thn_normal ?_
            refine W_condF rfl rfl ?_
            refine W_skip ?_
            refine thn_normal ?_
            exact ⟨c2, B2, y2, ⟨rfl, rfl, rfl, trivial⟩, MS.ext hM2 (by repeat (first | assumption | exact Ext.refl _ | refine Ext.alloc ?_ _ | refine Ext.drew ?_ | refine Ext.setB ?_ (by first | omega | (simp only [size_alloc, size_setB, size_drew]; omega)) _ | exact Ext.trans (by assumption) (by assumption) | refine Ext.trans ?_ (by assumption))), hS2w.trans (MStep.ext (by repeat (first | assumption | exact Ext.refl _ | refine Ext.alloc ?_ _ | refine Ext.drew ?_ | refine Ext.setB ?_ (by first | omega | (simp only [size_alloc, size_setB, size_drew]; omega)) _ | exact Ext.trans (by assumption) (by assumption) | refine Ext.trans ?_ (by assumption)))), hG2.mono (by omega)⟩
        · have hb15p := hb15.h; try simp only [al_ete, al_dfn, Bool.not_eq_true', Bool.not_eq_false', al_ne, Bool.not_not, al_nn] at hb15p
          simp at hb15p --END
      · rintro ρ w3 ⟨c3, B3, y3, hFr3, hM3, hS3w, hG3⟩
        refine W_env _ hFr3 ?_
        have hz3 := hS3w.keep.sz
        have hblk3 := hM3.vs.blk
        have hcs3 := hM3.sz
        have hc_s3 := hM3.rep.s
        obtain ⟨_, _, hF3⟩ := hM3.openF hf
        have hf_self3 := hF3.self
        have hroom3 := hG3.rw_.room (by omega) hI.ti.a0 hI.ti.s0
        refine W_seq ?_
        refine W_seq ?_
        refine W_region rfl ?_
        refine WO_p (PS_move_bool rfl) ?_
        refine WO_p (PS_not rfl) ?_
        refine WO_nil ?_
        refine thn_normal ?_
        refine W_if rfl (fun hb27 => ?_) (fun hb27 => ?_)
        · have hb27p := hb27.h; try simp only [al_ete, al_dfn, Bool.not_eq_true', Bool.not_eq_false', al_ne, Bool.not_not, al_nn] at hb27p
          simp at hb27p --END
        · have hb27p := hb27.h; try simp only [al_ete, al_dfn, Bool.not_eq_true', Bool.not_eq_false', al_ne, Bool.not_not, al_nn] at hb27p
          refine W_skip ?_
          refine thn_normal ?_
          refine W_region rfl ?_
          refine WO_p (PS_move_ptr rfl) ?_
          refine WO_call Hvad.call94 (by rfl) (Ret.mono (end_spec scan C c3 y3 B3 m t f 0 S 0 (none, 0, 0) _ (MS.ext hM3 (by repeat (first | assumption | exact Ext.refl _ | refine Ext.alloc ?_ _ | refine Ext.drew ?_ | refine Ext.setB ?_ (by first | omega | (simp only [size_alloc, size_setB, size_drew]; omega)) _ | exact Ext.trans (by assumption) (by assumption) | refine Ext.trans ?_ (by assumption)))) hf (hI.vault hf (hG3.mono (by omega)).rw_ hG3.vi hG3.en (Int.le_of_eq hG3.nm.symm)) (by omega) (Or.inl ⟨rfl, rfl⟩) (by simp)) ?_)
          rintro _ w4 ⟨v4, m4, hR4, hP4⟩
          refine WO_nil ?_
          first | refine bodyQ_ret0 Hvad.results110 ?_ | refine bodyQ_end0 Hvad.results110 ?_
          exact ⟨v4, m4, MRet.trans hS3w (MRet.pre (by repeat (first | assumption | exact Ext.refl _ | refine Ext.alloc ?_ _ | refine Ext.drew ?_ | refine Ext.setB ?_ (by first | omega | (simp only [size_alloc, size_setB, size_drew]; omega)) _ | refine Ext.trans ?_ (by assumption))) hR4), EndP.op hI hM.ty hf (by omega) hP4⟩

end Go.Proofs.YgvadwGreat
