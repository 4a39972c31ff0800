import Derived.Test.YgvadwGreatOk
import Derived.Test.YgvadwGreatOc
import Derived.Test.YgvadwGreatOe
namespace Go.Proofs.YgvadwGreat
set_option linter.unusedSimpArgs false
set_option linter.unusedVariables false
/-- a frame is laid on top -/
def Mc.enter (m : Mc) (tt : Nat) (x : Int) (g : Fm) : Mc := { m with base := m.base.set (tt + 1) x, mtop := (tt : Int) + 1, frames := m.frames.set tt g, top := tt, phase := 1, ret := (none, 0, 0) }
def Fm.at_ (g : Fm) (tt : Nat) (n : Int) : Fm := { g with depth := tt, sbase := (tt : Int) * 64, dests := scanW g.cb, snap := n }
theorem Adv.calm {v y z : V} {dj da dn dj' : Nat} (h : Adv v y dj da dn) (h' : Calm y z dj') : Adv v z (dj + dj') da dn := h.trans h'.adv
theorem BX.mstep {w w' : World} {C : Nat} {c : Array Value} {v : V} {B B' : VB} {m m' : Mc} {s : SV} {L : List Int} (hM : MS w C c v B m) (hS : MStep w w' C B m B' m') (h : BX w (bb m) s L) : BX w' (bb m) s L :=
  h.keep fun b r fz hβ hb => hb.keepO hS.keep (by
    rintro (hh | hh)
    · exact hM.vs.not_own hb (by decide) hh
    · exact hβ hh)
theorem MS.other {w : World} {C : Nat} {c : Array Value} {v : V} {B : VB} {m : Mc} (hM : MS w C c v B m) {b : Nat} {r : Array Value} {T : TypeId} {fz : Nat × Nat} (hb : Hb w b (.cells r T fz)) (hT : T ∉ [86, 149, 152, 173, 307, 305, 21]) (h5 : T ≠ 5) : ¬ MOwn C B m b := by
  rintro (hh | hh)
  · exact hM.vs.not_own hb hT hh
  · rcases hM.buf with h1 | ⟨b', L, h1, h2, _⟩
    · unfold bb at hh; rw [h1] at hh; cases hh
    · unfold bb at hh; rw [h1] at hh; injection hh with hh; subst hh; exact h5 (hb.type_eq h2)
/-- a box of another type is left -/
theorem MS.box {w w' : World} {C : Nat} {c : Array Value} {v : V} {B B' : VB} {m m' : Mc} (hM : MS w C c v B m) (hS : MStep w w' C B m B' m') {b : Nat} {r : Array Value} {T : TypeId} {fz : Nat × Nat} (hb : Hb w b (.cells r T fz)) (hT : T ∉ [86, 149, 152, 173, 307, 305, 21]) (h5 : T ≠ 5) : Hb w' b (.cells r T fz) := hS.hb hb (hM.other hb hT h5)
/-- a local box of another type is set -/
theorem MS.locT {w : World} {C : Nat} {c : Array Value} {v : V} {B : VB} {m : Mc} (h : MS w C c v B m) {b : Nat} {x y : Array Value} {T : TypeId} {fz : Nat × Nat} (hb : Hb w b (.cells x T fz)) (hT : T ∉ [86, 149, 152, 173, 307, 305, 21, 5, 28]) : MS (setB w b (.cells y T (0, 0))) C c v B m := by
  have hv := h.vs
  have hk : ∀ T', T' ∈ [86, 149, 152, 173, 307, 305, 21, 5, 28] → KT T' w (setB w b (.cells y T (0, 0))) := fun T' hT' => KT.setB hb (fun e => hT (e ▸ hT'))
  refine h.kt ⟨hk 86 (by decide) _ _ _ hv.blk, hv.rep, { accts := hv.rows.accts.kt (hk _ (by decide)), slots := hv.rows.slots.kt (hk _ (by decide)), journal := hv.rows.journal.kt (hk _ (by decide)), logs := hv.rows.logs.kt (hk _ (by decide)), temps := hv.rows.temps.kt (hk _ (by decide)), ttab := hv.rows.ttab.kt (hk _ (by decide)) }, hv.ty, fun x hx => (hv.codes x hx).kt (hk _ (by decide)), fun x hx => (hv.olds x hx).kt (hk _ (by decide))⟩ h.rep (hk _ (by decide)) (hk _ (by decide))
structure EnS (C b3 : Nat) (r : Array Value) (w : World) : Prop where
  ch : ∃ c, Hb w C (.cells c 86 (0, 0)) ∧ Ce c 0 (.pointer (some ⟨C, 2435, none⟩))
  h3 : Hb w b3 (.cells r 65 (0, 0))
theorem EnS.of {w : World} {C : Nat} {c : Array Value} {v : V} {B : VB} {m : Mc} {b3 : Nat} {r : Array Value} (hM : MS w C c v B m) (h3 : Hb w b3 (.cells r 65 (0, 0))) : EnS C b3 r w := ⟨⟨c, hM.vs.blk, hM.rep.s⟩, h3⟩
/-- what a frame to be entered must be -/
structure EnP (v : V) (m : Mc) (tt : Nat) (g : Fm) : Prop where
  top : m.top = (tt : Int) - 1
  tt6 : tt ≤ 6
  mtY : m.mtop = tt
  ty : FmTy g
  cl : g.cb.length ≤ 512
  vi : VInv v
  nm : 0 ≤ v.nmarks ∧ v.nmarks < 16384
  j : v.journal.length < 60000
  es : v.entered g.self
  ec : g.kind ≠ 3 → g.kind ≠ 7 → v.entered g.caller
  le : g.kind ≠ 3 → g.kind ≠ 7 → wv g.value ≤ wv (v.bal g.caller)
  sum : sumW v.sc.bals < 115792089237316195423570985008687907853269984665640564039457584007913129639936

set_option maxRecDepth 10000 in
set_option maxHeartbeats 4000000 in
theorem enter_spec (C : Nat) (c : Array Value) (v : V) (B : VB) (m : Mc) (tt : Nat) (g : Fm) (w : World) (hM : MS w C c v B m) (hP : EnP v m tt g) (hcode : BX w (bb m) g.code g.cb) (hin : BS w (bb m) g.inputY) : Ret Hvad.prog 43 #[.pointer (some ⟨C, 0, none⟩), .agg (encF g).toArray] w fun _ w' => ∃ x y, m.base[tt]? = some x ∧ MRet w C B m w' y (m.enter tt x (g.at_ tt v.nmarks)) ∧ Adv v y (if makes g.kind = true then 4 else 2) 0 1 := by
  obtain ⟨x, hbx⟩ : ∃ x, m.base[tt]? = some x := ⟨_, List.getElem?_eq_getElem (by rw [hM.ty.base.1]; have := hP.tt6; omega)⟩
  obtain ⟨f0, hf0⟩ := frames_lt hM.ty (i := tt) (by have := hP.tt6; omega)
  have htt := hP.tt6
  have hblk := hM.vs.blk
  have hCl := hblk.lt
  have hcs := hM.sz
  have hc_s := hM.rep.s
  have hc_top := hM.rep.top
  rw [hP.top] at hc_top
  have e0 : (tt : Int) - 1 + 1 = tt := by omega
  have hgty := hP.ty
  have hg1 : FmTy { g with depth := (tt : Int) } := { hgty with depth := (⟨by omega, by omega⟩ : 0 ≤ (tt : Int) ∧ (tt : Int) ≤ 255) }
  have hg2 : FmTy { g with depth := (tt : Int), sbase := (tt : Int) * 64 } := { hg1 with sbase := (⟨by omega, by omega⟩ : 0 ≤ (tt : Int) * 64 ∧ (tt : Int) * 64 ≤ 65535) }
  have hob2 := openFB hg2
  have hb_code : Ce (encF { g with depth := (tt : Int), sbase := (tt : Int) * 64 }).toArray (0 + 53) (.slice g.code.1 g.code.2.1 g.code.2.2) := hob2.code
  have hb_sz2 := hob2.bd
  have hcl := hP.cl
  have hcbl := hcode.len
  obtain ⟨hsn1, hadv1, hbal1, hsc1⟩ := snap_adv hP.vi hP.nm.2
  obtain ⟨q1, y1, hv1⟩ : ∃ q1 y1, v.snap = (q1, y1) := ⟨_, _, rfl⟩
  rw [hv1] at hsn1 hadv1 hbal1 hsc1
  replace hsn1 : q1 = v.nmarks := hsn1
  replace hadv1 : Adv v y1 0 0 1 := hadv1
  replace hbal1 : ∀ X, y1.bal X = v.bal X := hbal1
  replace hsc1 : y1.sc = v.sc := hsc1
  subst hsn1
  have hnm := hP.nm
  have hpj := hP.j
  refine Ret_of_W Hvad.func43 rfl rfl ?_
  refine W_seq ?_
  refine W_region rfl ?_
  refine WO_boxG (.agg _) rfl ?_
  intro b3 v3 hg3 hE3 hH3 hl3
  try simp only [size_alloc, size_setB, size_drew] at hg3
  have hzz3 := hE3.1
  try simp only [size_alloc, size_setB, size_drew] at hzz3
  refine WO_p (PS_assign_bool rfl) ?_
  refine WO_nil ?_
  refine thn_normal ?_
  refine W_seq ?_
  replace hH3 : Hb v3 b3 (.cells (encF g).toArray 65 (0, 0)) := hH3
  have hb_sz := (openFB hgty).bd
  have hb_sz1 := (openFB hg1).bd
  refine W_region rfl ?_
  refine WO_p (PS_move_ptr rfl) ?_
  refine WO_p (PS_nilCheck rfl) ?_
  refine WO_p (PS_fieldAddr 2258 Hvad.runUnderlying69 rfl Hvad.sizeOf67 rfl rfl) ?_
  refine WO_load (.int _ _) Hvad.isAgg67 rfl (Hb.h (by repeat (first | assumption | exact Hb.newY _ _ | refine Hb.alloc ?_ | refine Hb.drew ?_ | refine Hb.ext (by assumption) ?_ | exact Hb.setSameL (by first | omega | (simp only [size_alloc, size_setB, size_drew]; omega)) | exact Hb.setSame (by assumption) | refine Hb.set (by first | omega | (simp only [size_alloc, size_setB, size_drew]; omega)) ?_ ))) (Ce.h (by first | assumption | exact ⟨rfl⟩)) ?_
  refine WO_p (PS_conv_i64n Hvad.runUnderlying67 Hvad.runUnderlying3 rfl (by omega) (by omega)) ?_
  refine WO_p (PS_add_i64n rfl rfl (by omega) (by omega)) ?_
  refine WO_p (PS_assign_int rfl) ?_
  refine WO_nil ?_
  refine thn_normal ?_
  refine W_seq ?_
  refine W_seq ?_
  rw [e0]
  refine W_region rfl ?_
  refine WO_p (PS_move_int rfl) ?_
  refine WO_p (PS_lss rfl rfl) ?_
  refine WO_p (PS_move_bool rfl) ?_
  refine WO_if (t := 15) rfl (fun hb2 => ?_) (fun hb2 => ?_)
  · have hb2p := hb2.h; try simp only [al_ete, al_dfn, Bool.not_eq_true', Bool.not_eq_false', al_ne, Bool.not_not, al_nn] at hb2p
    omega --END
  · have hb2p := hb2.h; try simp only [al_ete, al_dfn, Bool.not_eq_true', Bool.not_eq_false', al_ne, Bool.not_not, al_nn] at hb2p
    refine WO_guardT rfl rfl hb2.h ?_
    refine WO_p (PS_move_int rfl) ?_
    refine WO_guardT rfl rfl hb2.h ?_
    refine WO_p (PS_gtr rfl rfl) ?_
    refine WO_p (PS_pickF rfl hb2.h rfl) ?_
    refine WO_p (PS_move_bool rfl) ?_
    refine WO_if (t := 19) rfl (fun hb4 => ?_) (fun hb4 => ?_)
    · have hb4p := hb4.h; try simp only [al_ete, al_dfn, Bool.not_eq_true', Bool.not_eq_false', al_ne, Bool.not_not, al_nn] at hb4p
      omega --END
    · have hb4p := hb4.h; try simp only [al_ete, al_dfn, Bool.not_eq_true', Bool.not_eq_false', al_ne, Bool.not_not, al_nn] at hb4p
      refine WO_guardT rfl rfl hb4.h ?_
      refine WO_p (PS_move_ptr rfl) ?_
      refine WO_guardT rfl rfl hb4.h ?_
      refine WO_p (PS_nilCheck rfl) ?_
      refine WO_guardT rfl rfl hb4.h ?_
      refine WO_p (PS_fieldAddr 0 Hvad.runUnderlying69 rfl Hvad.sizeOf53 rfl rfl) ?_
      refine WO_guardT rfl rfl hb4.h ?_
      refine WO_load (.pointer _) Hvad.isAgg53 rfl (Hb.h (by repeat (first | assumption | exact Hb.newY _ _ | refine Hb.alloc ?_ | refine Hb.drew ?_ | refine Hb.ext (by assumption) ?_ | exact Hb.setSameL (by first | omega | (simp only [size_alloc, size_setB, size_drew]; omega)) | exact Hb.setSame (by assumption) | refine Hb.set (by first | omega | (simp only [size_alloc, size_setB, size_drew]; omega)) ?_ ))) (Ce.h (by first | assumption | exact ⟨rfl⟩)) ?_
      refine WO_guardT rfl rfl hb4.h ?_
      refine WO_p (PS_eqlnil Hvad.underlying53 rfl) ?_
      refine WO_p (PS_pickF rfl hb4.h rfl) ?_
      refine WO_nil ?_
      refine thn_normal ?_
      refine W_if rfl (fun hb6 => ?_) (fun hb6 => ?_)
      · have hb6p := hb6.h; try simp only [al_ete, al_dfn, Bool.not_eq_true', Bool.not_eq_false', al_ne, Bool.not_not, al_nn] at hb6p
        simp at hb6p --END
      · have hb6p := hb6.h; try simp only [al_ete, al_dfn, Bool.not_eq_true', Bool.not_eq_false', al_ne, Bool.not_not, al_nn] at hb6p
        refine W_skip ?_
        refine thn_normal ?_
        refine W_seq ?_
        refine W_region rfl ?_
        refine WO_p (PS_move_int rfl) ?_
        refine WO_p (PS_conv_u8n Hvad.runUnderlying3 Hvad.runUnderlying5 rfl (by omega) (by omega)) ?_
        refine WO_p (PS_fieldAddr 1 Hvad.runUnderlying65 rfl Hvad.sizeOf5 rfl rfl) ?_
        refine WO_store1 Hvad.sizeOf5 rfl (v := (.int _ _)) rfl (Hb.h (by repeat (first | assumption | exact Hb.newY _ _ | refine Hb.alloc ?_ | refine Hb.drew ?_ | refine Hb.ext (by assumption) ?_ | exact Hb.setSameL (by first | omega | (simp only [size_alloc, size_setB, size_drew]; omega)) | exact Hb.setSame (by assumption) | refine Hb.set (by first | omega | (simp only [size_alloc, size_setB, size_drew]; omega)) ?_ ))) rfl (by first | omega | assumption | rfl | decide | exact Nat.le_refl _ | (simp only [size_ic, Value.cells]; omega) | simp) rfl ?_
        refine WO_nil ?_
        refine thn_normal ?_
        refine W_seq ?_
        rw [fb_depth]
        refine W_region rfl ?_
        refine WO_p (PS_move_int rfl) ?_
        refine WO_p (PS_mul_i64n rfl rfl (by omega) (by omega)) ?_
        refine WO_p (PS_conv_u16n Hvad.runUnderlying3 Hvad.runUnderlying61 rfl (by omega) (by omega)) ?_
        refine WO_p (PS_fieldAddr 5 Hvad.runUnderlying65 rfl Hvad.sizeOf61 rfl rfl) ?_
        refine WO_store1 Hvad.sizeOf61 rfl (v := (.int _ _)) rfl (Hb.h (by repeat (first | assumption | exact Hb.newY _ _ | refine Hb.alloc ?_ | refine Hb.drew ?_ | refine Hb.ext (by assumption) ?_ | exact Hb.setSameL (by first | omega | (simp only [size_alloc, size_setB, size_drew]; omega)) | exact Hb.setSame (by assumption) | refine Hb.set (by first | omega | (simp only [size_alloc, size_setB, size_drew]; omega)) ?_ ))) rfl (by first | omega | assumption | rfl | decide | exact Nat.le_refl _ | (simp only [size_ic, Value.cells]; omega) | simp) rfl ?_
        refine WO_nil ?_
        refine thn_normal ?_
        refine W_seq ?_
        rw [fb_sbase]
        refine W_region rfl ?_
        refine WO_p (PS_fieldAddr 53 Hvad.runUnderlying65 rfl Hvad.sizeOf32 rfl rfl) ?_
        refine WO_load (.slice _ _ _) Hvad.isAgg32 rfl (Hb.h (by repeat (first | assumption | exact Hb.newY _ _ | refine Hb.alloc ?_ | refine Hb.drew ?_ | refine Hb.ext (by assumption) ?_ | exact Hb.setSameL (by first | omega | (simp only [size_alloc, size_setB, size_drew]; omega)) | exact Hb.setSame (by assumption) | refine Hb.set (by first | omega | (simp only [size_alloc, size_setB, size_drew]; omega)) ?_ ))) (Ce.h (by first | assumption | exact ⟨rfl⟩)) ?_
        refine WO_call Hvad.call82 (by rfl) (Ret.mono (scan_spec g.code g.cb _ (SC.ext hcode.sc (by repeat (first | assumption | exact Ext.refl _ | refine Ext.alloc ?_ _ | refine Ext.drew ?_ | refine Ext.setB ?_ (by first | omega | (simp only [size_alloc, size_setB, size_drew]; omega)) _ | exact Ext.trans (by assumption) (by assumption) | refine Ext.trans ?_ (by assumption)))) hcode.by_ (by omega)) ?_)
        rintro _ w82_6 ⟨hE82_6, rfl, hsl, hsu⟩
        have hz82_6 := hE82_6.1
        try simp only [size_alloc, size_setB, size_drew] at hz82_6
        refine WO_p (PS_fieldAddr 55 Hvad.runUnderlying65 rfl Hvad.sizeOf63 rfl rfl) ?_
        first | refine WO_storeW Hvad.sizeOf63 rfl (v := .agg _) rfl (Hb.h (by repeat (first | assumption | exact Hb.newY _ _ | refine Hb.alloc ?_ | refine Hb.drew ?_ | refine Hb.ext (by assumption) ?_ | exact Hb.setSameL (by first | omega | (simp only [size_alloc, size_setB, size_drew]; omega)) | exact Hb.setSame (by assumption) | refine Hb.set (by first | omega | (simp only [size_alloc, size_setB, size_drew]; omega)) ?_ ))) rfl (by first | omega | assumption | rfl | decide | exact Nat.le_refl _ | (simp only [size_ic, Value.cells]; omega) | simp) (by first | omega | assumption | rfl | decide | exact Nat.le_refl _ | (simp only [size_ic, Value.cells]; omega) | simp) (by first | exact oneCell_ic | assumption) ?_ | refine WO_store Hvad.sizeOf63 rfl (v := .agg _) rfl (Hb.h (by repeat (first | assumption | exact Hb.newY _ _ | refine Hb.alloc ?_ | refine Hb.drew ?_ | refine Hb.ext (by assumption) ?_ | exact Hb.setSameL (by first | omega | (simp only [size_alloc, size_setB, size_drew]; omega)) | exact Hb.setSame (by assumption) | refine Hb.set (by first | omega | (simp only [size_alloc, size_setB, size_drew]; omega)) ?_ ))) (by first | omega | assumption | rfl | decide | exact Nat.le_refl _ | (simp only [size_ic, Value.cells]; omega) | simp) (by first | omega | assumption | rfl | decide | exact Nat.le_refl _ | (simp only [size_ic, Value.cells]; omega) | simp) (by first | exact oneCell_ic | assumption) ?_
        refine WO_nil ?_
        refine thn_normal ?_
        refine W_seq ?_
        rw [fb_dests hg2 hsl]
        have hg3 : FmTy { g with depth := (tt : Int), sbase := (tt : Int) * 64, dests := scanW g.cb } := { hg2 with dests := ⟨hsl, hsu⟩ }
        have hg4 : FmTy (g.at_ tt v.nmarks) := { hg3 with snap := (show I32 v.nmarks from by unfold I32; omega) }
        have hob4 := openFB hg4
        refine W_region rfl ?_
        refine WO_p (PS_move_ptr rfl) ?_
        refine WO_p (PS_nilCheck rfl) ?_
        refine WO_p (PS_fieldAddr 0 Hvad.runUnderlying69 rfl Hvad.sizeOf53 rfl rfl) ?_
        refine WO_load (.pointer _) Hvad.isAgg53 rfl (Hb.h (by repeat (first | assumption | exact Hb.newY _ _ | refine Hb.alloc ?_ | refine Hb.drew ?_ | refine Hb.ext (by assumption) ?_ | exact Hb.setSameL (by first | omega | (simp only [size_alloc, size_setB, size_drew]; omega)) | exact Hb.setSame (by assumption) | refine Hb.set (by first | omega | (simp only [size_alloc, size_setB, size_drew]; omega)) ?_ ))) (Ce.h (by first | assumption | exact ⟨rfl⟩)) ?_
        refine WO_call Hvad.call83 (by rfl) (Ret.mono (snap_spec C c v B (bb m) _ (VS.ext hM.vs (by repeat (first | assumption | exact Ext.refl _ | refine Ext.alloc ?_ _ | refine Ext.drew ?_ | refine Ext.setB ?_ (by first | omega | (simp only [size_alloc, size_setB, size_drew]; omega)) _ | exact Ext.trans (by assumption) (by assumption) | refine Ext.trans ?_ (by assumption))))) ?_)
        rintro _ w1 ⟨rfl, hR1⟩
        rw [hv1] at hR1 ⊢
        replace hR1 : VRet _ _ _ _ _ w1 y1 := hR1
        obtain ⟨c1, B1, hM1, hS1⟩ := (MS.ext hM (by repeat (first | assumption | exact Ext.refl _ | refine Ext.alloc ?_ _ | refine Ext.drew ?_ | refine Ext.setB ?_ (by first | omega | (simp only [size_alloc, size_setB, size_drew]; omega)) _ | exact Ext.trans (by assumption) (by assumption) | refine Ext.trans ?_ (by assumption)))).vret hR1
        have hz1 := hS1.keep.sz
        try simp only [size_alloc, size_setB, size_drew] at hz1
        have hb31 := hS1.hb (b := b3) (o := .cells (encF { g with depth := (tt : Int), sbase := (tt : Int) * 64, dests := scanW g.cb }).toArray 65 (0, 0)) (Hb.mk (Hb.h (by repeat (first | assumption | exact Hb.newY _ _ | refine Hb.alloc ?_ | refine Hb.drew ?_ | refine Hb.ext (by assumption) ?_ | exact Hb.setSameL (by first | omega | (simp only [size_alloc, size_setB, size_drew]; omega)) | exact Hb.setSame (by assumption) | refine Hb.set (by first | omega | (simp only [size_alloc, size_setB, size_drew]; omega)) ?_ )))) (hM.fresh (by omega))
        have hS1w := (MStep.ext (w := w) (C := C) (B := B) (m := m) (by repeat (first | assumption | exact Ext.refl _ | refine Ext.alloc ?_ _ | refine Ext.drew ?_ | refine Ext.setB ?_ (by first | omega | (simp only [size_alloc, size_setB, size_drew]; omega)) _ | exact Ext.trans (by assumption) (by assumption) | refine Ext.trans ?_ (by assumption)))).trans hS1
        have hblk1 := hM1.vs.blk
        have hcs1 := hM1.sz
        have hc_s1 := hM1.rep.s
        have hb_sz3 := (openFB hg3).bd
        refine WO_p (PS_fieldAddr 8 Hvad.runUnderlying65 rfl Hvad.sizeOf21 rfl rfl) ?_
        refine WO_store1 Hvad.sizeOf21 rfl (v := (.int _ _)) rfl (Hb.h (by repeat (first | assumption | exact Hb.newY _ _ | refine Hb.alloc ?_ | refine Hb.drew ?_ | refine Hb.ext (by assumption) ?_ | exact Hb.setSameL (by first | omega | (simp only [size_alloc, size_setB, size_drew]; omega)) | exact Hb.setSame (by assumption) | refine Hb.set (by first | omega | (simp only [size_alloc, size_setB, size_drew]; omega)) ?_ ))) rfl (by first | omega | assumption | rfl | decide | exact Nat.le_refl _ | (simp only [size_ic, Value.cells]; omega) | simp) rfl ?_
        refine WO_nil ?_
        refine thn_normal ?_
        refine W_seq ?_
        rw [fb_snap]
        have hb_snap : Ce (encF (g.at_ tt v.nmarks)).toArray (0 + 8) (.int .i32 v.nmarks) := hob4.snap
        have hb_kind : Ce (encF (g.at_ tt v.nmarks)).toArray (0 + 0) (.int .u8 g.kind) := hob4.kind
        have hb_self : Xt (encF (g.at_ tt v.nmarks)).toArray (0 + 9) (0 + 9 + 20) (ic .u8 g.self) := hob4.self
        have hb_caller : Xt (encF (g.at_ tt v.nmarks)).toArray (0 + 29) (0 + 29 + 20) (ic .u8 g.caller) := hob4.caller
        have hb_value : Xt (encF (g.at_ tt v.nmarks)).toArray (0 + 49) (0 + 49 + 4) (ic .u64 g.value) := hob4.value
        have hb_all : Xt (encF (g.at_ tt v.nmarks)).toArray 0 (0 + 65) (encF (g.at_ tt v.nmarks)).toArray := Xt.whole rfl (by have := encF_len hg4; simp only [List.size_toArray]; omega)
        have hb_sz4 := hob4.bd
        have hone := @one_encF (g.at_ tt v.nmarks)
        have hs4 : (Value.agg (encF (g.at_ tt v.nmarks)).toArray).cells.size = 65 := by have := encF_len hg4; simpa [Value.cells] using this
        change W _ _ _ _ _ (setB _ _ (.cells (encF (g.at_ tt v.nmarks)).toArray 65 (0, 0)))
        have hM1c := hM1.locT (y := (encF (g.at_ tt v.nmarks)).toArray) hb31 (by decide)
        have hS1c := hS1w.loc (b := b3) (by omega) (.cells (encF (g.at_ tt v.nmarks)).toArray 65 (0, 0))
        generalize hw1c : setB w1 b3 (.cells (encF (g.at_ tt v.nmarks)).toArray 65 (0, 0)) = w1c at hM1c hS1c ⊢
        have hb31c : Hb w1c b3 (.cells (encF (g.at_ tt v.nmarks)).toArray 65 (0, 0)) := by rw [← hw1c]; exact Hb.setSame hb31
        have hblk1c := hM1c.vs.blk
        have hz1c := hS1c.keep.sz
        clear hw1c
        refine W_region rfl ?_
        refine WO_p (PS_fieldAddr 8 Hvad.runUnderlying65 rfl Hvad.sizeOf21 rfl rfl) ?_
        refine WO_load (.int _ _) Hvad.isAgg21 rfl (Hb.h (by repeat (first | assumption | exact Hb.newY _ _ | refine Hb.alloc ?_ | refine Hb.drew ?_ | refine Hb.ext (by assumption) ?_ | exact Hb.setSameL (by first | omega | (simp only [size_alloc, size_setB, size_drew]; omega)) | exact Hb.setSame (by assumption) | refine Hb.set (by first | omega | (simp only [size_alloc, size_setB, size_drew]; omega)) ?_ ))) (Ce.h (by first | assumption | exact ⟨rfl⟩)) ?_
        refine WO_p (PS_geq rfl rfl) ?_
        refine WO_p (PS_move_bool rfl) ?_
        refine WO_if (t := 48) rfl (fun hb10 => ?_) (fun hb10 => ?_)
        · have hb10p := hb10.h; try simp only [al_ete, al_dfn, Bool.not_eq_true', Bool.not_eq_false', al_ne, Bool.not_not, al_nn] at hb10p
          refine WO_guardT rfl rfl hb10.h ?_
          refine WO_p (PS_move_ptr rfl) ?_
          refine WO_guardT rfl rfl hb10.h ?_
          refine WO_p (PS_nilCheck rfl) ?_
          refine WO_guardT rfl rfl hb10.h ?_
          refine WO_p (PS_fieldAddr 1 Hvad.runUnderlying69 rfl Hvad.sizeOf57 rfl rfl) ?_
          refine WO_guardT rfl rfl hb10.h ?_
          refine WO_call Hvad.call84 (by rfl) (Ret.mono (memEnter_spec C c1 y1 B1 m tt x _ (MS.ext hM1c (by repeat (first | assumption | exact Ext.refl _ | refine Ext.alloc ?_ _ | refine Ext.drew ?_ | refine Ext.setB ?_ (by first | omega | (simp only [size_alloc, size_setB, size_drew]; omega)) _ | exact Ext.trans (by assumption) (by assumption) | refine Ext.trans ?_ (by assumption)))) hP.mtY hP.tt6 hbx) ?_)
          rintro _ w2 ⟨rfl, hR2⟩
          obtain ⟨c2, B2, hM2, hS2⟩ := hR2
          have hz2 := hS2.keep.sz
          try simp only [size_alloc, size_setB, size_drew] at hz2
          have hS2w := hS1c.trans ((MStep.ext (by repeat (first | assumption | exact Ext.refl _ | refine Ext.alloc ?_ _ | refine Ext.drew ?_ | refine Ext.setB ?_ (by first | omega | (simp only [size_alloc, size_setB, size_drew]; omega)) _ | exact Ext.trans (by assumption) (by assumption) | refine Ext.trans ?_ (by assumption)))).trans hS2)
          have hb32 := MS.box (MS.ext hM1c (by repeat (first | assumption | exact Ext.refl _ | refine Ext.alloc ?_ _ | refine Ext.drew ?_ | refine Ext.setB ?_ (by first | omega | (simp only [size_alloc, size_setB, size_drew]; omega)) _ | exact Ext.trans (by assumption) (by assumption) | refine Ext.trans ?_ (by assumption)))) hS2 (b := b3) (r := (encF (g.at_ tt v.nmarks)).toArray) (T := 65) (fz := (0, 0)) (Hb.mk (Hb.h (by repeat (first | assumption | exact Hb.newY _ _ | refine Hb.alloc ?_ | refine Hb.drew ?_ | refine Hb.ext (by assumption) ?_ | exact Hb.setSameL (by first | omega | (simp only [size_alloc, size_setB, size_drew]; omega)) | exact Hb.setSame (by assumption) | refine Hb.set (by first | omega | (simp only [size_alloc, size_setB, size_drew]; omega)) ?_ )))) (by decide) (by decide)
          have hblk2 := hM2.vs.blk
          have hcs2 := hM2.sz
          have hc_s2 := hM2.rep.s
          refine WO_p (PS_pickT rfl hb10.h rfl) ?_
          refine WO_p (PS_assign_bool rfl) ?_
          refine WO_nil ?_
          refine thn_normal ?_
          refine W_seq ?_
          obtain ⟨hM3, hS3⟩ := (hM2.ext (Ext.drew (Ext.refl _))).put_frame (t := tt) (f := f0) hf0 (g.at_ tt v.nmarks) hg4 ⟨(BX.mstep hM hS2w hcode).ext (Ext.drew (Ext.refl _)), (BS.mstep hM hS2w hin).ext (Ext.drew (Ext.refl _))⟩
          have hS3w := hS2w.trans ((MStep.ext (Ext.drew (Ext.refl _))).trans hS3)
          refine W_drawE [false, false, false, false, false, false, false] hmix (by kernel_rfl) rfl ?_
          refine WH_p (PS_move_ptr rfl) rfl ?_
          refine WH_p (PS_move_int rfl) rfl ?_
          refine WH_loadA _ Hvad.isAgg65 Hvad.sizeOf65 rfl (Hb.h (by repeat (first | assumption | exact Hb.newY _ _ | refine Hb.alloc ?_ | refine Hb.drew ?_ | refine Hb.ext (by assumption) ?_ | exact Hb.setSameL (by first | omega | (simp only [size_alloc, size_setB, size_drew]; omega)) | exact Hb.setSame (by assumption) | refine Hb.set (by first | omega | (simp only [size_alloc, size_setB, size_drew]; omega)) ?_ ))) (by first | omega | assumption | rfl | decide | exact Nat.le_refl _ | (simp only [size_ic, Value.cells]; omega) | simp) (Xt.h (by first | assumption | exact Xt.whole rfl rfl | exact Xt.whole rfl (by simp only [size_ic, Value.cells]; omega) | exact ⟨rfl⟩)) ?_
          refine WH_p (PS_nilCheck rfl) rfl ?_
          refine WH_p (PS_fieldAddr 1803 Hvad.runUnderlying69 rfl Hvad.sizeOf66 rfl rfl) rfl ?_
          refine WH_p (PS_indexA Hvad.runUnderlying66 Hvad.sizeOf65 rfl rfl (by omega) (by omega)) rfl ?_
          first | refine WH_storeW Hvad.sizeOf65 rfl (v := .agg _) rfl (Hb.h (by repeat (first | assumption | exact Hb.newY _ _ | refine Hb.alloc ?_ | refine Hb.drew ?_ | refine Hb.ext (by assumption) ?_ | exact Hb.setSameL (by first | omega | (simp only [size_alloc, size_setB, size_drew]; omega)) | exact Hb.setSame (by assumption) | refine Hb.set (by first | omega | (simp only [size_alloc, size_setB, size_drew]; omega)) ?_ ))) rfl (by first | omega | assumption | rfl | decide | exact Nat.le_refl _ | (simp only [size_ic, Value.cells]; omega) | simp) (by first | omega | assumption | rfl | decide | exact Nat.le_refl _ | (simp only [size_ic, Value.cells]; omega) | simp) (by first | exact oneCell_ic | assumption) (fun h => by cases h) ?_ | refine WH_store Hvad.sizeOf65 rfl (v := .agg _) rfl (Hb.h (by repeat (first | assumption | exact Hb.newY _ _ | refine Hb.alloc ?_ | refine Hb.drew ?_ | refine Hb.ext (by assumption) ?_ | exact Hb.setSameL (by first | omega | (simp only [size_alloc, size_setB, size_drew]; omega)) | exact Hb.setSame (by assumption) | refine Hb.set (by first | omega | (simp only [size_alloc, size_setB, size_drew]; omega)) ?_ ))) (by first | omega | assumption | rfl | decide | exact Nat.le_refl _ | (simp only [size_ic, Value.cells]; omega) | simp) (by first | omega | assumption | rfl | decide | exact Nat.le_refl _ | (simp only [size_ic, Value.cells]; omega) | simp) (by first | exact oneCell_ic | assumption) (fun h => by cases h) ?_
          refine WH_nil ?_
          refine thn_normal ?_
          refine W_seq ?_
          obtain ⟨hM4, hS4⟩ := hM3.put_top (tt : Int) (by omega)
          have hblk3 := hM3.vs.blk
          have hcs3 := hM3.sz
          refine W_region rfl ?_
          refine WO_p (PS_move_ptr rfl) ?_
          refine WO_p (PS_move_int rfl) ?_
          refine WO_p (PS_conv_i8n Hvad.runUnderlying3 Hvad.runUnderlying67 rfl (by omega) (by omega)) ?_
          refine WO_p (PS_nilCheck rfl) ?_
          refine WO_p (PS_fieldAddr 2258 Hvad.runUnderlying69 rfl Hvad.sizeOf67 rfl rfl) ?_
          refine WO_store1 Hvad.sizeOf67 rfl (v := (.int _ _)) rfl (Hb.h (by repeat (first | assumption | exact Hb.newY _ _ | refine Hb.alloc ?_ | refine Hb.drew ?_ | refine Hb.ext (by assumption) ?_ | exact Hb.setSameL (by first | omega | (simp only [size_alloc, size_setB, size_drew]; omega)) | exact Hb.setSame (by assumption) | refine Hb.set (by first | omega | (simp only [size_alloc, size_setB, size_drew]; omega)) ?_ ))) rfl (by first | omega | assumption | rfl | decide | exact Nat.le_refl _ | (simp only [size_ic, Value.cells]; omega) | simp) rfl ?_
          refine WO_nil ?_
          refine thn_normal ?_
          refine W_seq ?_
          obtain ⟨hM5, hS5⟩ := hM4.put_phase 1 (by omega)
          have hblk4 := hM4.vs.blk
          have hcs4 := hM4.sz
          refine W_region rfl ?_
          refine WO_p (PS_move_ptr rfl) ?_
          refine WO_p (PS_nilCheck rfl) ?_
          refine WO_p (PS_fieldAddr 2404 Hvad.runUnderlying69 rfl Hvad.sizeOf5 rfl rfl) ?_
          refine WO_store1 Hvad.sizeOf5 rfl (v := (.int _ _)) rfl (Hb.h (by repeat (first | assumption | exact Hb.newY _ _ | refine Hb.alloc ?_ | refine Hb.drew ?_ | refine Hb.ext (by assumption) ?_ | exact Hb.setSameL (by first | omega | (simp only [size_alloc, size_setB, size_drew]; omega)) | exact Hb.setSame (by assumption) | refine Hb.set (by first | omega | (simp only [size_alloc, size_setB, size_drew]; omega)) ?_ ))) rfl (by first | omega | assumption | rfl | decide | exact Nat.le_refl _ | (simp only [size_ic, Value.cells]; omega) | simp) rfl ?_
          refine WO_nil ?_
          refine thn_normal ?_
          refine W_seqJ (fun ρ w' => ∃ c6 B6, Fr [(0, .pointer (some ⟨C, 0, none⟩)), (3, .pointer (some ⟨b3, 0, none⟩)), (6, .bool true)] ρ ∧ MS w' C c6 y1 B6 (m.enter tt x (g.at_ tt v.nmarks)) ∧ MStep w w' C B m B6 (m.enter tt x (g.at_ tt v.nmarks)) ∧ Hb w' b3 (.cells (encF (g.at_ tt v.nmarks)).toArray 65 (0, 0))) ?_ ?_
          · skip
            obtain ⟨hM6, hS6⟩ := hM5.put_ret (none, 0, 0) (Or.inl ⟨rfl, rfl⟩)
            have hblk5 := hM5.vs.blk
            have hcs5 := hM5.sz
            have hS6w := ((hS3w.trans hS4).trans hS5).trans hS6
            refine W_region rfl ?_
            refine WO_p (PS_move_ptr rfl) ?_
            refine WO_p (PS_nilCheck rfl) ?_
            refine WO_p (PS_fieldAddr 2259 Hvad.runUnderlying69 rfl Hvad.sizeOf32 rfl rfl) ?_
            refine WO_store1 Hvad.sizeOf32 rfl (v := (.slice _ _ _)) rfl (Hb.h (by repeat (first | assumption | exact Hb.newY _ _ | refine Hb.alloc ?_ | refine Hb.drew ?_ | refine Hb.ext (by assumption) ?_ | exact Hb.setSameL (by first | omega | (simp only [size_alloc, size_setB, size_drew]; omega)) | exact Hb.setSame (by assumption) | refine Hb.set (by first | omega | (simp only [size_alloc, size_setB, size_drew]; omega)) ?_ ))) rfl (by first | omega | assumption | rfl | decide | exact Nat.le_refl _ | (simp only [size_ic, Value.cells]; omega) | simp) rfl ?_
            refine WO_nil ?_
            refine thn_normal ?_
            exact ⟨_, _, ⟨rfl, rfl, rfl, trivial⟩, hM6, hS6w, Hb.mk (Hb.h (by repeat (first | assumption | exact Hb.newY _ _ | refine Hb.alloc ?_ | refine Hb.drew ?_ | refine Hb.ext (by assumption) ?_ | exact Hb.setSameL (by first | omega | (simp only [size_alloc, size_setB, size_drew]; omega)) | exact Hb.setSame (by assumption) | refine Hb.set (by first | omega | (simp only [size_alloc, size_setB, size_drew]; omega)) ?_ )))⟩
          · clear hob2 hb_code hob4 hg3 hg2 hg1 hb_sz hb_sz1 hb_sz2 hb_sz3
            rintro ρ w6 ⟨c6, B6, hFr6, hM6, hS6w, hb36⟩
            refine W_env _ hFr6 ?_
            have hz6 := hS6w.keep.sz
            have hblk6 := hM6.vs.blk
            have hcs6 := hM6.sz
            have hc_s6 := hM6.rep.s
            refine W_seqJ (fun ρ w' => ∃ c9 B9 y9, Fr [(0, .pointer (some ⟨C, 0, none⟩)), (3, .pointer (some ⟨b3, 0, none⟩)), (6, .bool true)] ρ ∧ MS w' C c9 y9 B9 (m.enter tt x (g.at_ tt v.nmarks)) ∧ MStep w w' C B m B9 (m.enter tt x (g.at_ tt v.nmarks)) ∧ Hb w' b3 (.cells (encF (g.at_ tt v.nmarks)).toArray 65 (0, 0)) ∧ Adv v y9 (if makes g.kind = true then 2 else 0) 0 1 ∧ (∀ X, y9.bal X = v.bal X) ∧ sumW y9.sc.bals = sumW v.sc.bals) ?_ ?_
            · skip
              refine W_seq ?_
              refine W_region rfl ?_
              refine WO_p (PS_move_bool rfl) ?_
              refine WO_p (PS_move_bool rfl) ?_
              refine WO_if (t := 72) rfl (fun hb14 => ?_) (fun hb14 => ?_)
              · have hb14p := hb14.h; try simp only [al_ete, al_dfn, Bool.not_eq_true', Bool.not_eq_false', al_ne, Bool.not_not, al_nn] at hb14p
                refine WO_guardT rfl rfl hb14.h ?_
                refine WO_p (PS_fieldAddr 0 Hvad.runUnderlying65 rfl Hvad.sizeOf5 rfl rfl) ?_
                refine WO_guardT rfl rfl hb14.h ?_
                refine WO_load (.int _ _) Hvad.isAgg5 rfl (Hb.h (by repeat (first | assumption | exact Hb.newY _ _ | refine Hb.alloc ?_ | refine Hb.drew ?_ | refine Hb.ext (by assumption) ?_ | exact Hb.setSameL (by first | omega | (simp only [size_alloc, size_setB, size_drew]; omega)) | exact Hb.setSame (by assumption) | refine Hb.set (by first | omega | (simp only [size_alloc, size_setB, size_drew]; omega)) ?_ ))) (Ce.h (by first | assumption | exact ⟨rfl⟩)) ?_
                refine WO_guardT rfl rfl hb14.h ?_
                refine WO_call Hvad.call85 (by rfl) (Ret.mono (creates_spec _ _ hgty.kind) ?_)
                rintro _ w85_14 ⟨hE85_14, rfl⟩
                have hz85_14 := hE85_14.1
                try simp only [size_alloc, size_setB, size_drew] at hz85_14
                refine WO_p (PS_pickT rfl hb14.h rfl) ?_
                refine WO_nil ?_
                refine thn_normal ?_
                refine W_if rfl (fun hb16 => ?_) (fun hb16 => ?_)
                · have hb16p := hb16.h; try simp only [al_ete, al_dfn, Bool.not_eq_true', Bool.not_eq_false', al_ne, Bool.not_not, al_nn] at hb16p
                  have hmk : makes g.kind = true := by simpa using hb16p
                  refine W_drawT2 [false, false, false, false, false, false, true, false, false, false, false, false, false, false, false, false, false] (EnS C b3 (encF (g.at_ tt v.nmarks)).toArray) hmix (by kernel_rfl) rfl (EnS.of (MS.ext hM6 (by repeat (first | assumption | exact Ext.refl _ | refine Ext.alloc ?_ _ | refine Ext.drew ?_ | refine Ext.setB ?_ (by first | omega | (simp only [size_alloc, size_setB, size_drew]; omega)) _ | exact Ext.trans (by assumption) (by assumption) | refine Ext.trans ?_ (by assumption)))) (Hb.mk (Hb.h (by repeat (first | assumption | exact Hb.newY _ _ | refine Hb.alloc ?_ | refine Hb.drew ?_ | refine Hb.ext (by assumption) ?_ | exact Hb.setSameL (by first | omega | (simp only [size_alloc, size_setB, size_drew]; omega)) | exact Hb.setSame (by assumption) | refine Hb.set (by first | omega | (simp only [size_alloc, size_setB, size_drew]; omega)) ?_ ))))) ?_
                  intro hSt1
                  refine WH_p (PS_move_ptr rfl) rfl ?_
                  refine WH_p (PS_nilCheck rfl) rfl ?_
                  refine WH_p (PS_fieldAddr 0 Hvad.runUnderlying69 rfl Hvad.sizeOf53 rfl rfl) rfl ?_
                  refine WH_load0 (.pointer (some ⟨C, 2435, none⟩)) Hvad.isAgg53 rfl (fun w' hS => by obtain ⟨c', k1, k3⟩ := hS.ch; exact ⟨_, _, _, k1.h, k3.h⟩) ?_
                  refine WH_p (PS_fieldAddr 9 Hvad.runUnderlying65 rfl Hvad.sizeOf25 rfl rfl) rfl ?_
                  refine WH_loadA0 (ic .u8 g.self) Hvad.isAgg25 Hvad.sizeOf25 rfl (fun w' hS => ⟨_, _, _, hS.h3.h, by omega, hb_self.h⟩) ?_
                  refine WH_call Hvad.call33 (by rfl) (Ret.mono (putNonce_spec C _ y1 _ (bb m) g.self 1 _ (VS.ext hM6.vs (by repeat (first | assumption | exact Ext.refl _ | refine Ext.alloc ?_ _ | refine Ext.drew ?_ | refine Ext.setB ?_ (by first | omega | (simp only [size_alloc, size_setB, size_drew]; omega)) _ | exact Ext.trans (by assumption) (by assumption) | refine Ext.trans ?_ (by assumption)))) hgty.self (by omega)) ?_)
                  rintro _ w7 ⟨rfl, hR7⟩
                  obtain ⟨k7, a7, hset7⟩ := putNonce_go hadv1.vi (A := g.self) (n := 1) (Or.inl (hadv1.en _ hP.es)) (by have := hadv1.j; omega)
                  have ha7 := hset7.a0 (hadv1.en _ hP.es)
                  subst ha7
                  obtain ⟨y7, hv7⟩ : ∃ y7, y1.putNonce g.self 1 = (true, y7) := ⟨_, Prod.ext k7 rfl⟩
                  rw [hv7] at hR7 hset7 ⊢
                  replace hR7 : VRet _ _ _ _ _ w7 y7 := hR7
                  replace hset7 : SetA y1 g.self _ 0 y7 := hset7
                  obtain ⟨c7, B7, hM7, hS7⟩ := (MS.ext hM6 (by repeat (first | assumption | exact Ext.refl _ | refine Ext.alloc ?_ _ | refine Ext.drew ?_ | refine Ext.setB ?_ (by first | omega | (simp only [size_alloc, size_setB, size_drew]; omega)) _ | exact Ext.trans (by assumption) (by assumption) | refine Ext.trans ?_ (by assumption)))).vret hR7
                  have hz7 := hS7.keep.sz
                  try simp only [size_alloc, size_setB, size_drew] at hz7
                  have hb37 := MS.box (MS.ext hM6 (by repeat (first | assumption | exact Ext.refl _ | refine Ext.alloc ?_ _ | refine Ext.drew ?_ | refine Ext.setB ?_ (by first | omega | (simp only [size_alloc, size_setB, size_drew]; omega)) _ | exact Ext.trans (by assumption) (by assumption) | refine Ext.trans ?_ (by assumption)))) hS7 (b := b3) (r := (encF (g.at_ tt v.nmarks)).toArray) (T := 65) (fz := (0, 0)) (Hb.mk (Hb.h (by repeat (first | assumption | exact Hb.newY _ _ | refine Hb.alloc ?_ | refine Hb.drew ?_ | refine Hb.ext (by assumption) ?_ | exact Hb.setSameL (by first | omega | (simp only [size_alloc, size_setB, size_drew]; omega)) | exact Hb.setSame (by assumption) | refine Hb.set (by first | omega | (simp only [size_alloc, size_setB, size_drew]; omega)) ?_ )))) (by decide) (by decide)
                  refine ⟨fun _ => EnS.of hM7 hb37, ?_⟩
                  have hblk7 := hM7.vs.blk
                  have hcs7 := hM7.sz
                  have hc_s7 := hM7.rep.s
                  refine WH_p (PS_move_bool rfl) rfl ?_
                  refine WH_if (t := 84) rfl (fun hb19 => ?_) (fun hb19 => ?_)
                  · have hb19p := hb19.h; try simp only [al_ete, al_dfn, Bool.not_eq_true', Bool.not_eq_false', al_ne, Bool.not_not, al_nn] at hb19p
                    refine WH_guardT rfl rfl hb19.h ?_
                    refine WH_p (PS_move_ptr rfl) rfl ?_
                    refine WH_guardT rfl rfl hb19.h ?_
                    refine WH_p (PS_nilCheck rfl) rfl ?_
                    refine WH_guardT rfl rfl hb19.h ?_
                    refine WH_p (PS_fieldAddr 0 Hvad.runUnderlying69 rfl Hvad.sizeOf53 rfl rfl) rfl ?_
                    refine WH_guardT rfl rfl hb19.h ?_
                    refine WH_load0 (.pointer (some ⟨C, 2435, none⟩)) Hvad.isAgg53 rfl (fun w' hS => by obtain ⟨c', k1, k3⟩ := hS.ch; exact ⟨_, _, _, k1.h, k3.h⟩) ?_
                    refine WH_guardT rfl rfl hb19.h ?_
                    refine WH_p (PS_fieldAddr 9 Hvad.runUnderlying65 rfl Hvad.sizeOf25 rfl rfl) rfl ?_
                    refine WH_guardT rfl rfl hb19.h ?_
                    refine WH_loadA0 (ic .u8 g.self) Hvad.isAgg25 Hvad.sizeOf25 rfl (fun w' hS => ⟨_, _, _, hS.h3.h, by omega, hb_self.h⟩) ?_
                    refine WH_guardT rfl rfl hb19.h ?_
                    refine WH_call Hvad.call86 (by rfl) (Ret.mono (markMade_spec C _ y7 _ (bb m) g.self _ (VS.ext hM7.vs (by repeat (first | assumption | exact Ext.refl _ | refine Ext.alloc ?_ _ | refine Ext.drew ?_ | refine Ext.setB ?_ (by first | omega | (simp only [size_alloc, size_setB, size_drew]; omega)) _ | exact Ext.trans (by assumption) (by assumption) | refine Ext.trans ?_ (by assumption)))) hgty.self) ?_)
                    rintro _ w8 ⟨rfl, hR8⟩
                    obtain ⟨k8, a8, hset8⟩ := markMade_go hset7.go.inv (A := g.self) (Or.inl (hset7.go.ent _ (hadv1.en _ hP.es))) (by have := hadv1.j; have := hset7.go.j; omega)
                    have ha8 := hset8.a0 (hset7.go.ent _ (hadv1.en _ hP.es))
                    subst ha8
                    obtain ⟨y8, hv8⟩ : ∃ y8, y7.markMade g.self = (true, y8) := ⟨_, Prod.ext k8 rfl⟩
                    rw [hv8] at hR8 hset8 ⊢
                    replace hR8 : VRet _ _ _ _ _ w8 y8 := hR8
                    replace hset8 : SetA y7 g.self _ 0 y8 := hset8
                    obtain ⟨c8, B8, hM8, hS8⟩ := (MS.ext hM7 (by repeat (first | assumption | exact Ext.refl _ | refine Ext.alloc ?_ _ | refine Ext.drew ?_ | refine Ext.setB ?_ (by first | omega | (simp only [size_alloc, size_setB, size_drew]; omega)) _ | exact Ext.trans (by assumption) (by assumption) | refine Ext.trans ?_ (by assumption)))).vret hR8
                    have hz8 := hS8.keep.sz
                    try simp only [size_alloc, size_setB, size_drew] at hz8
                    have hb38 := MS.box (MS.ext hM7 (by repeat (first | assumption | exact Ext.refl _ | refine Ext.alloc ?_ _ | refine Ext.drew ?_ | refine Ext.setB ?_ (by first | omega | (simp only [size_alloc, size_setB, size_drew]; omega)) _ | exact Ext.trans (by assumption) (by assumption) | refine Ext.trans ?_ (by assumption)))) hS8 (b := b3) (r := (encF (g.at_ tt v.nmarks)).toArray) (T := 65) (fz := (0, 0)) (Hb.mk (Hb.h (by repeat (first | assumption | exact Hb.newY _ _ | refine Hb.alloc ?_ | refine Hb.drew ?_ | refine Hb.ext (by assumption) ?_ | exact Hb.setSameL (by first | omega | (simp only [size_alloc, size_setB, size_drew]; omega)) | exact Hb.setSame (by assumption) | refine Hb.set (by first | omega | (simp only [size_alloc, size_setB, size_drew]; omega)) ?_ )))) (by decide) (by decide)
                    refine ⟨fun _ => EnS.of hM8 hb38, ?_⟩
                    have hadv8 : Adv v y8 (if makes g.kind = true then 2 else 0) 0 1 := by rw [if_pos hmk]; exact ((hadv1.trans (hset7.adv rfl)).trans (hset8.adv rfl)).weak (by omega) (by omega)
                    refine WH_p (PS_pickT rfl hb19.h rfl) rfl ?_
                    refine WH_p (PS_assign_bool rfl) rfl ?_
                    refine WH_nil ?_
                    refine thn_normal ?_
                    exact ⟨c8, B8, y8, ⟨rfl, rfl, rfl, trivial⟩, hM8, (hS6w.trans ((MStep.ext (by repeat (first | assumption | exact Ext.refl _ | refine Ext.alloc ?_ _ | refine Ext.drew ?_ | refine Ext.setB ?_ (by first | omega | (simp only [size_alloc, size_setB, size_drew]; omega)) _ | exact Ext.trans (by assumption) (by assumption) | refine Ext.trans ?_ (by assumption)))).trans hS7)).trans ((MStep.ext (by repeat (first | assumption | exact Ext.refl _ | refine Ext.alloc ?_ _ | refine Ext.drew ?_ | refine Ext.setB ?_ (by first | omega | (simp only [size_alloc, size_setB, size_drew]; omega)) _ | exact Ext.trans (by assumption) (by assumption) | refine Ext.trans ?_ (by assumption)))).trans hS8), hb38, hadv8, fun X => by rw [(hset8.bals rfl).1, (hset7.bals rfl).1, hbal1], by rw [(hset8.bals rfl).2, (hset7.bals rfl).2, hsc1]⟩
                  · have hb19p := hb19.h; try simp only [al_ete, al_dfn, Bool.not_eq_true', Bool.not_eq_false', al_ne, Bool.not_not, al_nn] at hb19p
                    simp at hb19p --END
                · have hb16p := hb16.h; try simp only [al_ete, al_dfn, Bool.not_eq_true', Bool.not_eq_false', al_ne, Bool.not_not, al_nn] at hb16p
                  have hmk : makes g.kind = false := by simpa using hb16p
                  refine W_skip ?_
                  refine thn_normal ?_
                  exact ⟨_, _, y1, ⟨rfl, rfl, rfl, trivial⟩, MS.ext hM6 (by repeat (first | assumption | exact Ext.refl _ | refine Ext.alloc ?_ _ | refine Ext.drew ?_ | refine Ext.setB ?_ (by first | omega | (simp only [size_alloc, size_setB, size_drew]; omega)) _ | exact Ext.trans (by assumption) (by assumption) | refine Ext.trans ?_ (by assumption))), hS6w.trans (MStep.ext (by repeat (first | assumption | exact Ext.refl _ | refine Ext.alloc ?_ _ | refine Ext.drew ?_ | refine Ext.setB ?_ (by first | omega | (simp only [size_alloc, size_setB, size_drew]; omega)) _ | exact Ext.trans (by assumption) (by assumption) | refine Ext.trans ?_ (by assumption)))), Hb.mk (Hb.h (by repeat (first | assumption | exact Hb.newY _ _ | refine Hb.alloc ?_ | refine Hb.drew ?_ | refine Hb.ext (by assumption) ?_ | exact Hb.setSameL (by first | omega | (simp only [size_alloc, size_setB, size_drew]; omega)) | exact Hb.setSame (by assumption) | refine Hb.set (by first | omega | (simp only [size_alloc, size_setB, size_drew]; omega)) ?_ ))), hadv1.weak (by omega) (by omega), hbal1, by rw [hsc1]⟩
              · have hb14p := hb14.h; try simp only [al_ete, al_dfn, Bool.not_eq_true', Bool.not_eq_false', al_ne, Bool.not_not, al_nn] at hb14p
                simp at hb14p --END
            · rintro ρ w9 ⟨c9, B9, y9, hFr9, hM9, hS9w, hb39, hadv9, hbal9, hsum9⟩
              refine W_env _ hFr9 ?_
              have hz9 := hS9w.keep.sz
              have hblk9 := hM9.vs.blk
              have hcs9 := hM9.sz
              refine W_seqJ (fun ρ w' => ∃ c11 B11 y11, Fr [(0, .pointer (some ⟨C, 0, none⟩)), (6, .bool true)] ρ ∧ MS w' C c11 y11 B11 (m.enter tt x (g.at_ tt v.nmarks)) ∧ MStep w w' C B m B11 (m.enter tt x (g.at_ tt v.nmarks)) ∧ Adv v y11 (if makes g.kind = true then 4 else 2) 0 1) ?_ ?_
              · skip
                refine W_seq ?_
                refine W_region rfl ?_
                refine WO_p (PS_move_bool rfl) ?_
                refine WO_p (PS_move_bool rfl) ?_
                refine WO_if (t := 94) rfl (fun hb23 => ?_) (fun hb23 => ?_)
                · have hb23p := hb23.h; try simp only [al_ete, al_dfn, Bool.not_eq_true', Bool.not_eq_false', al_ne, Bool.not_not, al_nn] at hb23p
                  refine WO_guardT rfl rfl hb23.h ?_
                  refine WO_p (PS_fieldAddr 0 Hvad.runUnderlying65 rfl Hvad.sizeOf5 rfl rfl) ?_
                  refine WO_guardT rfl rfl hb23.h ?_
                  refine WO_load (.int _ _) Hvad.isAgg5 rfl (Hb.h (by repeat (first | assumption | exact Hb.newY _ _ | refine Hb.alloc ?_ | refine Hb.drew ?_ | refine Hb.ext (by assumption) ?_ | exact Hb.setSameL (by first | omega | (simp only [size_alloc, size_setB, size_drew]; omega)) | exact Hb.setSame (by assumption) | refine Hb.set (by first | omega | (simp only [size_alloc, size_setB, size_drew]; omega)) ?_ ))) (Ce.h (by first | assumption | exact ⟨rfl⟩)) ?_
                  refine WO_guardT rfl rfl hb23.h ?_
                  refine WO_p (PS_neq rfl rfl) ?_
                  refine WO_p (PS_pickT rfl hb23.h rfl) ?_
                  refine WO_p (PS_move_bool rfl) ?_
                  refine WO_if (t := 99) rfl (fun hb25 => ?_) (fun hb25 => ?_)
                  · have hb25p := hb25.h; try simp only [al_ete, al_dfn, Bool.not_eq_true', Bool.not_eq_false', al_ne, Bool.not_not, al_nn] at hb25p
                    have hk3 : g.kind ≠ 3 := by simpa using hb25p
                    refine WO_guardT rfl rfl hb25.h ?_
                    refine WO_p (PS_fieldAddr 0 Hvad.runUnderlying65 rfl Hvad.sizeOf5 rfl rfl) ?_
                    refine WO_guardT rfl rfl hb25.h ?_
                    refine WO_load (.int _ _) Hvad.isAgg5 rfl (Hb.h (by repeat (first | assumption | exact Hb.newY _ _ | refine Hb.alloc ?_ | refine Hb.drew ?_ | refine Hb.ext (by assumption) ?_ | exact Hb.setSameL (by first | omega | (simp only [size_alloc, size_setB, size_drew]; omega)) | exact Hb.setSame (by assumption) | refine Hb.set (by first | omega | (simp only [size_alloc, size_setB, size_drew]; omega)) ?_ ))) (Ce.h (by first | assumption | exact ⟨rfl⟩)) ?_
                    refine WO_guardT rfl rfl hb25.h ?_
                    refine WO_p (PS_neq rfl rfl) ?_
                    refine WO_p (PS_pickT rfl hb25.h rfl) ?_
                    refine WO_nil ?_
                    refine thn_normal ?_
                    refine W_if rfl (fun hb27 => ?_) (fun hb27 => ?_)
                    · have hb27p := hb27.h; try simp only [al_ete, al_dfn, Bool.not_eq_true', Bool.not_eq_false', al_ne, Bool.not_not, al_nn] at hb27p
                      have hk7 : g.kind ≠ 7 := by simpa using hb27p
                      refine W_region rfl ?_
                      refine WO_p (PS_move_ptr rfl) ?_
                      refine WO_p (PS_fieldAddr 29 Hvad.runUnderlying65 rfl Hvad.sizeOf25 rfl rfl) ?_
                      refine WO_loadA _ Hvad.isAgg25 Hvad.sizeOf25 rfl (Hb.h (by repeat (first | assumption | exact Hb.newY _ _ | refine Hb.alloc ?_ | refine Hb.drew ?_ | refine Hb.ext (by assumption) ?_ | exact Hb.setSameL (by first | omega | (simp only [size_alloc, size_setB, size_drew]; omega)) | exact Hb.setSame (by assumption) | refine Hb.set (by first | omega | (simp only [size_alloc, size_setB, size_drew]; omega)) ?_ ))) (by first | omega | assumption | rfl | decide | exact Nat.le_refl _ | (simp only [size_ic, Value.cells]; omega) | simp) (Xt.h (by first | assumption | exact Xt.whole rfl rfl | exact Xt.whole rfl (by simp only [size_ic, Value.cells]; omega) | exact ⟨rfl⟩)) ?_
                      refine WO_p (PS_fieldAddr 9 Hvad.runUnderlying65 rfl Hvad.sizeOf25 rfl rfl) ?_
                      refine WO_loadA _ Hvad.isAgg25 Hvad.sizeOf25 rfl (Hb.h (by repeat (first | assumption | exact Hb.newY _ _ | refine Hb.alloc ?_ | refine Hb.drew ?_ | refine Hb.ext (by assumption) ?_ | exact Hb.setSameL (by first | omega | (simp only [size_alloc, size_setB, size_drew]; omega)) | exact Hb.setSame (by assumption) | refine Hb.set (by first | omega | (simp only [size_alloc, size_setB, size_drew]; omega)) ?_ ))) (by first | omega | assumption | rfl | decide | exact Nat.le_refl _ | (simp only [size_ic, Value.cells]; omega) | simp) (Xt.h (by first | assumption | exact Xt.whole rfl rfl | exact Xt.whole rfl (by simp only [size_ic, Value.cells]; omega) | exact ⟨rfl⟩)) ?_
                      refine WO_p (PS_fieldAddr 49 Hvad.runUnderlying65 rfl Hvad.sizeOf59 rfl rfl) ?_
                      refine WO_loadA _ Hvad.isAgg59 Hvad.sizeOf59 rfl (Hb.h (by repeat (first | assumption | exact Hb.newY _ _ | refine Hb.alloc ?_ | refine Hb.drew ?_ | refine Hb.ext (by assumption) ?_ | exact Hb.setSameL (by first | omega | (simp only [size_alloc, size_setB, size_drew]; omega)) | exact Hb.setSame (by assumption) | refine Hb.set (by first | omega | (simp only [size_alloc, size_setB, size_drew]; omega)) ?_ ))) (by first | omega | assumption | rfl | decide | exact Nat.le_refl _ | (simp only [size_ic, Value.cells]; omega) | simp) (Xt.h (by first | assumption | exact Xt.whole rfl rfl | exact Xt.whole rfl (by simp only [size_ic, Value.cells]; omega) | exact ⟨rfl⟩)) ?_
                      refine WO_call Hvad.call87 (by rfl) (Ret.mono (move_spec C c9 y9 B9 (m.enter tt x (g.at_ tt v.nmarks)) g.caller g.self g.value _ (MS.ext hM9 (by repeat (first | assumption | exact Ext.refl _ | refine Ext.alloc ?_ _ | refine Ext.drew ?_ | refine Ext.setB ?_ (by first | omega | (simp only [size_alloc, size_setB, size_drew]; omega)) _ | exact Ext.trans (by assumption) (by assumption) | refine Ext.trans ?_ (by assumption)))) hgty.caller hgty.self hgty.value hadv9.vi (by have := hadv9.j; split at this <;> omega) (hadv9.en _ (hP.ec hk3 hk7)) (hadv9.en _ hP.es) (by rw [hbal9]; exact hP.le hk3 hk7) (by rw [hsum9]; exact hP.sum)) ?_)
                      rintro _ w10 ⟨rfl, y10, ⟨c10, B10, hM10, hS10⟩, hcalm⟩
                      have hz10 := hS10.keep.sz
                      refine WO_p (PS_assign_bool rfl) ?_
                      refine WO_nil ?_
                      refine thn_normal ?_
                      exact ⟨c10, B10, y10, ⟨rfl, rfl, trivial⟩, hM10, hS9w.trans ((MStep.ext (by repeat (first | assumption | exact Ext.refl _ | refine Ext.alloc ?_ _ | refine Ext.drew ?_ | refine Ext.setB ?_ (by first | omega | (simp only [size_alloc, size_setB, size_drew]; omega)) _ | exact Ext.trans (by assumption) (by assumption) | refine Ext.trans ?_ (by assumption)))).trans hS10), (hadv9.calm hcalm).weak (by split <;> omega) (by omega)⟩
                    · have hb27p := hb27.h; try simp only [al_ete, al_dfn, Bool.not_eq_true', Bool.not_eq_false', al_ne, Bool.not_not, al_nn] at hb27p
                      refine W_skip ?_
                      refine thn_normal ?_
                      exact ⟨c9, B9, y9, ⟨rfl, rfl, trivial⟩, MS.ext hM9 (by repeat (first | assumption | exact Ext.refl _ | refine Ext.alloc ?_ _ | refine Ext.drew ?_ | refine Ext.setB ?_ (by first | omega | (simp only [size_alloc, size_setB, size_drew]; omega)) _ | exact Ext.trans (by assumption) (by assumption) | refine Ext.trans ?_ (by assumption))), hS9w.trans (MStep.ext (by repeat (first | assumption | exact Ext.refl _ | refine Ext.alloc ?_ _ | refine Ext.drew ?_ | refine Ext.setB ?_ (by first | omega | (simp only [size_alloc, size_setB, size_drew]; omega)) _ | exact Ext.trans (by assumption) (by assumption) | refine Ext.trans ?_ (by assumption)))), hadv9.weak (by split <;> omega) (by omega)⟩
                  · have hb25p := hb25.h; try simp only [al_ete, al_dfn, Bool.not_eq_true', Bool.not_eq_false', al_ne, Bool.not_not, al_nn] at hb25p
                    skip
                    refine WO_guardF rfl rfl hb25.h ?_
                    refine WO_guardF rfl rfl hb25.h ?_
                    refine WO_guardF rfl rfl hb25.h ?_
                    refine WO_p (PS_pickF rfl hb25.h rfl) ?_
                    refine WO_nil ?_
                    refine thn_normal ?_
                    refine W_condF rfl rfl ?_
                    refine W_skip ?_
                    refine thn_normal ?_
                    exact ⟨c9, B9, y9, ⟨rfl, rfl, trivial⟩, MS.ext hM9 (by repeat (first | assumption | exact Ext.refl _ | refine Ext.alloc ?_ _ | refine Ext.drew ?_ | refine Ext.setB ?_ (by first | omega | (simp only [size_alloc, size_setB, size_drew]; omega)) _ | exact Ext.trans (by assumption) (by assumption) | refine Ext.trans ?_ (by assumption))), hS9w.trans (MStep.ext (by repeat (first | assumption | exact Ext.refl _ | refine Ext.alloc ?_ _ | refine Ext.drew ?_ | refine Ext.setB ?_ (by first | omega | (simp only [size_alloc, size_setB, size_drew]; omega)) _ | exact Ext.trans (by assumption) (by assumption) | refine Ext.trans ?_ (by assumption)))), hadv9.weak (by split <;> omega) (by omega)⟩
                · have hb23p := hb23.h; try simp only [al_ete, al_dfn, Bool.not_eq_true', Bool.not_eq_false', al_ne, Bool.not_not, al_nn] at hb23p
                  simp at hb23p --END
              · rintro ρ w11 ⟨c11, B11, y11, hFr11, hM11, hS11w, hadv11⟩
                refine W_env _ hFr11 ?_
                refine W_seq ?_
                refine W_seq ?_
                refine W_region rfl ?_
                refine WO_p (PS_move_bool rfl) ?_
                refine WO_p (PS_not rfl) ?_
                refine WO_nil ?_
                refine thn_normal ?_
                refine W_if rfl (fun hb32 => ?_) (fun hb32 => ?_)
                · have hb32p := hb32.h; try simp only [al_ete, al_dfn, Bool.not_eq_true', Bool.not_eq_false', al_ne, Bool.not_not, al_nn] at hb32p
                  simp at hb32p --END
                · have hb32p := hb32.h; try simp only [al_ete, al_dfn, Bool.not_eq_true', Bool.not_eq_false', al_ne, Bool.not_not, al_nn] at hb32p
                  refine W_skip ?_
                  refine thn_normal ?_
                  refine W_seq ?_
                  refine W_region rfl ?_
                  refine WO_p (PS_move_bool rfl) ?_
                  refine WO_p (PS_assign_bool rfl) ?_
                  refine WO_nil ?_
                  refine thn_normal ?_
                  refine W_ret ?_
                  refine bodyQ_ret1 Hvad.results43 rfl (.bool _) rfl ?_
                  exact ⟨x, y11, hbx, ⟨c11, B11, MS.ext hM11 (by repeat (first | assumption | exact Ext.refl _ | refine Ext.alloc ?_ _ | refine Ext.drew ?_ | refine Ext.setB ?_ (by first | omega | (simp only [size_alloc, size_setB, size_drew]; omega)) _ | refine Ext.trans ?_ (by assumption))), hS11w.trans (MStep.ext (by repeat (first | assumption | exact Ext.refl _ | refine Ext.alloc ?_ _ | refine Ext.drew ?_ | refine Ext.setB ?_ (by first | omega | (simp only [size_alloc, size_setB, size_drew]; omega)) _ | refine Ext.trans ?_ (by assumption))))⟩, hadv11⟩
        · have hb10p := hb10.h; try simp only [al_ete, al_dfn, Bool.not_eq_true', Bool.not_eq_false', al_ne, Bool.not_not, al_nn] at hb10p
          omega --END

end Go.Proofs.YgvadwGreat
