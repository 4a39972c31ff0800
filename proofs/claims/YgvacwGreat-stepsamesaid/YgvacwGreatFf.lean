import Derived.Test.YgvacwGreatFe
import Derived.Test.YgvacwGreatOl
import Derived.Test.YgvacwGreatHe
namespace Go.Proofs.YgvacwGreat
set_option linter.unusedSimpArgs false
set_option linter.unusedVariables false
/-- a frame that is to be entered, on both sides -/
structure ChR (rd : SV → List Int) (f : Fm) (g : PF) : Prop where
  kind : f.kind = (g.kind : Int)
  nat : f.ntv = (g.nat : Int)
  statY : f.static = g.statY
  pc : f.pc = (g.pc : Int)
  gas : f.gas = (g.gas : Int)
  value : wn f.value = g.value
  oo : f.outOff = (g.outOff : Int)
  ol : f.outLen = (g.outLen : Int)
  self : f.self = g.self
  caller : f.caller = g.caller
  code : f.cb = g.code
  inputY : rd f.inputY = g.inputY
  sp : f.sp = 0
  stack : g.stack = []
  mem : g.mem = []
theorem snap_x {v y1 : V} (hv : VInv v) (hn : 0 ≤ v.nmarks ∧ v.nmarks < 16384) (h : v.snap = (v.nmarks, y1)) : y1 = { v with marks := fun i => if i = v.nmarks.toNat then (v.journal.length : Int) else v.marks i, nmarks := v.nmarks + 1 } := by
  unfold V.snap at h
  rw [if_neg (by omega)] at h
  exact (Prod.mk.inj h).2.symm
theorem RelP.ent {rd : SV → List Int} {hs : List (List Int)} {L : List Int} {v y1 : V} {m : Mc} {y : PSt} {fs : List PF} {cf : PF} {tt : Nat} {x : Int} {g : Fm} (h : RelP rd hs L v m y fs) (hv1 : v.snap = (v.nmarks, y1)) (hcf : ChR rd g cf) (htf : tt = fs.length) (hsn : ∀ i f, i < fs.length → m.frames[i]? = some f → 0 ≤ f.snap ∧ f.snap < v.nmarks) (hbx : m.base[tt]? = some x) (hbl : m.base.length = 8) (hfl : m.frames.length = 7) (ht6 : tt ≤ 6) (hv : VInv v) (hn : 0 ≤ v.nmarks ∧ v.nmarks < 16384) (h0 : rd (none, 0, 0) = []) :
    RelP rd hs L y1 (m.enter tt x (g.at_ tt v.nmarks)) { y with ret := [], phase := 1 } (fs ++ [{ cf with saved := y.now }]) := by
  have e := snap_x hv hn hv1
  have hsx : y1.sx = v.sx := by rw [e]; rfl
  have hpast : ∀ k, y1.past k = v.past k := fun k => by rw [e]; rfl
  have hmk : ∀ i, y1.marks i = if i = v.nmarks.toNat then (v.journal.length : Int) else v.marks i := fun i => by rw [e]
  refine { vr := by rw [hsx]; exact h.vr, og := by rw [e]; exact h.og, ph := rfl, pr := h.pr, or := h.or, ecb := h.ecb, enum := h.enum, etime := h.etime, eglim := h.eglim, erand := h.erand, ecid := h.ecid, ebfee := h.ebfee, hs := h.hs, ret := h0, top := ?_, fr := ?_, left := fun hh => by cases hh }
  · show (tt : Int) = ((fs ++ [_]).length : Int) - 1; rw [htf]; simp
  · intro i f g' hf hg'
    have hf' : (m.frames.set tt (g.at_ tt v.nmarks))[i]? = some f := hf
    have eb : ∀ j, j ≤ tt → baseOf (m.base.set (tt + 1) x) j = baseOf m.base j := fun j hj => by unfold baseOf; rw [List.getElem?_set_ne (by omega)]
    by_cases hi : i < tt
    · rw [List.getElem?_set_ne (by omega)] at hf'
      rw [List.getElem?_append_left (by omega)] at hg'
      have hq := h.fr i f g' hf' hg'
      have hs := hsn i f (by omega) hf'
      refine { hq with stack := hq.stack, mem := ?_, saved := ?_ }
      · show g'.mem = (L.drop (baseOf (m.base.set (tt + 1) x) i).toNat).take (szOf (m.base.set (tt + 1) x) i).toNat
        rw [eb i (by omega), szOf_set hi]; exact hq.mem
      · rw [hpast, hmk, if_neg (by omega)]; exact hq.saved
    · have hl := lt_of_getElem? hg'
      simp at hl
      have : i = tt := by omega
      subst this
      rw [List.getElem?_set_self (by omega)] at hf'
      rw [last_get htf] at hg'
      obtain rfl := Option.some.inj hf'
      obtain rfl := Option.some.inj hg'
      refine { kind := hcf.kind, nat := hcf.nat, statY := hcf.statY, pc := hcf.pc, gas := hcf.gas, value := hcf.value, oo := hcf.oo, ol := hcf.ol, self := hcf.self, caller := hcf.caller, code := hcf.code, inputY := hcf.inputY, stack := ?_, mem := ?_, saved := ?_ }
      · show cf.stack = (List.range g.sp.toNat).map _
        rw [hcf.stack, hcf.sp]; rfl
      · show cf.mem = (L.drop (baseOf (m.base.set (i + 1) x) i).toNat).take (szOf (m.base.set (i + 1) x) i).toNat
        obtain ⟨e1, e2⟩ := baseOf_set (b := m.base) (t := i) (x := x) (by omega)
        have : szOf (m.base.set (i + 1) x) i = 0 := by unfold szOf; rw [e1, e2, baseOf_some hbx]; omega
        rw [this, hcf.mem]; simp
      · show VR rd (y1.past (y1.marks v.nmarks.toNat).toNat) y.now
        rw [hmk, if_pos rfl, Int.toNat_natCast, hpast, past_end]; exact h.vr
theorem Rel.ent [Om] {w W : World} {C : Nat} {c c6 : Array Value} {v y1 : V} {B B6 : VB} {m : Mc} {y : PSt} {fs : List PF} {cf : PF} {tt : Nat} {x : Int} {g : Fm} (hR : Rel w v m (y, fs)) (hM : MS w C c v B m) (hM6 : MS W C c6 y1 B6 (m.enter tt x (g.at_ tt v.nmarks))) (k5 : KT 5 w W) (k28 : KT 28 w W) (hv1 : v.snap = (v.nmarks, y1)) (hcf : ChR (rdB w) g cf) (htf : tt = fs.length) (hsn : ∀ i f, i < fs.length → m.frames[i]? = some f → 0 ≤ f.snap ∧ f.snap < v.nmarks) (hbx : m.base[tt]? = some x) (hv : VInv v) (hn : 0 ≤ v.nmarks ∧ v.nmarks < 16384) (hin : BS w (bb m) g.inputY) (h6 : tt ≤ 6) :
    Rel W y1 (m.enter tt x (g.at_ tt v.nmarks)) ({ y with ret := [], phase := 1 }, fs ++ [{ cf with saved := y.now }]) := by
  obtain ⟨L, hL, hP⟩ := (hR.kt hM k5 k28).ex
  refine ⟨L, hL, ?_⟩
  exact hP.ent hv1 { hcf with inputY := by rw [← hcf.inputY]; exact (hin.rd.kt k5).rd } htf hsn hbx hM.ty.base.1 hM.ty.frames.1 h6 hv hn (rdB_nil _ _ _)
theorem ent_sn {v v' : V} {m : Mc} {fs : List PF} {c : PF} {tt : Nat} {x : Int} {g f0 : Fm} (hsn : ∀ i f, i < fs.length → m.frames[i]? = some f → 0 ≤ f.snap ∧ f.snap < v.nmarks) (htf : tt = fs.length) (hf0 : m.frames[tt]? = some f0) (hn : v'.nmarks = v.nmarks + 1) (h0 : 0 ≤ v.nmarks) : ∀ i f, i < (fs ++ [c]).length → (m.enter tt x (g.at_ tt v.nmarks)).frames[i]? = some f → 0 ≤ f.snap ∧ f.snap < v'.nmarks := by
  intro i f hi hf
  have hf' : (m.frames.set tt (g.at_ tt v.nmarks))[i]? = some f := hf
  simp at hi
  rcases getElem?_setD hf0 hf' with ⟨h1, h2⟩ | ⟨h1, h2⟩
  · have := hsn i f (by omega) h2; omega
  · subst h2; show 0 ≤ v.nmarks ∧ v.nmarks < _; omega
theorem entA_y {rd : SV → List Int} {g : Fm} {y : PSt} {c : PF} (h : ChR rd g c) (hm : makes g.kind = true) : yentA y c = ysMade (ysAccts y (ysetNonce y.now.accts g.self 1)) (ywith y.now.made g.self) := by
  unfold yentA; rw [if_pos (by rw [← makes_y h.kind]; exact hm), h.self]
theorem entA_n {rd : SV → List Int} {g : Fm} {y : PSt} {c : PF} (h : ChR rd g c) (hm : makes g.kind = false) : yentA y c = y := by
  unfold yentA; rw [if_neg (by rw [← makes_y h.kind, hm]; decide)]
theorem entB_y {rd : SV → List Int} {g : Fm} {y : PSt} {c : PF} (h : ChR rd g c) (h3 : g.kind ≠ 3) (h7 : g.kind ≠ 7) : yentB y c = ysAccts y (ymove y.now.accts g.caller g.self (wn g.value)) := by
  have := h.kind
  unfold yentB; rw [if_pos ⟨by omega, by omega⟩, h.self, h.caller, h.value]
theorem entB_no {rd : SV → List Int} {g : Fm} {y : PSt} {c : PF} (h : ChR rd g c) (hk : g.kind = 3 ∨ g.kind = 7) : yentB y c = y := by
  have := h.kind
  unfold yentB; rw [if_neg (by omega)]

set_option maxRecDepth 10000 in
set_option maxHeartbeats 4000000 in
theorem enter_ex [Om] (C : Nat) (c : Array Value) (v : V) (B : VB) (m : Mc) (tt : Nat) (g : Fm) (w : World) (hM : MS w C c v B m) (hP : EnP v m tt g) (hcode : BX w (bb m) g.code g.cb) (hin : BS w (bb m) g.inputY) (y : PSt) (fs : List PF) (cf : PF) (hRl : Rel w v m (y, fs)) (hcf : ChR (rdB w) g cf) (htf : tt = fs.length) (hsnx : ∀ i f, i < fs.length → m.frames[i]? = some f → 0 ≤ f.snap ∧ f.snap < v.nmarks) : Ret Hvac.prog 73 #[.pointer (some ⟨C, 0, none⟩), .agg (encF g).toArray] w fun _ w' => ∃ x y', m.base[tt]? = some x ∧ MRet w C B m w' y' (m.enter tt x (g.at_ tt v.nmarks)) ∧ Adv v y' (if makes g.kind = true then 4 else 2) 0 1 ∧ Rel w' y' (m.enter tt x (g.at_ tt v.nmarks)) ({ (yenter y fs cf).1 with phase := 1 }, (yenter y fs cf).2) := by
  obtain ⟨x, hbx⟩ : ∃ x, m.base[tt]? = some x := ⟨_, List.getElem?_eq_getElem (by rw [hM.ty.base.1]; have := hP.tt6; omega)⟩
  obtain ⟨f0, hf0⟩ := frames_lt hM.ty (i := tt) (by have := hP.tt6; omega)
  have htt := hP.tt6
  have hblk := hM.vs.blk
  have hCl := hblk.lt
  have hcs := hM.sz
  have hc_s := hM.rep.s
  have hc_top := hM.rep.top
  rw [hP.top] at hc_top
  have e0 : (tt : Int) - 1 + 1 = tt := by omega
  have hgty := hP.ty
  have hg1 : FmTy { g with depth := (tt : Int) } := { hgty with depth := (⟨by omega, by omega⟩ : 0 ≤ (tt : Int) ∧ (tt : Int) ≤ 255) }
  have hg2 : FmTy { g with depth := (tt : Int), sbase := (tt : Int) * 64 } := { hg1 with sbase := (⟨by omega, by omega⟩ : 0 ≤ (tt : Int) * 64 ∧ (tt : Int) * 64 ≤ 65535) }
  have hob2 := openFB hg2
  have hb_code : Ce (encF { g with depth := (tt : Int), sbase := (tt : Int) * 64 }).toArray (0 + 53) (.slice g.code.1 g.code.2.1 g.code.2.2) := hob2.code
  have hb_sz2 := hob2.bd
  have hcl := hP.cl
  have hcbl := hcode.len
  obtain ⟨hsn1, hadv1, hbal1, hsc1⟩ := snap_adv hP.vi hP.nm.2
  obtain ⟨q1, y1, hv1⟩ : ∃ q1 y1, v.snap = (q1, y1) := ⟨_, _, rfl⟩
  rw [hv1] at hsn1 hadv1 hbal1 hsc1
  replace hsn1 : q1 = v.nmarks := hsn1
  replace hadv1 : Adv v y1 0 0 1 := hadv1
  replace hbal1 : ∀ X, y1.bal X = v.bal X := hbal1
  replace hsc1 : y1.sc = v.sc := hsc1
  subst hsn1
  have hnm := hP.nm
  have hpj := hP.j
  refine Ret_of_W Hvac.func73 rfl rfl ?_
  refine W_seq ?_
  refine W_region rfl ?_
  refine WO_boxG (.agg _) rfl ?_
  intro b3 v3 hg3 hE3 hH3 hl3
  try simp only [size_alloc, size_setB, size_drew] at hg3
  have hzz3 := hE3.1
  try simp only [size_alloc, size_setB, size_drew] at hzz3
  refine WO_p (PS_assign_bool rfl) ?_
  refine WO_nil ?_
  refine thn_normal ?_
  refine W_seq ?_
  replace hH3 : Hb v3 b3 (.cells (encF g).toArray 66 (0, 0)) := hH3
  have hb_sz := (openFB hgty).bd
  have hb_sz1 := (openFB hg1).bd
  refine W_region rfl ?_
  refine WO_p (PS_move_ptr rfl) ?_
  refine WO_p (PS_nilCheck rfl) ?_
  refine WO_p (PS_fieldAddr 2258 Hvac.runUnderlying70 rfl Hvac.sizeOf68 rfl rfl) ?_
  refine WO_load (.int _ _) Hvac.isAgg68 rfl (Hb.h (by repeat (first | assumption | exact Hb.newY _ _ | refine Hb.alloc ?_ | refine Hb.drew ?_ | refine Hb.ext (by assumption) ?_ | exact Hb.setSameL (by first | omega | (simp only [size_alloc, size_setB, size_drew]; omega)) | exact Hb.setSame (by assumption) | refine Hb.set (by first | omega | (simp only [size_alloc, size_setB, size_drew]; omega)) ?_ ))) (Ce.h (by first | assumption | exact ⟨rfl⟩)) ?_
  refine WO_p (PS_conv_i64n Hvac.runUnderlying68 Hvac.runUnderlying3 rfl (by omega) (by omega)) ?_
  refine WO_p (PS_add_i64n rfl rfl (by omega) (by omega)) ?_
  refine WO_p (PS_assign_int rfl) ?_
  refine WO_nil ?_
  refine thn_normal ?_
  refine W_seq ?_
  refine W_seq ?_
  rw [e0]
  refine W_region rfl ?_
  refine WO_p (PS_move_int rfl) ?_
  refine WO_p (PS_lss rfl rfl) ?_
  refine WO_p (PS_move_bool rfl) ?_
  refine WO_if (t := 15) rfl (fun hb2 => ?_) (fun hb2 => ?_)
  · have hb2p := hb2.h; try simp only [al_ete, al_dfn, Bool.not_eq_true', Bool.not_eq_false', al_ne, Bool.not_not, al_nn] at hb2p
    omega --END
  · have hb2p := hb2.h; try simp only [al_ete, al_dfn, Bool.not_eq_true', Bool.not_eq_false', al_ne, Bool.not_not, al_nn] at hb2p
    refine WO_guardT rfl rfl hb2.h ?_
    refine WO_p (PS_move_int rfl) ?_
    refine WO_guardT rfl rfl hb2.h ?_
    refine WO_p (PS_gtr rfl rfl) ?_
    refine WO_p (PS_pickF rfl hb2.h rfl) ?_
    refine WO_p (PS_move_bool rfl) ?_
    refine WO_if (t := 19) rfl (fun hb4 => ?_) (fun hb4 => ?_)
    · have hb4p := hb4.h; try simp only [al_ete, al_dfn, Bool.not_eq_true', Bool.not_eq_false', al_ne, Bool.not_not, al_nn] at hb4p
      omega --END
    · have hb4p := hb4.h; try simp only [al_ete, al_dfn, Bool.not_eq_true', Bool.not_eq_false', al_ne, Bool.not_not, al_nn] at hb4p
      refine WO_guardT rfl rfl hb4.h ?_
      refine WO_p (PS_move_ptr rfl) ?_
      refine WO_guardT rfl rfl hb4.h ?_
      refine WO_p (PS_nilCheck rfl) ?_
      refine WO_guardT rfl rfl hb4.h ?_
      refine WO_p (PS_fieldAddr 0 Hvac.runUnderlying70 rfl Hvac.sizeOf55 rfl rfl) ?_
      refine WO_guardT rfl rfl hb4.h ?_
      refine WO_load (.pointer _) Hvac.isAgg55 rfl (Hb.h (by repeat (first | assumption | exact Hb.newY _ _ | refine Hb.alloc ?_ | refine Hb.drew ?_ | refine Hb.ext (by assumption) ?_ | exact Hb.setSameL (by first | omega | (simp only [size_alloc, size_setB, size_drew]; omega)) | exact Hb.setSame (by assumption) | refine Hb.set (by first | omega | (simp only [size_alloc, size_setB, size_drew]; omega)) ?_ ))) (Ce.h (by first | assumption | exact ⟨rfl⟩)) ?_
      refine WO_guardT rfl rfl hb4.h ?_
      refine WO_p (PS_eqlnil Hvac.underlying55 rfl) ?_
      refine WO_p (PS_pickF rfl hb4.h rfl) ?_
      refine WO_nil ?_
      refine thn_normal ?_
      refine W_if rfl (fun hb6 => ?_) (fun hb6 => ?_)
      · have hb6p := hb6.h; try simp only [al_ete, al_dfn, Bool.not_eq_true', Bool.not_eq_false', al_ne, Bool.not_not, al_nn] at hb6p
        simp at hb6p --END
      · have hb6p := hb6.h; try simp only [al_ete, al_dfn, Bool.not_eq_true', Bool.not_eq_false', al_ne, Bool.not_not, al_nn] at hb6p
        refine W_skip ?_
        refine thn_normal ?_
        refine W_seq ?_
        refine W_region rfl ?_
        refine WO_p (PS_move_int rfl) ?_
        refine WO_p (PS_conv_u8n Hvac.runUnderlying3 Hvac.runUnderlying5 rfl (by omega) (by omega)) ?_
        refine WO_p (PS_fieldAddr 1 Hvac.runUnderlying66 rfl Hvac.sizeOf5 rfl rfl) ?_
        refine WO_store1 Hvac.sizeOf5 rfl (v := (.int _ _)) rfl (Hb.h (by repeat (first | assumption | exact Hb.newY _ _ | refine Hb.alloc ?_ | refine Hb.drew ?_ | refine Hb.ext (by assumption) ?_ | exact Hb.setSameL (by first | omega | (simp only [size_alloc, size_setB, size_drew]; omega)) | exact Hb.setSame (by assumption) | refine Hb.set (by first | omega | (simp only [size_alloc, size_setB, size_drew]; omega)) ?_ ))) rfl (by first | omega | assumption | rfl | decide | exact Nat.le_refl _ | (simp only [size_ic, Value.cells]; omega) | (simp; omega) | simp) rfl ?_
        refine WO_nil ?_
        refine thn_normal ?_
        refine W_seq ?_
        rw [fb_depth]
        refine W_region rfl ?_
        refine WO_p (PS_move_int rfl) ?_
        refine WO_p (PS_mul_i64n rfl rfl (by omega) (by omega)) ?_
        refine WO_p (PS_conv_u16n Hvac.runUnderlying3 Hvac.runUnderlying42 rfl (by omega) (by omega)) ?_
        refine WO_p (PS_fieldAddr 5 Hvac.runUnderlying66 rfl Hvac.sizeOf42 rfl rfl) ?_
        refine WO_store1 Hvac.sizeOf42 rfl (v := (.int _ _)) rfl (Hb.h (by repeat (first | assumption | exact Hb.newY _ _ | refine Hb.alloc ?_ | refine Hb.drew ?_ | refine Hb.ext (by assumption) ?_ | exact Hb.setSameL (by first | omega | (simp only [size_alloc, size_setB, size_drew]; omega)) | exact Hb.setSame (by assumption) | refine Hb.set (by first | omega | (simp only [size_alloc, size_setB, size_drew]; omega)) ?_ ))) rfl (by first | omega | assumption | rfl | decide | exact Nat.le_refl _ | (simp only [size_ic, Value.cells]; omega) | (simp; omega) | simp) rfl ?_
        refine WO_nil ?_
        refine thn_normal ?_
        refine W_seq ?_
        rw [fb_sbase]
        refine W_region rfl ?_
        refine WO_p (PS_fieldAddr 53 Hvac.runUnderlying66 rfl Hvac.sizeOf32 rfl rfl) ?_
        refine WO_load (.slice _ _ _) Hvac.isAgg32 rfl (Hb.h (by repeat (first | assumption | exact Hb.newY _ _ | refine Hb.alloc ?_ | refine Hb.drew ?_ | refine Hb.ext (by assumption) ?_ | exact Hb.setSameL (by first | omega | (simp only [size_alloc, size_setB, size_drew]; omega)) | exact Hb.setSame (by assumption) | refine Hb.set (by first | omega | (simp only [size_alloc, size_setB, size_drew]; omega)) ?_ ))) (Ce.h (by first | assumption | exact ⟨rfl⟩)) ?_
        refine WO_call Hvac.call154 (by rfl) (Ret.mono (scan_spec g.code g.cb _ (SC.ext hcode.sc (by repeat (first | assumption | exact Ext.refl _ | refine Ext.alloc ?_ _ | refine Ext.drew ?_ | refine Ext.setB ?_ (by first | omega | (simp only [size_alloc, size_setB, size_drew]; omega)) _ | exact Ext.trans (by assumption) (by assumption) | refine Ext.trans ?_ (by assumption)))) hcode.by_ (by omega)) ?_)
        rintro _ w154_6 ⟨hE154_6, rfl, hsl, hsu⟩
        have hz154_6 := hE154_6.1
        try simp only [size_alloc, size_setB, size_drew] at hz154_6
        refine WO_p (PS_fieldAddr 55 Hvac.runUnderlying66 rfl Hvac.sizeOf64 rfl rfl) ?_
        first | refine WO_storeW Hvac.sizeOf64 rfl (v := .agg _) rfl (Hb.h (by repeat (first | assumption | exact Hb.newY _ _ | refine Hb.alloc ?_ | refine Hb.drew ?_ | refine Hb.ext (by assumption) ?_ | exact Hb.setSameL (by first | omega | (simp only [size_alloc, size_setB, size_drew]; omega)) | exact Hb.setSame (by assumption) | refine Hb.set (by first | omega | (simp only [size_alloc, size_setB, size_drew]; omega)) ?_ ))) rfl (by first | omega | assumption | rfl | decide | exact Nat.le_refl _ | (simp only [size_ic, Value.cells]; omega) | (simp; omega) | simp) (by first | omega | assumption | rfl | decide | exact Nat.le_refl _ | (simp only [size_ic, Value.cells]; omega) | (simp; omega) | simp) (by first | exact oneCell_ic | assumption | exact one_Ws2 _ | exact one_YA2 _ | exact one_YSl2 _ | exact one_YM2 _ | exact one_YT2 _ | exact one_L2 _) ?_ | refine WO_store Hvac.sizeOf64 rfl (v := .agg _) rfl (Hb.h (by repeat (first | assumption | exact Hb.newY _ _ | refine Hb.alloc ?_ | refine Hb.drew ?_ | refine Hb.ext (by assumption) ?_ | exact Hb.setSameL (by first | omega | (simp only [size_alloc, size_setB, size_drew]; omega)) | exact Hb.setSame (by assumption) | refine Hb.set (by first | omega | (simp only [size_alloc, size_setB, size_drew]; omega)) ?_ ))) (by first | omega | assumption | rfl | decide | exact Nat.le_refl _ | (simp only [size_ic, Value.cells]; omega) | (simp; omega) | simp) (by first | omega | assumption | rfl | decide | exact Nat.le_refl _ | (simp only [size_ic, Value.cells]; omega) | (simp; omega) | simp) (by first | exact oneCell_ic | assumption | exact one_Ws2 _ | exact one_YA2 _ | exact one_YSl2 _ | exact one_YM2 _ | exact one_YT2 _ | exact one_L2 _) ?_
        refine WO_nil ?_
        refine thn_normal ?_
        refine W_seq ?_
        rw [fb_dests hg2 hsl]
        have hg3 : FmTy { g with depth := (tt : Int), sbase := (tt : Int) * 64, dests := scanW g.cb } := { hg2 with dests := ⟨hsl, hsu⟩ }
        have hg4 : FmTy (g.at_ tt v.nmarks) := { hg3 with snap := (show I32 v.nmarks from by unfold I32; omega) }
        have hob4 := openFB hg4
        refine W_region rfl ?_
        refine WO_p (PS_move_ptr rfl) ?_
        refine WO_p (PS_nilCheck rfl) ?_
        refine WO_p (PS_fieldAddr 0 Hvac.runUnderlying70 rfl Hvac.sizeOf55 rfl rfl) ?_
        refine WO_load (.pointer _) Hvac.isAgg55 rfl (Hb.h (by repeat (first | assumption | exact Hb.newY _ _ | refine Hb.alloc ?_ | refine Hb.drew ?_ | refine Hb.ext (by assumption) ?_ | exact Hb.setSameL (by first | omega | (simp only [size_alloc, size_setB, size_drew]; omega)) | exact Hb.setSame (by assumption) | refine Hb.set (by first | omega | (simp only [size_alloc, size_setB, size_drew]; omega)) ?_ ))) (Ce.h (by first | assumption | exact ⟨rfl⟩)) ?_
        refine WO_call Hvac.call155 (by rfl) (Ret.mono (snap_spec C c v B (bb m) _ (VS.ext hM.vs (by repeat (first | assumption | exact Ext.refl _ | refine Ext.alloc ?_ _ | refine Ext.drew ?_ | refine Ext.setB ?_ (by first | omega | (simp only [size_alloc, size_setB, size_drew]; omega)) _ | exact Ext.trans (by assumption) (by assumption) | refine Ext.trans ?_ (by assumption))))) ?_)
        rintro _ w1 ⟨rfl, hR1⟩
        rw [hv1] at hR1 ⊢
        replace hR1 : VRet _ _ _ _ _ w1 y1 := hR1
        have hKv1 := VRet.kts (MS.ext hM (by repeat (first | assumption | exact Ext.refl _ | refine Ext.alloc ?_ _ | refine Ext.drew ?_ | refine Ext.setB ?_ (by first | omega | (simp only [size_alloc, size_setB, size_drew]; omega)) _ | exact Ext.trans (by assumption) (by assumption) | refine Ext.trans ?_ (by assumption)))).vs hR1
        have hk1 : KT 5 w w1 ∧ KT 28 w w1 := ⟨(KT.ext (by repeat (first | assumption | exact Ext.refl _ | refine Ext.alloc ?_ _ | refine Ext.drew ?_ | refine Ext.setB ?_ (by first | omega | (simp only [size_alloc, size_setB, size_drew]; omega)) _ | exact Ext.trans (by assumption) (by assumption) | refine Ext.trans ?_ (by assumption)))).trans hKv1.1, (KT.ext (by repeat (first | assumption | exact Ext.refl _ | refine Ext.alloc ?_ _ | refine Ext.drew ?_ | refine Ext.setB ?_ (by first | omega | (simp only [size_alloc, size_setB, size_drew]; omega)) _ | exact Ext.trans (by assumption) (by assumption) | refine Ext.trans ?_ (by assumption)))).trans hKv1.2⟩
        obtain ⟨c1, B1, hM1, hS1⟩ := (MS.ext hM (by repeat (first | assumption | exact Ext.refl _ | refine Ext.alloc ?_ _ | refine Ext.drew ?_ | refine Ext.setB ?_ (by first | omega | (simp only [size_alloc, size_setB, size_drew]; omega)) _ | exact Ext.trans (by assumption) (by assumption) | refine Ext.trans ?_ (by assumption)))).vret hR1
        have hz1 := hS1.keep.sz
        try simp only [size_alloc, size_setB, size_drew] at hz1
        have hb31 := hS1.hb (b := b3) (o := .cells (encF { g with depth := (tt : Int), sbase := (tt : Int) * 64, dests := scanW g.cb }).toArray 66 (0, 0)) (Hb.mk (Hb.h (by repeat (first | assumption | exact Hb.newY _ _ | refine Hb.alloc ?_ | refine Hb.drew ?_ | refine Hb.ext (by assumption) ?_ | exact Hb.setSameL (by first | omega | (simp only [size_alloc, size_setB, size_drew]; omega)) | exact Hb.setSame (by assumption) | refine Hb.set (by first | omega | (simp only [size_alloc, size_setB, size_drew]; omega)) ?_ )))) (hM.fresh (by omega))
        have hS1w := (MStep.ext (w := w) (C := C) (B := B) (m := m) (by repeat (first | assumption | exact Ext.refl _ | refine Ext.alloc ?_ _ | refine Ext.drew ?_ | refine Ext.setB ?_ (by first | omega | (simp only [size_alloc, size_setB, size_drew]; omega)) _ | exact Ext.trans (by assumption) (by assumption) | refine Ext.trans ?_ (by assumption)))).trans hS1
        have hblk1 := hM1.vs.blk
        have hcs1 := hM1.sz
        have hc_s1 := hM1.rep.s
        have hb_sz3 := (openFB hg3).bd
        refine WO_p (PS_fieldAddr 8 Hvac.runUnderlying66 rfl Hvac.sizeOf21 rfl rfl) ?_
        refine WO_store1 Hvac.sizeOf21 rfl (v := (.int _ _)) rfl (Hb.h (by repeat (first | assumption | exact Hb.newY _ _ | refine Hb.alloc ?_ | refine Hb.drew ?_ | refine Hb.ext (by assumption) ?_ | exact Hb.setSameL (by first | omega | (simp only [size_alloc, size_setB, size_drew]; omega)) | exact Hb.setSame (by assumption) | refine Hb.set (by first | omega | (simp only [size_alloc, size_setB, size_drew]; omega)) ?_ ))) rfl (by first | omega | assumption | rfl | decide | exact Nat.le_refl _ | (simp only [size_ic, Value.cells]; omega) | (simp; omega) | simp) rfl ?_
        refine WO_nil ?_
        refine thn_normal ?_
        refine W_seq ?_
        rw [fb_snap]
        have hb_snap : Ce (encF (g.at_ tt v.nmarks)).toArray (0 + 8) (.int .i32 v.nmarks) := hob4.snap
        have hb_kind : Ce (encF (g.at_ tt v.nmarks)).toArray (0 + 0) (.int .u8 g.kind) := hob4.kind
        have hb_self : Xt (encF (g.at_ tt v.nmarks)).toArray (0 + 9) (0 + 9 + 20) (ic .u8 g.self) := hob4.self
        have hb_caller : Xt (encF (g.at_ tt v.nmarks)).toArray (0 + 29) (0 + 29 + 20) (ic .u8 g.caller) := hob4.caller
        have hb_value : Xt (encF (g.at_ tt v.nmarks)).toArray (0 + 49) (0 + 49 + 4) (ic .u64 g.value) := hob4.value
        have hb_all : Xt (encF (g.at_ tt v.nmarks)).toArray 0 (0 + 65) (encF (g.at_ tt v.nmarks)).toArray := Xt.whole rfl (by have := encF_len hg4; simp only [List.size_toArray]; omega)
        have hb_sz4 := hob4.bd
        have hone := @one_encF (g.at_ tt v.nmarks)
        have hs4 : (Value.agg (encF (g.at_ tt v.nmarks)).toArray).cells.size = 65 := by have := encF_len hg4; simpa [Value.cells] using this
        change W _ _ _ _ _ (setB _ _ (.cells (encF (g.at_ tt v.nmarks)).toArray 66 (0, 0)))
        have hM1c := hM1.locT (y := (encF (g.at_ tt v.nmarks)).toArray) hb31 (by decide)
        have hS1c := hS1w.loc (b := b3) (by omega) (.cells (encF (g.at_ tt v.nmarks)).toArray 66 (0, 0))
        generalize hw1c : setB w1 b3 (.cells (encF (g.at_ tt v.nmarks)).toArray 66 (0, 0)) = w1c at hM1c hS1c ⊢
        have hk1c : ∀ T : TypeId, T ≠ 66 → KT T w1 w1c := fun T hT => by rw [← hw1c]; exact KT.setB hb31 hT
        have hb31c : Hb w1c b3 (.cells (encF (g.at_ tt v.nmarks)).toArray 66 (0, 0)) := by rw [← hw1c]; exact Hb.setSame hb31
        have hblk1c := hM1c.vs.blk
        have hz1c := hS1c.keep.sz
        clear hw1c
        refine W_region rfl ?_
        refine WO_p (PS_fieldAddr 8 Hvac.runUnderlying66 rfl Hvac.sizeOf21 rfl rfl) ?_
        refine WO_load (.int _ _) Hvac.isAgg21 rfl (Hb.h (by repeat (first | assumption | exact Hb.newY _ _ | refine Hb.alloc ?_ | refine Hb.drew ?_ | refine Hb.ext (by assumption) ?_ | exact Hb.setSameL (by first | omega | (simp only [size_alloc, size_setB, size_drew]; omega)) | exact Hb.setSame (by assumption) | refine Hb.set (by first | omega | (simp only [size_alloc, size_setB, size_drew]; omega)) ?_ ))) (Ce.h (by first | assumption | exact ⟨rfl⟩)) ?_
        refine WO_p (PS_geq rfl rfl) ?_
        refine WO_p (PS_move_bool rfl) ?_
        refine WO_if (t := 48) rfl (fun hb10 => ?_) (fun hb10 => ?_)
        · have hb10p := hb10.h; try simp only [al_ete, al_dfn, Bool.not_eq_true', Bool.not_eq_false', al_ne, Bool.not_not, al_nn] at hb10p
          refine WO_guardT rfl rfl hb10.h ?_
          refine WO_p (PS_move_ptr rfl) ?_
          refine WO_guardT rfl rfl hb10.h ?_
          refine WO_p (PS_nilCheck rfl) ?_
          refine WO_guardT rfl rfl hb10.h ?_
          refine WO_p (PS_fieldAddr 1 Hvac.runUnderlying70 rfl Hvac.sizeOf59 rfl rfl) ?_
          refine WO_guardT rfl rfl hb10.h ?_
          refine WO_call Hvac.call156 (by rfl) (Ret.mono (memEnter_ex C c1 y1 B1 m tt x _ (MS.ext hM1c (by repeat (first | assumption | exact Ext.refl _ | refine Ext.alloc ?_ _ | refine Ext.drew ?_ | refine Ext.setB ?_ (by first | omega | (simp only [size_alloc, size_setB, size_drew]; omega)) _ | exact Ext.trans (by assumption) (by assumption) | refine Ext.trans ?_ (by assumption)))) hP.mtY hP.tt6 hbx) ?_)
          rintro _ w2 ⟨rfl, hR2, hKE⟩
          have hk2 : KT 5 w w2 ∧ KT 28 w w2 := ⟨((hk1.1.trans (hk1c 5 (by decide))).trans (KT.ext (by repeat (first | assumption | exact Ext.refl _ | refine Ext.alloc ?_ _ | refine Ext.drew ?_ | refine Ext.setB ?_ (by first | omega | (simp only [size_alloc, size_setB, size_drew]; omega)) _ | exact Ext.trans (by assumption) (by assumption) | refine Ext.trans ?_ (by assumption))))).trans (KC.kt hKE (MS.ext hM1c (by repeat (first | assumption | exact Ext.refl _ | refine Ext.alloc ?_ _ | refine Ext.drew ?_ | refine Ext.setB ?_ (by first | omega | (simp only [size_alloc, size_setB, size_drew]; omega)) _ | exact Ext.trans (by assumption) (by assumption) | refine Ext.trans ?_ (by assumption)))).vs.blk (by decide)), ((hk1.2.trans (hk1c 28 (by decide))).trans (KT.ext (by repeat (first | assumption | exact Ext.refl _ | refine Ext.alloc ?_ _ | refine Ext.drew ?_ | refine Ext.setB ?_ (by first | omega | (simp only [size_alloc, size_setB, size_drew]; omega)) _ | exact Ext.trans (by assumption) (by assumption) | refine Ext.trans ?_ (by assumption))))).trans (KC.kt hKE (MS.ext hM1c (by repeat (first | assumption | exact Ext.refl _ | refine Ext.alloc ?_ _ | refine Ext.drew ?_ | refine Ext.setB ?_ (by first | omega | (simp only [size_alloc, size_setB, size_drew]; omega)) _ | exact Ext.trans (by assumption) (by assumption) | refine Ext.trans ?_ (by assumption)))).vs.blk (by decide))⟩
          obtain ⟨c2, B2, hM2, hS2⟩ := hR2
          have hz2 := hS2.keep.sz
          try simp only [size_alloc, size_setB, size_drew] at hz2
          have hS2w := hS1c.trans ((MStep.ext (by repeat (first | assumption | exact Ext.refl _ | refine Ext.alloc ?_ _ | refine Ext.drew ?_ | refine Ext.setB ?_ (by first | omega | (simp only [size_alloc, size_setB, size_drew]; omega)) _ | exact Ext.trans (by assumption) (by assumption) | refine Ext.trans ?_ (by assumption)))).trans hS2)
          have hb32 := MS.box (MS.ext hM1c (by repeat (first | assumption | exact Ext.refl _ | refine Ext.alloc ?_ _ | refine Ext.drew ?_ | refine Ext.setB ?_ (by first | omega | (simp only [size_alloc, size_setB, size_drew]; omega)) _ | exact Ext.trans (by assumption) (by assumption) | refine Ext.trans ?_ (by assumption)))) hS2 (b := b3) (r := (encF (g.at_ tt v.nmarks)).toArray) (T := 66) (fz := (0, 0)) (Hb.mk (Hb.h (by repeat (first | assumption | exact Hb.newY _ _ | refine Hb.alloc ?_ | refine Hb.drew ?_ | refine Hb.ext (by assumption) ?_ | exact Hb.setSameL (by first | omega | (simp only [size_alloc, size_setB, size_drew]; omega)) | exact Hb.setSame (by assumption) | refine Hb.set (by first | omega | (simp only [size_alloc, size_setB, size_drew]; omega)) ?_ )))) (by decide) (by decide)
          have hblk2 := hM2.vs.blk
          have hcs2 := hM2.sz
          have hc_s2 := hM2.rep.s
          refine WO_p (PS_pickT rfl hb10.h rfl) ?_
          refine WO_p (PS_assign_bool rfl) ?_
          refine WO_nil ?_
          refine thn_normal ?_
          refine W_seq ?_
          obtain ⟨hM3, hS3⟩ := (hM2.ext (Ext.drew (Ext.refl _))).put_frame (t := tt) (f := f0) hf0 (g.at_ tt v.nmarks) hg4 ⟨(BX.mstep hM hS2w hcode).ext (Ext.drew (Ext.refl _)), (BS.mstep hM hS2w hin).ext (Ext.drew (Ext.refl _))⟩
          have hS3w := hS2w.trans ((MStep.ext (Ext.drew (Ext.refl _))).trans hS3)
          refine W_drawE [false, false, false, false, false, false, false] hmix (by kernel_rfl) rfl ?_
          refine WH_p (PS_move_ptr rfl) rfl ?_
          refine WH_p (PS_move_int rfl) rfl ?_
          refine WH_loadA _ Hvac.isAgg66 Hvac.sizeOf66 rfl (Hb.h (by repeat (first | assumption | exact Hb.newY _ _ | refine Hb.alloc ?_ | refine Hb.drew ?_ | refine Hb.ext (by assumption) ?_ | exact Hb.setSameL (by first | omega | (simp only [size_alloc, size_setB, size_drew]; omega)) | exact Hb.setSame (by assumption) | refine Hb.set (by first | omega | (simp only [size_alloc, size_setB, size_drew]; omega)) ?_ ))) (by first | omega | assumption | rfl | decide | exact Nat.le_refl _ | (simp only [size_ic, Value.cells]; omega) | (simp; omega) | simp) (Xt.h (by first | assumption | exact Xt.whole rfl rfl | exact Xt.whole rfl (by assumption) | exact Xt.whole rfl (by simp only [size_ic, Value.cells]; omega) | exact ⟨rfl⟩)) ?_
          refine WH_p (PS_nilCheck rfl) rfl ?_
          refine WH_p (PS_fieldAddr 1803 Hvac.runUnderlying70 rfl Hvac.sizeOf67 rfl rfl) rfl ?_
          refine WH_p (PS_indexA Hvac.runUnderlying67 Hvac.sizeOf66 rfl rfl (by omega) (by omega)) rfl ?_
          first | refine WH_storeW Hvac.sizeOf66 rfl (v := .agg _) rfl (Hb.h (by repeat (first | assumption | exact Hb.newY _ _ | refine Hb.alloc ?_ | refine Hb.drew ?_ | refine Hb.ext (by assumption) ?_ | exact Hb.setSameL (by first | omega | (simp only [size_alloc, size_setB, size_drew]; omega)) | exact Hb.setSame (by assumption) | refine Hb.set (by first | omega | (simp only [size_alloc, size_setB, size_drew]; omega)) ?_ ))) rfl (by first | omega | assumption | rfl | decide | exact Nat.le_refl _ | (simp only [size_ic, Value.cells]; omega) | (simp; omega) | simp) (by first | omega | assumption | rfl | decide | exact Nat.le_refl _ | (simp only [size_ic, Value.cells]; omega) | (simp; omega) | simp) (by first | exact oneCell_ic | assumption | exact one_Ws2 _ | exact one_YA2 _ | exact one_YSl2 _ | exact one_YM2 _ | exact one_YT2 _ | exact one_L2 _) (fun h => by cases h) ?_ | refine WH_store Hvac.sizeOf66 rfl (v := .agg _) rfl (Hb.h (by repeat (first | assumption | exact Hb.newY _ _ | refine Hb.alloc ?_ | refine Hb.drew ?_ | refine Hb.ext (by assumption) ?_ | exact Hb.setSameL (by first | omega | (simp only [size_alloc, size_setB, size_drew]; omega)) | exact Hb.setSame (by assumption) | refine Hb.set (by first | omega | (simp only [size_alloc, size_setB, size_drew]; omega)) ?_ ))) (by first | omega | assumption | rfl | decide | exact Nat.le_refl _ | (simp only [size_ic, Value.cells]; omega) | (simp; omega) | simp) (by first | omega | assumption | rfl | decide | exact Nat.le_refl _ | (simp only [size_ic, Value.cells]; omega) | (simp; omega) | simp) (by first | exact oneCell_ic | assumption | exact one_Ws2 _ | exact one_YA2 _ | exact one_YSl2 _ | exact one_YM2 _ | exact one_YT2 _ | exact one_L2 _) (fun h => by cases h) ?_
          refine WH_nil ?_
          refine thn_normal ?_
          refine W_seq ?_
          obtain ⟨hM4, hS4⟩ := hM3.put_top (tt : Int) (by omega)
          have hblk3 := hM3.vs.blk
          have hcs3 := hM3.sz
          refine W_region rfl ?_
          refine WO_p (PS_move_ptr rfl) ?_
          refine WO_p (PS_move_int rfl) ?_
          refine WO_p (PS_conv_i8n Hvac.runUnderlying3 Hvac.runUnderlying68 rfl (by omega) (by omega)) ?_
          refine WO_p (PS_nilCheck rfl) ?_
          refine WO_p (PS_fieldAddr 2258 Hvac.runUnderlying70 rfl Hvac.sizeOf68 rfl rfl) ?_
          refine WO_store1 Hvac.sizeOf68 rfl (v := (.int _ _)) rfl (Hb.h (by repeat (first | assumption | exact Hb.newY _ _ | refine Hb.alloc ?_ | refine Hb.drew ?_ | refine Hb.ext (by assumption) ?_ | exact Hb.setSameL (by first | omega | (simp only [size_alloc, size_setB, size_drew]; omega)) | exact Hb.setSame (by assumption) | refine Hb.set (by first | omega | (simp only [size_alloc, size_setB, size_drew]; omega)) ?_ ))) rfl (by first | omega | assumption | rfl | decide | exact Nat.le_refl _ | (simp only [size_ic, Value.cells]; omega) | (simp; omega) | simp) rfl ?_
          refine WO_nil ?_
          refine thn_normal ?_
          refine W_seq ?_
          obtain ⟨hM5, hS5⟩ := hM4.put_phase 1 (by omega)
          have hblk4 := hM4.vs.blk
          have hcs4 := hM4.sz
          refine W_region rfl ?_
          refine WO_p (PS_move_ptr rfl) ?_
          refine WO_p (PS_nilCheck rfl) ?_
          refine WO_p (PS_fieldAddr 2404 Hvac.runUnderlying70 rfl Hvac.sizeOf5 rfl rfl) ?_
          refine WO_store1 Hvac.sizeOf5 rfl (v := (.int _ _)) rfl (Hb.h (by repeat (first | assumption | exact Hb.newY _ _ | refine Hb.alloc ?_ | refine Hb.drew ?_ | refine Hb.ext (by assumption) ?_ | exact Hb.setSameL (by first | omega | (simp only [size_alloc, size_setB, size_drew]; omega)) | exact Hb.setSame (by assumption) | refine Hb.set (by first | omega | (simp only [size_alloc, size_setB, size_drew]; omega)) ?_ ))) rfl (by first | omega | assumption | rfl | decide | exact Nat.le_refl _ | (simp only [size_ic, Value.cells]; omega) | (simp; omega) | simp) rfl ?_
          refine WO_nil ?_
          refine thn_normal ?_
          refine W_seqJ (fun ρ w' => ∃ c6 B6, Fr [(0, .pointer (some ⟨C, 0, none⟩)), (3, .pointer (some ⟨b3, 0, none⟩)), (6, .bool true)] ρ ∧ MS w' C c6 y1 B6 (m.enter tt x (g.at_ tt v.nmarks)) ∧ MStep w w' C B m B6 (m.enter tt x (g.at_ tt v.nmarks)) ∧ Hb w' b3 (.cells (encF (g.at_ tt v.nmarks)).toArray 66 (0, 0)) ∧ Rel w' y1 (m.enter tt x (g.at_ tt v.nmarks)) ({ y with ret := [], phase := 1 }, fs ++ [{ cf with saved := y.now }])) ?_ ?_
          · skip
            obtain ⟨hM6, hS6⟩ := hM5.put_ret (none, 0, 0) (Or.inl ⟨rfl, rfl⟩)
            have hblk5 := hM5.vs.blk
            have hcs5 := hM5.sz
            have hS6w := ((hS3w.trans hS4).trans hS5).trans hS6
            refine W_region rfl ?_
            refine WO_p (PS_move_ptr rfl) ?_
            refine WO_p (PS_nilCheck rfl) ?_
            refine WO_p (PS_fieldAddr 2259 Hvac.runUnderlying70 rfl Hvac.sizeOf32 rfl rfl) ?_
            refine WO_store1 Hvac.sizeOf32 rfl (v := (.slice _ _ _)) rfl (Hb.h (by repeat (first | assumption | exact Hb.newY _ _ | refine Hb.alloc ?_ | refine Hb.drew ?_ | refine Hb.ext (by assumption) ?_ | exact Hb.setSameL (by first | omega | (simp only [size_alloc, size_setB, size_drew]; omega)) | exact Hb.setSame (by assumption) | refine Hb.set (by first | omega | (simp only [size_alloc, size_setB, size_drew]; omega)) ?_ ))) rfl (by first | omega | assumption | rfl | decide | exact Nat.le_refl _ | (simp only [size_ic, Value.cells]; omega) | (simp; omega) | simp) rfl ?_
            refine WO_nil ?_
            refine thn_normal ?_
            exact ⟨_, _, ⟨rfl, rfl, rfl, trivial⟩, hM6, hS6w, Hb.mk (Hb.h (by repeat (first | assumption | exact Hb.newY _ _ | refine Hb.alloc ?_ | refine Hb.drew ?_ | refine Hb.ext (by assumption) ?_ | exact Hb.setSameL (by first | omega | (simp only [size_alloc, size_setB, size_drew]; omega)) | exact Hb.setSame (by assumption) | refine Hb.set (by first | omega | (simp only [size_alloc, size_setB, size_drew]; omega)) ?_ ))), Rel.ent hRl hM hM6 (hk2.1.trans (KC.kt (by repeat (first | exact KeepO.refl _ _ | refine KC.setC ?_ _ | refine KC.alloc ?_ _ | refine KC.drew ?_ | refine KC.ext ?_ (by assumption))) hblk2 (by decide))) (hk2.2.trans (KC.kt (by repeat (first | exact KeepO.refl _ _ | refine KC.setC ?_ _ | refine KC.alloc ?_ _ | refine KC.drew ?_ | refine KC.ext ?_ (by assumption))) hblk2 (by decide))) hv1 hcf htf hsnx hbx hP.vi hP.nm hin hP.tt6⟩
          · clear hob2 hb_code hob4 hg3 hg2 hg1 hb_sz hb_sz1 hb_sz2 hb_sz3
            rintro ρ w6 ⟨c6, B6, hFr6, hM6, hS6w, hb36, hRe6⟩
            refine W_env _ hFr6 ?_
            have hz6 := hS6w.keep.sz
            have hblk6 := hM6.vs.blk
            have hcs6 := hM6.sz
            have hc_s6 := hM6.rep.s
            refine W_seqJ (fun ρ w' => ∃ c9 B9 y9, Fr [(0, .pointer (some ⟨C, 0, none⟩)), (3, .pointer (some ⟨b3, 0, none⟩)), (6, .bool true)] ρ ∧ MS w' C c9 y9 B9 (m.enter tt x (g.at_ tt v.nmarks)) ∧ MStep w w' C B m B9 (m.enter tt x (g.at_ tt v.nmarks)) ∧ Hb w' b3 (.cells (encF (g.at_ tt v.nmarks)).toArray 66 (0, 0)) ∧ Adv v y9 (if makes g.kind = true then 2 else 0) 0 1 ∧ (∀ X, y9.bal X = v.bal X) ∧ sumW y9.sc.bals = sumW v.sc.bals ∧ Rel w' y9 (m.enter tt x (g.at_ tt v.nmarks)) ({ yentA y cf with ret := [], phase := 1 }, fs ++ [{ cf with saved := y.now }])) ?_ ?_
            · skip
              refine W_seq ?_
              refine W_region rfl ?_
              refine WO_p (PS_move_bool rfl) ?_
              refine WO_p (PS_move_bool rfl) ?_
              refine WO_if (t := 72) rfl (fun hb14 => ?_) (fun hb14 => ?_)
              · have hb14p := hb14.h; try simp only [al_ete, al_dfn, Bool.not_eq_true', Bool.not_eq_false', al_ne, Bool.not_not, al_nn] at hb14p
                refine WO_guardT rfl rfl hb14.h ?_
                refine WO_p (PS_fieldAddr 0 Hvac.runUnderlying66 rfl Hvac.sizeOf5 rfl rfl) ?_
                refine WO_guardT rfl rfl hb14.h ?_
                refine WO_load (.int _ _) Hvac.isAgg5 rfl (Hb.h (by repeat (first | assumption | exact Hb.newY _ _ | refine Hb.alloc ?_ | refine Hb.drew ?_ | refine Hb.ext (by assumption) ?_ | exact Hb.setSameL (by first | omega | (simp only [size_alloc, size_setB, size_drew]; omega)) | exact Hb.setSame (by assumption) | refine Hb.set (by first | omega | (simp only [size_alloc, size_setB, size_drew]; omega)) ?_ ))) (Ce.h (by first | assumption | exact ⟨rfl⟩)) ?_
                refine WO_guardT rfl rfl hb14.h ?_
                refine WO_call Hvac.call157 (by rfl) (Ret.mono (creates_spec _ _ hgty.kind) ?_)
                rintro _ w157_14 ⟨hE157_14, rfl⟩
                have hz157_14 := hE157_14.1
                try simp only [size_alloc, size_setB, size_drew] at hz157_14
                refine WO_p (PS_pickT rfl hb14.h rfl) ?_
                refine WO_nil ?_
                refine thn_normal ?_
                refine W_if rfl (fun hb16 => ?_) (fun hb16 => ?_)
                · have hb16p := hb16.h; try simp only [al_ete, al_dfn, Bool.not_eq_true', Bool.not_eq_false', al_ne, Bool.not_not, al_nn] at hb16p
                  have hmk : makes g.kind = true := by simpa using hb16p
                  refine W_drawT2 [false, false, false, false, false, false, true, false, false, false, false, false, false, false, false, false, false] (EnS C b3 (encF (g.at_ tt v.nmarks)).toArray) hmix (by kernel_rfl) rfl (EnS.of (MS.ext hM6 (by repeat (first | assumption | exact Ext.refl _ | refine Ext.alloc ?_ _ | refine Ext.drew ?_ | refine Ext.setB ?_ (by first | omega | (simp only [size_alloc, size_setB, size_drew]; omega)) _ | exact Ext.trans (by assumption) (by assumption) | refine Ext.trans ?_ (by assumption)))) (Hb.mk (Hb.h (by repeat (first | assumption | exact Hb.newY _ _ | refine Hb.alloc ?_ | refine Hb.drew ?_ | refine Hb.ext (by assumption) ?_ | exact Hb.setSameL (by first | omega | (simp only [size_alloc, size_setB, size_drew]; omega)) | exact Hb.setSame (by assumption) | refine Hb.set (by first | omega | (simp only [size_alloc, size_setB, size_drew]; omega)) ?_ ))))) ?_
                  intro hSt1
                  refine WH_p (PS_move_ptr rfl) rfl ?_
                  refine WH_p (PS_nilCheck rfl) rfl ?_
                  refine WH_p (PS_fieldAddr 0 Hvac.runUnderlying70 rfl Hvac.sizeOf55 rfl rfl) rfl ?_
                  refine WH_load0 (.pointer (some ⟨C, 2435, none⟩)) Hvac.isAgg55 rfl (fun w' hS => by obtain ⟨c', k1, k3⟩ := hS.ch; exact ⟨_, _, _, k1.h, k3.h⟩) ?_
                  refine WH_p (PS_fieldAddr 9 Hvac.runUnderlying66 rfl Hvac.sizeOf25 rfl rfl) rfl ?_
                  refine WH_loadA0 (ic .u8 g.self) Hvac.isAgg25 Hvac.sizeOf25 rfl (fun w' hS => ⟨_, _, _, hS.h3.h, by omega, hb_self.h⟩) ?_
                  refine WH_call Hvac.call63 (by rfl) (Ret.mono (putNonce_spec C _ y1 _ (bb m) g.self 1 _ (VS.ext hM6.vs (by repeat (first | assumption | exact Ext.refl _ | refine Ext.alloc ?_ _ | refine Ext.drew ?_ | refine Ext.setB ?_ (by first | omega | (simp only [size_alloc, size_setB, size_drew]; omega)) _ | exact Ext.trans (by assumption) (by assumption) | refine Ext.trans ?_ (by assumption)))) hgty.self (by omega)) ?_)
                  rintro _ w7 ⟨rfl, hR7⟩
                  obtain ⟨k7, a7, hset7⟩ := putNonce_go hadv1.vi (A := g.self) (n := 1) (Or.inl (hadv1.en _ hP.es)) (by have := hadv1.j; omega)
                  have ha7 := hset7.a0 (hadv1.en _ hP.es)
                  subst ha7
                  obtain ⟨y7, hv7⟩ : ∃ y7, y1.putNonce g.self 1 = (true, y7) := ⟨_, Prod.ext k7 rfl⟩
                  rw [hv7] at hR7 hset7 ⊢
                  replace hR7 : VRet _ _ _ _ _ w7 y7 := hR7
                  replace hset7 : SetA y1 g.self _ 0 y7 := hset7
                  have hx7 := putNonce_x hadv1.vi (A := g.self) (n := 1) (Or.inl (hadv1.en _ hP.es)) (by have := hadv1.j; omega)
                  rw [hv7] at hx7
                  have hKv7 := VRet.kts (MS.ext hM6 (by repeat (first | assumption | exact Ext.refl _ | refine Ext.alloc ?_ _ | refine Ext.drew ?_ | refine Ext.setB ?_ (by first | omega | (simp only [size_alloc, size_setB, size_drew]; omega)) _ | exact Ext.trans (by assumption) (by assumption) | refine Ext.trans ?_ (by assumption)))).vs hR7
                  have hRe7 := hRe6.vgo hM6 hadv1.vi ((KT.ext (by repeat (first | assumption | exact Ext.refl _ | refine Ext.alloc ?_ _ | refine Ext.drew ?_ | refine Ext.setB ?_ (by first | omega | (simp only [size_alloc, size_setB, size_drew]; omega)) _ | exact Ext.trans (by assumption) (by assumption) | refine Ext.trans ?_ (by assumption)))).trans hKv7.1) ((KT.ext (by repeat (first | assumption | exact Ext.refl _ | refine Ext.alloc ?_ _ | refine Ext.drew ?_ | refine Ext.setB ?_ (by first | omega | (simp only [size_alloc, size_setB, size_drew]; omega)) _ | exact Ext.trans (by assumption) (by assumption) | refine Ext.trans ?_ (by assumption)))).trans hKv7.2) hx7.vk (fun rd h => hx7.putNonce h (k := 1) rfl) (ent_sn hsnx htf hf0 (by rw [hadv1.nm]; rfl) hnm.1)
                  obtain ⟨c7, B7, hM7, hS7⟩ := (MS.ext hM6 (by repeat (first | assumption | exact Ext.refl _ | refine Ext.alloc ?_ _ | refine Ext.drew ?_ | refine Ext.setB ?_ (by first | omega | (simp only [size_alloc, size_setB, size_drew]; omega)) _ | exact Ext.trans (by assumption) (by assumption) | refine Ext.trans ?_ (by assumption)))).vret hR7
                  have hz7 := hS7.keep.sz
                  try simp only [size_alloc, size_setB, size_drew] at hz7
                  have hb37 := MS.box (MS.ext hM6 (by repeat (first | assumption | exact Ext.refl _ | refine Ext.alloc ?_ _ | refine Ext.drew ?_ | refine Ext.setB ?_ (by first | omega | (simp only [size_alloc, size_setB, size_drew]; omega)) _ | exact Ext.trans (by assumption) (by assumption) | refine Ext.trans ?_ (by assumption)))) hS7 (b := b3) (r := (encF (g.at_ tt v.nmarks)).toArray) (T := 66) (fz := (0, 0)) (Hb.mk (Hb.h (by repeat (first | assumption | exact Hb.newY _ _ | refine Hb.alloc ?_ | refine Hb.drew ?_ | refine Hb.ext (by assumption) ?_ | exact Hb.setSameL (by first | omega | (simp only [size_alloc, size_setB, size_drew]; omega)) | exact Hb.setSame (by assumption) | refine Hb.set (by first | omega | (simp only [size_alloc, size_setB, size_drew]; omega)) ?_ )))) (by decide) (by decide)
                  refine ⟨fun _ => EnS.of hM7 hb37, ?_⟩
                  have hblk7 := hM7.vs.blk
                  have hcs7 := hM7.sz
                  have hc_s7 := hM7.rep.s
                  refine WH_p (PS_move_bool rfl) rfl ?_
                  refine WH_if (t := 84) rfl (fun hb19 => ?_) (fun hb19 => ?_)
                  · have hb19p := hb19.h; try simp only [al_ete, al_dfn, Bool.not_eq_true', Bool.not_eq_false', al_ne, Bool.not_not, al_nn] at hb19p
                    refine WH_guardT rfl rfl hb19.h ?_
                    refine WH_p (PS_move_ptr rfl) rfl ?_
                    refine WH_guardT rfl rfl hb19.h ?_
                    refine WH_p (PS_nilCheck rfl) rfl ?_
                    refine WH_guardT rfl rfl hb19.h ?_
                    refine WH_p (PS_fieldAddr 0 Hvac.runUnderlying70 rfl Hvac.sizeOf55 rfl rfl) rfl ?_
                    refine WH_guardT rfl rfl hb19.h ?_
                    refine WH_load0 (.pointer (some ⟨C, 2435, none⟩)) Hvac.isAgg55 rfl (fun w' hS => by obtain ⟨c', k1, k3⟩ := hS.ch; exact ⟨_, _, _, k1.h, k3.h⟩) ?_
                    refine WH_guardT rfl rfl hb19.h ?_
                    refine WH_p (PS_fieldAddr 9 Hvac.runUnderlying66 rfl Hvac.sizeOf25 rfl rfl) rfl ?_
                    refine WH_guardT rfl rfl hb19.h ?_
                    refine WH_loadA0 (ic .u8 g.self) Hvac.isAgg25 Hvac.sizeOf25 rfl (fun w' hS => ⟨_, _, _, hS.h3.h, by omega, hb_self.h⟩) ?_
                    refine WH_guardT rfl rfl hb19.h ?_
                    refine WH_call Hvac.call158 (by rfl) (Ret.mono (markMade_spec C _ y7 _ (bb m) g.self _ (VS.ext hM7.vs (by repeat (first | assumption | exact Ext.refl _ | refine Ext.alloc ?_ _ | refine Ext.drew ?_ | refine Ext.setB ?_ (by first | omega | (simp only [size_alloc, size_setB, size_drew]; omega)) _ | exact Ext.trans (by assumption) (by assumption) | refine Ext.trans ?_ (by assumption)))) hgty.self) ?_)
                    rintro _ w8 ⟨rfl, hR8⟩
                    obtain ⟨k8, a8, hset8⟩ := markMade_go hset7.go.inv (A := g.self) (Or.inl (hset7.go.ent _ (hadv1.en _ hP.es))) (by have := hadv1.j; have := hset7.go.j; omega)
                    have ha8 := hset8.a0 (hset7.go.ent _ (hadv1.en _ hP.es))
                    subst ha8
                    obtain ⟨y8, hv8⟩ : ∃ y8, y7.markMade g.self = (true, y8) := ⟨_, Prod.ext k8 rfl⟩
                    rw [hv8] at hR8 hset8 ⊢
                    replace hR8 : VRet _ _ _ _ _ w8 y8 := hR8
                    replace hset8 : SetA y7 g.self _ 0 y8 := hset8
                    have hx8 := markMade_x hset7.go.inv (A := g.self) (Or.inl (hset7.go.ent _ (hadv1.en _ hP.es))) (by have := hadv1.j; have := hset7.go.j; omega)
                    rw [hv8] at hx8
                    have hKv8 := VRet.kts (MS.ext hM7 (by repeat (first | assumption | exact Ext.refl _ | refine Ext.alloc ?_ _ | refine Ext.drew ?_ | refine Ext.setB ?_ (by first | omega | (simp only [size_alloc, size_setB, size_drew]; omega)) _ | exact Ext.trans (by assumption) (by assumption) | refine Ext.trans ?_ (by assumption)))).vs hR8
                    have hRe8 := hRe7.vgo hM7 hset7.go.inv ((KT.ext (by repeat (first | assumption | exact Ext.refl _ | refine Ext.alloc ?_ _ | refine Ext.drew ?_ | refine Ext.setB ?_ (by first | omega | (simp only [size_alloc, size_setB, size_drew]; omega)) _ | exact Ext.trans (by assumption) (by assumption) | refine Ext.trans ?_ (by assumption)))).trans hKv8.1) ((KT.ext (by repeat (first | assumption | exact Ext.refl _ | refine Ext.alloc ?_ _ | refine Ext.drew ?_ | refine Ext.setB ?_ (by first | omega | (simp only [size_alloc, size_setB, size_drew]; omega)) _ | exact Ext.trans (by assumption) (by assumption) | refine Ext.trans ?_ (by assumption)))).trans hKv8.2) hx8.vk (fun rd h => hx8.markMade h) (ent_sn hsnx htf hf0 (by rw [hset7.go.nm, hadv1.nm]; rfl) hnm.1)
                    obtain ⟨c8, B8, hM8, hS8⟩ := (MS.ext hM7 (by repeat (first | assumption | exact Ext.refl _ | refine Ext.alloc ?_ _ | refine Ext.drew ?_ | refine Ext.setB ?_ (by first | omega | (simp only [size_alloc, size_setB, size_drew]; omega)) _ | exact Ext.trans (by assumption) (by assumption) | refine Ext.trans ?_ (by assumption)))).vret hR8
                    have hz8 := hS8.keep.sz
                    try simp only [size_alloc, size_setB, size_drew] at hz8
                    have hb38 := MS.box (MS.ext hM7 (by repeat (first | assumption | exact Ext.refl _ | refine Ext.alloc ?_ _ | refine Ext.drew ?_ | refine Ext.setB ?_ (by first | omega | (simp only [size_alloc, size_setB, size_drew]; omega)) _ | exact Ext.trans (by assumption) (by assumption) | refine Ext.trans ?_ (by assumption)))) hS8 (b := b3) (r := (encF (g.at_ tt v.nmarks)).toArray) (T := 66) (fz := (0, 0)) (Hb.mk (Hb.h (by repeat (first | assumption | exact Hb.newY _ _ | refine Hb.alloc ?_ | refine Hb.drew ?_ | refine Hb.ext (by assumption) ?_ | exact Hb.setSameL (by first | omega | (simp only [size_alloc, size_setB, size_drew]; omega)) | exact Hb.setSame (by assumption) | refine Hb.set (by first | omega | (simp only [size_alloc, size_setB, size_drew]; omega)) ?_ )))) (by decide) (by decide)
                    refine ⟨fun _ => EnS.of hM8 hb38, ?_⟩
                    have hadv8 : Adv v y8 (if makes g.kind = true then 2 else 0) 0 1 := by rw [if_pos hmk]; exact ((hadv1.trans (hset7.adv rfl)).trans (hset8.adv rfl)).weak (by omega) (by omega)
                    refine WH_p (PS_pickT rfl hb19.h rfl) rfl ?_
                    refine WH_p (PS_assign_bool rfl) rfl ?_
                    refine WH_nil ?_
                    refine thn_normal ?_
                    exact ⟨c8, B8, y8, ⟨rfl, rfl, rfl, trivial⟩, hM8, (hS6w.trans ((MStep.ext (by repeat (first | assumption | exact Ext.refl _ | refine Ext.alloc ?_ _ | refine Ext.drew ?_ | refine Ext.setB ?_ (by first | omega | (simp only [size_alloc, size_setB, size_drew]; omega)) _ | exact Ext.trans (by assumption) (by assumption) | refine Ext.trans ?_ (by assumption)))).trans hS7)).trans ((MStep.ext (by repeat (first | assumption | exact Ext.refl _ | refine Ext.alloc ?_ _ | refine Ext.drew ?_ | refine Ext.setB ?_ (by first | omega | (simp only [size_alloc, size_setB, size_drew]; omega)) _ | exact Ext.trans (by assumption) (by assumption) | refine Ext.trans ?_ (by assumption)))).trans hS8), hb38, hadv8, fun X => by rw [(hset8.bals rfl).1, (hset7.bals rfl).1, hbal1], by rw [(hset8.bals rfl).2, (hset7.bals rfl).2, hsc1], by rw [entA_y hcf hmk]; exact hRe8⟩
                  · have hb19p := hb19.h; try simp only [al_ete, al_dfn, Bool.not_eq_true', Bool.not_eq_false', al_ne, Bool.not_not, al_nn] at hb19p
                    simp at hb19p --END
                · have hb16p := hb16.h; try simp only [al_ete, al_dfn, Bool.not_eq_true', Bool.not_eq_false', al_ne, Bool.not_not, al_nn] at hb16p
                  have hmk : makes g.kind = false := by simpa using hb16p
                  refine W_skip ?_
                  refine thn_normal ?_
                  exact ⟨_, _, y1, ⟨rfl, rfl, rfl, trivial⟩, MS.ext hM6 (by repeat (first | assumption | exact Ext.refl _ | refine Ext.alloc ?_ _ | refine Ext.drew ?_ | refine Ext.setB ?_ (by first | omega | (simp only [size_alloc, size_setB, size_drew]; omega)) _ | exact Ext.trans (by assumption) (by assumption) | refine Ext.trans ?_ (by assumption))), hS6w.trans (MStep.ext (by repeat (first | assumption | exact Ext.refl _ | refine Ext.alloc ?_ _ | refine Ext.drew ?_ | refine Ext.setB ?_ (by first | omega | (simp only [size_alloc, size_setB, size_drew]; omega)) _ | exact Ext.trans (by assumption) (by assumption) | refine Ext.trans ?_ (by assumption)))), Hb.mk (Hb.h (by repeat (first | assumption | exact Hb.newY _ _ | refine Hb.alloc ?_ | refine Hb.drew ?_ | refine Hb.ext (by assumption) ?_ | exact Hb.setSameL (by first | omega | (simp only [size_alloc, size_setB, size_drew]; omega)) | exact Hb.setSame (by assumption) | refine Hb.set (by first | omega | (simp only [size_alloc, size_setB, size_drew]; omega)) ?_ ))), hadv1.weak (by omega) (by omega), hbal1, by rw [hsc1], by rw [entA_n hcf hmk]; exact hRe6.ext hM6 (by repeat (first | assumption | exact Ext.refl _ | refine Ext.alloc ?_ _ | refine Ext.drew ?_ | refine Ext.setB ?_ (by first | omega | (simp only [size_alloc, size_setB, size_drew]; omega)) _ | exact Ext.trans (by assumption) (by assumption) | refine Ext.trans ?_ (by assumption)))⟩
              · have hb14p := hb14.h; try simp only [al_ete, al_dfn, Bool.not_eq_true', Bool.not_eq_false', al_ne, Bool.not_not, al_nn] at hb14p
                simp at hb14p --END
            · rintro ρ w9 ⟨c9, B9, y9, hFr9, hM9, hS9w, hb39, hadv9, hbal9, hsum9, hRe9⟩
              refine W_env _ hFr9 ?_
              have hz9 := hS9w.keep.sz
              have hblk9 := hM9.vs.blk
              have hcs9 := hM9.sz
              refine W_seqJ (fun ρ w' => ∃ c11 B11 y11, Fr [(0, .pointer (some ⟨C, 0, none⟩)), (6, .bool true)] ρ ∧ MS w' C c11 y11 B11 (m.enter tt x (g.at_ tt v.nmarks)) ∧ MStep w w' C B m B11 (m.enter tt x (g.at_ tt v.nmarks)) ∧ Adv v y11 (if makes g.kind = true then 4 else 2) 0 1 ∧ Rel w' y11 (m.enter tt x (g.at_ tt v.nmarks)) ({ yentB (yentA y cf) cf with ret := [], phase := 1 }, fs ++ [{ cf with saved := y.now }])) ?_ ?_
              · skip
                refine W_seq ?_
                refine W_region rfl ?_
                refine WO_p (PS_move_bool rfl) ?_
                refine WO_p (PS_move_bool rfl) ?_
                refine WO_if (t := 94) rfl (fun hb23 => ?_) (fun hb23 => ?_)
                · have hb23p := hb23.h; try simp only [al_ete, al_dfn, Bool.not_eq_true', Bool.not_eq_false', al_ne, Bool.not_not, al_nn] at hb23p
                  refine WO_guardT rfl rfl hb23.h ?_
                  refine WO_p (PS_fieldAddr 0 Hvac.runUnderlying66 rfl Hvac.sizeOf5 rfl rfl) ?_
                  refine WO_guardT rfl rfl hb23.h ?_
                  refine WO_load (.int _ _) Hvac.isAgg5 rfl (Hb.h (by repeat (first | assumption | exact Hb.newY _ _ | refine Hb.alloc ?_ | refine Hb.drew ?_ | refine Hb.ext (by assumption) ?_ | exact Hb.setSameL (by first | omega | (simp only [size_alloc, size_setB, size_drew]; omega)) | exact Hb.setSame (by assumption) | refine Hb.set (by first | omega | (simp only [size_alloc, size_setB, size_drew]; omega)) ?_ ))) (Ce.h (by first | assumption | exact ⟨rfl⟩)) ?_
                  refine WO_guardT rfl rfl hb23.h ?_
                  refine WO_p (PS_neq rfl rfl) ?_
                  refine WO_p (PS_pickT rfl hb23.h rfl) ?_
                  refine WO_p (PS_move_bool rfl) ?_
                  refine WO_if (t := 99) rfl (fun hb25 => ?_) (fun hb25 => ?_)
                  · have hb25p := hb25.h; try simp only [al_ete, al_dfn, Bool.not_eq_true', Bool.not_eq_false', al_ne, Bool.not_not, al_nn] at hb25p
                    have hk3 : g.kind ≠ 3 := by simpa using hb25p
                    refine WO_guardT rfl rfl hb25.h ?_
                    refine WO_p (PS_fieldAddr 0 Hvac.runUnderlying66 rfl Hvac.sizeOf5 rfl rfl) ?_
                    refine WO_guardT rfl rfl hb25.h ?_
                    refine WO_load (.int _ _) Hvac.isAgg5 rfl (Hb.h (by repeat (first | assumption | exact Hb.newY _ _ | refine Hb.alloc ?_ | refine Hb.drew ?_ | refine Hb.ext (by assumption) ?_ | exact Hb.setSameL (by first | omega | (simp only [size_alloc, size_setB, size_drew]; omega)) | exact Hb.setSame (by assumption) | refine Hb.set (by first | omega | (simp only [size_alloc, size_setB, size_drew]; omega)) ?_ ))) (Ce.h (by first | assumption | exact ⟨rfl⟩)) ?_
                    refine WO_guardT rfl rfl hb25.h ?_
                    refine WO_p (PS_neq rfl rfl) ?_
                    refine WO_p (PS_pickT rfl hb25.h rfl) ?_
                    refine WO_nil ?_
                    refine thn_normal ?_
                    refine W_if rfl (fun hb27 => ?_) (fun hb27 => ?_)
                    · have hb27p := hb27.h; try simp only [al_ete, al_dfn, Bool.not_eq_true', Bool.not_eq_false', al_ne, Bool.not_not, al_nn] at hb27p
                      have hk7 : g.kind ≠ 7 := by simpa using hb27p
                      refine W_region rfl ?_
                      refine WO_p (PS_move_ptr rfl) ?_
                      refine WO_p (PS_fieldAddr 29 Hvac.runUnderlying66 rfl Hvac.sizeOf25 rfl rfl) ?_
                      refine WO_loadA _ Hvac.isAgg25 Hvac.sizeOf25 rfl (Hb.h (by repeat (first | assumption | exact Hb.newY _ _ | refine Hb.alloc ?_ | refine Hb.drew ?_ | refine Hb.ext (by assumption) ?_ | exact Hb.setSameL (by first | omega | (simp only [size_alloc, size_setB, size_drew]; omega)) | exact Hb.setSame (by assumption) | refine Hb.set (by first | omega | (simp only [size_alloc, size_setB, size_drew]; omega)) ?_ ))) (by first | omega | assumption | rfl | decide | exact Nat.le_refl _ | (simp only [size_ic, Value.cells]; omega) | (simp; omega) | simp) (Xt.h (by first | assumption | exact Xt.whole rfl rfl | exact Xt.whole rfl (by assumption) | exact Xt.whole rfl (by simp only [size_ic, Value.cells]; omega) | exact ⟨rfl⟩)) ?_
                      refine WO_p (PS_fieldAddr 9 Hvac.runUnderlying66 rfl Hvac.sizeOf25 rfl rfl) ?_
                      refine WO_loadA _ Hvac.isAgg25 Hvac.sizeOf25 rfl (Hb.h (by repeat (first | assumption | exact Hb.newY _ _ | refine Hb.alloc ?_ | refine Hb.drew ?_ | refine Hb.ext (by assumption) ?_ | exact Hb.setSameL (by first | omega | (simp only [size_alloc, size_setB, size_drew]; omega)) | exact Hb.setSame (by assumption) | refine Hb.set (by first | omega | (simp only [size_alloc, size_setB, size_drew]; omega)) ?_ ))) (by first | omega | assumption | rfl | decide | exact Nat.le_refl _ | (simp only [size_ic, Value.cells]; omega) | (simp; omega) | simp) (Xt.h (by first | assumption | exact Xt.whole rfl rfl | exact Xt.whole rfl (by assumption) | exact Xt.whole rfl (by simp only [size_ic, Value.cells]; omega) | exact ⟨rfl⟩)) ?_
                      refine WO_p (PS_fieldAddr 49 Hvac.runUnderlying66 rfl Hvac.sizeOf61 rfl rfl) ?_
                      refine WO_loadA _ Hvac.isAgg61 Hvac.sizeOf61 rfl (Hb.h (by repeat (first | assumption | exact Hb.newY _ _ | refine Hb.alloc ?_ | refine Hb.drew ?_ | refine Hb.ext (by assumption) ?_ | exact Hb.setSameL (by first | omega | (simp only [size_alloc, size_setB, size_drew]; omega)) | exact Hb.setSame (by assumption) | refine Hb.set (by first | omega | (simp only [size_alloc, size_setB, size_drew]; omega)) ?_ ))) (by first | omega | assumption | rfl | decide | exact Nat.le_refl _ | (simp only [size_ic, Value.cells]; omega) | (simp; omega) | simp) (Xt.h (by first | assumption | exact Xt.whole rfl rfl | exact Xt.whole rfl (by assumption) | exact Xt.whole rfl (by simp only [size_ic, Value.cells]; omega) | exact ⟨rfl⟩)) ?_
                      refine WO_call Hvac.call159 (by rfl) (Ret.mono (move_ex C c9 y9 B9 (m.enter tt x (g.at_ tt v.nmarks)) g.caller g.self g.value _ (MS.ext hM9 (by repeat (first | assumption | exact Ext.refl _ | refine Ext.alloc ?_ _ | refine Ext.drew ?_ | refine Ext.setB ?_ (by first | omega | (simp only [size_alloc, size_setB, size_drew]; omega)) _ | exact Ext.trans (by assumption) (by assumption) | refine Ext.trans ?_ (by assumption)))) hgty.caller hgty.self hgty.value hadv9.vi (by have := hadv9.j; split at this <;> omega) (hadv9.en _ (hP.ec hk3 hk7)) (hadv9.en _ hP.es) (by rw [hbal9]; exact hP.le hk3 hk7) (by rw [hsum9]; exact hP.sum)) ?_)
                      rintro _ w10 ⟨rfl, y10, ⟨c10, B10, hM10, hS10⟩, hcalm, hK10, hvk10, hvr10⟩
                      have hz10 := hS10.keep.sz
                      have hRe10 := hRe9.vgo hM9 hadv9.vi ((KT.ext (by repeat (first | assumption | exact Ext.refl _ | refine Ext.alloc ?_ _ | refine Ext.drew ?_ | refine Ext.setB ?_ (by first | omega | (simp only [size_alloc, size_setB, size_drew]; omega)) _ | exact Ext.trans (by assumption) (by assumption) | refine Ext.trans ?_ (by assumption)))).trans hK10.1) ((KT.ext (by repeat (first | assumption | exact Ext.refl _ | refine Ext.alloc ?_ _ | refine Ext.drew ?_ | refine Ext.setB ?_ (by first | omega | (simp only [size_alloc, size_setB, size_drew]; omega)) _ | exact Ext.trans (by assumption) (by assumption) | refine Ext.trans ?_ (by assumption)))).trans hK10.2) hvk10 (fun rd h => hvr10 rd _ h) (ent_sn hsnx htf hf0 (by rw [hadv9.nm]; rfl) hnm.1)
                      refine WO_p (PS_assign_bool rfl) ?_
                      refine WO_nil ?_
                      refine thn_normal ?_
                      exact ⟨c10, B10, y10, ⟨rfl, rfl, trivial⟩, hM10, hS9w.trans ((MStep.ext (by repeat (first | assumption | exact Ext.refl _ | refine Ext.alloc ?_ _ | refine Ext.drew ?_ | refine Ext.setB ?_ (by first | omega | (simp only [size_alloc, size_setB, size_drew]; omega)) _ | exact Ext.trans (by assumption) (by assumption) | refine Ext.trans ?_ (by assumption)))).trans hS10), (hadv9.calm hcalm).weak (by split <;> omega) (by omega), by rw [entB_y hcf hk3 hk7]; exact hRe10⟩
                    · have hb27p := hb27.h; try simp only [al_ete, al_dfn, Bool.not_eq_true', Bool.not_eq_false', al_ne, Bool.not_not, al_nn] at hb27p
                      have hkB : g.kind = 3 ∨ g.kind = 7 := Or.inr (by simpa using hb27p)
                      refine W_skip ?_
                      refine thn_normal ?_
                      exact ⟨c9, B9, y9, ⟨rfl, rfl, trivial⟩, MS.ext hM9 (by repeat (first | assumption | exact Ext.refl _ | refine Ext.alloc ?_ _ | refine Ext.drew ?_ | refine Ext.setB ?_ (by first | omega | (simp only [size_alloc, size_setB, size_drew]; omega)) _ | exact Ext.trans (by assumption) (by assumption) | refine Ext.trans ?_ (by assumption))), hS9w.trans (MStep.ext (by repeat (first | assumption | exact Ext.refl _ | refine Ext.alloc ?_ _ | refine Ext.drew ?_ | refine Ext.setB ?_ (by first | omega | (simp only [size_alloc, size_setB, size_drew]; omega)) _ | exact Ext.trans (by assumption) (by assumption) | refine Ext.trans ?_ (by assumption)))), hadv9.weak (by split <;> omega) (by omega), by rw [entB_no hcf hkB]; exact hRe9.ext hM9 (by repeat (first | assumption | exact Ext.refl _ | refine Ext.alloc ?_ _ | refine Ext.drew ?_ | refine Ext.setB ?_ (by first | omega | (simp only [size_alloc, size_setB, size_drew]; omega)) _ | exact Ext.trans (by assumption) (by assumption) | refine Ext.trans ?_ (by assumption)))⟩
                  · have hb25p := hb25.h; try simp only [al_ete, al_dfn, Bool.not_eq_true', Bool.not_eq_false', al_ne, Bool.not_not, al_nn] at hb25p
                    have hkB : g.kind = 3 ∨ g.kind = 7 := Or.inl (by simpa using hb25p)
                    refine WO_guardF rfl rfl hb25.h ?_
                    refine WO_guardF rfl rfl hb25.h ?_
                    refine WO_guardF rfl rfl hb25.h ?_
                    refine WO_p (PS_pickF rfl hb25.h rfl) ?_
                    refine WO_nil ?_
                    refine thn_normal ?_
                    refine W_condF rfl rfl ?_
                    refine W_skip ?_
                    refine thn_normal ?_
                    exact ⟨c9, B9, y9, ⟨rfl, rfl, trivial⟩, MS.ext hM9 (by repeat (first | assumption | exact Ext.refl _ | refine Ext.alloc ?_ _ | refine Ext.drew ?_ | refine Ext.setB ?_ (by first | omega | (simp only [size_alloc, size_setB, size_drew]; omega)) _ | exact Ext.trans (by assumption) (by assumption) | refine Ext.trans ?_ (by assumption))), hS9w.trans (MStep.ext (by repeat (first | assumption | exact Ext.refl _ | refine Ext.alloc ?_ _ | refine Ext.drew ?_ | refine Ext.setB ?_ (by first | omega | (simp only [size_alloc, size_setB, size_drew]; omega)) _ | exact Ext.trans (by assumption) (by assumption) | refine Ext.trans ?_ (by assumption)))), hadv9.weak (by split <;> omega) (by omega), by rw [entB_no hcf hkB]; exact hRe9.ext hM9 (by repeat (first | assumption | exact Ext.refl _ | refine Ext.alloc ?_ _ | refine Ext.drew ?_ | refine Ext.setB ?_ (by first | omega | (simp only [size_alloc, size_setB, size_drew]; omega)) _ | exact Ext.trans (by assumption) (by assumption) | refine Ext.trans ?_ (by assumption)))⟩
                · have hb23p := hb23.h; try simp only [al_ete, al_dfn, Bool.not_eq_true', Bool.not_eq_false', al_ne, Bool.not_not, al_nn] at hb23p
                  simp at hb23p --END
              · rintro ρ w11 ⟨c11, B11, y11, hFr11, hM11, hS11w, hadv11, hRe11⟩
                refine W_env _ hFr11 ?_
                refine W_seq ?_
                refine W_seq ?_
                refine W_region rfl ?_
                refine WO_p (PS_move_bool rfl) ?_
                refine WO_p (PS_not rfl) ?_
                refine WO_nil ?_
                refine thn_normal ?_
                refine W_if rfl (fun hb32 => ?_) (fun hb32 => ?_)
                · have hb32p := hb32.h; try simp only [al_ete, al_dfn, Bool.not_eq_true', Bool.not_eq_false', al_ne, Bool.not_not, al_nn] at hb32p
                  simp at hb32p --END
                · have hb32p := hb32.h; try simp only [al_ete, al_dfn, Bool.not_eq_true', Bool.not_eq_false', al_ne, Bool.not_not, al_nn] at hb32p
                  refine W_skip ?_
                  refine thn_normal ?_
                  refine W_seq ?_
                  refine W_region rfl ?_
                  refine WO_p (PS_move_bool rfl) ?_
                  refine WO_p (PS_assign_bool rfl) ?_
                  refine WO_nil ?_
                  refine thn_normal ?_
                  refine W_ret ?_
                  refine bodyQ_ret1 Hvac.results73 rfl (.bool _) rfl ?_
                  exact ⟨x, y11, hbx, ⟨c11, B11, MS.ext hM11 (by repeat (first | assumption | exact Ext.refl _ | refine Ext.alloc ?_ _ | refine Ext.drew ?_ | refine Ext.setB ?_ (by first | omega | (simp only [size_alloc, size_setB, size_drew]; omega)) _ | refine Ext.trans ?_ (by assumption))), hS11w.trans (MStep.ext (by repeat (first | assumption | exact Ext.refl _ | refine Ext.alloc ?_ _ | refine Ext.drew ?_ | refine Ext.setB ?_ (by first | omega | (simp only [size_alloc, size_setB, size_drew]; omega)) _ | refine Ext.trans ?_ (by assumption))))⟩, hadv11, hRe11.ext hM11 (by repeat (first | assumption | exact Ext.refl _ | refine Ext.alloc ?_ _ | refine Ext.drew ?_ | refine Ext.setB ?_ (by first | omega | (simp only [size_alloc, size_setB, size_drew]; omega)) _ | refine Ext.trans ?_ (by assumption)))⟩
        · have hb10p := hb10.h; try simp only [al_ete, al_dfn, Bool.not_eq_true', Bool.not_eq_false', al_ne, Bool.not_not, al_nn] at hb10p
          omega --END

end Go.Proofs.YgvacwGreat
