import Derived.Test.YgvacwGreatFi
import Derived.Test.YgvacwGreatOr
import Derived.Test.YgvacwGreatHr
namespace Go.Proofs.YgvacwGreat
set_option linter.unusedSimpArgs false
set_option linter.unusedVariables false
theorem VR.takenV [Om] {w : World} {C : Nat} {c : Array Value} {v : V} {B : VB} {β : Option Nat} {p : PW} (h : VR (rdB w) v.sx p) (hV : VS w C c v B β) (hv : VInv v) (A : List Int) : takenW v A = ytaken p.accts A := by
  have h1 := h.nonceV hv A
  have h2 := h.codeV hv A
  have hb := ac_code_bs hV hv A
  have hl : (rdB w (v.acY A).code).length = (v.acY A).code.2.1 := hb.rd.len
  rw [h2] at hl
  rw [ac_nonce] at h1
  unfold takenW ytaken
  rw [h1, ← hl]
  simp only [al_dd]
  omega
theorem Rel.setf0 {w : World} {v : V} {m : Mc} {y : PSt} {rest : List PF} {g : PF} {t : Nat} {f f' : Fm} (h : Rel w v m (y, rest ++ [g])) (hst : m.stack.length = 448) (hI : MI m t) (hf : m.frames[t]? = some f) {a b c' : Nat} (e : f' = { f with gas := (a : Int), outOff := (b : Int), outLen := (c' : Int) }) {k st : Nat} {kI sI : Int} (ekI : kI = (k : Int)) (esI : sI = (st : Int)) {gv : Bool} {W : List Int} (hks : (k : Int) ≤ f.sp) (hs0 : 0 ≤ f.sp) (hgv : gv = true → f.sp - k < 64) :
    Rel w v (({ m with frames := m.frames.set t f' } : Mc).settle t f' kI gv W sI) (y, rest ++ [psettle { g with gas := a, outOff := b, outLen := c' } k gv (wn W) st]) := by
  subst e ekI esI
  have htl := h.len hI
  obtain ⟨L, hL, hP⟩ := h.ex
  refine ⟨L, hL, ?_⟩
  have h1 := hP.setf htl hI hf a b c'
  have hI1 := hI.setf (f' := { f with gas := (a : Int), outOff := (b : Int), outLen := (c' : Int) }) hf rfl rfl
  have hfr := hI.fr t f (Nat.le_refl _) hf
  have hf1 : (m.frames.set t { f with gas := (a : Int), outOff := (b : Int), outLen := (c' : Int) })[t]? = some { f with gas := (a : Int), outOff := (b : Int), outLen := (c' : Int) } := by rw [List.getElem?_set_self (lt_of_getElem? hf)]
  exact h1.settle htl hf1 hI1.ph (fun i f hi hf => (hI1.fr i f hi hf).2) hfr.1 hs0 hst hI.t6 hks hgv
theorem cr_no {ks : List Int → List Int} {Y : PSt} {rest : List PF} {g : PF} {o : Int} (h : (6 ≤ rest.length ∨ (yacct Y.now.accts g.self).bal < yarg g 0) ∨ 18446744073709551615 ≤ (yacct Y.now.accts g.self).nonce) : yenterCreate ks Y rest g o = (Y, rest ++ [psettle g (ytakes o).toNat true 0 1]) := by
  unfold yenterCreate; rw [if_pos h]; rfl
theorem cr_tk {ks : List Int → List Int} {Y : PSt} {rest : List PF} {g : PF} {o : Int} (h : ¬ ((6 ≤ rest.length ∨ (yacct Y.now.accts g.self).bal < yarg g 0) ∨ 18446744073709551615 ≤ (yacct Y.now.accts g.self).nonce)) (h2 : ytaken (ycre2 ks Y g o).now.accts (ycrA ks Y g o) = true) : yenterCreate ks Y rest g o = (ycre2 ks Y g o, rest ++ [psettle { g with gas := g.gas - ysent g.gas g.gas, outOff := g.outOff, outLen := g.outLen } (ytakes o).toNat true 0 1]) := by
  unfold yenterCreate; rw [if_neg h, if_pos h2]; rfl
theorem cr_in {ks : List Int → List Int} {Y : PSt} {rest : List PF} {g : PF} {o : Int} (h : ¬ ((6 ≤ rest.length ∨ (yacct Y.now.accts g.self).bal < yarg g 0) ∨ 18446744073709551615 ≤ (yacct Y.now.accts g.self).nonce)) (h2 : ytaken (ycre2 ks Y g o).now.accts (ycrA ks Y g o) = false) (hp : Y.phase = 1) : yenterCreate ks Y rest g o = ({ (yenter (ycre2 ks Y g o) (rest ++ [psettle { g with gas := g.gas - ysent g.gas g.gas, outOff := 0, outLen := 0 } (ytakes o).toNat false 0 0]) (ycrec ks Y g o)).1 with phase := 1 }, (yenter (ycre2 ks Y g o) (rest ++ [psettle { g with gas := g.gas - ysent g.gas g.gas, outOff := 0, outLen := 0 } (ytakes o).toNat false 0 0]) (ycrec ks Y g o)).2) := by
  rw [yenter_ph _ _ _ (by exact hp)]
  unfold yenterCreate; rw [if_neg h, if_neg (by rw [h2]; decide)]
  have e : ywait (ycref g) (ytakes o).toNat 0 0 = psettle { g with gas := g.gas - ysent g.gas g.gas, outOff := 0, outLen := 0 } (ytakes o).toNat false 0 0 := by unfold ywait psettle ycref; simp
  rw [e]
theorem cr_sent (n : Nat) : (n : Int) - (n : Int) / 64 = (ysent n n : Int) := by
  unfold ysent; rw [Nat.min_def]; split <;> omega
theorem cr_ch {rd : SV → List Int} {ks : List Int → List Int} {Y : PSt} {g : PF} {o kk sg : Int} {aa se W L7 : List Int} {s7 : SV} (hk : kk = (ycrk o : Int)) (ha : aa = ycrA ks Y g o) (hs : se = g.self) (hW : wn W = yarg g 0) (hg : sg = (ysent g.gas g.gas : Int)) (hL : L7 = ycode g) (h0 : rd (none, 0, 0) = []) : ChR rd (((kF kk 0 false aa se W s7).sGas sg).sCb L7) (ycrec ks Y g o) :=
  { kind := hk, nat := rfl, statY := rfl, pc := rfl, gas := hg, value := hW, oo := rfl, ol := rfl, self := ha, caller := hs, code := hL, inputY := h0, sp := rfl, stack := rfl, mem := rfl }

set_option maxRecDepth 10000 in
set_option maxHeartbeats 8000000 in
theorem opCreate_ex [Om] (C : Nat) (c : Array Value) (v : V) (B : VB) (m : Mc) (t : Nat) (f : Fm) (o c' S : Int) (w : World) (hM : MS w C c v B m) (hop : Mc.opc f = o) (hAd : Adm scanW v m t f o (infoW o).2.2.1 c' S) (hk : (infoW o).1 ≤ f.sp ∧ f.sp - (infoW o).1 + (infoW o).2.1 ≤ 64) (hc : 0 < c') (y : PSt) (rest : List PF) (g : PF) (hRl : Rel w v m (y, rest ++ [g])) (ho : o = 240 ∨ o = 245) : Ret Hvac.prog 186 #[.pointer (some ⟨C, 0, none⟩)] w fun _ w' => ∃ v' m', MRet w C B m w' v' m' ∧ OpP scanW m t c' S v' m' ∧ Rel w' v' m' (yenterCreate khash { y with ret := [] } rest g o) := by
  have hI := hAd.ri
  have hf := hAd.fr
  have hR := hI.run hf
  have hA := hR.fa
  have hblk := hM.vs.blk
  have hCl := hblk.lt
  have hcs := hM.sz
  have hc_s := hM.rep.s
  obtain ⟨ht7, hfty, hF⟩ := hM.openF hf
  have hFk := hI.fr t f (Nat.le_refl _) hf
  have hvi := hI.ti.vi
  have hcbl := (hM.code f (List.mem_of_getElem? hf)).1.len
  have hcb5 := hFk.cl
  have hcl : f.code.2.1 ≤ 100000 := by omega
  have hpct := hfty.pc
  have hspt := hfty.sp
  have hwdA := fun i => argW_wd hM.ty f i
  have hMI := hI.mi
  have hAr := fun i => hRl.arg hM hMI hf i
  have htl := hRl.len hMI
  have hy0 : yarg g 0 = wn (m.argW f 0) := hAr 0
  have hy1 : yarg g 1 = wn (m.argW f 1) := hAr 1
  have hy2 : yarg g 2 = wn (m.argW f 2) := hAr 2
  have hy3 : yarg g 3 = wn (m.argW f 3) := hAr 3
  have hy4 : yarg g 4 = wn (m.argW f 4) := hAr 4
  have hy5 : yarg g 5 = wn (m.argW f 5) := hAr 5
  have hy6 : yarg g 6 = wn (m.argW f 6) := hAr 6
  have hpcl : f.pc < (f.cb.length : Int) := opc_pc (by rw [hop]; omega)
  obtain ⟨lo, n, hlo, hhi, hszn, hlon, hn32⟩ := hI.mem hM.ty (i := t) (Nat.le_refl _)
  have hbl0 := hI.ti.bl
  have hT : MemT m t lo n := ⟨hI.mtY, by omega, hlo, hhi, hlon, by omega⟩
  have hl0 := (hwdA 0).1
  have hl1 := (hwdA 1).1
  have hl2 := (hwdA 2).1
  have hl3 := (hwdA 3).1
  have hroom := hI.room hM.ty
  have hself := hfty.self
  have hselfl := hself.1
  have hgast := hfty.gas
  have hfg : f.gas ≤ 1048576 := by have h1 := (gas_bd hI hM.ty (t + 1) (Nat.le_refl _)).2; have h2 := (gas_bd hI hM.ty t (by omega)).1; simp only [gasTo, gasOf_some hf] at h1; omega
  have hfl : isFlat o = false := by rcases ho with h | h <;> (rw [h]; rfl)
  have hst0 : (infoW o).2.2.1 = 32000 := by rcases ho with h | h <;> (rw [h]; rfl)
  have hcs0 := hAd.cs
  rw [hst0] at hcs0
  have hcr := hAd.cr ho
  have hre := hAd.re hfl
  rw [hszn] at hre
  have hrr : reachesW m f o = reachW (m.argW f 1) (m.argW f 2) := by rcases ho with h | h <;> (rw [h]; rfl)
  rw [hrr] at hre
  have hft : wv (m.argW f 2) = 0 ∨ wv (m.argW f 1) + wv (m.argW f 2) ≤ n := by
    rcases reach_fit (hwdA 2) hre.1 with h | h
    · exact Or.inl h
    · exact Or.inr (by omega)
  have hwb2 := wv_bd (hwdA 2)
  have hnon := nonce_bd hM.vs.ty f.self
  have hmc0 := hI.mc
  obtain ⟨Lm, hLm, hFP, hRP⟩ := hRl.top hMI hf
  have hMB := hI.mbs hM.ty hlo hszn hlon
  have hph1 : y.phase = 1 := hRl.phy hI.ph
  have hMI7 : MI { m with ret := (none, 0, 0) } t := ⟨hMI.ph, hMI.top, hMI.t6, hMI.fr⟩
  have hMB7 : MB_ { m with ret := (none, 0, 0) } t lo n := ⟨hMB.lo, hMB.sz, hMB.low, hMB.buf⟩
  have hnonY : v.nonce f.self = ((yacct y.now.accts g.self).nonce : Int) := by rw [← ac_nonce, ← hFP.self]; exact hRP.vr.nonceV hvi f.self
  have hbalY : wn (v.bal f.self) = (yacct y.now.accts g.self).bal := by rw [← hFP.self]; exact hRP.vr.balV hvi f.self
  have hwi0 := wn_int (hwdA 0)
  have hwib := wn_int (bal_wd hM.vs.ty f.self)
  have hfgY := hFP.gas
  have hstl := hM.ty.stack.1
  have hyN1 := hy1
  have hyN2 := hy2
  have hnonY' : (v.nonce g.self).toNat = (yacct y.now.accts g.self).nonce := by rw [hFP.self] at hnonY; omega
  
  refine Ret_of_W Hvac.func186 rfl rfl ?_
  refine W_seq ?_
  refine W_region rfl ?_
  refine WO_p (PS_move_ptr rfl) ?_
  refine WO_call Hvac.call95 (by rfl) (Ret.mono (running_spec C c v B m t f _ (MS.ext hM (by repeat (first | assumption | exact Ext.refl _ | refine Ext.alloc ?_ _ | refine Ext.drew ?_ | refine Ext.setB ?_ (by first | omega | (simp only [size_alloc, size_setB, size_drew]; omega)) _ | exact Ext.trans (by assumption) (by assumption) | refine Ext.trans ?_ (by assumption)))) hR) ?_)
  rintro _ w95_0 ⟨hE95_0, rfl⟩
  have hz95_0 := hE95_0.1
  try simp only [size_alloc, size_setB, size_drew] at hz95_0
  refine WO_p (PS_assign_ptr rfl) ?_
  refine WO_nil ?_
  refine thn_normal ?_
  refine W_seq ?_
  refine W_seq ?_
  refine W_region rfl ?_
  refine WO_p (PS_move_ptr rfl) ?_
  refine WO_p (PS_eqlnil Hvac.underlying187 rfl) ?_
  refine WO_nil ?_
  refine thn_normal ?_
  refine W_if rfl (fun hb3 => ?_) (fun hb3 => ?_)
  · have hb3p := hb3.h; try simp only [al_ete, al_dfn, Bool.not_eq_true', Bool.not_eq_false', al_ne, Bool.not_not, al_nn] at hb3p
    simp at hb3p --END
  · have hb3p := hb3.h; try simp only [al_ete, al_dfn, Bool.not_eq_true', Bool.not_eq_false', al_ne, Bool.not_not, al_nn] at hb3p
    refine W_skip ?_
    refine thn_normal ?_
    refine W_seq ?_
    refine W_region rfl ?_
    refine WO_p (PS_move_ptr rfl) ?_
    refine WO_call Hvac.call104 (by rfl) (Ret.mono (opcode_spec C c v B m t f _ (MS.ext hM (by repeat (first | assumption | exact Ext.refl _ | refine Ext.alloc ?_ _ | refine Ext.drew ?_ | refine Ext.setB ?_ (by first | omega | (simp only [size_alloc, size_setB, size_drew]; omega)) _ | exact Ext.trans (by assumption) (by assumption) | refine Ext.trans ?_ (by assumption)))) hR hcl) ?_)
    rintro _ w104_3 ⟨hE104_3, rfl⟩
    have hz104_3 := hE104_3.1
    try simp only [size_alloc, size_setB, size_drew] at hz104_3
    try rw [hop]
    refine WO_p (PS_eql rfl rfl) ?_
    refine WO_p (PS_assign_bool rfl) ?_
    refine WO_nil ?_
    refine thn_normal ?_
    refine W_seq ?_
    refine W_region rfl ?_
    refine WO_p (PS_assign_int rfl) ?_
    refine WO_nil ?_
    refine thn_normal ?_
    refine W_seqJ (fun ρ w' => ∃ tkv : Int, Fr [(0, .pointer (some ⟨C, 0, none⟩)), (2, .pointer (some ⟨C, 1803 + t * 65, none⟩)), (3, .bool (decide (o = 245))), (4, .int .u16 tkv)] ρ ∧ Ext w w' ∧ tkv = (infoW o).1 ∧ 3 ≤ tkv ∧ tkv ≤ 4) ?_ ?_
    · skip
      refine W_seq ?_
      refine W_region rfl ?_
      refine WO_p (PS_move_bool rfl) ?_
      refine WO_nil ?_
      refine thn_normal ?_
      refine W_if rfl (fun hb6 => ?_) (fun hb6 => ?_)
      · have hb6p := hb6.h; try simp only [al_ete, al_dfn, Bool.not_eq_true', Bool.not_eq_false', al_ne, Bool.not_not, al_nn] at hb6p
        refine W_region rfl ?_
        refine WO_p (PS_assign_int rfl) ?_
        refine WO_nil ?_
        refine thn_normal ?_
        exact ⟨4, ⟨rfl, rfl, rfl, rfl, trivial⟩, (by repeat (first | assumption | exact Ext.refl _ | refine Ext.alloc ?_ _ | refine Ext.drew ?_ | refine Ext.setB ?_ (by first | omega | (simp only [size_alloc, size_setB, size_drew]; omega)) _ | exact Ext.trans (by assumption) (by assumption) | refine Ext.trans ?_ (by assumption))), by rw [show o = 245 by omega]; rfl, by omega, by omega⟩
      · have hb6p := hb6.h; try simp only [al_ete, al_dfn, Bool.not_eq_true', Bool.not_eq_false', al_ne, Bool.not_not, al_nn] at hb6p
        refine W_skip ?_
        refine thn_normal ?_
        exact ⟨3, ⟨rfl, rfl, rfl, rfl, trivial⟩, (by repeat (first | assumption | exact Ext.refl _ | refine Ext.alloc ?_ _ | refine Ext.drew ?_ | refine Ext.setB ?_ (by first | omega | (simp only [size_alloc, size_setB, size_drew]; omega)) _ | exact Ext.trans (by assumption) (by assumption) | refine Ext.trans ?_ (by assumption))), by rw [show o = 240 by omega]; rfl, by omega, by omega⟩
    · rintro ρ w6 ⟨tkv, hFr6, hE6, htkv, htk3, htk4⟩
      refine W_env _ hFr6 ?_
      have hz6 := hE6.1
      have hk1 := hk
      rw [← htkv] at hk1
      have hgv1 : (infoW o).2.1 = 1 := by rcases ho with h | h <;> (rw [h]; rfl)
      rw [hgv1] at hk1
      obtain ⟨hM7, hS7⟩ := (hM.ext hE6).put_ret (none, 0, 0) (Or.inl ⟨rfl, rfl⟩)
      have hblk6 := (hM.ext hE6).vs.blk
      refine W_seq ?_
      refine W_region rfl ?_
      refine WO_p (PS_move_ptr rfl) ?_
      refine WO_p (PS_nilCheck rfl) ?_
      refine WO_p (PS_fieldAddr 2259 Hvac.runUnderlying70 rfl Hvac.sizeOf32 rfl rfl) ?_
      refine WO_store1 Hvac.sizeOf32 rfl (v := (.slice _ _ _)) rfl (Hb.h (by repeat (first | assumption | exact Hb.newY _ _ | refine Hb.alloc ?_ | refine Hb.drew ?_ | refine Hb.ext (by assumption) ?_ | exact Hb.setSameL (by first | omega | (simp only [size_alloc, size_setB, size_drew]; omega)) | exact Hb.setSame (by assumption) | refine Hb.set (by first | omega | (simp only [size_alloc, size_setB, size_drew]; omega)) ?_ ))) rfl (by first | omega | assumption | rfl | decide | exact Nat.le_refl _ | (simp only [size_ic, Value.cells]; omega) | (simp; omega) | simp) rfl ?_
      refine WO_nil ?_
      refine thn_normal ?_
      refine W_seq ?_
      refine W_gen fun w7 hw7 => ?_
      obtain ⟨c7, hM7', hS7'⟩ : ∃ c7, MS w7 C c7 v B { m with ret := (none, 0, 0) } ∧ MStep w w7 C B m B { m with ret := (none, 0, 0) } := ⟨_, by rw [hw7]; exact hM7, by rw [hw7]; exact (MStep.ext hE6).trans hS7⟩
      have hKK7 : KK w w7 := by rw [hw7]; exact KK.set (KK.ext hE6) hblk6 (by decide) (by decide)
      have hRl7 : Rel w7 v { m with ret := (none, 0, 0) } ({ y with ret := [] }, rest ++ [g]) := (hRl.kk hM hKK7).ret0
      obtain ⟨L7m, hL7m, hFP7, hRP7⟩ := hRl7.top hMI7 hf
      have hmem7 : g.mem = (L7m.drop lo).take n := Rel.mem_cut hFP7 hMB7
      have htkY : tkv = ((ytakes o).toNat : Int) := by rw [htkv]; rcases ho with h | h <;> (rw [h]; decide)
      clear hw7 hM7 hS7
      have hz7 := hS7'.keep.sz
      have hblk7 := hM7'.vs.blk
      have hcs7 := hM7'.sz
      have hc_s7 := hM7'.rep.s
      have hc_top7 : Ce c7 2258 (.int .i8 (t : Int)) := by have := hM7'.rep.top; rw [show ({ m with ret := (none, 0, 0) } : Mc).top = (t : Int) from hI.top] at this; exact this
      obtain ⟨_, _, hF7⟩ := hM7'.openF hf
      have hf_self7 := hF7.self
      have hf_gas7 := hF7.gas
      have hA7 : FrA { m with ret := (none, 0, 0) } t f := ⟨hA.t6, hA.fr, hA.sb, hA.sp⟩
      have hAW7 : ∀ i, ({ m with ret := (none, 0, 0) } : Mc).argW f i = m.argW f i := fun i => rfl
      have hT7 : MemT { m with ret := (none, 0, 0) } t lo n := ⟨hT.1, hT.2, hT.3, hT.4, hT.5, hT.6⟩
      have hbw7 := bal_wd hM7'.vs.ty f.self
      have hbwl7 := hbw7.1
      refine W_region rfl ?_
      refine WO_p (PS_move_ptr rfl) ?_
      refine WO_p (PS_move_ptr rfl) ?_
      refine WO_call Hvac.call239 (by rfl) (Ret.mono (arg_spec C c7 v B { m with ret := (none, 0, 0) } t f _ _ (MS.ext hM7' (by repeat (first | assumption | exact Ext.refl _ | refine Ext.alloc ?_ _ | refine Ext.drew ?_ | refine Ext.setB ?_ (by first | omega | (simp only [size_alloc, size_setB, size_drew]; omega)) _ | exact Ext.trans (by assumption) (by assumption) | refine Ext.trans ?_ (by assumption)))) hA7 (by omega)) ?_)
      rintro _ w239_6 ⟨hE239_6, rfl⟩
      have hz239_6 := hE239_6.1
      try simp only [size_alloc, size_setB, size_drew] at hz239_6
      rw [hAW7]
      refine WO_allocG Hvac.zeroValue61 ?_
      intro b5 v5 hg5 hE5 hH5 hl5
      try simp only [size_alloc, size_setB, size_drew] at hg5
      have hzz5 := hE5.1
      try simp only [size_alloc, size_setB, size_drew] at hzz5
      replace hH5 : Hb v5 b5 (.cells ((ic .u64 [0, 0, 0, 0])) 61 (0, 0)) := hH5
      first | refine WO_storeW Hvac.sizeOf61 rfl (v := .agg _) rfl (Hb.h (by repeat (first | assumption | exact Hb.newY _ _ | refine Hb.alloc ?_ | refine Hb.drew ?_ | refine Hb.ext (by assumption) ?_ | exact Hb.setSameL (by first | omega | (simp only [size_alloc, size_setB, size_drew]; omega)) | exact Hb.setSame (by assumption) | refine Hb.set (by first | omega | (simp only [size_alloc, size_setB, size_drew]; omega)) ?_ ))) rfl (by first | omega | assumption | rfl | decide | exact Nat.le_refl _ | (simp only [size_ic, Value.cells]; omega) | (simp; omega) | simp) (by first | omega | assumption | rfl | decide | exact Nat.le_refl _ | (simp only [size_ic, Value.cells]; omega) | (simp; omega) | simp) (by first | exact oneCell_ic | assumption | exact one_Ws2 _ | exact one_YA2 _ | exact one_YSl2 _ | exact one_YM2 _ | exact one_YT2 _ | exact one_L2 _) ?_ | refine WO_store Hvac.sizeOf61 rfl (v := .agg _) rfl (Hb.h (by repeat (first | assumption | exact Hb.newY _ _ | refine Hb.alloc ?_ | refine Hb.drew ?_ | refine Hb.ext (by assumption) ?_ | exact Hb.setSameL (by first | omega | (simp only [size_alloc, size_setB, size_drew]; omega)) | exact Hb.setSame (by assumption) | refine Hb.set (by first | omega | (simp only [size_alloc, size_setB, size_drew]; omega)) ?_ ))) (by first | omega | assumption | rfl | decide | exact Nat.le_refl _ | (simp only [size_ic, Value.cells]; omega) | (simp; omega) | simp) (by first | omega | assumption | rfl | decide | exact Nat.le_refl _ | (simp only [size_ic, Value.cells]; omega) | (simp; omega) | simp) (by first | exact oneCell_ic | assumption | exact one_Ws2 _ | exact one_YA2 _ | exact one_YSl2 _ | exact one_YM2 _ | exact one_YT2 _ | exact one_L2 _) ?_
      refine WO_nil ?_
      refine thn_normal ?_
      refine W_seq ?_
      refine W_drawE [false, false, false, false, false, false, false, false, false, false] hmix (by kernel_rfl) rfl ?_
      refine WH_p (PS_move_ptr rfl) rfl ?_
      refine WH_p (PS_nilCheck rfl) rfl ?_
      refine WH_p (PS_fieldAddr 0 Hvac.runUnderlying70 rfl Hvac.sizeOf55 rfl rfl) rfl ?_
      refine WH_load (.pointer _) Hvac.isAgg55 rfl (Hb.h (by repeat (first | assumption | exact Hb.newY _ _ | refine Hb.alloc ?_ | refine Hb.drew ?_ | refine Hb.ext (by assumption) ?_ | exact Hb.setSameL (by first | omega | (simp only [size_alloc, size_setB, size_drew]; omega)) | exact Hb.setSame (by assumption) | refine Hb.set (by first | omega | (simp only [size_alloc, size_setB, size_drew]; omega)) ?_ ))) (Ce.h (by first | assumption | exact ⟨rfl⟩)) ?_
      refine WH_p (PS_move_ptr rfl) rfl ?_
      refine WH_p (PS_nilCheck rfl) rfl ?_
      refine WH_p (PS_fieldAddr 9 Hvac.runUnderlying66 rfl Hvac.sizeOf25 rfl rfl) rfl ?_
      refine WH_loadA _ Hvac.isAgg25 Hvac.sizeOf25 rfl (Hb.h (by repeat (first | assumption | exact Hb.newY _ _ | refine Hb.alloc ?_ | refine Hb.drew ?_ | refine Hb.ext (by assumption) ?_ | exact Hb.setSameL (by first | omega | (simp only [size_alloc, size_setB, size_drew]; omega)) | exact Hb.setSame (by assumption) | refine Hb.set (by first | omega | (simp only [size_alloc, size_setB, size_drew]; omega)) ?_ ))) (by first | omega | assumption | rfl | decide | exact Nat.le_refl _ | (simp only [size_ic, Value.cells]; omega) | (simp; omega) | simp) (Xt.h (by first | assumption | exact Xt.whole rfl rfl | exact Xt.whole rfl (by assumption) | exact Xt.whole rfl (by simp only [size_ic, Value.cells]; omega) | exact ⟨rfl⟩)) ?_
      refine WH_call Hvac.call134 (by rfl) (Ret.mono (nonce_spec C c7 v B (bb m) _ _ (VS.ext hM7'.vs (by repeat (first | assumption | exact Ext.refl _ | refine Ext.alloc ?_ _ | refine Ext.drew ?_ | refine Ext.setB ?_ (by first | omega | (simp only [size_alloc, size_setB, size_drew]; omega)) _ | exact Ext.trans (by assumption) (by assumption) | refine Ext.trans ?_ (by assumption)))) hself) ?_)
      rintro _ w134_7 ⟨rfl, hE134_7⟩
      refine ⟨(fun h => by cases h), ?_⟩
      have hz134_7 := hE134_7.1
      try simp only [size_alloc, size_setB, size_drew] at hz134_7
      refine WH_p (PS_assign_int rfl) rfl ?_
      refine WH_nil ?_
      refine thn_normal ?_
      refine W_seq ?_
      refine W_seq ?_
      refine W_drawE [false, false, false, false, false, false, false, false, false, false, false, false, false, false, true, false, false, false, false, false, false, false] hmix (by kernel_rfl) rfl ?_
      refine WH_p (PS_move_ptr rfl) rfl ?_
      refine WH_p (PS_nilCheck rfl) rfl ?_
      refine WH_p (PS_fieldAddr 2258 Hvac.runUnderlying70 rfl Hvac.sizeOf68 rfl rfl) rfl ?_
      refine WH_load (.int _ _) Hvac.isAgg68 rfl (Hb.h (by repeat (first | assumption | exact Hb.newY _ _ | refine Hb.alloc ?_ | refine Hb.drew ?_ | refine Hb.ext (by assumption) ?_ | exact Hb.setSameL (by first | omega | (simp only [size_alloc, size_setB, size_drew]; omega)) | exact Hb.setSame (by assumption) | refine Hb.set (by first | omega | (simp only [size_alloc, size_setB, size_drew]; omega)) ?_ ))) (Ce.h (by first | assumption | exact ⟨rfl⟩)) ?_
      refine WH_p (PS_geq rfl rfl) rfl ?_
      refine WH_p (PS_move_bool rfl) rfl ?_
      refine WH_if (t := 38) rfl (fun hb10 => ?_) (fun hb10 => ?_)
      · have hb10p := hb10.h; try simp only [al_ete, al_dfn, Bool.not_eq_true', Bool.not_eq_false', al_ne, Bool.not_not, al_nn] at hb10p
        refine WH_guardF rfl rfl hb10.h ?_
        refine WH_guardF rfl rfl hb10.h ?_
        refine WH_guardF rfl rfl hb10.h ?_
        refine WH_guardF rfl rfl hb10.h ?_
        refine WH_guardF rfl rfl hb10.h ?_
        refine WH_guardF rfl rfl hb10.h ?_
        refine WH_guardF rfl rfl hb10.h ?_
        refine WH_guardF rfl rfl hb10.h ?_
        refine WH_guardF rfl rfl hb10.h ?_
        refine WH_guardF rfl rfl hb10.h ?_
        refine WH_guardF rfl rfl hb10.h ?_
        refine WH_p (PS_pickT rfl hb10.h rfl) rfl ?_
        refine WH_p (PS_move_bool rfl) rfl ?_
        refine WH_guardF rfl rfl rfl ?_
        refine WH_guardF rfl rfl rfl ?_
        refine WH_p (PS_pickT rfl rfl rfl) rfl ?_
        refine WH_nil ?_
        refine thn_normal ?_
        refine W_condT rfl rfl ?_
        refine W_seq ?_
        have hcy : (6 ≤ rest.length ∨ (yacct y.now.accts g.self).bal < yarg g 0) ∨ 18446744073709551615 ≤ (yacct y.now.accts g.self).nonce := by
          first
            | exact Or.inl (Or.inl (by omega))
            | (refine Or.inl (Or.inr ?_); have hh : wv (v.bal f.self) < wv (m.argW f 0) := by simpa using hgT
               omega)
            | (refine Or.inr ?_; have hh : v.nonce f.self = 18446744073709551615 := by simpa using hnT
               omega)
        refine W_region rfl ?_
        refine WO_p (PS_move_ptr rfl) ?_
        refine WO_p (PS_move_ptr rfl) ?_
        refine WO_p (PS_move_int rfl) ?_
        refine WO_p (PS_buildI (k := .u64) (zs := [0, 0, 0, 0]) (ps := []) (L := [0, 0, 0, 0]) Hvac.zeroValue61 Hvac.runUnderlying61 Hvac.sizeOf26 rfl rfl rfl rfl) ?_
        refine WO_call Hvac.call235 (by rfl) (Ret.mono (settle_ex C c7 v B { m with ret := (none, 0, 0) } t f tkv _ _ _ _ (MS.ext hM7' (by repeat (first | assumption | exact Ext.refl _ | refine Ext.alloc ?_ _ | refine Ext.drew ?_ | refine Ext.setB ?_ (by first | omega | (simp only [size_alloc, size_setB, size_drew]; omega)) _ | exact Ext.trans (by assumption) (by assumption) | refine Ext.trans ?_ (by assumption)))) hA7 (by omega) (by intro _; omega) Wd0 (by omega)) ?_)
        rintro _ wS ⟨hRS, hKS⟩
        have hKKS : KK w7 wS := KK.kc (KK.ext (by repeat (first | assumption | exact Ext.refl _ | refine Ext.alloc ?_ _ | refine Ext.drew ?_ | refine Ext.setB ?_ (by first | omega | (simp only [size_alloc, size_setB, size_drew]; omega)) _ | exact Ext.trans (by assumption) (by assumption) | refine Ext.trans ?_ (by assumption)))) hKS (MS.ext hM7' (by repeat (first | assumption | exact Ext.refl _ | refine Ext.alloc ?_ _ | refine Ext.drew ?_ | refine Ext.setB ?_ (by first | omega | (simp only [size_alloc, size_setB, size_drew]; omega)) _ | exact Ext.trans (by assumption) (by assumption) | refine Ext.trans ?_ (by assumption)))).vs.blk (by decide) (by decide)
        have hRlS := hRl7.settle (k := (ytakes o).toNat) (st := 1) (gv := true) (W := [0, 0, 0, 0]) hM7' hMI7 hf hKKS.k5 hKKS.k28 (by omega) (fun _ => by omega)
        rw [← htkY] at hRlS
        refine WO_nil ?_
        refine thn_normal ?_
        refine W_ret ?_
        refine thn_ret ?_
        first | refine bodyQ_ret0 Hvac.results186 ?_ | refine bodyQ_end0 Hvac.results186 ?_
        exact ⟨v, _, MRet.trans hS7' (MRet.pre (by repeat (first | assumption | exact Ext.refl _ | refine Ext.alloc ?_ _ | refine Ext.drew ?_ | refine Ext.setB ?_ (by first | omega | (simp only [size_alloc, size_setB, size_drew]; omega)) _ | exact Ext.trans (by assumption) (by assumption) | refine Ext.trans ?_ (by assumption))) hRS), by have h := op_stay hI hf (Adv.refl hvi) (by omega) (st := 0) (by omega) (by omega) (by omega) (by omega) (f3 := f) (by simp) (k := tkv) (W := [0, 0, 0, 0]) (by omega) (by omega) (by omega); rw [set_selfF hf] at h; exact h, by rw [cr_no (Y := { y with ret := [] }) hcy]; exact hRlS⟩
      · have hb10p := hb10.h; try simp only [al_ete, al_dfn, Bool.not_eq_true', Bool.not_eq_false', al_ne, Bool.not_not, al_nn] at hb10p
        refine WH_guardT rfl rfl hb10.h ?_
        refine WH_p (PS_move_ptr rfl) rfl ?_
        refine WH_guardT rfl rfl hb10.h ?_
        refine WH_p (PS_nilCheck rfl) rfl ?_
        refine WH_guardT rfl rfl hb10.h ?_
        refine WH_p (PS_fieldAddr 0 Hvac.runUnderlying70 rfl Hvac.sizeOf55 rfl rfl) rfl ?_
        refine WH_guardT rfl rfl hb10.h ?_
        refine WH_load (.pointer _) Hvac.isAgg55 rfl (Hb.h (by repeat (first | assumption | exact Hb.newY _ _ | refine Hb.alloc ?_ | refine Hb.drew ?_ | refine Hb.ext (by assumption) ?_ | exact Hb.setSameL (by first | omega | (simp only [size_alloc, size_setB, size_drew]; omega)) | exact Hb.setSame (by assumption) | refine Hb.set (by first | omega | (simp only [size_alloc, size_setB, size_drew]; omega)) ?_ ))) (Ce.h (by first | assumption | exact ⟨rfl⟩)) ?_
        refine WH_guardT rfl rfl hb10.h ?_
        refine WH_p (PS_move_ptr rfl) rfl ?_
        refine WH_guardT rfl rfl hb10.h ?_
        refine WH_p (PS_nilCheck rfl) rfl ?_
        refine WH_guardT rfl rfl hb10.h ?_
        refine WH_p (PS_fieldAddr 9 Hvac.runUnderlying66 rfl Hvac.sizeOf25 rfl rfl) rfl ?_
        refine WH_guardT rfl rfl hb10.h ?_
        refine WH_loadA _ Hvac.isAgg25 Hvac.sizeOf25 rfl (Hb.h (by repeat (first | assumption | exact Hb.newY _ _ | refine Hb.alloc ?_ | refine Hb.drew ?_ | refine Hb.ext (by assumption) ?_ | exact Hb.setSameL (by first | omega | (simp only [size_alloc, size_setB, size_drew]; omega)) | exact Hb.setSame (by assumption) | refine Hb.set (by first | omega | (simp only [size_alloc, size_setB, size_drew]; omega)) ?_ ))) (by first | omega | assumption | rfl | decide | exact Nat.le_refl _ | (simp only [size_ic, Value.cells]; omega) | (simp; omega) | simp) (Xt.h (by first | assumption | exact Xt.whole rfl rfl | exact Xt.whole rfl (by assumption) | exact Xt.whole rfl (by simp only [size_ic, Value.cells]; omega) | exact ⟨rfl⟩)) ?_
        refine WH_guardT rfl rfl hb10.h ?_
        refine WH_call Hvac.call66 (by rfl) (Ret.mono (balance_spec C c7 v B (bb m) _ _ (VS.ext hM7'.vs (by repeat (first | assumption | exact Ext.refl _ | refine Ext.alloc ?_ _ | refine Ext.drew ?_ | refine Ext.setB ?_ (by first | omega | (simp only [size_alloc, size_setB, size_drew]; omega)) _ | exact Ext.trans (by assumption) (by assumption) | refine Ext.trans ?_ (by assumption)))) hself) ?_)
        rintro _ w66_11 ⟨rfl, hE66_11⟩
        refine ⟨fun _ => (by repeat (first | assumption | exact Ext.refl _ | refine Ext.alloc ?_ _ | refine Ext.drew ?_ | refine Ext.setB ?_ (by first | omega | (simp only [size_alloc, size_setB, size_drew]; omega)) _ | exact Ext.trans (by assumption) (by assumption) | refine Ext.trans ?_ (by assumption))), ?_⟩
        have hz66_11 := hE66_11.1
        try simp only [size_alloc, size_setB, size_drew] at hz66_11
        refine WH_guardT rfl rfl hb10.h ?_
        refine WH_loadA _ Hvac.isAgg61 Hvac.sizeOf61 rfl (Hb.h (by repeat (first | assumption | exact Hb.newY _ _ | refine Hb.alloc ?_ | refine Hb.drew ?_ | refine Hb.ext (by assumption) ?_ | exact Hb.setSameL (by first | omega | (simp only [size_alloc, size_setB, size_drew]; omega)) | exact Hb.setSame (by assumption) | refine Hb.set (by first | omega | (simp only [size_alloc, size_setB, size_drew]; omega)) ?_ ))) (by first | omega | assumption | rfl | decide | exact Nat.le_refl _ | (simp only [size_ic, Value.cells]; omega) | (simp; omega) | simp) (Xt.h (by first | assumption | exact Xt.whole rfl rfl | exact Xt.whole rfl (by assumption) | exact Xt.whole rfl (by simp only [size_ic, Value.cells]; omega) | exact ⟨rfl⟩)) ?_
        refine WH_guardT rfl rfl hb10.h ?_
        refine WH_call Hvac.call138 (by rfl) (Ret.mono (lt_spec _ _ _ hbw7 (hwdA 0)) ?_)
        rintro _ w138_12 ⟨rfl, hE138_12⟩
        refine ⟨(fun h => by cases h), ?_⟩
        have hz138_12 := hE138_12.1
        try simp only [size_alloc, size_setB, size_drew] at hz138_12
        refine WH_p (PS_pickF rfl hb10.h rfl) rfl ?_
        refine WH_p (PS_move_bool rfl) rfl ?_
        refine WH_if (t := 51) rfl (fun hb15 => ?_) (fun hb15 => ?_)
        · have hb15p := hb15.h; try simp only [al_ete, al_dfn, Bool.not_eq_true', Bool.not_eq_false', al_ne, Bool.not_not, al_nn] at hb15p
          have hgT := hb15p
          refine WH_guardF rfl rfl hb15.h ?_
          refine WH_guardF rfl rfl hb15.h ?_
          refine WH_p (PS_pickT rfl hb15.h rfl) rfl ?_
          refine WH_nil ?_
          refine thn_normal ?_
          refine W_condT rfl rfl ?_
          refine W_seq ?_
          have hcy : (6 ≤ rest.length ∨ (yacct y.now.accts g.self).bal < yarg g 0) ∨ 18446744073709551615 ≤ (yacct y.now.accts g.self).nonce := by
            first
              | exact Or.inl (Or.inl (by omega))
              | (refine Or.inl (Or.inr ?_); have hh : wv (v.bal f.self) < wv (m.argW f 0) := by simpa using hgT
                 omega)
              | (refine Or.inr ?_; have hh : v.nonce f.self = 18446744073709551615 := by simpa using hnT
                 omega)
          refine W_region rfl ?_
          refine WO_p (PS_move_ptr rfl) ?_
          refine WO_p (PS_move_ptr rfl) ?_
          refine WO_p (PS_move_int rfl) ?_
          refine WO_p (PS_buildI (k := .u64) (zs := [0, 0, 0, 0]) (ps := []) (L := [0, 0, 0, 0]) Hvac.zeroValue61 Hvac.runUnderlying61 Hvac.sizeOf26 rfl rfl rfl rfl) ?_
          refine WO_call Hvac.call235 (by rfl) (Ret.mono (settle_ex C c7 v B { m with ret := (none, 0, 0) } t f tkv _ _ _ _ (MS.ext hM7' (by repeat (first | assumption | exact Ext.refl _ | refine Ext.alloc ?_ _ | refine Ext.drew ?_ | refine Ext.setB ?_ (by first | omega | (simp only [size_alloc, size_setB, size_drew]; omega)) _ | exact Ext.trans (by assumption) (by assumption) | refine Ext.trans ?_ (by assumption)))) hA7 (by omega) (by intro _; omega) Wd0 (by omega)) ?_)
          rintro _ wS ⟨hRS, hKS⟩
          have hKKS : KK w7 wS := KK.kc (KK.ext (by repeat (first | assumption | exact Ext.refl _ | refine Ext.alloc ?_ _ | refine Ext.drew ?_ | refine Ext.setB ?_ (by first | omega | (simp only [size_alloc, size_setB, size_drew]; omega)) _ | exact Ext.trans (by assumption) (by assumption) | refine Ext.trans ?_ (by assumption)))) hKS (MS.ext hM7' (by repeat (first | assumption | exact Ext.refl _ | refine Ext.alloc ?_ _ | refine Ext.drew ?_ | refine Ext.setB ?_ (by first | omega | (simp only [size_alloc, size_setB, size_drew]; omega)) _ | exact Ext.trans (by assumption) (by assumption) | refine Ext.trans ?_ (by assumption)))).vs.blk (by decide) (by decide)
          have hRlS := hRl7.settle (k := (ytakes o).toNat) (st := 1) (gv := true) (W := [0, 0, 0, 0]) hM7' hMI7 hf hKKS.k5 hKKS.k28 (by omega) (fun _ => by omega)
          rw [← htkY] at hRlS
          refine WO_nil ?_
          refine thn_normal ?_
          refine W_ret ?_
          refine thn_ret ?_
          first | refine bodyQ_ret0 Hvac.results186 ?_ | refine bodyQ_end0 Hvac.results186 ?_
          exact ⟨v, _, MRet.trans hS7' (MRet.pre (by repeat (first | assumption | exact Ext.refl _ | refine Ext.alloc ?_ _ | refine Ext.drew ?_ | refine Ext.setB ?_ (by first | omega | (simp only [size_alloc, size_setB, size_drew]; omega)) _ | exact Ext.trans (by assumption) (by assumption) | refine Ext.trans ?_ (by assumption))) hRS), by have h := op_stay hI hf (Adv.refl hvi) (by omega) (st := 0) (by omega) (by omega) (by omega) (by omega) (f3 := f) (by simp) (k := tkv) (W := [0, 0, 0, 0]) (by omega) (by omega) (by omega); rw [set_selfF hf] at h; exact h, by rw [cr_no (Y := { y with ret := [] }) hcy]; exact hRlS⟩
        · have hb15p := hb15.h; try simp only [al_ete, al_dfn, Bool.not_eq_true', Bool.not_eq_false', al_ne, Bool.not_not, al_nn] at hb15p
          have hgF := hb15p
          refine WH_guardT rfl rfl hb15.h ?_
          refine WH_p (PS_move_int rfl) rfl ?_
          refine WH_guardT rfl rfl hb15.h ?_
          refine WH_p (PS_eql rfl rfl) rfl ?_
          refine WH_p (PS_pickF rfl hb15.h rfl) rfl ?_
          refine WH_nil ?_
          refine thn_normal ?_
          refine W_if rfl (fun hb18 => ?_) (fun hb18 => ?_)
          · have hb18p := hb18.h; try simp only [al_ete, al_dfn, Bool.not_eq_true', Bool.not_eq_false', al_ne, Bool.not_not, al_nn] at hb18p
            have hnT := hb18p
            refine W_seq ?_
            have hcy : (6 ≤ rest.length ∨ (yacct y.now.accts g.self).bal < yarg g 0) ∨ 18446744073709551615 ≤ (yacct y.now.accts g.self).nonce := by
              first
                | exact Or.inl (Or.inl (by omega))
                | (refine Or.inl (Or.inr ?_); have hh : wv (v.bal f.self) < wv (m.argW f 0) := by simpa using hgT
                   omega)
                | (refine Or.inr ?_; have hh : v.nonce f.self = 18446744073709551615 := by simpa using hnT
                   omega)
            refine W_region rfl ?_
            refine WO_p (PS_move_ptr rfl) ?_
            refine WO_p (PS_move_ptr rfl) ?_
            refine WO_p (PS_move_int rfl) ?_
            refine WO_p (PS_buildI (k := .u64) (zs := [0, 0, 0, 0]) (ps := []) (L := [0, 0, 0, 0]) Hvac.zeroValue61 Hvac.runUnderlying61 Hvac.sizeOf26 rfl rfl rfl rfl) ?_
            refine WO_call Hvac.call235 (by rfl) (Ret.mono (settle_ex C c7 v B { m with ret := (none, 0, 0) } t f tkv _ _ _ _ (MS.ext hM7' (by repeat (first | assumption | exact Ext.refl _ | refine Ext.alloc ?_ _ | refine Ext.drew ?_ | refine Ext.setB ?_ (by first | omega | (simp only [size_alloc, size_setB, size_drew]; omega)) _ | exact Ext.trans (by assumption) (by assumption) | refine Ext.trans ?_ (by assumption)))) hA7 (by omega) (by intro _; omega) Wd0 (by omega)) ?_)
            rintro _ wS ⟨hRS, hKS⟩
            have hKKS : KK w7 wS := KK.kc (KK.ext (by repeat (first | assumption | exact Ext.refl _ | refine Ext.alloc ?_ _ | refine Ext.drew ?_ | refine Ext.setB ?_ (by first | omega | (simp only [size_alloc, size_setB, size_drew]; omega)) _ | exact Ext.trans (by assumption) (by assumption) | refine Ext.trans ?_ (by assumption)))) hKS (MS.ext hM7' (by repeat (first | assumption | exact Ext.refl _ | refine Ext.alloc ?_ _ | refine Ext.drew ?_ | refine Ext.setB ?_ (by first | omega | (simp only [size_alloc, size_setB, size_drew]; omega)) _ | exact Ext.trans (by assumption) (by assumption) | refine Ext.trans ?_ (by assumption)))).vs.blk (by decide) (by decide)
            have hRlS := hRl7.settle (k := (ytakes o).toNat) (st := 1) (gv := true) (W := [0, 0, 0, 0]) hM7' hMI7 hf hKKS.k5 hKKS.k28 (by omega) (fun _ => by omega)
            rw [← htkY] at hRlS
            refine WO_nil ?_
            refine thn_normal ?_
            refine W_ret ?_
            refine thn_ret ?_
            first | refine bodyQ_ret0 Hvac.results186 ?_ | refine bodyQ_end0 Hvac.results186 ?_
            exact ⟨v, _, MRet.trans hS7' (MRet.pre (by repeat (first | assumption | exact Ext.refl _ | refine Ext.alloc ?_ _ | refine Ext.drew ?_ | refine Ext.setB ?_ (by first | omega | (simp only [size_alloc, size_setB, size_drew]; omega)) _ | exact Ext.trans (by assumption) (by assumption) | refine Ext.trans ?_ (by assumption))) hRS), by have h := op_stay hI hf (Adv.refl hvi) (by omega) (st := 0) (by omega) (by omega) (by omega) (by omega) (f3 := f) (by simp) (k := tkv) (W := [0, 0, 0, 0]) (by omega) (by omega) (by omega); rw [set_selfF hf] at h; exact h, by rw [cr_no (Y := { y with ret := [] }) hcy]; exact hRlS⟩
          · have hb18p := hb18.h; try simp only [al_ete, al_dfn, Bool.not_eq_true', Bool.not_eq_false', al_ne, Bool.not_not, al_nn] at hb18p
            have hnm : ¬ v.nonce f.self = 18446744073709551615 := by simpa using hb18p
            refine W_skip ?_
            refine thn_normal ?_
            refine W_seq ?_
            have hncy : ¬ ((6 ≤ rest.length ∨ (yacct y.now.accts g.self).bal < yarg g 0) ∨ 18446744073709551615 ≤ (yacct y.now.accts g.self).nonce) := by
              have hh : ¬ wv (v.bal f.self) < wv (m.argW f 0) := by simpa using hgF
              have ht5 : t ≤ 5 := by omega
              rintro ((h | h) | h) <;> omega
            refine W_region rfl ?_
            refine WO_p (PS_move_ptr rfl) ?_
            refine WO_p (PS_move_ptr rfl) ?_
            refine WO_p (PS_move_ptr rfl) ?_
            refine WO_call Hvac.call239 (by rfl) (Ret.mono (arg_spec C c7 v B { m with ret := (none, 0, 0) } t f _ _ (MS.ext hM7' (by repeat (first | assumption | exact Ext.refl _ | refine Ext.alloc ?_ _ | refine Ext.drew ?_ | refine Ext.setB ?_ (by first | omega | (simp only [size_alloc, size_setB, size_drew]; omega)) _ | exact Ext.trans (by assumption) (by assumption) | refine Ext.trans ?_ (by assumption)))) hA7 (by omega)) ?_)
            rintro _ w239_19 ⟨hE239_19, rfl⟩
            have hz239_19 := hE239_19.1
            try simp only [size_alloc, size_setB, size_drew] at hz239_19
            rw [hAW7]
            refine WO_p (PS_move_ptr rfl) ?_
            refine WO_p (PS_move_ptr rfl) ?_
            refine WO_call Hvac.call239 (by rfl) (Ret.mono (arg_spec C c7 v B { m with ret := (none, 0, 0) } t f _ _ (MS.ext hM7' (by repeat (first | assumption | exact Ext.refl _ | refine Ext.alloc ?_ _ | refine Ext.drew ?_ | refine Ext.setB ?_ (by first | omega | (simp only [size_alloc, size_setB, size_drew]; omega)) _ | exact Ext.trans (by assumption) (by assumption) | refine Ext.trans ?_ (by assumption)))) hA7 (by omega)) ?_)
            rintro _ w239_20 ⟨hE239_20, rfl⟩
            have hz239_20 := hE239_20.1
            try simp only [size_alloc, size_setB, size_drew] at hz239_20
            rw [hAW7]
            refine WO_call Hvac.call266 (by rfl) (Ret.mono (read_ex C c7 v B { m with ret := (none, 0, 0) } t lo n _ _ _ (MS.ext hM7' (by repeat (first | assumption | exact Ext.refl _ | refine Ext.alloc ?_ _ | refine Ext.drew ?_ | refine Ext.setB ?_ (by first | omega | (simp only [size_alloc, size_setB, size_drew]; omega)) _ | exact Ext.trans (by assumption) (by assumption) | refine Ext.trans ?_ (by assumption)))) L7m (BufX.ext hL7m (by repeat (first | assumption | exact Ext.refl _ | refine Ext.alloc ?_ _ | refine Ext.drew ?_ | refine Ext.setB ?_ (by first | omega | (simp only [size_alloc, size_setB, size_drew]; omega)) _ | exact Ext.trans (by assumption) (by assumption) | refine Ext.trans ?_ (by assumption)))) hT7 (hwdA _) (hwdA _) hft) ?_)
            rintro _ w11 ⟨hE11, s7, rfl, hN7, hB7⟩
            rw [← hmem7, ← hyN1, ← hyN2] at hN7 hB7
            obtain ⟨L7, hL7e⟩ : ∃ L7, L7 = ycut g.mem (yarg g 1) (yarg g 2) := ⟨_, rfl⟩
            rw [← hL7e] at hN7 hB7
            have hL7 : (L7.length : Int) = wv (m.argW f 2) := by rw [hL7e, ycut_len, hyN2]; exact wn_int (hwdA _)
            have hz11 := hE11.1
            try simp only [size_alloc, size_setB, size_drew] at hz11
            have hb511 : Hb w11 b5 (.cells (ic .u64 (m.argW f 0)) 61 (0, 0)) := Hb.mk (Hb.h (by repeat (first | assumption | exact Hb.newY _ _ | refine Hb.alloc ?_ | refine Hb.drew ?_ | refine Hb.ext (by assumption) ?_ | exact Hb.setSameL (by first | omega | (simp only [size_alloc, size_setB, size_drew]; omega)) | exact Hb.setSame (by assumption) | refine Hb.set (by first | omega | (simp only [size_alloc, size_setB, size_drew]; omega)) ?_ )))
            have hE711 : Ext w7 w11 := (by repeat (first | assumption | exact Ext.refl _ | refine Ext.alloc ?_ _ | refine Ext.drew ?_ | refine Ext.setB ?_ (by first | omega | (simp only [size_alloc, size_setB, size_drew]; omega)) _ | exact Ext.trans (by assumption) (by assumption) | refine Ext.trans ?_ (by assumption)))
            have hcap7 := hN7.cap
            have hlen7 := hN7.len
            have hcd11 : BX w11 (bb m) s7 L7 := hN7.bx (fun b hb => Nat.lt_of_lt_of_le (bb_lt hM b hb) (by omega)) hB7
            have hsc11 := hN7.sc
            refine WO_p (PS_move_tuple rfl) ?_
            refine WO_p (PS_extract_slice rfl rfl) ?_
            refine WO_p (PS_extract_bool rfl rfl) ?_
            refine WO_p (PS_assign_slice rfl) ?_
            refine WO_p (PS_assign_bool rfl) ?_
            refine WO_nil ?_
            refine thn_normal ?_
            refine W_seq ?_
            refine W_seq ?_
            refine W_region rfl ?_
            refine WO_p (PS_move_bool rfl) ?_
            refine WO_p (PS_not rfl) ?_
            refine WO_nil ?_
            refine thn_normal ?_
            refine W_if rfl (fun hb25 => ?_) (fun hb25 => ?_)
            · have hb25p := hb25.h; try simp only [al_ete, al_dfn, Bool.not_eq_true', Bool.not_eq_false', al_ne, Bool.not_not, al_nn] at hb25p
              simp at hb25p --END
            · have hb25p := hb25.h; try simp only [al_ete, al_dfn, Bool.not_eq_true', Bool.not_eq_false', al_ne, Bool.not_not, al_nn] at hb25p
              refine W_skip ?_
              refine thn_normal ?_
              refine W_seqJ (fun ρ w' => ∃ b9 A1, Fr [(0, .pointer (some ⟨C, 0, none⟩)), (2, .pointer (some ⟨C, 1803 + t * 65, none⟩)), (3, .bool (decide (o = 245))), (4, .int .u16 tkv), (6, .int .u64 (v.nonce f.self)), (7, .slice s7.1 s7.2.1 s7.2.2), (9, .pointer (some ⟨b9, 0, none⟩))] ρ ∧ Ext w11 w' ∧ w11.heap.size ≤ b9 ∧ b9 < w'.heap.size ∧ Hb w' b9 (.cells (encF (kF 5 0 false A1 f.self (m.argW f 0) s7)).toArray 66 (0, 0)) ∧ By A1 20 ∧ A1 = ycr1 khash f.self (v.nonce f.self).toNat) ?_ ?_
              · skip
                skip
                refine W_drawF [false, false, false, false, false, false, false, false, false, false, false, true, false, true, false] [13] [0, 1, 2, 3, 4, 5, 6, 7, 8, 9, 10, 11, 12, 14] hmix (by kernel_rfl) rfl rfl rfl ?_
                refine F_q (i := 0) rfl (by kernel_rfl) ?_
                refine WH_p (PS_move_ptr rfl) rfl ?_
                refine WH_nil ?_
                refine F_q (i := 1) rfl (by kernel_rfl) ?_
                refine WH_p (PS_nilCheck rfl) rfl ?_
                refine WH_nil ?_
                refine F_q (i := 2) rfl (by kernel_rfl) ?_
                refine WH_p (PS_fieldAddr 9 Hvac.runUnderlying66 rfl Hvac.sizeOf25 rfl rfl) rfl ?_
                refine WH_nil ?_
                refine F_q (i := 3) rfl (by kernel_rfl) ?_
                refine WH_loadA _ Hvac.isAgg25 Hvac.sizeOf25 rfl (Hb.h (by repeat (first | assumption | exact Hb.newY _ _ | refine Hb.alloc ?_ | refine Hb.drew ?_ | refine Hb.ext (by assumption) ?_ | exact Hb.setSameL (by first | omega | (simp only [size_alloc, size_setB, size_drew]; omega)) | exact Hb.setSame (by assumption) | refine Hb.set (by first | omega | (simp only [size_alloc, size_setB, size_drew]; omega)) ?_ ))) (by first | omega | assumption | rfl | decide | exact Nat.le_refl _ | (simp only [size_ic, Value.cells]; omega) | (simp; omega) | simp) (Xt.h (by first | assumption | exact Xt.whole rfl rfl | exact Xt.whole rfl (by assumption) | exact Xt.whole rfl (by simp only [size_ic, Value.cells]; omega) | exact ⟨rfl⟩)) ?_
                refine WH_nil ?_
                refine F_q (i := 4) rfl (by kernel_rfl) ?_
                refine WH_loadA _ Hvac.isAgg61 Hvac.sizeOf61 rfl (Hb.h (by repeat (first | assumption | exact Hb.newY _ _ | refine Hb.alloc ?_ | refine Hb.drew ?_ | refine Hb.ext (by assumption) ?_ | exact Hb.setSameL (by first | omega | (simp only [size_alloc, size_setB, size_drew]; omega)) | exact Hb.setSame (by assumption) | refine Hb.set (by first | omega | (simp only [size_alloc, size_setB, size_drew]; omega)) ?_ ))) (by first | omega | assumption | rfl | decide | exact Nat.le_refl _ | (simp only [size_ic, Value.cells]; omega) | (simp; omega) | simp) (Xt.h (by first | assumption | exact Xt.whole rfl rfl | exact Xt.whole rfl (by assumption) | exact Xt.whole rfl (by simp only [size_ic, Value.cells]; omega) | exact ⟨rfl⟩)) ?_
                refine WH_nil ?_
                refine F_q (i := 5) rfl (by kernel_rfl) ?_
                refine WH_p (PS_move_slice rfl) rfl ?_
                refine WH_nil ?_
                refine F_q (i := 6) rfl (by kernel_rfl) ?_
                refine WH_p (PS_move_ptr rfl) rfl ?_
                refine WH_nil ?_
                refine F_q (i := 7) rfl (by kernel_rfl) ?_
                refine WH_p (PS_nilCheck rfl) rfl ?_
                refine WH_nil ?_
                refine F_q (i := 8) rfl (by kernel_rfl) ?_
                refine WH_p (PS_fieldAddr 9 Hvac.runUnderlying66 rfl Hvac.sizeOf25 rfl rfl) rfl ?_
                refine WH_nil ?_
                refine F_q (i := 9) rfl (by kernel_rfl) ?_
                refine WH_loadA _ Hvac.isAgg25 Hvac.sizeOf25 rfl (Hb.h (by repeat (first | assumption | exact Hb.newY _ _ | refine Hb.alloc ?_ | refine Hb.drew ?_ | refine Hb.ext (by assumption) ?_ | exact Hb.setSameL (by first | omega | (simp only [size_alloc, size_setB, size_drew]; omega)) | exact Hb.setSame (by assumption) | refine Hb.set (by first | omega | (simp only [size_alloc, size_setB, size_drew]; omega)) ?_ ))) (by first | omega | assumption | rfl | decide | exact Nat.le_refl _ | (simp only [size_ic, Value.cells]; omega) | (simp; omega) | simp) (Xt.h (by first | assumption | exact Xt.whole rfl rfl | exact Xt.whole rfl (by assumption) | exact Xt.whole rfl (by simp only [size_ic, Value.cells]; omega) | exact ⟨rfl⟩)) ?_
                refine WH_nil ?_
                refine F_q (i := 10) rfl (by kernel_rfl) ?_
                refine WH_p (PS_move_int rfl) rfl ?_
                refine WH_nil ?_
                refine F_fork1 (i := 11) rfl rfl ?_ ?_
                · refine WH_call Hvac.call60 (by rfl) (Ret.mono (createAddr_ex f.self (v.nonce f.self) _ hself hnon) ?_)
                  rintro _ w60_25 ⟨hE60_25, rfl, hA1⟩
                  refine ⟨fun _ => (by repeat (first | assumption | exact Ext.refl _ | refine Ext.alloc ?_ _ | refine Ext.drew ?_ | refine Ext.setB ?_ (by first | omega | (simp only [size_alloc, size_setB, size_drew]; omega)) _ | exact Ext.trans (by assumption) (by assumption) | refine Ext.trans ?_ (by assumption))), ?_⟩
                  have hz60_25 := hE60_25.1
                  try simp only [size_alloc, size_setB, size_drew] at hz60_25
                  obtain ⟨A1, hA1e⟩ : ∃ A1, A1 = ycr1 khash f.self (v.nonce f.self).toNat := ⟨_, rfl⟩
                  rw [← hA1e] at hA1 ⊢
                  have hA1l := hA1.1
                  refine WH_nil ?_
                  refine F_q (i := 12) rfl (by kernel_rfl) ?_
                  refine WH_p (PS_b65_0_10_11_12_9 rfl rfl hselfl rfl hl0 rfl rfl hA1l) rfl ?_
                  obtain ⟨K0, hK0e⟩ : ∃ K0 : Fm, K0 = (kF 5 0 false A1 f.self (m.argW f 0) s7) := ⟨_, rfl⟩
                  change WH _ _ _ _ _ (upd _ _ (.agg (encF (kF 5 0 false A1 f.self (m.argW f 0) s7)).toArray)) _
                  rw [← hK0e]
                  have hK0 : FmTy K0 := by rw [hK0e]; exact kF_ty (by decide) (by decide) hA1 hself (hwdA 0)
                  have hKs0 := (openFB hK0).bd
                  have hone := @one_encF K0
                  have hks0 : (Value.agg (encF K0).toArray).cells.size = 65 := by have := encF_len hK0; simpa [Value.cells] using this
                  refine WH_nil ?_
                  refine F_fork1B (i := 14) (by kernel_rfl) rfl ?_
                  · refine WH_allocG Hvac.zeroValue66 ?_
                    intro b9 v9 hg9 hE9 hH9 hl9
                    try simp only [size_alloc, size_setB, size_drew] at hg9
                    have hzz9 := hE9.1
                    try simp only [size_alloc, size_setB, size_drew] at hzz9
                    replace hH9 : Hb v9 b9 (.cells ((encF zF).toArray) 66 (0, 0)) := hH9
                    refine ⟨fun _ => (by repeat (first | assumption | exact Ext.refl _ | refine Ext.alloc ?_ _ | refine Ext.drew ?_ | refine Ext.setB ?_ (by first | omega | (simp only [size_alloc, size_setB, size_drew]; omega)) _ | exact Ext.trans (by assumption) (by assumption) | refine Ext.trans ?_ (by assumption))), ?_⟩
                    refine WH_nil ?_
                    refine F_q (i := 14) rfl (by kernel_rfl) ?_
                    refine WH_storeW Hvac.sizeOf66 rfl (v := .agg _) rfl (Hb.h (by repeat (first | assumption | exact Hb.newY _ _ | refine Hb.alloc ?_ | refine Hb.drew ?_ | refine Hb.ext (by assumption) ?_ | exact Hb.setSameL (by first | omega | (simp only [size_alloc, size_setB, size_drew]; omega)) | exact Hb.setSame (by assumption) | refine Hb.set (by first | omega | (simp only [size_alloc, size_setB, size_drew]; omega)) ?_ ))) rfl hks0 (by decide) hone (fun h => by cases h) ?_
                    change WH _ _ _ _ _ _ (setB _ _ (.cells (encF K0).toArray 66 (0, 0)))
                    refine WH_nil ?_
                    refine F_end ?_
                    refine thn_normal ?_
                    exact ⟨b9, A1, ⟨rfl, rfl, rfl, rfl, rfl, rfl, rfl, trivial⟩, (by repeat (first | assumption | exact Ext.refl _ | refine Ext.alloc ?_ _ | refine Ext.drew ?_ | refine Ext.setB ?_ (by first | omega | (simp only [size_alloc, size_setB, size_drew]; omega)) _ | exact Ext.trans (by assumption) (by assumption) | refine Ext.trans ?_ (by assumption))), by omega, by first | omega | (simp only [size_setB]; omega), by rw [← hK0e]; exact Hb.mk (Hb.h (by repeat (first | assumption | exact Hb.newY _ _ | refine Hb.alloc ?_ | refine Hb.drew ?_ | refine Hb.ext (by assumption) ?_ | exact Hb.setSameL (by first | omega | (simp only [size_alloc, size_setB, size_drew]; omega)) | exact Hb.setSame (by assumption) | refine Hb.set (by first | omega | (simp only [size_alloc, size_setB, size_drew]; omega)) ?_ ))), hA1, by first | with_reducible rfl | exact hA1e⟩
                · refine WH_allocG Hvac.zeroValue66 ?_
                  intro b9 v9 hg9 hE9 hH9 hl9
                  try simp only [size_alloc, size_setB, size_drew] at hg9
                  have hzz9 := hE9.1
                  try simp only [size_alloc, size_setB, size_drew] at hzz9
                  replace hH9 : Hb v9 b9 (.cells ((encF zF).toArray) 66 (0, 0)) := hH9
                  refine ⟨fun _ => (by repeat (first | assumption | exact Ext.refl _ | refine Ext.alloc ?_ _ | refine Ext.drew ?_ | refine Ext.setB ?_ (by first | omega | (simp only [size_alloc, size_setB, size_drew]; omega)) _ | exact Ext.trans (by assumption) (by assumption) | refine Ext.trans ?_ (by assumption))), ?_⟩
                  refine WH_nil ?_
                  refine F_q (i := 11) rfl (by kernel_rfl) ?_
                  refine WH_call Hvac.call60 (by rfl) (Ret.mono (createAddr_ex f.self (v.nonce f.self) _ hself hnon) ?_)
                  rintro _ w60_26 ⟨hE60_26, rfl, hA1⟩
                  refine ⟨fun _ => (by repeat (first | assumption | exact Ext.refl _ | refine Ext.alloc ?_ _ | refine Ext.drew ?_ | refine Ext.setB ?_ (by first | omega | (simp only [size_alloc, size_setB, size_drew]; omega)) _ | exact Ext.trans (by assumption) (by assumption) | refine Ext.trans ?_ (by assumption))), ?_⟩
                  have hz60_26 := hE60_26.1
                  try simp only [size_alloc, size_setB, size_drew] at hz60_26
                  obtain ⟨A1, hA1e⟩ : ∃ A1, A1 = ycr1 khash f.self (v.nonce f.self).toNat := ⟨_, rfl⟩
                  rw [← hA1e] at hA1 ⊢
                  have hA1l := hA1.1
                  refine WH_nil ?_
                  refine F_q (i := 12) rfl (by kernel_rfl) ?_
                  refine WH_p (PS_b65_0_10_11_12_9 rfl rfl hselfl rfl hl0 rfl rfl hA1l) rfl ?_
                  obtain ⟨K0, hK0e⟩ : ∃ K0 : Fm, K0 = (kF 5 0 false A1 f.self (m.argW f 0) s7) := ⟨_, rfl⟩
                  change WH _ _ _ _ _ (upd _ _ (.agg (encF (kF 5 0 false A1 f.self (m.argW f 0) s7)).toArray)) _
                  rw [← hK0e]
                  have hK0 : FmTy K0 := by rw [hK0e]; exact kF_ty (by decide) (by decide) hA1 hself (hwdA 0)
                  have hKs0 := (openFB hK0).bd
                  have hone := @one_encF K0
                  have hks0 : (Value.agg (encF K0).toArray).cells.size = 65 := by have := encF_len hK0; simpa [Value.cells] using this
                  refine WH_nil ?_
                  refine F_q (i := 14) rfl (by kernel_rfl) ?_
                  refine WH_storeW Hvac.sizeOf66 rfl (v := .agg _) rfl (Hb.h (by repeat (first | assumption | exact Hb.newY _ _ | refine Hb.alloc ?_ | refine Hb.drew ?_ | refine Hb.ext (by assumption) ?_ | exact Hb.setSameL (by first | omega | (simp only [size_alloc, size_setB, size_drew]; omega)) | exact Hb.setSame (by assumption) | refine Hb.set (by first | omega | (simp only [size_alloc, size_setB, size_drew]; omega)) ?_ ))) rfl hks0 (by decide) hone (fun h => by cases h) ?_
                  change WH _ _ _ _ _ _ (setB _ _ (.cells (encF K0).toArray 66 (0, 0)))
                  refine WH_nil ?_
                  refine F_end ?_
                  refine thn_normal ?_
                  exact ⟨b9, A1, ⟨rfl, rfl, rfl, rfl, rfl, rfl, rfl, trivial⟩, (by repeat (first | assumption | exact Ext.refl _ | refine Ext.alloc ?_ _ | refine Ext.drew ?_ | refine Ext.setB ?_ (by first | omega | (simp only [size_alloc, size_setB, size_drew]; omega)) _ | exact Ext.trans (by assumption) (by assumption) | refine Ext.trans ?_ (by assumption))), by omega, by first | omega | (simp only [size_setB]; omega), by rw [← hK0e]; exact Hb.mk (Hb.h (by repeat (first | assumption | exact Hb.newY _ _ | refine Hb.alloc ?_ | refine Hb.drew ?_ | refine Hb.ext (by assumption) ?_ | exact Hb.setSameL (by first | omega | (simp only [size_alloc, size_setB, size_drew]; omega)) | exact Hb.setSame (by assumption) | refine Hb.set (by first | omega | (simp only [size_alloc, size_setB, size_drew]; omega)) ?_ ))), hA1, by first | with_reducible rfl | exact hA1e⟩
              · rintro ρ w15 ⟨b9, A1, hFr15, hE15, hgb9, hlb915, hb915, hA1, hA1e⟩
                refine W_env _ hFr15 ?_
                have hz15 := hE15.1
                have hA1l := hA1.1
                obtain ⟨K0, hK0e⟩ : ∃ K0 : Fm, K0 = (kF 5 0 false A1 f.self (m.argW f 0) s7) := ⟨_, rfl⟩
                rw [← hK0e] at hb915
                have hK0 : FmTy K0 := by rw [hK0e]; exact kF_ty (by decide) (by decide) hA1 hself (hwdA 0)
                have hKs0 := (openFB hK0).bd
                refine W_seqJ (fun ρ w' => ∃ kk aa, Fr [(0, .pointer (some ⟨C, 0, none⟩)), (2, .pointer (some ⟨C, 1803 + t * 65, none⟩)), (4, .int .u16 tkv), (6, .int .u64 (v.nonce f.self)), (9, .pointer (some ⟨b9, 0, none⟩))] ρ ∧ Ext w11 w' ∧ b9 < w'.heap.size ∧ Hb w' b9 (.cells (encF (kF kk 0 false aa f.self (m.argW f 0) s7)).toArray 66 (0, 0)) ∧ o = kindOpW kk ∧ (kk = 5 ∨ kk = 6) ∧ By aa 20 ∧ aa = ycrA khash { y with ret := [] } g o ∧ kk = (ycrk o : Int)) ?_ ?_
                · skip
                  refine W_seq ?_
                  refine W_region rfl ?_
                  refine WO_p (PS_move_bool rfl) ?_
                  refine WO_nil ?_
                  refine thn_normal ?_
                  refine W_if rfl (fun hb29 => ?_) (fun hb29 => ?_)
                  · have hb29p := hb29.h; try simp only [al_ete, al_dfn, Bool.not_eq_true', Bool.not_eq_false', al_ne, Bool.not_not, al_nn] at hb29p
                    have ho5 : o = 245 := by omega
                    refine W_seq ?_
                    refine W_region rfl ?_
                    refine WO_p (PS_fieldAddr 0 Hvac.runUnderlying66 rfl Hvac.sizeOf5 rfl rfl) ?_
                    refine WO_store1 Hvac.sizeOf5 rfl (v := .int _ _) rfl (Hb.h (by repeat (first | assumption | exact Hb.newY _ _ | refine Hb.alloc ?_ | refine Hb.drew ?_ | refine Hb.ext (by assumption) ?_ | exact Hb.setSameL (by first | omega | (simp only [size_alloc, size_setB, size_drew]; omega)) | exact Hb.setSame (by assumption) | refine Hb.set (by first | omega | (simp only [size_alloc, size_setB, size_drew]; omega)) ?_ ))) rfl (by omega) rfl ?_
                    rw [fs_kind]
                    have hK6 : FmTy (K0.sKind 6) := hK0.sKind (by decide)
                    have hK6b := (openFB hK6).bd
                    refine WO_nil ?_
                    refine thn_normal ?_
                    refine W_drawE [false, false, false, false, false, false, true, false, false, false, false] hmix (by kernel_rfl) rfl ?_
                    refine WH_p (PS_move_ptr rfl) rfl ?_
                    refine WH_p (PS_nilCheck rfl) rfl ?_
                    refine WH_p (PS_fieldAddr 9 Hvac.runUnderlying66 rfl Hvac.sizeOf25 rfl rfl) rfl ?_
                    refine WH_loadA _ Hvac.isAgg25 Hvac.sizeOf25 rfl (Hb.h (by repeat (first | assumption | exact Hb.newY _ _ | refine Hb.alloc ?_ | refine Hb.drew ?_ | refine Hb.ext (by assumption) ?_ | exact Hb.setSameL (by first | omega | (simp only [size_alloc, size_setB, size_drew]; omega)) | exact Hb.setSame (by assumption) | refine Hb.set (by first | omega | (simp only [size_alloc, size_setB, size_drew]; omega)) ?_ ))) (by first | omega | assumption | rfl | decide | exact Nat.le_refl _ | (simp only [size_ic, Value.cells]; omega) | (simp; omega) | simp) (Xt.h (by first | assumption | exact Xt.whole rfl rfl | exact Xt.whole rfl (by assumption) | exact Xt.whole rfl (by simp only [size_ic, Value.cells]; omega) | exact ⟨rfl⟩)) ?_
                    refine WH_p (PS_move_ptr rfl) rfl ?_
                    refine WH_p (PS_move_ptr rfl) rfl ?_
                    refine WH_call Hvac.call239 (by rfl) (Ret.mono (arg_spec C c7 v B { m with ret := (none, 0, 0) } t f _ _ (MS.ext hM7' (by repeat (first | assumption | exact Ext.refl _ | refine Ext.alloc ?_ _ | refine Ext.drew ?_ | refine Ext.setB ?_ (by first | omega | (simp only [size_alloc, size_setB, size_drew]; omega)) _ | exact Ext.trans (by assumption) (by assumption) | refine Ext.trans ?_ (by assumption)))) hA7 (by omega)) ?_)
                    rintro _ w239_29 ⟨hE239_29, rfl⟩
                    refine ⟨fun _ => (by repeat (first | assumption | exact Ext.refl _ | refine Ext.alloc ?_ _ | refine Ext.drew ?_ | refine Ext.setB ?_ (by first | omega | (simp only [size_alloc, size_setB, size_drew]; omega)) _ | exact Ext.trans (by assumption) (by assumption) | refine Ext.trans ?_ (by assumption))), ?_⟩
                    have hz239_29 := hE239_29.1
                    try simp only [size_alloc, size_setB, size_drew] at hz239_29
                    rw [hAW7]
                    refine WH_p (PS_move_slice rfl) rfl ?_
                    refine WH_call Hvac.call283 (by rfl) (Ret.mono (create2_ex f.self (m.argW f 3) s7 L7 _ hself (hwdA 3) (SC.ext hsc11 (by repeat (first | assumption | exact Ext.refl _ | refine Ext.alloc ?_ _ | refine Ext.drew ?_ | refine Ext.setB ?_ (by first | omega | (simp only [size_alloc, size_setB, size_drew]; omega)) _ | exact Ext.trans (by assumption) (by assumption) | refine Ext.trans ?_ (by assumption)))) hB7 hcap7 (by omega)) ?_)
                    rintro _ w283_30 ⟨hE283_30, rfl, hA2⟩
                    refine ⟨(fun h => by cases h), ?_⟩
                    have hz283_30 := hE283_30.1
                    try simp only [size_alloc, size_setB, size_drew] at hz283_30
                    obtain ⟨A2, hA2e⟩ : ∃ A2, A2 = ycr2 khash f.self (wn (m.argW f 3)) L7 := ⟨_, rfl⟩
                    rw [← hA2e] at hA2 ⊢
                    have hA2l := hA2.1
                    refine WH_p (PS_fieldAddr 9 Hvac.runUnderlying66 rfl Hvac.sizeOf25 rfl rfl) rfl ?_
                    refine WH_store Hvac.sizeOf25 rfl (v := .agg _) rfl (Hb.h (by repeat (first | assumption | exact Hb.newY _ _ | refine Hb.alloc ?_ | refine Hb.drew ?_ | refine Hb.ext (by assumption) ?_ | exact Hb.setSameL (by first | omega | (simp only [size_alloc, size_setB, size_drew]; omega)) | exact Hb.setSame (by assumption) | refine Hb.set (by first | omega | (simp only [size_alloc, size_setB, size_drew]; omega)) ?_ ))) (by simp only [size_ic, Value.cells]; omega) (by omega) oneCell_ic (fun h => by cases h) ?_
                    rw [fs_self hK6 hA2l]
                    refine WH_nil ?_
                    refine thn_normal ?_
                    exact ⟨6, A2, ⟨rfl, rfl, rfl, rfl, rfl, trivial⟩, (by repeat (first | assumption | exact Ext.refl _ | refine Ext.alloc ?_ _ | refine Ext.drew ?_ | refine Ext.setB ?_ (by first | omega | (simp only [size_alloc, size_setB, size_drew]; omega)) _ | exact Ext.trans (by assumption) (by assumption) | refine Ext.trans ?_ (by assumption))), by first | omega | (simp only [size_setB]; omega), (by have e : (K0.sKind 6).sSelf A2 = kF 6 0 false A2 f.self (m.argW f 0) s7 := (by subst hK0e; rfl); rw [← e]; exact Hb.mk (Hb.h (by repeat (first | assumption | exact Hb.newY _ _ | refine Hb.alloc ?_ | refine Hb.drew ?_ | refine Hb.ext (by assumption) ?_ | exact Hb.setSameL (by first | omega | (simp only [size_alloc, size_setB, size_drew]; omega)) | exact Hb.setSame (by assumption) | refine Hb.set (by first | omega | (simp only [size_alloc, size_setB, size_drew]; omega)) ?_ )))), by rw [ho5]; rfl, Or.inr rfl, hA2, (by unfold ycrA; rw [if_pos ho5, hA2e, hFP.self, hy3, hL7e]; rfl), (by unfold ycrk; rw [if_pos ho5]; rfl)⟩
                  · have hb29p := hb29.h; try simp only [al_ete, al_dfn, Bool.not_eq_true', Bool.not_eq_false', al_ne, Bool.not_not, al_nn] at hb29p
                    have ho5 : o = 240 := by omega
                    refine W_skip ?_
                    refine thn_normal ?_
                    exact ⟨5, A1, ⟨rfl, rfl, rfl, rfl, rfl, trivial⟩, (by repeat (first | assumption | exact Ext.refl _ | refine Ext.alloc ?_ _ | refine Ext.drew ?_ | refine Ext.setB ?_ (by first | omega | (simp only [size_alloc, size_setB, size_drew]; omega)) _ | exact Ext.trans (by assumption) (by assumption) | refine Ext.trans ?_ (by assumption))), by first | omega | (simp only [size_setB]; omega), (by rw [← hK0e]; exact Hb.mk (Hb.h (by repeat (first | assumption | exact Hb.newY _ _ | refine Hb.alloc ?_ | refine Hb.drew ?_ | refine Hb.ext (by assumption) ?_ | exact Hb.setSameL (by first | omega | (simp only [size_alloc, size_setB, size_drew]; omega)) | exact Hb.setSame (by assumption) | refine Hb.set (by first | omega | (simp only [size_alloc, size_setB, size_drew]; omega)) ?_ )))), by rw [ho5]; rfl, Or.inl rfl, hA1, (by unfold ycrA; rw [if_neg (by omega), hA1e, hFP.self, hnonY']), (by unfold ycrk; rw [if_neg (by omega)]; rfl)⟩
                · rintro ρ w18 ⟨kk, aa, hFr18, hE18, hlb918, hb918, hkk, hkk5, haa, haaY, hkkY⟩
                  refine W_env _ hFr18 ?_
                  have hz18 := hE18.1
                  obtain ⟨K, hKe⟩ : ∃ K, K = (kF kk 0 false aa f.self (m.argW f 0) s7) := ⟨_, rfl⟩
                  rw [← hKe] at hb918
                  have hKty : FmTy K := by rw [hKe]; exact kF_ty (by omega) (by decide) haa hself (hwdA 0)
                  have hKbd := (openFB hKty).bd
                  have haal := haa.1
                  obtain ⟨sg, hsg⟩ : ∃ sg, (f.gas - f.gas / 64) = sg := ⟨_, rfl⟩
                  have hsgb : 0 ≤ sg ∧ sg ≤ f.gas := by omega
                  have hsgY : sg = (ysent g.gas g.gas : Int) := by rw [← hsg, hfgY]; exact cr_sent _
                  have hKg : FmTy (K.sGas sg) := hKty.sGas (by omega)
                  have hKgas : Ce (encF (K.sGas sg)).toArray (0 + 7) (.int .u64 sg) := (openFB hKg).gas
                  have hKself : Xt (encF (K.sGas sg)).toArray (0 + 9) (0 + 9 + 20) (ic .u8 aa) := by have := (openFB hKg).self; rw [show (K.sGas sg).self = aa by rw [hKe]; rfl] at this; exact this
                  have hKgb := (openFB hKg).bd
                  have hKx : Xt (encF (K.sGas sg)).toArray 0 (0 + 65) (encF (K.sGas sg)).toArray := Xt.whole rfl (by have := encF_len hKg; simp only [List.size_toArray]; omega)
                  refine W_seq ?_
                  refine W_drawE [false, false, false, false, false, false, false, false, false, false, false, false] hmix (by kernel_rfl) rfl ?_
                  refine WH_p (PS_move_ptr rfl) rfl ?_
                  refine WH_p (PS_nilCheck rfl) rfl ?_
                  refine WH_p (PS_fieldAddr 7 Hvac.runUnderlying66 rfl Hvac.sizeOf26 rfl rfl) rfl ?_
                  refine WH_load (.int _ _) Hvac.isAgg26 rfl (Hb.h (by repeat (first | assumption | exact Hb.newY _ _ | refine Hb.alloc ?_ | refine Hb.drew ?_ | refine Hb.ext (by assumption) ?_ | exact Hb.setSameL (by first | omega | (simp only [size_alloc, size_setB, size_drew]; omega)) | exact Hb.setSame (by assumption) | refine Hb.set (by first | omega | (simp only [size_alloc, size_setB, size_drew]; omega)) ?_ ))) (Ce.h (by first | assumption | exact ⟨rfl⟩)) ?_
                  refine WH_p (PS_move_ptr rfl) rfl ?_
                  refine WH_p (PS_nilCheck rfl) rfl ?_
                  refine WH_p (PS_fieldAddr 7 Hvac.runUnderlying66 rfl Hvac.sizeOf26 rfl rfl) rfl ?_
                  refine WH_load (.int _ _) Hvac.isAgg26 rfl (Hb.h (by repeat (first | assumption | exact Hb.newY _ _ | refine Hb.alloc ?_ | refine Hb.drew ?_ | refine Hb.ext (by assumption) ?_ | exact Hb.setSameL (by first | omega | (simp only [size_alloc, size_setB, size_drew]; omega)) | exact Hb.setSame (by assumption) | refine Hb.set (by first | omega | (simp only [size_alloc, size_setB, size_drew]; omega)) ?_ ))) (Ce.h (by first | assumption | exact ⟨rfl⟩)) ?_
                  refine WH_p (PS_quo_u64 rfl rfl (by omega) (by omega) (by omega)) rfl ?_
                  refine WH_p (PS_sub_u64n rfl rfl (by omega) (by omega)) rfl ?_
                  refine WH_p (PS_fieldAddr 7 Hvac.runUnderlying66 rfl Hvac.sizeOf26 rfl rfl) rfl ?_
                  refine WH_store1 Hvac.sizeOf26 rfl (v := .int _ _) rfl (Hb.h (by repeat (first | assumption | exact Hb.newY _ _ | refine Hb.alloc ?_ | refine Hb.drew ?_ | refine Hb.ext (by assumption) ?_ | exact Hb.setSameL (by first | omega | (simp only [size_alloc, size_setB, size_drew]; omega)) | exact Hb.setSame (by assumption) | refine Hb.set (by first | omega | (simp only [size_alloc, size_setB, size_drew]; omega)) ?_ ))) rfl (by omega) rfl (fun h => by cases h) ?_
                  rw [fs_gas, hsg]
                  refine WH_nil ?_
                  refine thn_normal ?_
                  refine W_seq ?_
                  refine W_gen fun w19 hw19 => ?_
                  have hE19 : Ext w11 w19 := by rw [hw19]; exact (by repeat (first | assumption | exact Ext.refl _ | refine Ext.alloc ?_ _ | refine Ext.drew ?_ | refine Ext.setB ?_ (by first | omega | (simp only [size_alloc, size_setB, size_drew]; omega)) _ | exact Ext.trans (by assumption) (by assumption) | refine Ext.trans ?_ (by assumption)))
                  have hb919 : Hb w19 b9 (.cells (encF (K.sGas sg)).toArray 66 (0, 0)) := by rw [hw19]; exact Hb.mk (Hb.h (by repeat (first | assumption | exact Hb.newY _ _ | refine Hb.alloc ?_ | refine Hb.drew ?_ | refine Hb.ext (by assumption) ?_ | exact Hb.setSameL (by first | omega | (simp only [size_alloc, size_setB, size_drew]; omega)) | exact Hb.setSame (by assumption) | refine Hb.set (by first | omega | (simp only [size_alloc, size_setB, size_drew]; omega)) ?_ )))
                  clear hw19
                  have hz19 := hE19.1
                  have hlb919 := hb919.lt
                  have hM19 := (hM7'.ext hE711).ext hE19
                  have hblk19 := hM19.vs.blk
                  obtain ⟨hM20, hS20⟩ := (hM19.ext (Ext.drew (Ext.refl _))).putF_gas (t := t) (f := f) hf (f.gas - sg) (by omega)
                  have hcd19 : BX w19 (bb m) s7 L7 := hcd11.ext hE19
                  refine W_drawE [false, false, false, false, false, false, false, false, false, false] hmix (by kernel_rfl) rfl ?_
                  refine WH_p (PS_move_ptr rfl) rfl ?_
                  refine WH_p (PS_nilCheck rfl) rfl ?_
                  refine WH_p (PS_fieldAddr 7 Hvac.runUnderlying66 rfl Hvac.sizeOf26 rfl rfl) rfl ?_
                  refine WH_load (.int _ _) Hvac.isAgg26 rfl (Hb.h (by repeat (first | assumption | exact Hb.newY _ _ | refine Hb.alloc ?_ | refine Hb.drew ?_ | refine Hb.ext (by assumption) ?_ | exact Hb.setSameL (by first | omega | (simp only [size_alloc, size_setB, size_drew]; omega)) | exact Hb.setSame (by assumption) | refine Hb.set (by first | omega | (simp only [size_alloc, size_setB, size_drew]; omega)) ?_ ))) (Ce.h (by first | assumption | exact ⟨rfl⟩)) ?_
                  refine WH_p (PS_fieldAddr 7 Hvac.runUnderlying66 rfl Hvac.sizeOf26 rfl rfl) rfl ?_
                  refine WH_load (.int _ _) Hvac.isAgg26 rfl (Hb.h (by repeat (first | assumption | exact Hb.newY _ _ | refine Hb.alloc ?_ | refine Hb.drew ?_ | refine Hb.ext (by assumption) ?_ | exact Hb.setSameL (by first | omega | (simp only [size_alloc, size_setB, size_drew]; omega)) | exact Hb.setSame (by assumption) | refine Hb.set (by first | omega | (simp only [size_alloc, size_setB, size_drew]; omega)) ?_ ))) (Ce.h (by first | assumption | exact ⟨rfl⟩)) ?_
                  refine WH_p (PS_sub_u64n rfl rfl (by omega) (by omega)) rfl ?_
                  refine WH_p (PS_nilCheck rfl) rfl ?_
                  refine WH_p (PS_fieldAddr 7 Hvac.runUnderlying66 rfl Hvac.sizeOf26 rfl rfl) rfl ?_
                  refine WH_store1 Hvac.sizeOf26 rfl (v := (.int _ _)) rfl (Hb.h (by repeat (first | assumption | exact Hb.newY _ _ | refine Hb.alloc ?_ | refine Hb.drew ?_ | refine Hb.ext (by assumption) ?_ | exact Hb.setSameL (by first | omega | (simp only [size_alloc, size_setB, size_drew]; omega)) | exact Hb.setSame (by assumption) | refine Hb.set (by first | omega | (simp only [size_alloc, size_setB, size_drew]; omega)) ?_ ))) rfl (by first | omega | assumption | rfl | decide | exact Nat.le_refl _ | (simp only [size_ic, Value.cells]; omega) | (simp; omega) | simp) rfl (fun h => by cases h) ?_
                  refine WH_nil ?_
                  refine thn_normal ?_
                  refine W_seq ?_
                  refine W_seq ?_
                  refine W_gen fun w20 hw20 => ?_
                  obtain ⟨c20, hM20', hS20'⟩ : ∃ c20, MS w20 C c20 v B { m with ret := (none, 0, 0), frames := m.frames.set t { f with gas := f.gas - sg } } ∧ MStep w19 w20 C B { m with ret := (none, 0, 0) } B { m with ret := (none, 0, 0), frames := m.frames.set t { f with gas := f.gas - sg } } := ⟨_, by rw [hw20]; exact hM20, by rw [hw20]; exact (MStep.ext (Ext.drew (Ext.refl _))).trans hS20⟩
                  have hb920 : Hb w20 b9 (.cells (encF (K.sGas sg)).toArray 66 (0, 0)) := by rw [hw20]; exact Hb.mk (Hb.h (by repeat (first | assumption | exact Hb.newY _ _ | refine Hb.alloc ?_ | refine Hb.drew ?_ | refine Hb.ext (by assumption) ?_ | exact Hb.setSameL (by first | omega | (simp only [size_alloc, size_setB, size_drew]; omega)) | exact Hb.setSame (by assumption) | refine Hb.set (by first | omega | (simp only [size_alloc, size_setB, size_drew]; omega)) ?_ )))
                  have hKK20 : KK w7 w20 := by rw [hw20]; exact KK.set (KK.ext ((hE711.trans hE19).trans (Ext.drew (Ext.refl _)))) (hM19.ext (Ext.drew (Ext.refl _))).vs.blk (by decide) (by decide)
                  clear hw20 hM20 hS20
                  have hlb920 := hb920.lt
                  have hz20 := hS20'.keep.sz
                  have hcd20 : BX w20 (bb m) s7 L7 := BX.mstep (m := { m with ret := (none, 0, 0) }) hM19 hS20' hcd19
                  have hS20w : MStep w w20 C B m B { m with ret := (none, 0, 0), frames := m.frames.set t { f with gas := f.gas - sg } } := ((hS7'.trans (MStep.ext hE711)).trans (MStep.ext hE19)).trans hS20'
                  have hz20w := hS20w.keep.sz
                  have hf20 : ({ m with ret := (none, 0, 0), frames := m.frames.set t { f with gas := f.gas - sg } } : Mc).frames[t]? = some { f with gas := f.gas - sg } := by show (m.frames.set t _)[t]? = _; rw [List.getElem?_set_self (lt_of_getElem? hf)]
                  obtain ⟨k21, a21, hset21⟩ := putNonce_go hvi (A := f.self) (n := v.nonce f.self + 1) (Or.inl hFk.en) (by have := hroom.j; omega)
                  have ha21 := hset21.a0 hFk.en
                  subst ha21
                  obtain ⟨y1, hyv1⟩ : ∃ y1, v.putNonce f.self (v.nonce f.self + 1) = (true, y1) := ⟨_, Prod.ext k21 rfl⟩
                  rw [hyv1] at hset21
                  replace hset21 : SetA v f.self _ 0 y1 := hset21
                  have hx21 := putNonce_x hvi (A := f.self) (n := v.nonce f.self + 1) (Or.inl hFk.en) (by have := hroom.j; omega)
                  rw [hyv1] at hx21
                  replace hx21 : SetX v f.self _ y1 := hx21
                  have hadv21 : Adv v y1 1 0 0 := hset21.adv rfl
                  have hb21 := hset21.bals rfl
                  have hroom1 : Room y1 := by
                    have h1 := hI.rw_.adv (s' := m.txgas - gasTo m.frames (t + 1)) (m' := m) hadv21 (by omega) (by omega) (by omega) (by omega) (by omega) (by omega) rfl rfl
                    exact h1.room (by have := hI.sb hM.ty; omega) hI.ti.a0 hI.ti.s0
                  obtain ⟨q2, y2, hyv2⟩ : ∃ q2 y2, y1.warmT aa = (q2, y2) := ⟨_, _, rfl⟩
                  have hwm := warm_adv (A := aa) hadv21.vi hroom1
                  rw [hyv2] at hwm
                  have hwx := warmT_x hadv21.vi hroom1 aa
                  rw [hyv2] at hwx
                  have hVK2 : VK v y2 := hx21.vk.trans hwx.1
                  have hVR2 : ∀ rd, VR rd v.sx y.now → VR rd y2.sx (ycre2 khash { y with ret := [] } g o).now := by
                    intro rd h
                    have h1 := hwx.2 rd _ (hx21.putNonce h (k := (yacct y.now.accts g.self).nonce + 1) (by omega))
                    rw [hFP.self, haaY] at h1
                    exact h1
                  have hGO : ∀ W, KK w7 W → Rel W y2 { m with ret := (none, 0, 0) } (ycre2 khash { y with ret := [] } g o, rest ++ [g]) := fun W hk => Rel.vgo (y := { y with ret := [] }) (p' := (ycre2 khash { y with ret := [] } g o).now) hRl7 hM7' hvi hk.k5 hk.k28 hVK2 hVR2 (hI.snx htl)
                  obtain ⟨hq2, dj, da, hadv22, hwa2, hcj, hca, hda1, hdj1, hbal2, hsum2⟩ := hwm
                  replace hq2 : q2 = true := hq2
                  subst hq2
                  replace hadv22 : Adv y1 y2 dj da 0 := hadv22
                  replace hwa2 : y2.isWarmA aa = true := hwa2
                  replace hbal2 : ∀ X, y2.bal X = y1.bal X := hbal2
                  replace hsum2 : sumW y2.sc.bals = sumW y1.sc.bals := hsum2
                  have hent2 := warm_ent hadv22.vi hwa2
                  have hadv2 : Adv v y2 (1 + dj) da 0 := by have h := hadv21.trans hadv22; simpa using h
                  refine W_drawT2 [false, false, false, false, false, false, false, false, false, false, true, false, false, false, false, false, false, false, false] (CrS C t b9 f.self (encF (K.sGas sg)).toArray) hmix (by kernel_rfl) rfl (CrS.of (f := { f with gas := f.gas - sg }) (MS.ext hM20' (by repeat (first | assumption | exact Ext.refl _ | refine Ext.alloc ?_ _ | refine Ext.drew ?_ | refine Ext.setB ?_ (by first | omega | (simp only [size_alloc, size_setB, size_drew]; omega)) _ | exact Ext.trans (by assumption) (by assumption) | refine Ext.trans ?_ (by assumption)))) hf20 (Hb.mk (Hb.h (by repeat (first | assumption | exact Hb.newY _ _ | refine Hb.alloc ?_ | refine Hb.drew ?_ | refine Hb.ext (by assumption) ?_ | exact Hb.setSameL (by first | omega | (simp only [size_alloc, size_setB, size_drew]; omega)) | exact Hb.setSame (by assumption) | refine Hb.set (by first | omega | (simp only [size_alloc, size_setB, size_drew]; omega)) ?_ ))))) ?_
                  intro hSt1
                  refine WH_p (PS_move_ptr rfl) rfl ?_
                  refine WH_p (PS_nilCheck rfl) rfl ?_
                  refine WH_p (PS_fieldAddr 0 Hvac.runUnderlying70 rfl Hvac.sizeOf55 rfl rfl) rfl ?_
                  refine WH_load0 (.pointer (some ⟨C, 2435, none⟩)) Hvac.isAgg55 rfl (fun w' hS => by obtain ⟨c', k1, k2, k3, k4⟩ := hS.ch; exact ⟨_, _, _, k1.h, k3.h⟩) ?_
                  refine WH_p (PS_move_ptr rfl) rfl ?_
                  refine WH_p (PS_nilCheck rfl) rfl ?_
                  refine WH_p (PS_fieldAddr 9 Hvac.runUnderlying66 rfl Hvac.sizeOf25 rfl rfl) rfl ?_
                  refine WH_loadA0 (ic .u8 f.self) Hvac.isAgg25 Hvac.sizeOf25 rfl (fun w' hS => by obtain ⟨c', k1, k2, k3, k4⟩ := hS.ch; exact ⟨_, _, _, k1.h, by omega, k4.h⟩) ?_
                  refine WH_p (PS_move_int rfl) rfl ?_
                  refine WH_p (PS_add_u64n rfl rfl (by omega) (by omega)) rfl ?_
                  refine WH_call Hvac.call63 (by rfl) (Ret.mono (putNonce_spec C c20 v B (bb m) f.self (v.nonce f.self + 1) _ (VS.ext hM20'.vs (by repeat (first | assumption | exact Ext.refl _ | refine Ext.alloc ?_ _ | refine Ext.drew ?_ | refine Ext.setB ?_ (by first | omega | (simp only [size_alloc, size_setB, size_drew]; omega)) _ | exact Ext.trans (by assumption) (by assumption) | refine Ext.trans ?_ (by assumption)))) hself (by omega)) ?_)
                  rintro _ w21 ⟨rfl, hR21⟩
                  rw [hyv1] at hR21 ⊢
                  replace hR21 : VRet _ _ _ _ _ w21 y1 := hR21
                  have hKv21 := VRet.kts (MS.ext hM20' (by repeat (first | assumption | exact Ext.refl _ | refine Ext.alloc ?_ _ | refine Ext.drew ?_ | refine Ext.setB ?_ (by first | omega | (simp only [size_alloc, size_setB, size_drew]; omega)) _ | exact Ext.trans (by assumption) (by assumption) | refine Ext.trans ?_ (by assumption)))).vs hR21
                  have hKK21 : KK w7 w21 := (hKK20.trans (KK.ext (by repeat (first | assumption | exact Ext.refl _ | refine Ext.alloc ?_ _ | refine Ext.drew ?_ | refine Ext.setB ?_ (by first | omega | (simp only [size_alloc, size_setB, size_drew]; omega)) _ | exact Ext.trans (by assumption) (by assumption) | refine Ext.trans ?_ (by assumption))))).trans ⟨hKv21.1, hKv21.2⟩
                  obtain ⟨c21, B21, hM21, hS21⟩ := (MS.ext hM20' (by repeat (first | assumption | exact Ext.refl _ | refine Ext.alloc ?_ _ | refine Ext.drew ?_ | refine Ext.setB ?_ (by first | omega | (simp only [size_alloc, size_setB, size_drew]; omega)) _ | exact Ext.trans (by assumption) (by assumption) | refine Ext.trans ?_ (by assumption)))).vret hR21
                  have hz21 := hS21.keep.sz
                  try simp only [size_alloc, size_setB, size_drew] at hz21
                  have hb921 := MS.box (MS.ext hM20' (by repeat (first | assumption | exact Ext.refl _ | refine Ext.alloc ?_ _ | refine Ext.drew ?_ | refine Ext.setB ?_ (by first | omega | (simp only [size_alloc, size_setB, size_drew]; omega)) _ | exact Ext.trans (by assumption) (by assumption) | refine Ext.trans ?_ (by assumption)))) hS21 (b := b9) (r := (encF (K.sGas sg)).toArray) (T := 66) (fz := (0, 0)) (Hb.mk (Hb.h (by repeat (first | assumption | exact Hb.newY _ _ | refine Hb.alloc ?_ | refine Hb.drew ?_ | refine Hb.ext (by assumption) ?_ | exact Hb.setSameL (by first | omega | (simp only [size_alloc, size_setB, size_drew]; omega)) | exact Hb.setSame (by assumption) | refine Hb.set (by first | omega | (simp only [size_alloc, size_setB, size_drew]; omega)) ?_ )))) (by decide) (by decide)
                  refine ⟨fun _ => CrS.of (f := { f with gas := f.gas - sg }) hM21 hf20 hb921, ?_⟩
                  refine WH_p (PS_not rfl) rfl ?_
                  refine WH_p (PS_move_bool rfl) rfl ?_
                  refine WH_if (t := 132) rfl (fun hb35 => ?_) (fun hb35 => ?_)
                  · have hb35p := hb35.h; try simp only [al_ete, al_dfn, Bool.not_eq_true', Bool.not_eq_false', al_ne, Bool.not_not, al_nn] at hb35p
                    simp at hb35p --END
                  · have hb35p := hb35.h; try simp only [al_ete, al_dfn, Bool.not_eq_true', Bool.not_eq_false', al_ne, Bool.not_not, al_nn] at hb35p
                    refine WH_guardT rfl rfl hb35.h ?_
                    refine WH_p (PS_move_ptr rfl) rfl ?_
                    refine WH_guardT rfl rfl hb35.h ?_
                    refine WH_p (PS_fieldAddr 9 Hvac.runUnderlying66 rfl Hvac.sizeOf25 rfl rfl) rfl ?_
                    refine WH_guardT rfl rfl hb35.h ?_
                    refine WH_loadA0 (ic .u8 aa) Hvac.isAgg25 Hvac.sizeOf25 rfl (fun w' hS => ⟨_, _, _, hS.h9.h, by omega, hKself.h⟩) ?_
                    refine WH_guardT rfl rfl hb35.h ?_
                    refine WH_call Hvac.call268 (by rfl) (Ret.mono (warmAcct_ex C c21 y1 B21 { m with ret := (none, 0, 0), frames := m.frames.set t { f with gas := f.gas - sg } } aa _ (MS.ext hM21 (by repeat (first | assumption | exact Ext.refl _ | refine Ext.alloc ?_ _ | refine Ext.drew ?_ | refine Ext.setB ?_ (by first | omega | (simp only [size_alloc, size_setB, size_drew]; omega)) _ | exact Ext.trans (by assumption) (by assumption) | refine Ext.trans ?_ (by assumption)))) haa) ?_)
                    rintro _ w22 ⟨rfl, hR22, hKa22, hKb22⟩
                    rw [hyv2] at hR22 ⊢
                    replace hR22 : MRet _ C B21 { m with ret := (none, 0, 0), frames := m.frames.set t { f with gas := f.gas - sg } } w22 y2 { m with ret := (none, 0, 0), frames := m.frames.set t { f with gas := f.gas - sg } } := hR22
                    have hKK22 : KK w7 w22 := (hKK21.trans (KK.ext (by repeat (first | assumption | exact Ext.refl _ | refine Ext.alloc ?_ _ | refine Ext.drew ?_ | refine Ext.setB ?_ (by first | omega | (simp only [size_alloc, size_setB, size_drew]; omega)) _ | exact Ext.trans (by assumption) (by assumption) | refine Ext.trans ?_ (by assumption))))).trans ⟨hKa22, hKb22⟩
                    obtain ⟨c22, B22, hM22, hS22⟩ := hR22
                    have hz22 := hS22.keep.sz
                    try simp only [size_alloc, size_setB, size_drew] at hz22
                    have hb922 := MS.box (MS.ext hM21 (by repeat (first | assumption | exact Ext.refl _ | refine Ext.alloc ?_ _ | refine Ext.drew ?_ | refine Ext.setB ?_ (by first | omega | (simp only [size_alloc, size_setB, size_drew]; omega)) _ | exact Ext.trans (by assumption) (by assumption) | refine Ext.trans ?_ (by assumption)))) hS22 (b := b9) (r := (encF (K.sGas sg)).toArray) (T := 66) (fz := (0, 0)) (Hb.mk (Hb.h (by repeat (first | assumption | exact Hb.newY _ _ | refine Hb.alloc ?_ | refine Hb.drew ?_ | refine Hb.ext (by assumption) ?_ | exact Hb.setSameL (by first | omega | (simp only [size_alloc, size_setB, size_drew]; omega)) | exact Hb.setSame (by assumption) | refine Hb.set (by first | omega | (simp only [size_alloc, size_setB, size_drew]; omega)) ?_ )))) (by decide) (by decide)
                    refine ⟨fun _ => CrS.of (f := { f with gas := f.gas - sg }) hM22 hf20 hb922, ?_⟩
                    have hS22' : MStep w20 w22 C B { m with ret := (none, 0, 0), frames := m.frames.set t { f with gas := f.gas - sg } } B22 { m with ret := (none, 0, 0), frames := m.frames.set t { f with gas := f.gas - sg } } := ((MStep.ext (by repeat (first | assumption | exact Ext.refl _ | refine Ext.alloc ?_ _ | refine Ext.drew ?_ | refine Ext.setB ?_ (by first | omega | (simp only [size_alloc, size_setB, size_drew]; omega)) _ | exact Ext.trans (by assumption) (by assumption) | refine Ext.trans ?_ (by assumption)))).trans hS21).trans ((MStep.ext (by repeat (first | assumption | exact Ext.refl _ | refine Ext.alloc ?_ _ | refine Ext.drew ?_ | refine Ext.setB ?_ (by first | omega | (simp only [size_alloc, size_setB, size_drew]; omega)) _ | exact Ext.trans (by assumption) (by assumption) | refine Ext.trans ?_ (by assumption)))).trans hS22)
                    have hS22w := hS20w.trans hS22'
                    have hcd22 : BX w22 (bb m) s7 L7 := BX.mstep (m := { m with ret := (none, 0, 0), frames := m.frames.set t { f with gas := f.gas - sg } }) hM20' hS22' hcd20
                    have hz22w := hS22w.keep.sz
                    have hlb922 := hb922.lt
                    have hRl22 : Rel w22 y2 { m with ret := (none, 0, 0) } (ycre2 khash { y with ret := [] } g o, rest ++ [g]) := hGO _ hKK22
                    have htkn : takenW y2 aa = ytaken (ycre2 khash { y with ret := [] } g o).now.accts aa := by
                      obtain ⟨L22, _, hP22⟩ := hRl22.ex
                      exact hP22.vr.takenV hM22.vs hadv2.vi aa
                    have hblk22 := hM22.vs.blk
                    have hcs22 := hM22.sz
                    have hA22 : FrA { m with ret := (none, 0, 0), frames := m.frames.set t { f with gas := f.gas - sg } } t { f with gas := f.gas - sg } := ⟨hA.t6, hf20, hA.sb, hA.sp⟩
                    refine WH_guardT rfl rfl hb35.h ?_
                    refine WH_p (PS_not rfl) rfl ?_
                    refine WH_p (PS_pickF rfl hb35.h rfl) rfl ?_
                    refine WH_nil ?_
                    refine thn_normal ?_
                    refine W_if rfl (fun hb39 => ?_) (fun hb39 => ?_)
                    · have hb39p := hb39.h; try simp only [al_ete, al_dfn, Bool.not_eq_true', Bool.not_eq_false', al_ne, Bool.not_not, al_nn] at hb39p
                      simp at hb39p --END
                    · have hb39p := hb39.h; try simp only [al_ete, al_dfn, Bool.not_eq_true', Bool.not_eq_false', al_ne, Bool.not_not, al_nn] at hb39p
                      refine W_skip ?_
                      refine thn_normal ?_
                      refine W_seq ?_
                      refine W_seq ?_
                      refine W_region rfl ?_
                      refine WO_p (PS_move_ptr rfl) ?_
                      refine WO_p (PS_fieldAddr 9 Hvac.runUnderlying66 rfl Hvac.sizeOf25 rfl rfl) ?_
                      refine WO_loadA _ Hvac.isAgg25 Hvac.sizeOf25 rfl (Hb.h (by repeat (first | assumption | exact Hb.newY _ _ | refine Hb.alloc ?_ | refine Hb.drew ?_ | refine Hb.ext (by assumption) ?_ | exact Hb.setSameL (by first | omega | (simp only [size_alloc, size_setB, size_drew]; omega)) | exact Hb.setSame (by assumption) | refine Hb.set (by first | omega | (simp only [size_alloc, size_setB, size_drew]; omega)) ?_ ))) (by first | omega | assumption | rfl | decide | exact Nat.le_refl _ | (simp only [size_ic, Value.cells]; omega) | (simp; omega) | simp) (Xt.h (by first | assumption | exact Xt.whole rfl rfl | exact Xt.whole rfl (by assumption) | exact Xt.whole rfl (by simp only [size_ic, Value.cells]; omega) | exact ⟨rfl⟩)) ?_
                      refine WO_call Hvac.call74 (by rfl) (Ret.mono (taken_ex C c22 y2 B22 { m with ret := (none, 0, 0), frames := m.frames.set t { f with gas := f.gas - sg } } aa _ (MS.ext hM22 (by repeat (first | assumption | exact Ext.refl _ | refine Ext.alloc ?_ _ | refine Ext.drew ?_ | refine Ext.setB ?_ (by first | omega | (simp only [size_alloc, size_setB, size_drew]; omega)) _ | exact Ext.trans (by assumption) (by assumption) | refine Ext.trans ?_ (by assumption)))) hadv2.vi haa) ?_)
                      rintro _ w74_39 ⟨hE74_39, rfl⟩
                      have hz74_39 := hE74_39.1
                      try simp only [size_alloc, size_setB, size_drew] at hz74_39
                      obtain ⟨qt, hqt⟩ : ∃ qt, takenW y2 aa = qt := ⟨_, rfl⟩
                      rw [hqt]
                      refine WO_nil ?_
                      refine thn_normal ?_
                      refine W_if rfl (fun hb41 => ?_) (fun hb41 => ?_)
                      · have hb41p := hb41.h; try simp only [al_ete, al_dfn, Bool.not_eq_true', Bool.not_eq_false', al_ne, Bool.not_not, al_nn] at hb41p
                        have hqT : qt = true := by simpa using hb41p
                        refine W_seq ?_
                        refine W_region rfl ?_
                        refine WO_p (PS_move_ptr rfl) ?_
                        refine WO_p (PS_move_ptr rfl) ?_
                        refine WO_p (PS_move_int rfl) ?_
                        refine WO_p (PS_buildI (k := .u64) (zs := [0, 0, 0, 0]) (ps := []) (L := [0, 0, 0, 0]) Hvac.zeroValue61 Hvac.runUnderlying61 Hvac.sizeOf26 rfl rfl rfl rfl) ?_
                        refine WO_call Hvac.call235 (by rfl) (Ret.mono (settle_ex C c22 y2 B22 { m with ret := (none, 0, 0), frames := m.frames.set t { f with gas := f.gas - sg } } t { f with gas := f.gas - sg } tkv _ _ _ _ (MS.ext hM22 (by repeat (first | assumption | exact Ext.refl _ | refine Ext.alloc ?_ _ | refine Ext.drew ?_ | refine Ext.setB ?_ (by first | omega | (simp only [size_alloc, size_setB, size_drew]; omega)) _ | exact Ext.trans (by assumption) (by assumption) | refine Ext.trans ?_ (by assumption)))) hA22 (by show 0 ≤ _ ∧ _ ≤ f.sp; omega) (by intro _; show f.sp - _ < 64; omega) Wd0 (by show (0:Int) ≤ 1 ∧ f.pc + 1 ≤ 65535; omega)) ?_)
                        rintro _ wS ⟨hRS, hKS⟩
                        have hKKS : KK w7 wS := KK.kc (hKK22.trans (KK.ext (by repeat (first | assumption | exact Ext.refl _ | refine Ext.alloc ?_ _ | refine Ext.drew ?_ | refine Ext.setB ?_ (by first | omega | (simp only [size_alloc, size_setB, size_drew]; omega)) _ | exact Ext.trans (by assumption) (by assumption) | refine Ext.trans ?_ (by assumption))))) hKS (MS.ext hM22 (by repeat (first | assumption | exact Ext.refl _ | refine Ext.alloc ?_ _ | refine Ext.drew ?_ | refine Ext.setB ?_ (by first | omega | (simp only [size_alloc, size_setB, size_drew]; omega)) _ | exact Ext.trans (by assumption) (by assumption) | refine Ext.trans ?_ (by assumption)))).vs.blk (by decide) (by decide)
                        have hRlS := Rel.setf0 (f' := { f with gas := f.gas - sg }) (hGO _ hKKS) hstl hMI7 hf (a := g.gas - ysent g.gas g.gas) (b := g.outOff) (c' := g.outLen) (by rw [← hFP.oo, ← hFP.ol, show ((g.gas - ysent g.gas g.gas : Nat) : Int) = f.gas - sg from by omega]) htkY (st := 1) (sI := 1) rfl (gv := true) (W := [0, 0, 0, 0]) (by omega) (by omega) (fun _ => by omega)
                        refine WO_nil ?_
                        refine thn_normal ?_
                        refine W_ret ?_
                        refine thn_ret ?_
                        first | refine bodyQ_ret0 Hvac.results186 ?_ | refine bodyQ_end0 Hvac.results186 ?_
                        exact ⟨y2, _, MRet.trans hS22w (MRet.pre (by repeat (first | assumption | exact Ext.refl _ | refine Ext.alloc ?_ _ | refine Ext.drew ?_ | refine Ext.setB ?_ (by first | omega | (simp only [size_alloc, size_setB, size_drew]; omega)) _ | exact Ext.trans (by assumption) (by assumption) | refine Ext.trans ?_ (by assumption))) hRS), op_stay hI hf hadv2 hda1 (st := -sg) (by omega) (by omega) (by omega) (by omega) (by rw [show f.gas + -sg = f.gas - sg by omega]) (by omega) (by omega) (by omega), by rw [cr_tk (Y := { y with ret := [] }) hncy (by rw [← haaY, ← htkn, hqt]; exact hqT)]; exact hRlS⟩
                      · have hb41p := hb41.h; try simp only [al_ete, al_dfn, Bool.not_eq_true', Bool.not_eq_false', al_ne, Bool.not_not, al_nn] at hb41p
                        have hqF : qt = false := by simpa using hb41p
                        refine W_skip ?_
                        refine thn_normal ?_
                        refine W_seq ?_
                        refine W_gen fun w24 hw24 => ?_
                        have hE24 : Ext w22 w24 := by rw [hw24]; exact (by repeat (first | assumption | exact Ext.refl _ | refine Ext.alloc ?_ _ | refine Ext.drew ?_ | refine Ext.setB ?_ (by first | omega | (simp only [size_alloc, size_setB, size_drew]; omega)) _ | exact Ext.trans (by assumption) (by assumption) | refine Ext.trans ?_ (by assumption)))
                        clear hw24
                        have hz24 := hE24.1
                        have hM24 := hM22.ext hE24
                        have hblk24 := hM24.vs.blk
                        have hcs24 := hM24.sz
                        have hcd24 := hcd22.ext hE24
                        have hb924 : Hb w24 b9 (.cells (encF (K.sGas sg)).toArray 66 (0, 0)) := Hb.ext hE24 hb922
                        obtain ⟨hM25, hS25⟩ := hM24.putF_outOff (t := t) (f := { f with gas := f.gas - sg }) hf20 0 (by omega)
                        replace hM25 := hM25.castY (m' := { m with ret := (none, 0, 0), frames := m.frames.set t { f with gas := f.gas - sg, outOff := 0 } }) (by simp [List.set_set])
                        replace hS25 := hS25.castY (m'' := { m with ret := (none, 0, 0), frames := m.frames.set t { f with gas := f.gas - sg, outOff := 0 } }) (by simp [List.set_set])
                        have hblk25 := hM25.vs.blk
                        have hcs25 := hM25.sz
                        obtain ⟨hM26, hS26⟩ := hM25.putF_outLen (t := t) (f := { f with gas := f.gas - sg, outOff := 0 }) (by show (m.frames.set t _)[t]? = _; rw [List.getElem?_set_self (lt_of_getElem? hf)] : ({ m with ret := (none, 0, 0), frames := m.frames.set t { f with gas := f.gas - sg, outOff := 0 } } : Mc).frames[t]? = some { f with gas := f.gas - sg, outOff := 0 }) 0 (by omega)
                        replace hM26 := hM26.castY (m' := { m with ret := (none, 0, 0), frames := m.frames.set t { f with gas := f.gas - sg, outOff := 0, outLen := 0 } }) (by simp [List.set_set])
                        replace hS26 := hS26.castY (m'' := { m with ret := (none, 0, 0), frames := m.frames.set t { f with gas := f.gas - sg, outOff := 0, outLen := 0 } }) (by simp [List.set_set])
                        refine W_region rfl ?_
                        refine WO_p (PS_move_ptr rfl) ?_
                        refine WO_p (PS_nilCheck rfl) ?_
                        refine WO_p (PS_fieldAddr 63 Hvac.runUnderlying66 rfl Hvac.sizeOf56 rfl rfl) ?_
                        refine WO_store1 Hvac.sizeOf56 rfl (v := (.int _ _)) rfl (Hb.h (by repeat (first | assumption | exact Hb.newY _ _ | refine Hb.alloc ?_ | refine Hb.drew ?_ | refine Hb.ext (by assumption) ?_ | exact Hb.setSameL (by first | omega | (simp only [size_alloc, size_setB, size_drew]; omega)) | exact Hb.setSame (by assumption) | refine Hb.set (by first | omega | (simp only [size_alloc, size_setB, size_drew]; omega)) ?_ ))) rfl (by first | omega | assumption | rfl | decide | exact Nat.le_refl _ | (simp only [size_ic, Value.cells]; omega) | (simp; omega) | simp) rfl ?_
                        refine WO_nil ?_
                        refine thn_normal ?_
                        refine W_seq ?_
                        refine W_region rfl ?_
                        refine WO_p (PS_move_ptr rfl) ?_
                        refine WO_p (PS_nilCheck rfl) ?_
                        refine WO_p (PS_fieldAddr 64 Hvac.runUnderlying66 rfl Hvac.sizeOf56 rfl rfl) ?_
                        refine WO_store1 Hvac.sizeOf56 rfl (v := (.int _ _)) rfl (Hb.h (by repeat (first | assumption | exact Hb.newY _ _ | refine Hb.alloc ?_ | refine Hb.drew ?_ | refine Hb.ext (by assumption) ?_ | exact Hb.setSameL (by first | omega | (simp only [size_alloc, size_setB, size_drew]; omega)) | exact Hb.setSame (by assumption) | refine Hb.set (by first | omega | (simp only [size_alloc, size_setB, size_drew]; omega)) ?_ ))) rfl (by first | omega | assumption | rfl | decide | exact Nat.le_refl _ | (simp only [size_ic, Value.cells]; omega) | (simp; omega) | simp) rfl ?_
                        refine WO_nil ?_
                        refine thn_normal ?_
                        refine W_seq ?_
                        refine W_gen fun w26 hw26 => ?_
                        obtain ⟨c26, hM26', hS26'⟩ : ∃ c26, MS w26 C c26 y2 B22 { m with ret := (none, 0, 0), frames := m.frames.set t { f with gas := f.gas - sg, outOff := 0, outLen := 0 } } ∧ MStep w24 w26 C B22 { m with ret := (none, 0, 0), frames := m.frames.set t { f with gas := f.gas - sg } } B22 { m with ret := (none, 0, 0), frames := m.frames.set t { f with gas := f.gas - sg, outOff := 0, outLen := 0 } } := ⟨_, by rw [hw26]; exact hM26, by rw [hw26]; exact hS25.trans hS26⟩
                        have hb926 : Hb w26 b9 (.cells (encF (K.sGas sg)).toArray 66 (0, 0)) := by rw [hw26]; exact Hb.mk (Hb.h (by repeat (first | assumption | exact Hb.newY _ _ | refine Hb.alloc ?_ | refine Hb.drew ?_ | refine Hb.ext (by assumption) ?_ | exact Hb.setSameL (by first | omega | (simp only [size_alloc, size_setB, size_drew]; omega)) | exact Hb.setSame (by assumption) | refine Hb.set (by first | omega | (simp only [size_alloc, size_setB, size_drew]; omega)) ?_ )))
                        have hKK26 : KK w7 w26 := by rw [hw26]; exact KK.set (KK.set (hKK22.trans (KK.ext hE24)) hblk24 (by decide) (by decide)) hblk25 (by decide) (by decide)
                        clear hw26 hM26 hS26 hM25 hS25
                        have hz26 := hS26'.keep.sz
                        have hcd26 : BX w26 (bb m) s7 L7 := BX.mstep (m := { m with ret := (none, 0, 0), frames := m.frames.set t { f with gas := f.gas - sg } }) hM24 hS26' hcd24
                        have hA26 : FrA { m with ret := (none, 0, 0), frames := m.frames.set t { f with gas := f.gas - sg, outOff := 0, outLen := 0 } } t { f with gas := f.gas - sg, outOff := 0, outLen := 0 } := ⟨hA.t6, (by show (m.frames.set t _)[t]? = _; rw [List.getElem?_set_self (lt_of_getElem? hf)] : ({ m with ret := (none, 0, 0), frames := m.frames.set t { f with gas := f.gas - sg, outOff := 0, outLen := 0 } } : Mc).frames[t]? = some { f with gas := f.gas - sg, outOff := 0, outLen := 0 }), hA.sb, hA.sp⟩
                        have hblk26 := hM26'.vs.blk
                        refine W_region rfl ?_
                        refine WO_p (PS_move_ptr rfl) ?_
                        refine WO_p (PS_move_ptr rfl) ?_
                        refine WO_p (PS_move_int rfl) ?_
                        refine WO_p (PS_buildI (k := .u64) (zs := [0, 0, 0, 0]) (ps := []) (L := [0, 0, 0, 0]) Hvac.zeroValue61 Hvac.runUnderlying61 Hvac.sizeOf26 rfl rfl rfl rfl) ?_
                        refine WO_call Hvac.call235 (by rfl) (Ret.mono (settle_ex C c26 y2 B22 { m with ret := (none, 0, 0), frames := m.frames.set t { f with gas := f.gas - sg, outOff := 0, outLen := 0 } } t { f with gas := f.gas - sg, outOff := 0, outLen := 0 } tkv 0 false [0, 0, 0, 0] _ (MS.ext hM26' (by repeat (first | assumption | exact Ext.refl _ | refine Ext.alloc ?_ _ | refine Ext.drew ?_ | refine Ext.setB ?_ (by first | omega | (simp only [size_alloc, size_setB, size_drew]; omega)) _ | exact Ext.trans (by assumption) (by assumption) | refine Ext.trans ?_ (by assumption)))) hA26 (by show 0 ≤ _ ∧ _ ≤ f.sp; omega) (by intro h; cases h) Wd0 (by show (0:Int) ≤ 0 ∧ f.pc + 0 ≤ 65535; omega)) ?_)
                        rintro _ w27 ⟨hR27, hKS27⟩
                        obtain ⟨c27, B27, hM27, hS27⟩ := hR27
                        replace hM27 : MS w27 C c27 y2 B27 (({ m with ret := (none, 0, 0), frames := m.frames.set t { f with gas := f.gas - sg, outOff := 0, outLen := 0 } } : Mc).settle t { f with gas := f.gas - sg, outOff := 0, outLen := 0 } tkv false [0, 0, 0, 0] 0) := hM27
                        have hz27 := hS27.keep.sz
                        try simp only [size_alloc, size_setB, size_drew] at hz27
                        have hb927 := MS.box (MS.ext hM26' (by repeat (first | assumption | exact Ext.refl _ | refine Ext.alloc ?_ _ | refine Ext.drew ?_ | refine Ext.setB ?_ (by first | omega | (simp only [size_alloc, size_setB, size_drew]; omega)) _ | exact Ext.trans (by assumption) (by assumption) | refine Ext.trans ?_ (by assumption)))) hS27 (b := b9) (r := (encF (K.sGas sg)).toArray) (T := 66) (fz := (0, 0)) (Hb.mk (Hb.h (by repeat (first | assumption | exact Hb.newY _ _ | refine Hb.alloc ?_ | refine Hb.drew ?_ | refine Hb.ext (by assumption) ?_ | exact Hb.setSameL (by first | omega | (simp only [size_alloc, size_setB, size_drew]; omega)) | exact Hb.setSame (by assumption) | refine Hb.set (by first | omega | (simp only [size_alloc, size_setB, size_drew]; omega)) ?_ )))) (by decide) (by decide)
                        have hKK27 : KK w7 w27 := KK.kc (hKK26.trans (KK.ext (by repeat (first | assumption | exact Ext.refl _ | refine Ext.alloc ?_ _ | refine Ext.drew ?_ | refine Ext.setB ?_ (by first | omega | (simp only [size_alloc, size_setB, size_drew]; omega)) _ | exact Ext.trans (by assumption) (by assumption) | refine Ext.trans ?_ (by assumption))))) hKS27 (MS.ext hM26' (by repeat (first | assumption | exact Ext.refl _ | refine Ext.alloc ?_ _ | refine Ext.drew ?_ | refine Ext.setB ?_ (by first | omega | (simp only [size_alloc, size_setB, size_drew]; omega)) _ | exact Ext.trans (by assumption) (by assumption) | refine Ext.trans ?_ (by assumption)))).vs.blk (by decide) (by decide)
                        have hRl27 : Rel w27 y2 (({ m with ret := (none, 0, 0), frames := m.frames.set t { f with gas := f.gas - sg, outOff := 0, outLen := 0 } } : Mc).settle t { f with gas := f.gas - sg, outOff := 0, outLen := 0 } tkv false [0, 0, 0, 0] 0) (ycre2 khash { y with ret := [] } g o, rest ++ [psettle { g with gas := g.gas - ysent g.gas g.gas, outOff := 0, outLen := 0 } (ytakes o).toNat false 0 0]) := Rel.setf0 (f' := { f with gas := f.gas - sg, outOff := 0, outLen := 0 }) (hGO _ hKK27) hstl hMI7 hf (a := g.gas - ysent g.gas g.gas) (b := 0) (c' := 0) (by rw [show ((g.gas - ysent g.gas g.gas : Nat) : Int) = f.gas - sg from by omega]; rfl) htkY (st := 0) (sI := 0) rfl (gv := false) (W := [0, 0, 0, 0]) (by omega) (by omega) (fun h => by cases h)
                        have hS26_27 : MStep w26 w27 C B22 { m with ret := (none, 0, 0), frames := m.frames.set t { f with gas := f.gas - sg, outOff := 0, outLen := 0 } } B27 (({ m with ret := (none, 0, 0), frames := m.frames.set t { f with gas := f.gas - sg, outOff := 0, outLen := 0 } } : Mc).settle t { f with gas := f.gas - sg, outOff := 0, outLen := 0 } tkv false [0, 0, 0, 0] 0) := (MStep.ext (by repeat (first | assumption | exact Ext.refl _ | refine Ext.alloc ?_ _ | refine Ext.drew ?_ | refine Ext.setB ?_ (by first | omega | (simp only [size_alloc, size_setB, size_drew]; omega)) _ | exact Ext.trans (by assumption) (by assumption) | refine Ext.trans ?_ (by assumption)))).trans hS27
                        have hcd27 : BX w27 (bb m) s7 L7 := BX.mstep (m := { m with ret := (none, 0, 0), frames := m.frames.set t { f with gas := f.gas - sg, outOff := 0, outLen := 0 } }) hM26' hS26_27 hcd26
                        refine WO_nil ?_
                        refine thn_normal ?_
                        have hGty : FmTy ((K.sGas sg).sCb L7) := hKg.sCb
                        have htop5 : t ≤ 5 := by omega
                        have hwn1 := hI.rw_.wn.sum
                        have hhS := hI.ti.hS
                        have hhd := wv_bd hM.ty.held
                        have hsbd := hI.sb hM.ty
                        have hjj := hI.rw_.j
                        have hadvj := hadv2.j
                        have hadvn := hadv2.nm
                        have hnn := hM.vs.ty.nmarks
                        have hrn := hroom.n
                        have hsnf := hI.sn t f (Nat.le_refl _) hf
                        have hbalE : ∀ X, y2.bal X = v.bal X := fun X => by rw [hbal2, hb21.1]
                        have hEn : EnP y2 (({ m with ret := (none, 0, 0), frames := m.frames.set t { f with gas := f.gas - sg, outOff := 0, outLen := 0 } } : Mc).settle t { f with gas := f.gas - sg, outOff := 0, outLen := 0 } tkv false [0, 0, 0, 0] 0) (t + 1) ((K.sGas sg).sCb L7) := by
                          refine ⟨?_, by omega, ?_, hGty, by show L7.length ≤ 512; omega, hadv2.vi, ⟨by omega, by omega⟩, by omega, ?_, fun h3 h7 => ?_, fun h3 h7 => ?_, by rw [hsum2, hb21.2]; omega⟩
                          · show m.top = ((t + 1 : Nat) : Int) - 1; rw [hI.top]; omega
                          · show m.mtop = ((t + 1 : Nat) : Int); rw [hI.mtY]; omega
                          · show y2.entered K.self; rw [hKe]; exact hent2
                          · show y2.entered K.caller; rw [hKe]; exact hadv2.en _ hFk.en
                          · show wv K.value ≤ wv (y2.bal K.caller); rw [hKe]; show wv (m.argW f 0) ≤ wv (y2.bal f.self); rw [hbalE]; omega
                        have hsn27 := sn_set2 (v := v) (v1 := y2) (k := (rest ++ [psettle { g with gas := g.gas - ysent g.gas g.gas, outOff := 0, outLen := 0 } (ytakes o).toNat false 0 0]).length) (l := ((({ m with ret := (none, 0, 0), frames := m.frames.set t { f with gas := f.gas - sg, outOff := 0, outLen := 0 } } : Mc).settle t { f with gas := f.gas - sg, outOff := 0, outLen := 0 } tkv false [0, 0, 0, 0] 0)).frames) rfl hf rfl hI.sn (by omega) (by simp; omega)
                        have hcfY : ∀ W : World, ChR (rdB W) ((K.sGas sg).sCb L7) (ycrec khash { y with ret := [] } g o) := fun W => by rw [hKe]; exact cr_ch hkkY haaY hFP.self hy0.symm hsgY hL7e (rdB_nil _ _ _)
                        have hmk : makes K.kind = true := by rw [hKe]; show makes kk = true; rcases hkk5 with h | h <;> (rw [h]; rfl)
                        have hKkd : K.kind = kk := by rw [hKe]; rfl
                        have hKcodeS : ((K.sGas sg).sCb L7).code = s7 := by show K.code = s7; rw [hKe]; rfl
                        have hKinpS : ((K.sGas sg).sCb L7).inputY = (none, 0, 0) := by show K.inputY = _; rw [hKe]; rfl
                        have hblk27 := hM27.vs.blk
                        have hopk : f.cb.getD f.pc.toNat 0 = kindOpW K.kind := by have h := hop; unfold Mc.opc at h; rw [if_neg (by omega)] at h; rw [h, hKkd]; exact hkk
                        refine W_region rfl ?_
                        refine WO_p (PS_move_ptr rfl) ?_
                        refine WO_loadA _ Hvac.isAgg66 Hvac.sizeOf66 rfl (Hb.h (by repeat (first | assumption | exact Hb.newY _ _ | refine Hb.alloc ?_ | refine Hb.drew ?_ | refine Hb.ext (by assumption) ?_ | exact Hb.setSameL (by first | omega | (simp only [size_alloc, size_setB, size_drew]; omega)) | exact Hb.setSame (by assumption) | refine Hb.set (by first | omega | (simp only [size_alloc, size_setB, size_drew]; omega)) ?_ ))) (by first | omega | assumption | rfl | decide | exact Nat.le_refl _ | (simp only [size_ic, Value.cells]; omega) | (simp; omega) | simp) (Xt.h (by first | assumption | exact Xt.whole rfl rfl | exact Xt.whole rfl (by assumption) | exact Xt.whole rfl (by simp only [size_ic, Value.cells]; omega) | exact ⟨rfl⟩)) ?_
                        refine WO_call Hvac.call73 (by rfl) (Ret.mono (enter_ex C c27 y2 B27 (({ m with ret := (none, 0, 0), frames := m.frames.set t { f with gas := f.gas - sg, outOff := 0, outLen := 0 } } : Mc).settle t { f with gas := f.gas - sg, outOff := 0, outLen := 0 } tkv false [0, 0, 0, 0] 0) (t + 1) ((K.sGas sg).sCb L7) _ (MS.ext hM27 (by repeat (first | assumption | exact Ext.refl _ | refine Ext.alloc ?_ _ | refine Ext.drew ?_ | refine Ext.setB ?_ (by first | omega | (simp only [size_alloc, size_setB, size_drew]; omega)) _ | exact Ext.trans (by assumption) (by assumption) | refine Ext.trans ?_ (by assumption)))) hEn (by rw [hKcodeS]; exact BX.ext hcd27 (by repeat (first | assumption | exact Ext.refl _ | refine Ext.alloc ?_ _ | refine Ext.drew ?_ | refine Ext.setB ?_ (by first | omega | (simp only [size_alloc, size_setB, size_drew]; omega)) _ | exact Ext.trans (by assumption) (by assumption) | refine Ext.trans ?_ (by assumption)))) (by rw [hKinpS]; exact Or.inl ⟨rfl, rfl⟩) (ycre2 khash { y with ret := [] } g o) (rest ++ [psettle { g with gas := g.gas - ysent g.gas g.gas, outOff := 0, outLen := 0 } (ytakes o).toNat false 0 0]) (ycrec khash { y with ret := [] } g o) (Rel.ext hRl27 hM27 (by repeat (first | assumption | exact Ext.refl _ | refine Ext.alloc ?_ _ | refine Ext.drew ?_ | refine Ext.setB ?_ (by first | omega | (simp only [size_alloc, size_setB, size_drew]; omega)) _ | exact Ext.trans (by assumption) (by assumption) | refine Ext.trans ?_ (by assumption)))) (hcfY _) (by simp; omega) hsn27) ?_)
                        rintro _ wE ⟨x, yv, hbx, hRE, hadvE, hXE⟩
                        rw [show makes ((K.sGas sg).sCb L7).kind = true from hmk] at hadvE
                        replace hadvE : Adv y2 yv 4 0 1 := hadvE
                        have hadvT : Adv v yv (1 + dj + 4) da 1 := by have h := hadv2.trans hadvE; simpa using h
                        have hFg : FOK scanW yv (t + 1) (((K.sGas sg).sCb L7).at_ (t + 1) y2.nmarks) := ⟨rfl, by show ((t + 1 : Nat) : Int) * 64 = 64 * ((t + 1 : Nat) : Int); omega, by show K.sp ≤ 64; rw [hKe]; show (0 : Int) ≤ 64; decide, by show L7.length ≤ 512; omega, by show K.pc ≤ _; rw [hKe]; show (0 : Int) ≤ _; omega, rfl, by show ((K.sGas sg).sCb L7).inputY.2.1 ≤ _ ∧ ((K.sGas sg).sCb L7).inputY.2.1 ≤ ((K.sGas sg).sCb L7).inputY.2.2; rw [hKinpS]; exact ⟨by show 0 ≤ 717280; decide, Nat.le_refl _⟩, by show ((K.sGas sg).sCb L7).code.2.1 ≤ ((K.sGas sg).sCb L7).code.2.2; rw [hKcodeS]; exact hcap7, fun hn => absurd (show K.ntv = 0 by rw [hKe]; rfl) hn, ⟨by show K.kind ≤ 7; omega, by show K.kind ≤ 1 ↔ t + 1 = 0; omega⟩, hadvE.en _ hEn.es⟩
                        refine WO_nil ?_
                        first | refine bodyQ_ret0 Hvac.results186 ?_ | refine bodyQ_end0 Hvac.results186 ?_
                        exact ⟨yv, _, MRet.trans hS22w (MRet.trans (MStep.ext hE24) (MRet.trans hS26' (MRet.trans hS26_27 (MRet.pre (by repeat (first | assumption | exact Ext.refl _ | refine Ext.alloc ?_ _ | refine Ext.drew ?_ | refine Ext.setB ?_ (by first | omega | (simp only [size_alloc, size_setB, size_drew]; omega)) _ | exact Ext.trans (by assumption) (by assumption) | refine Ext.trans ?_ (by assumption))) hRE)))), call_in hI hM.ty htop5 hf hbx hadvT hda1 (st := 0) (sg := sg) (Int.le_refl _) hsgb (by omega) (by omega) (by omega) (by omega) rfl (by omega) (by show sg = sg + 0; omega) hFg (by show y2.nmarks = v.nmarks; omega) hpcl (by show 2 ≤ K.kind; omega) hopk (by omega) (Or.inl rfl), by rw [cr_in (Y := { y with ret := [] }) hncy (by rw [← haaY, ← htkn, hqt]; exact hqF) hph1]; exact hXE⟩

end Go.Proofs.YgvacwGreat
