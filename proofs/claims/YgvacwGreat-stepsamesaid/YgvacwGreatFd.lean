import Derived.Test.YgvacwGreatFc
namespace Go.Proofs.YgvacwGreat
set_option linter.unusedSimpArgs false
set_option linter.unusedVariables false
def yGo (y : PSt) (g : PF) (o : Int) : PF := ygrow { g with gas := g.gas - ycost y g o } (yreach g o)
theorem yGo_no {y : PSt} {g : PF} {o : Int} (h : ¬ g.mem.length / 32 < ywords (yreach g o)) : yGo y g o = { g with gas := g.gas - ycost y g o } := by unfold yGo ygrow; rw [if_neg h]
theorem yGo_yes {y : PSt} {g : PF} {o : Int} (h : g.mem.length / 32 < ywords (yreach g o)) : yGo y g o = { g with gas := g.gas - ycost y g o, mem := ycut g.mem 0 (32 * ywords (yreach g o)) } := by unfold yGo ygrow; rw [if_pos h]
theorem dest_lt {W L : List Int} (hw : (wn W : Int) = wv W) (h : ydest L (wn W) = true) (hl : L.length ≤ 512) : wv W < L.length ∧ wv W < 512 := by
  have : ¬ L.length ≤ wn W := fun e => by rw [ydest_out e] at h; cases h
  omega
theorem flat_not {o : Int} (h : isFlat o = true) : o ≠ 85 ∧ o ≠ 86 ∧ o ≠ 87 := by unfold isFlat at h; have := of_decide_eq_true h; omega
theorem flat_reach {g : PF} {o : Int} (h : isFlat o = true) {k : Nat} : ¬ k < ywords (yreach g o) := by
  have h1 := of_decide_eq_true h
  have : yreach g o = 0 := by unfold yreach; repeat rw [if_neg (by omega)]
  rw [this]; unfold ywords; omega
theorem flat_reaches {m : Mc} {f : Fm} {o : Int} (h : isFlat o = true) : reachesW m f o = (0, true) := by
  have h1 := of_decide_eq_true h
  unfold reachesW; repeat rw [if_neg (by omega)]
theorem flat_dyn {v : V} {m : Mc} {f : Fm} {o : Int} (h : isFlat o = true) : dynW v m f o = 0 := by
  have h1 := of_decide_eq_true h
  exact dyn0 (by unfold isDyn; omega)
theorem cost_flat [Om] {w : World} {C : Nat} {c : Array Value} {v : V} {B : VB} {m : Mc} {t : Nat} {f : Fm} {y : PSt} {rest : List PF} {g : PF} {hs : List (List Int)} {L : List Int} (hRP : RelP (rdB w) hs L v m y (rest ++ [g])) (hFP : FrP (rdB w) L v m t f g) (hM : MS w C c v B m) (hv : VInv v) (hA : ∀ i : Nat, yarg g i = wn (m.argW f i)) {o : Int} (ho : 0 ≤ o ∧ o ≤ 255) (hk : yknown o = true) {n : Nat} (hn : g.mem.length = n) (hfl : isFlat o = true) : (ycost y g o : Int) = (infoW o).2.2.1 := by
  rw [cost_eq hRP hFP hM hv hA ho hk hn (by rw [flat_reaches hfl]), flat_dyn hfl, flat_reaches hfl, if_neg (by simp only; omega)]; omega
theorem writes_eq {m : Mc} {f : Fm} {g : PF} {o : Int} (hty : MTy m) (h2 : yarg g 2 = wn (m.argW f 2)) : writesW m f o = ywrites g o := by
  have := wn_int (argW_wd hty f 2)
  unfold writesW ywrites
  exact al_dd.2 (by rw [h2]; omega)
theorem dynR_W {v : V} {m : Mc} {f : Fm} {o : Int} (hty : MTy m) (hb : 0 ≤ dynW v m f o ∧ dynW v m f o ≤ 100000000) : DynR m v f o (dynW v m f o) := by
  have h3 := wv_bd (argW_wd hty f 3)
  refine ⟨hb, ?_, ?_, ?_, ?_, ?_, ?_⟩
  · rintro (h | h | h | h) <;> subst h
    · exact Int.le_refl _
    · exact Int.le_refl _
    · exact Int.le_refl _
    · show _ ≤ accW v (addrW (m.argW f 0)) + 3 * ((wv (m.argW f 3) + 31) / 32); omega
  · rintro (h | h | h | h) <;> subst h
    · show _ ≤ accW v (addrW (m.argW f 1)) + (if wv (m.argW f 2) ≠ 0 then 9000 + (if (241 : Int) = 241 ∧ emptyA (v.acY (addrW (m.argW f 1))) = true then 25000 else 0) else 0)
      split
      · split <;> omega
      · omega
    · show _ ≤ accW v (addrW (m.argW f 1)) + (if wv (m.argW f 2) ≠ 0 then 9000 + (if (242 : Int) = 241 ∧ emptyA (v.acY (addrW (m.argW f 1))) = true then 25000 else 0) else 0)
      split
      · split <;> omega
      · omega
    · exact Int.le_refl _
    · exact Int.le_refl _
  · rintro (h | h) hz <;> subst h
    · show _ ≤ accW v (addrW (m.argW f 1)) + (if wv (m.argW f 2) ≠ 0 then 9000 + (if (241 : Int) = 241 ∧ emptyA (v.acY (addrW (m.argW f 1))) = true then 25000 else 0) else 0)
      rw [if_pos hz]; split <;> omega
    · show _ ≤ accW v (addrW (m.argW f 1)) + (if wv (m.argW f 2) ≠ 0 then 9000 + (if (242 : Int) = 241 ∧ emptyA (v.acY (addrW (m.argW f 1))) = true then 25000 else 0) else 0)
      rw [if_pos hz]; split <;> omega
  · intro h; subst h; rfl
  · intro h; subst h; rfl
  · intro h hw; subst h
    show 2600 ≤ destroyW v m f
    unfold destroyW
    rw [hw, if_neg (by decide : ¬ (false = true))]
    split <;> omega
/-- the gas is paid -/
theorem Rel.pay [Om] {w w' : World} {C : Nat} {c c9 : Array Value} {v : V} {B B9 : VB} {m : Mc} {t : Nat} {f : Fm} {y : PSt} {rest : List PF} {g : PF} {k : Int} {cn : Nat} (h : Rel w v m (y, rest ++ [g])) (hM : MS w C c v B m) (hM9 : MS w' C c9 v B9 { m with frames := m.frames.set t { f with gas := f.gas - k } }) (hK : KeepO (fun b => b = C) w w') (hI : MI m t) (hf : m.frames[t]? = some f) (hk : k = (cn : Int)) (hle : k ≤ f.gas) : Rel w' v { m with frames := m.frames.set t { f with gas := f.gas - k } } (y, rest ++ [{ g with gas := g.gas - cn }]) := by
  have hl := h.len hI
  obtain ⟨L, hL, hP⟩ := (h.kt hM (KC.kt hK hM.vs.blk (by decide)) (KC.kt hK hM.vs.blk (by decide))).ex
  have hg := hP.fr t f g hf (last_get hl)
  refine ⟨L, hL, hP.top_ hl hf hI.ph (fun i f hi hf => (hI.fr i f (by omega) hf).2) (f' := { f with gas := f.gas - k }) (stk := m.stack) (r' := m.ret) (bf := m.buf) (bs := m.base) rfl (fun _ _ => rfl) (fun _ _ => rfl) ?_ hP.ret rfl⟩
  refine { hg with gas := ?_ }
  show f.gas - k = ((g.gas - cn : Nat) : Int)
  have := hg.gas
  omega
theorem MI.pay {m : Mc} {t : Nat} {f : Fm} (h : MI m t) (hf : m.frames[t]? = some f) {k : Int} : MI { m with frames := m.frames.set t { f with gas := f.gas - k } } t := by
  refine ⟨h.ph, h.top, h.t6, fun i f' hi hf' => ?_⟩
  have hf2 : (m.frames.set t { f with gas := f.gas - k })[i]? = some f' := hf'
  rcases getElem?_setD hf hf2 with ⟨h1, h2⟩ | ⟨h1, h2⟩
  · exact h.fr i f' hi h2
  · subst h1; subst h2; exact h.fr i f hi hf
/-- the memory is grown -/
theorem Rel.grow [Om] {w w' : World} {C : Nat} {c : Array Value} {v : V} {B B' : VB} {m : Mc} {t lo n nw : Nat} {f : Fm} {y : PSt} {rest : List PF} {g : PF} {L L' : List Int} {s' : SV} (hP : RelP (rdB w) (rdH w m.ehash) L v m y (rest ++ [g])) (hM : MS w C c v B m) (hS : MStep w w' C B m B' { m with buf := s', base := m.base.set (t + 1) ((lo + 32 * nw : Nat) : Int) }) (hBX : BufX w m.buf L) (hMB : MB_ m t lo n) (ht : t = rest.length) (hI : MI m t) (hf : m.frames[t]? = some f) (hgt : n < 32 * nw) (hs' : s'.2.1 = max m.buf.2.1 (lo + 32 * nw)) (hBX' : BufX w' s' L') (h1 : ∀ k, k < lo + n → L'.getD k 0 = L.getD k 0) (h2 : ∀ k, lo + n ≤ k → k < lo + 32 * nw → L'.getD k 0 = 0) (hbl : m.base.length = 8) :
    Rel w' v { m with buf := s', base := m.base.set (t + 1) ((lo + 32 * nw : Nat) : Int) } (y, rest ++ [{ g with mem := ycut g.mem 0 (32 * nw) }]) := by
  have hP' := hP.rd (MS.agr hM hS)
  have hg := hP'.fr t f g hf (last_get ht)
  have hle := hBX.le
  have hle' := hBX'.le
  have hb := hMB.buf
  have ht6 := hI.t6
  obtain ⟨eb1, eb2⟩ := baseOf_set (b := m.base) (t := t) (x := ((lo + 32 * nw : Nat) : Int)) (by rw [hbl]; omega)
  refine ⟨L', hBX', ?_⟩
  show RelP (rdB w') (rdH w' m.ehash) L' v _ y _
  rw [hM.hash.rdk (MStep.k28 hM hS)]
  refine hP'.top_ (y' := y) ht hf hI.ph (fun i f hi hf => (hI.fr i f (by omega) hf).2) (f' := f) (stk := m.stack) (r' := m.ret) (bf := s') (bs := m.base.set (t + 1) ((lo + 32 * nw : Nat) : Int)) (by rw [set_same hf]) (fun _ _ => rfl) (fun i hi => ?_) ?_ hP'.ret rfl
  · have hlow := hMB.low i hi
    have e1 : baseOf (m.base.set (t + 1) ((lo + 32 * nw : Nat) : Int)) i = baseOf m.base i := by unfold baseOf; rw [List.getElem?_set_ne (by omega)]
    rw [e1, szOf_set hi]
    refine list_gd ?_ fun k hk => ?_
    · simp; omega
    · have hk' : k < (szOf m.base i).toNat := by simp at hk; omega
      rw [getD_sub hk', getD_sub hk', h1 _ (by omega)]
  · have hmem : g.mem = (L.drop lo).take n := by rw [hg.mem, hMB.lo, hMB.sz]; simp only [Int.toNat_natCast]
    refine { hg with mem := ?_ }
    show ycut g.mem 0 (32 * nw) = (L'.drop (baseOf (m.base.set (t + 1) ((lo + 32 * nw : Nat) : Int)) t).toNat).take (szOf (m.base.set (t + 1) ((lo + 32 * nw : Nat) : Int)) t).toNat
    have e3 : szOf (m.base.set (t + 1) ((lo + 32 * nw : Nat) : Int)) t = ((32 * nw : Nat) : Int) := by unfold szOf; rw [eb1, eb2, hMB.lo]; omega
    rw [eb2, hMB.lo, e3, Int.toNat_natCast, Int.toNat_natCast]
    refine list_gd ?_ fun k hk => ?_
    · rw [ycut_len]; simp; omega
    · rw [ycut_len] at hk
      rw [getD_sub hk, List.getD_eq_getElem?_getD (l := ycut g.mem 0 (32 * nw)), ycut_get hk]
      show g.mem.getD (0 + k) 0 = _
      rw [Nat.zero_add, hmem]
      by_cases hkn : k < n
      · rw [getD_sub hkn, h1 _ (by omega)]
      · rw [h2 _ (by omega) (by omega), List.getD_eq_getElem?_getD, List.getElem?_eq_none (by simp; omega)]; rfl

set_option maxRecDepth 10000 in
set_option maxHeartbeats 4000000 in
theorem pass_ex [Om] (scan : List Int → List Int) (C : Nat) (c : Array Value) (v : V) (B : VB) (m : Mc) (t : Nat) (f : Fm) (S o s : Int) (w : World) (hM : MS w C c v B m) (hf : m.frames[t]? = some f) (hI : RI scan v m t 0 S) (ho : 0 ≤ o ∧ o ≤ 255) (hs : 0 ≤ s ∧ s ≤ 32000) (hsi : s = (infoW o).2.2.1) (hkn : yknown o = true) (hscW : scan = scanW) (y : PSt) (rest : List PF) (g : PF) (hRl : Rel w v m (y, rest ++ [g])) : Ret Hvac.prog 174 #[.pointer (some ⟨C, 0, none⟩), .int .u8 o, .int .u16 s] w fun u w' => (u = .bool false ∧ ∃ v' m', MRet w C B m w' v' m' ∧ EndP scan m t f S v' m' ∧ yrefP y g o ≠ 0 ∧ Rel w' v' m' (yleave y rest g (yrefP y g o) [])) ∨ (u = .bool true ∧ ∃ m' c', MRet w C B m w' v m' ∧ Adm scan v m' t { f with gas := f.gas - c' } o s c' S ∧ gasTo m'.frames (t + 1) + c' = gasTo m.frames (t + 1) ∧ yrefP y g o = 0 ∧ Rel w' v m' (y, rest ++ [yGo y g o])) := by
  have hMI := hI.mi
  have hAr := fun i => hRl.arg hM hMI hf i
  have htl := hRl.len hMI
  have hy0 : yarg g 0 = wn (m.argW f 0) := hAr 0
  have hy1 : yarg g 1 = wn (m.argW f 1) := hAr 1
  have hy2 : yarg g 2 = wn (m.argW f 2) := hAr 2
  have hy3 : yarg g 3 = wn (m.argW f 3) := hAr 3
  obtain ⟨Lm, hLm, hFP, hRP⟩ := hRl.top hMI hf
  have hgg0 := hFP.gas
  have hvi := hI.ti.vi
  have hwq : writesW m f o = ywrites g o := writes_eq hM.ty hy2
  have hR := hI.run hf
  have hA := hR.fa
  have hblk := hM.vs.blk
  have hCl := hblk.lt
  have hcs := hM.sz
  obtain ⟨ht7, hfty, hF⟩ := hM.openF hf
  have hf_gas := hF.gas
  have hf_st := hF.static
  have hgt := hfty.gas
  have hrl := hI.ti.rt
  have hcl : f.code.2.1 ≤ 100000 := by have h1 := (hI.fr t f (Nat.le_refl _) hf).cl; have h2 := (hM.code f (List.mem_of_getElem? hf)).1.len; omega
  have hcbl := (hM.code f (List.mem_of_getElem? hf)).1.len
  have hwle := reaches_le hM.ty f o
  have hw0 := argW_wd hM.ty f 0
  have hw1 := argW_wd hM.ty f 1
  have hw2 := argW_wd hM.ty f 2
  have hl1 := hw1.1
  obtain ⟨lo, n, hlo, hhi, hszn, hlon, hn32⟩ := hI.mem hM.ty (i := t) (Nat.le_refl _)
  have hnb := (hI.bs t (Nat.le_refl _)).2.2
  have hbl0 := hI.ti.bl
  have hlob := hI.base_le t (by omega)
  rw [baseOf_some hlo] at hlob
  have hT : MemT m t lo n := ⟨hI.mtY, by omega, hlo, hhi, hlon, by omega⟩
  have hwd512 : Wd [512, 0, 0, 0] := ⟨rfl, by decide⟩
  obtain ⟨nw, hnw⟩ : ∃ nw : Nat, (reachesW m f o).1 = nw := ⟨_, (Int.toNat_of_nonneg hwle.1).symm⟩
  rw [hnw] at hwle
  have h512 : wv [512, 0, 0, 0] = 512 := rfl
  have hMB := hI.mbs hM.ty hlo hszn hlon
  have hLle := hLm.le
  have hnM : g.mem.length = n := mem_len hFP.mem (baseOf_some hlo) hszn (by omega)
  have hgm := hI.gasmem hM.ty hf hszn hn32
  have hrtl : y.ret.length = m.ret.2.1 := by rw [← hRP.ret]; exact hM.ret.rd.len
  have hwi0 := wn_int hw0
  have hwi1 := wn_int hw1
  have hwi2 := wn_int hw2
  have hcb5 := (hI.fr t f (Nat.le_refl _) hf).cl
  have hsc : f.dests = scanW f.cb := by rw [← hscW]; exact (hI.fr t f (Nat.le_refl _) hf).ds
  have hset : ∀ x : Fm, (m.frames.set t x)[t]? = some x := fun x => by rw [List.getElem?_set_self (lt_of_getElem? hf)]
  refine Ret_of_W Hvac.func174 rfl rfl ?_
  refine W_seq ?_
  refine W_region rfl ?_
  refine WO_p (PS_assign_bool rfl) ?_
  refine WO_nil ?_
  refine thn_normal ?_
  refine W_seq ?_
  refine W_region rfl ?_
  refine WO_p (PS_move_ptr rfl) ?_
  refine WO_call Hvac.call95 (by rfl) (Ret.mono (running_spec C c v B m t f _ (MS.ext hM (by repeat (first | assumption | exact Ext.refl _ | refine Ext.alloc ?_ _ | refine Ext.drew ?_ | refine Ext.setB ?_ (by first | omega | (simp only [size_alloc, size_setB, size_drew]; omega)) _ | exact Ext.trans (by assumption) (by assumption) | refine Ext.trans ?_ (by assumption)))) hR) ?_)
  rintro _ w95_0 ⟨hE95_0, rfl⟩
  have hz95_0 := hE95_0.1
  try simp only [size_alloc, size_setB, size_drew] at hz95_0
  refine WO_p (PS_assign_ptr rfl) ?_
  refine WO_nil ?_
  refine thn_normal ?_
  refine W_seq ?_
  refine W_seq ?_
  refine W_region rfl ?_
  refine WO_p (PS_move_ptr rfl) ?_
  refine WO_p (PS_eqlnil Hvac.underlying187 rfl) ?_
  refine WO_nil ?_
  refine thn_normal ?_
  refine W_if rfl (fun hb3 => ?_) (fun hb3 => ?_)
  · have hb3p := hb3.h; try simp only [al_ete, al_dfn, Bool.not_eq_true', Bool.not_eq_false', al_ne, Bool.not_not, al_nn] at hb3p
    simp at hb3p --END
  · have hb3p := hb3.h; try simp only [al_ete, al_dfn, Bool.not_eq_true', Bool.not_eq_false', al_ne, Bool.not_not, al_nn] at hb3p
    refine W_skip ?_
    refine thn_normal ?_
    refine W_seqJ (fun ρ w' => Fr [(0, .pointer (some ⟨C, 0, none⟩)), (7, .pointer (some ⟨C, 1803 + t * 65, none⟩)), (1, .int .u8 o), (2, .int .u16 s)] ρ ∧ Ext w w' ∧ (¬ (g.statY = true ∧ ywrites g o = true)) ∧ (¬ ((o = 240 ∨ o = 245) ∧ 512 < yarg g 2)) ∧ (¬ (o = 62 ∧ y.ret.length < yarg g 1 + yarg g 2)) ∧ ((o = 240 ∨ o = 245) → wv (m.argW f 2) ≤ 512)) ?_ ?_
    · skip
      refine W_block ?_
      refine W_seq ?_
      refine W_region rfl ?_
      refine WO_p (PS_move_ptr rfl) ?_
      refine WO_p (PS_nilCheck rfl) ?_
      refine WO_p (PS_fieldAddr 3 Hvac.runUnderlying66 rfl Hvac.sizeOf4 rfl rfl) ?_
      refine WO_load (.bool _) Hvac.isAgg4 rfl (Hb.h (by repeat (first | assumption | exact Hb.newY _ _ | refine Hb.alloc ?_ | refine Hb.drew ?_ | refine Hb.ext (by assumption) ?_ | exact Hb.setSameL (by first | omega | (simp only [size_alloc, size_setB, size_drew]; omega)) | exact Hb.setSame (by assumption) | refine Hb.set (by first | omega | (simp only [size_alloc, size_setB, size_drew]; omega)) ?_ ))) (Ce.h (by first | assumption | exact ⟨rfl⟩)) ?_
      refine WO_p (PS_move_bool rfl) ?_
      refine WO_if (t := 24) rfl (fun hb5 => ?_) (fun hb5 => ?_)
      · have hb5p := hb5.h; try simp only [al_ete, al_dfn, Bool.not_eq_true', Bool.not_eq_false', al_ne, Bool.not_not, al_nn] at hb5p
        have hst1 : f.static = true := hb5p
        refine WO_guardT rfl rfl hb5.h ?_
        refine WO_p (PS_move_ptr rfl) ?_
        refine WO_guardT rfl rfl hb5.h ?_
        refine WO_p (PS_move_ptr rfl) ?_
        refine WO_guardT rfl rfl hb5.h ?_
        refine WO_p (PS_move_int rfl) ?_
        refine WO_guardT rfl rfl hb5.h ?_
        refine WO_call Hvac.call238 (by rfl) (Ret.mono (writes_ex C c v B m t f o _ (MS.ext hM (by repeat (first | assumption | exact Ext.refl _ | refine Ext.alloc ?_ _ | refine Ext.drew ?_ | refine Ext.setB ?_ (by first | omega | (simp only [size_alloc, size_setB, size_drew]; omega)) _ | exact Ext.trans (by assumption) (by assumption) | refine Ext.trans ?_ (by assumption)))) hA ho) ?_)
        rintro _ w238_5 ⟨hE238_5, rfl⟩
        have hz238_5 := hE238_5.1
        try simp only [size_alloc, size_setB, size_drew] at hz238_5
        refine WO_p (PS_pickT rfl hb5.h rfl) ?_
        refine WO_p (PS_assign_bool rfl) ?_
        refine WO_nil ?_
        refine thn_normal ?_
        refine W_if rfl (fun hb8 => ?_) (fun hb8 => ?_)
        · have hb8p := hb8.h; try simp only [al_ete, al_dfn, Bool.not_eq_true', Bool.not_eq_false', al_ne, Bool.not_not, al_nn] at hb8p
          have h71 : g.statY = true ∧ ywrites g o = true := ⟨by rw [← hFP.statY]; exact hst1, by rw [← hwq]; simpa using hb8p⟩
          refine W_seq ?_
          have hrf : yrefP y g o = 7 := by unfold yrefP; rw [if_pos h71]
          refine W_region rfl ?_
          refine WO_p (PS_move_ptr rfl) ?_
          refine WO_call Hvac.call171 (by rfl) (Ret.mono (fail_ex scan C c v B m t f 0 S _ _ (MS.ext hM (by repeat (first | assumption | exact Ext.refl _ | refine Ext.alloc ?_ _ | refine Ext.drew ?_ | refine Ext.setB ?_ (by first | omega | (simp only [size_alloc, size_setB, size_drew]; omega)) _ | exact Ext.trans (by assumption) (by assumption) | refine Ext.trans ?_ (by assumption)))) hf hI (by omega) y rest g (hRl.ext hM (by repeat (first | assumption | exact Ext.refl _ | refine Ext.alloc ?_ _ | refine Ext.drew ?_ | refine Ext.setB ?_ (by first | omega | (simp only [size_alloc, size_setB, size_drew]; omega)) _ | exact Ext.trans (by assumption) (by assumption) | refine Ext.trans ?_ (by assumption)))) 7 rfl) ?_)
          rintro _ wq ⟨rfl, vq, mq, hRq, hPq, hXq⟩
          replace hRq := MRet.pre (w := w) (by repeat (first | assumption | exact Ext.refl _ | refine Ext.alloc ?_ _ | refine Ext.drew ?_ | refine Ext.setB ?_ (by first | omega | (simp only [size_alloc, size_setB, size_drew]; omega)) _ | exact Ext.trans (by assumption) (by assumption) | refine Ext.trans ?_ (by assumption))) hRq
          refine WO_p (PS_assign_bool rfl) ?_
          refine WO_nil ?_
          refine thn_normal ?_
          refine W_ret ?_
          refine inBlk_ret ?_
          refine thn_ret ?_
          refine bodyQ_ret1 Hvac.results174 rfl (.bool _) rfl ?_
          exact Or.inl ⟨rfl, vq, mq, hRq, hPq, by rw [hrf]; exact ⟨by decide, hXq⟩⟩
        · have hb8p := hb8.h; try simp only [al_ete, al_dfn, Bool.not_eq_true', Bool.not_eq_false', al_ne, Bool.not_not, al_nn] at hb8p
          refine W_seq ?_
          have hn7 : ¬ (g.statY = true ∧ ywrites g o = true) := by
            rintro ⟨h8, h9⟩
            rw [← hFP.statY] at h8
            rw [← hwq] at h9
            first
            | exact absurd (hst0.symm.trans h8) (by decide)
            | exact absurd h9 (by assumption)
            | (rw [(by assumption : writesW m f o = false)] at h9; cases h9)
          refine W_region rfl ?_
          refine WO_p (PS_move_int rfl) ?_
          refine WO_p (PS_eql rfl rfl) ?_
          refine WO_p (PS_move_bool rfl) ?_
          refine WO_if (t := 35) rfl (fun hb12 => ?_) (fun hb12 => ?_)
          · have hb12p := hb12.h; try simp only [al_ete, al_dfn, Bool.not_eq_true', Bool.not_eq_false', al_ne, Bool.not_not, al_nn] at hb12p
            refine WO_guardF rfl rfl hb12.h ?_
            refine WO_guardF rfl rfl hb12.h ?_
            refine WO_p (PS_pickT rfl hb12.h rfl) ?_
            refine WO_p (PS_move_bool rfl) ?_
            refine WO_guardT rfl rfl rfl ?_
            refine WO_p (PS_move_ptr rfl) ?_
            refine WO_guardT rfl rfl rfl ?_
            refine WO_p (PS_move_ptr rfl) ?_
            refine WO_guardT rfl rfl rfl ?_
            refine WO_call Hvac.call239 (by rfl) (Ret.mono (arg_spec C c v B m t f _ _ (MS.ext hM (by repeat (first | assumption | exact Ext.refl _ | refine Ext.alloc ?_ _ | refine Ext.drew ?_ | refine Ext.setB ?_ (by first | omega | (simp only [size_alloc, size_setB, size_drew]; omega)) _ | exact Ext.trans (by assumption) (by assumption) | refine Ext.trans ?_ (by assumption)))) hA (by omega)) ?_)
            rintro _ w239_12 ⟨hE239_12, rfl⟩
            have hz239_12 := hE239_12.1
            try simp only [size_alloc, size_setB, size_drew] at hz239_12
            refine WO_guardT rfl rfl rfl ?_
            refine WO_p (PS_buildI (k := .u64) (zs := [0, 0, 0, 0]) (ps := [(0, _)]) (L := [_, 0, 0, 0]) Hvac.zeroValue61 Hvac.runUnderlying61 Hvac.sizeOf26 rfl rfl rfl rfl) ?_
            refine WO_guardT rfl rfl rfl ?_
            refine WO_call Hvac.call139 (by rfl) (Ret.mono (gt_spec _ _ _ hw2 hwd512) ?_)
            rintro _ w139_13 ⟨rfl, hE139_13⟩
            have hz139_13 := hE139_13.1
            try simp only [size_alloc, size_setB, size_drew] at hz139_13
            refine WO_p (PS_pickT rfl rfl rfl) ?_
            refine WO_p (PS_assign_bool rfl) ?_
            refine WO_nil ?_
            refine thn_normal ?_
            refine W_if rfl (fun hb16 => ?_) (fun hb16 => ?_)
            · have hb16p := hb16.h; try simp only [al_ete, al_dfn, Bool.not_eq_true', Bool.not_eq_false', al_ne, Bool.not_not, al_nn] at hb16p
              have h91 : (o = 240 ∨ o = 245) ∧ 512 < yarg g 2 := ⟨by omega, by rw [hy2]; omega⟩
              refine W_seq ?_
              have hrf : yrefP y g o = 9 := by unfold yrefP; rw [if_neg hn7, if_pos h91]
              refine W_region rfl ?_
              refine WO_p (PS_move_ptr rfl) ?_
              refine WO_call Hvac.call171 (by rfl) (Ret.mono (fail_ex scan C c v B m t f 0 S _ _ (MS.ext hM (by repeat (first | assumption | exact Ext.refl _ | refine Ext.alloc ?_ _ | refine Ext.drew ?_ | refine Ext.setB ?_ (by first | omega | (simp only [size_alloc, size_setB, size_drew]; omega)) _ | exact Ext.trans (by assumption) (by assumption) | refine Ext.trans ?_ (by assumption)))) hf hI (by omega) y rest g (hRl.ext hM (by repeat (first | assumption | exact Ext.refl _ | refine Ext.alloc ?_ _ | refine Ext.drew ?_ | refine Ext.setB ?_ (by first | omega | (simp only [size_alloc, size_setB, size_drew]; omega)) _ | exact Ext.trans (by assumption) (by assumption) | refine Ext.trans ?_ (by assumption)))) 9 rfl) ?_)
              rintro _ wq ⟨rfl, vq, mq, hRq, hPq, hXq⟩
              replace hRq := MRet.pre (w := w) (by repeat (first | assumption | exact Ext.refl _ | refine Ext.alloc ?_ _ | refine Ext.drew ?_ | refine Ext.setB ?_ (by first | omega | (simp only [size_alloc, size_setB, size_drew]; omega)) _ | exact Ext.trans (by assumption) (by assumption) | refine Ext.trans ?_ (by assumption))) hRq
              refine WO_p (PS_assign_bool rfl) ?_
              refine WO_nil ?_
              refine thn_normal ?_
              refine W_ret ?_
              refine inBlk_ret ?_
              refine thn_ret ?_
              refine bodyQ_ret1 Hvac.results174 rfl (.bool _) rfl ?_
              exact Or.inl ⟨rfl, vq, mq, hRq, hPq, by rw [hrf]; exact ⟨by decide, hXq⟩⟩
            · have hb16p := hb16.h; try simp only [al_ete, al_dfn, Bool.not_eq_true', Bool.not_eq_false', al_ne, Bool.not_not, al_nn] at hb16p
              refine W_seq ?_
              have hn9 : ¬ ((o = 240 ∨ o = 245) ∧ 512 < yarg g 2) := by rintro ⟨h8, h9⟩; rw [hy2] at h9; omega
              refine W_region rfl ?_
              refine WO_p (PS_move_int rfl) ?_
              refine WO_p (PS_eql rfl rfl) ?_
              refine WO_p (PS_move_bool rfl) ?_
              refine WO_if (t := 51) rfl (fun hb20 => ?_) (fun hb20 => ?_)
              · have hb20p := hb20.h; try simp only [al_ete, al_dfn, Bool.not_eq_true', Bool.not_eq_false', al_ne, Bool.not_not, al_nn] at hb20p
                refine WO_guardT rfl rfl hb20.h ?_
                refine WO_p (PS_move_ptr rfl) ?_
                refine WO_guardT rfl rfl hb20.h ?_
                refine WO_p (PS_move_ptr rfl) ?_
                refine WO_guardT rfl rfl hb20.h ?_
                refine WO_p (PS_move_ptr rfl) ?_
                refine WO_guardT rfl rfl hb20.h ?_
                refine WO_call Hvac.call239 (by rfl) (Ret.mono (arg_spec C c v B m t f _ _ (MS.ext hM (by repeat (first | assumption | exact Ext.refl _ | refine Ext.alloc ?_ _ | refine Ext.drew ?_ | refine Ext.setB ?_ (by first | omega | (simp only [size_alloc, size_setB, size_drew]; omega)) _ | exact Ext.trans (by assumption) (by assumption) | refine Ext.trans ?_ (by assumption)))) hA (by omega)) ?_)
                rintro _ w239_20 ⟨hE239_20, rfl⟩
                have hz239_20 := hE239_20.1
                try simp only [size_alloc, size_setB, size_drew] at hz239_20
                refine WO_guardT rfl rfl hb20.h ?_
                refine WO_p (PS_move_ptr rfl) ?_
                refine WO_guardT rfl rfl hb20.h ?_
                refine WO_p (PS_move_ptr rfl) ?_
                refine WO_guardT rfl rfl hb20.h ?_
                refine WO_call Hvac.call239 (by rfl) (Ret.mono (arg_spec C c v B m t f _ _ (MS.ext hM (by repeat (first | assumption | exact Ext.refl _ | refine Ext.alloc ?_ _ | refine Ext.drew ?_ | refine Ext.setB ?_ (by first | omega | (simp only [size_alloc, size_setB, size_drew]; omega)) _ | exact Ext.trans (by assumption) (by assumption) | refine Ext.trans ?_ (by assumption)))) hA (by omega)) ?_)
                rintro _ w239_21 ⟨hE239_21, rfl⟩
                have hz239_21 := hE239_21.1
                try simp only [size_alloc, size_setB, size_drew] at hz239_21
                refine WO_guardT rfl rfl hb20.h ?_
                refine WO_call Hvac.call240 (by rfl) (Ret.mono (past_ex C c v B m _ _ _ (MS.ext hM (by repeat (first | assumption | exact Ext.refl _ | refine Ext.alloc ?_ _ | refine Ext.drew ?_ | refine Ext.setB ?_ (by first | omega | (simp only [size_alloc, size_setB, size_drew]; omega)) _ | exact Ext.trans (by assumption) (by assumption) | refine Ext.trans ?_ (by assumption)))) hw1 hw2 (by omega)) ?_)
                rintro _ w240_22 ⟨hE240_22, rfl⟩
                have hz240_22 := hE240_22.1
                try simp only [size_alloc, size_setB, size_drew] at hz240_22
                refine WO_p (PS_pickT rfl hb20.h rfl) ?_
                refine WO_p (PS_assign_bool rfl) ?_
                refine WO_nil ?_
                refine thn_normal ?_
                refine W_if rfl (fun hb25 => ?_) (fun hb25 => ?_)
                · have hb25p := hb25.h; try simp only [al_ete, al_dfn, Bool.not_eq_true', Bool.not_eq_false', al_ne, Bool.not_not, al_nn] at hb25p
                  have h81 : o = 62 ∧ y.ret.length < yarg g 1 + yarg g 2 := ⟨by omega, by rw [hy1, hy2]; omega⟩
                  refine W_seq ?_
                  have hrf : yrefP y g o = 8 := by unfold yrefP; rw [if_neg hn7, if_neg hn9, if_pos h81]
                  refine W_region rfl ?_
                  refine WO_p (PS_move_ptr rfl) ?_
                  refine WO_call Hvac.call171 (by rfl) (Ret.mono (fail_ex scan C c v B m t f 0 S _ _ (MS.ext hM (by repeat (first | assumption | exact Ext.refl _ | refine Ext.alloc ?_ _ | refine Ext.drew ?_ | refine Ext.setB ?_ (by first | omega | (simp only [size_alloc, size_setB, size_drew]; omega)) _ | exact Ext.trans (by assumption) (by assumption) | refine Ext.trans ?_ (by assumption)))) hf hI (by omega) y rest g (hRl.ext hM (by repeat (first | assumption | exact Ext.refl _ | refine Ext.alloc ?_ _ | refine Ext.drew ?_ | refine Ext.setB ?_ (by first | omega | (simp only [size_alloc, size_setB, size_drew]; omega)) _ | exact Ext.trans (by assumption) (by assumption) | refine Ext.trans ?_ (by assumption)))) 8 rfl) ?_)
                  rintro _ wq ⟨rfl, vq, mq, hRq, hPq, hXq⟩
                  replace hRq := MRet.pre (w := w) (by repeat (first | assumption | exact Ext.refl _ | refine Ext.alloc ?_ _ | refine Ext.drew ?_ | refine Ext.setB ?_ (by first | omega | (simp only [size_alloc, size_setB, size_drew]; omega)) _ | exact Ext.trans (by assumption) (by assumption) | refine Ext.trans ?_ (by assumption))) hRq
                  refine WO_p (PS_assign_bool rfl) ?_
                  refine WO_nil ?_
                  refine thn_normal ?_
                  refine W_ret ?_
                  refine inBlk_ret ?_
                  refine thn_ret ?_
                  refine bodyQ_ret1 Hvac.results174 rfl (.bool _) rfl ?_
                  exact Or.inl ⟨rfl, vq, mq, hRq, hPq, by rw [hrf]; exact ⟨by decide, hXq⟩⟩
                · have hb25p := hb25.h; try simp only [al_ete, al_dfn, Bool.not_eq_true', Bool.not_eq_false', al_ne, Bool.not_not, al_nn] at hb25p
                  refine W_skip ?_
                  refine inBlk_normal ?_
                  refine thn_normal ?_
                  have hn8 : ¬ (o = 62 ∧ y.ret.length < yarg g 1 + yarg g 2) := by rintro ⟨h8, h9⟩; rw [hy1, hy2] at h9; omega
                  exact ⟨⟨rfl, rfl, rfl, rfl, trivial⟩, (by repeat (first | assumption | exact Ext.refl _ | refine Ext.alloc ?_ _ | refine Ext.drew ?_ | refine Ext.setB ?_ (by first | omega | (simp only [size_alloc, size_setB, size_drew]; omega)) _ | exact Ext.trans (by assumption) (by assumption) | refine Ext.trans ?_ (by assumption))), hn7, hn9, hn8, fun h => by omega⟩
              · have hb20p := hb20.h; try simp only [al_ete, al_dfn, Bool.not_eq_true', Bool.not_eq_false', al_ne, Bool.not_not, al_nn] at hb20p
                refine WO_guardF rfl rfl hb20.h ?_
                refine WO_guardF rfl rfl hb20.h ?_
                refine WO_guardF rfl rfl hb20.h ?_
                refine WO_guardF rfl rfl hb20.h ?_
                refine WO_guardF rfl rfl hb20.h ?_
                refine WO_guardF rfl rfl hb20.h ?_
                refine WO_guardF rfl rfl hb20.h ?_
                refine WO_guardF rfl rfl hb20.h ?_
                refine WO_p (PS_pickF rfl hb20.h rfl) ?_
                refine WO_p (PS_assign_bool rfl) ?_
                refine WO_nil ?_
                refine thn_normal ?_
                refine W_condF rfl rfl ?_
                refine W_skip ?_
                refine inBlk_normal ?_
                refine thn_normal ?_
                have hn8 : ¬ (o = 62 ∧ y.ret.length < yarg g 1 + yarg g 2) := by rintro ⟨h8, h9⟩; rw [hy1, hy2] at h9; omega
                exact ⟨⟨rfl, rfl, rfl, rfl, trivial⟩, (by repeat (first | assumption | exact Ext.refl _ | refine Ext.alloc ?_ _ | refine Ext.drew ?_ | refine Ext.setB ?_ (by first | omega | (simp only [size_alloc, size_setB, size_drew]; omega)) _ | exact Ext.trans (by assumption) (by assumption) | refine Ext.trans ?_ (by assumption))), hn7, hn9, hn8, fun h => by omega⟩
          · have hb12p := hb12.h; try simp only [al_ete, al_dfn, Bool.not_eq_true', Bool.not_eq_false', al_ne, Bool.not_not, al_nn] at hb12p
            refine WO_guardT rfl rfl hb12.h ?_
            refine WO_p (PS_move_int rfl) ?_
            refine WO_guardT rfl rfl hb12.h ?_
            refine WO_p (PS_eql rfl rfl) ?_
            refine WO_p (PS_pickF rfl hb12.h rfl) ?_
            refine WO_p (PS_move_bool rfl) ?_
            refine WO_if (t := 39) rfl (fun hb29 => ?_) (fun hb29 => ?_)
            · have hb29p := hb29.h; try simp only [al_ete, al_dfn, Bool.not_eq_true', Bool.not_eq_false', al_ne, Bool.not_not, al_nn] at hb29p
              refine WO_guardT rfl rfl hb29.h ?_
              refine WO_p (PS_move_ptr rfl) ?_
              refine WO_guardT rfl rfl hb29.h ?_
              refine WO_p (PS_move_ptr rfl) ?_
              refine WO_guardT rfl rfl hb29.h ?_
              refine WO_call Hvac.call239 (by rfl) (Ret.mono (arg_spec C c v B m t f _ _ (MS.ext hM (by repeat (first | assumption | exact Ext.refl _ | refine Ext.alloc ?_ _ | refine Ext.drew ?_ | refine Ext.setB ?_ (by first | omega | (simp only [size_alloc, size_setB, size_drew]; omega)) _ | exact Ext.trans (by assumption) (by assumption) | refine Ext.trans ?_ (by assumption)))) hA (by omega)) ?_)
              rintro _ w239_29 ⟨hE239_29, rfl⟩
              have hz239_29 := hE239_29.1
              try simp only [size_alloc, size_setB, size_drew] at hz239_29
              refine WO_guardT rfl rfl hb29.h ?_
              refine WO_p (PS_buildI (k := .u64) (zs := [0, 0, 0, 0]) (ps := [(0, _)]) (L := [_, 0, 0, 0]) Hvac.zeroValue61 Hvac.runUnderlying61 Hvac.sizeOf26 rfl rfl rfl rfl) ?_
              refine WO_guardT rfl rfl hb29.h ?_
              refine WO_call Hvac.call139 (by rfl) (Ret.mono (gt_spec _ _ _ hw2 hwd512) ?_)
              rintro _ w139_30 ⟨rfl, hE139_30⟩
              have hz139_30 := hE139_30.1
              try simp only [size_alloc, size_setB, size_drew] at hz139_30
              refine WO_p (PS_pickT rfl hb29.h rfl) ?_
              refine WO_p (PS_assign_bool rfl) ?_
              refine WO_nil ?_
              refine thn_normal ?_
              refine W_if rfl (fun hb33 => ?_) (fun hb33 => ?_)
              · have hb33p := hb33.h; try simp only [al_ete, al_dfn, Bool.not_eq_true', Bool.not_eq_false', al_ne, Bool.not_not, al_nn] at hb33p
                have h91 : (o = 240 ∨ o = 245) ∧ 512 < yarg g 2 := ⟨by omega, by rw [hy2]; omega⟩
                refine W_seq ?_
                have hrf : yrefP y g o = 9 := by unfold yrefP; rw [if_neg hn7, if_pos h91]
                refine W_region rfl ?_
                refine WO_p (PS_move_ptr rfl) ?_
                refine WO_call Hvac.call171 (by rfl) (Ret.mono (fail_ex scan C c v B m t f 0 S _ _ (MS.ext hM (by repeat (first | assumption | exact Ext.refl _ | refine Ext.alloc ?_ _ | refine Ext.drew ?_ | refine Ext.setB ?_ (by first | omega | (simp only [size_alloc, size_setB, size_drew]; omega)) _ | exact Ext.trans (by assumption) (by assumption) | refine Ext.trans ?_ (by assumption)))) hf hI (by omega) y rest g (hRl.ext hM (by repeat (first | assumption | exact Ext.refl _ | refine Ext.alloc ?_ _ | refine Ext.drew ?_ | refine Ext.setB ?_ (by first | omega | (simp only [size_alloc, size_setB, size_drew]; omega)) _ | exact Ext.trans (by assumption) (by assumption) | refine Ext.trans ?_ (by assumption)))) 9 rfl) ?_)
                rintro _ wq ⟨rfl, vq, mq, hRq, hPq, hXq⟩
                replace hRq := MRet.pre (w := w) (by repeat (first | assumption | exact Ext.refl _ | refine Ext.alloc ?_ _ | refine Ext.drew ?_ | refine Ext.setB ?_ (by first | omega | (simp only [size_alloc, size_setB, size_drew]; omega)) _ | exact Ext.trans (by assumption) (by assumption) | refine Ext.trans ?_ (by assumption))) hRq
                refine WO_p (PS_assign_bool rfl) ?_
                refine WO_nil ?_
                refine thn_normal ?_
                refine W_ret ?_
                refine inBlk_ret ?_
                refine thn_ret ?_
                refine bodyQ_ret1 Hvac.results174 rfl (.bool _) rfl ?_
                exact Or.inl ⟨rfl, vq, mq, hRq, hPq, by rw [hrf]; exact ⟨by decide, hXq⟩⟩
              · have hb33p := hb33.h; try simp only [al_ete, al_dfn, Bool.not_eq_true', Bool.not_eq_false', al_ne, Bool.not_not, al_nn] at hb33p
                refine W_seq ?_
                have hn9 : ¬ ((o = 240 ∨ o = 245) ∧ 512 < yarg g 2) := by rintro ⟨h8, h9⟩; rw [hy2] at h9; omega
                refine W_region rfl ?_
                refine WO_p (PS_move_int rfl) ?_
                refine WO_p (PS_eql rfl rfl) ?_
                refine WO_p (PS_move_bool rfl) ?_
                refine WO_if (t := 51) rfl (fun hb37 => ?_) (fun hb37 => ?_)
                · have hb37p := hb37.h; try simp only [al_ete, al_dfn, Bool.not_eq_true', Bool.not_eq_false', al_ne, Bool.not_not, al_nn] at hb37p
                  refine WO_guardT rfl rfl hb37.h ?_
                  refine WO_p (PS_move_ptr rfl) ?_
                  refine WO_guardT rfl rfl hb37.h ?_
                  refine WO_p (PS_move_ptr rfl) ?_
                  refine WO_guardT rfl rfl hb37.h ?_
                  refine WO_p (PS_move_ptr rfl) ?_
                  refine WO_guardT rfl rfl hb37.h ?_
                  refine WO_call Hvac.call239 (by rfl) (Ret.mono (arg_spec C c v B m t f _ _ (MS.ext hM (by repeat (first | assumption | exact Ext.refl _ | refine Ext.alloc ?_ _ | refine Ext.drew ?_ | refine Ext.setB ?_ (by first | omega | (simp only [size_alloc, size_setB, size_drew]; omega)) _ | exact Ext.trans (by assumption) (by assumption) | refine Ext.trans ?_ (by assumption)))) hA (by omega)) ?_)
                  rintro _ w239_37 ⟨hE239_37, rfl⟩
                  have hz239_37 := hE239_37.1
                  try simp only [size_alloc, size_setB, size_drew] at hz239_37
                  refine WO_guardT rfl rfl hb37.h ?_
                  refine WO_p (PS_move_ptr rfl) ?_
                  refine WO_guardT rfl rfl hb37.h ?_
                  refine WO_p (PS_move_ptr rfl) ?_
                  refine WO_guardT rfl rfl hb37.h ?_
                  refine WO_call Hvac.call239 (by rfl) (Ret.mono (arg_spec C c v B m t f _ _ (MS.ext hM (by repeat (first | assumption | exact Ext.refl _ | refine Ext.alloc ?_ _ | refine Ext.drew ?_ | refine Ext.setB ?_ (by first | omega | (simp only [size_alloc, size_setB, size_drew]; omega)) _ | exact Ext.trans (by assumption) (by assumption) | refine Ext.trans ?_ (by assumption)))) hA (by omega)) ?_)
                  rintro _ w239_38 ⟨hE239_38, rfl⟩
                  have hz239_38 := hE239_38.1
                  try simp only [size_alloc, size_setB, size_drew] at hz239_38
                  refine WO_guardT rfl rfl hb37.h ?_
                  refine WO_call Hvac.call240 (by rfl) (Ret.mono (past_ex C c v B m _ _ _ (MS.ext hM (by repeat (first | assumption | exact Ext.refl _ | refine Ext.alloc ?_ _ | refine Ext.drew ?_ | refine Ext.setB ?_ (by first | omega | (simp only [size_alloc, size_setB, size_drew]; omega)) _ | exact Ext.trans (by assumption) (by assumption) | refine Ext.trans ?_ (by assumption)))) hw1 hw2 (by omega)) ?_)
                  rintro _ w240_39 ⟨hE240_39, rfl⟩
                  have hz240_39 := hE240_39.1
                  try simp only [size_alloc, size_setB, size_drew] at hz240_39
                  refine WO_p (PS_pickT rfl hb37.h rfl) ?_
                  refine WO_p (PS_assign_bool rfl) ?_
                  refine WO_nil ?_
                  refine thn_normal ?_
                  refine W_if rfl (fun hb42 => ?_) (fun hb42 => ?_)
                  · have hb42p := hb42.h; try simp only [al_ete, al_dfn, Bool.not_eq_true', Bool.not_eq_false', al_ne, Bool.not_not, al_nn] at hb42p
                    have h81 : o = 62 ∧ y.ret.length < yarg g 1 + yarg g 2 := ⟨by omega, by rw [hy1, hy2]; omega⟩
                    refine W_seq ?_
                    have hrf : yrefP y g o = 8 := by unfold yrefP; rw [if_neg hn7, if_neg hn9, if_pos h81]
                    refine W_region rfl ?_
                    refine WO_p (PS_move_ptr rfl) ?_
                    refine WO_call Hvac.call171 (by rfl) (Ret.mono (fail_ex scan C c v B m t f 0 S _ _ (MS.ext hM (by repeat (first | assumption | exact Ext.refl _ | refine Ext.alloc ?_ _ | refine Ext.drew ?_ | refine Ext.setB ?_ (by first | omega | (simp only [size_alloc, size_setB, size_drew]; omega)) _ | exact Ext.trans (by assumption) (by assumption) | refine Ext.trans ?_ (by assumption)))) hf hI (by omega) y rest g (hRl.ext hM (by repeat (first | assumption | exact Ext.refl _ | refine Ext.alloc ?_ _ | refine Ext.drew ?_ | refine Ext.setB ?_ (by first | omega | (simp only [size_alloc, size_setB, size_drew]; omega)) _ | exact Ext.trans (by assumption) (by assumption) | refine Ext.trans ?_ (by assumption)))) 8 rfl) ?_)
                    rintro _ wq ⟨rfl, vq, mq, hRq, hPq, hXq⟩
                    replace hRq := MRet.pre (w := w) (by repeat (first | assumption | exact Ext.refl _ | refine Ext.alloc ?_ _ | refine Ext.drew ?_ | refine Ext.setB ?_ (by first | omega | (simp only [size_alloc, size_setB, size_drew]; omega)) _ | exact Ext.trans (by assumption) (by assumption) | refine Ext.trans ?_ (by assumption))) hRq
                    refine WO_p (PS_assign_bool rfl) ?_
                    refine WO_nil ?_
                    refine thn_normal ?_
                    refine W_ret ?_
                    refine inBlk_ret ?_
                    refine thn_ret ?_
                    refine bodyQ_ret1 Hvac.results174 rfl (.bool _) rfl ?_
                    exact Or.inl ⟨rfl, vq, mq, hRq, hPq, by rw [hrf]; exact ⟨by decide, hXq⟩⟩
                  · have hb42p := hb42.h; try simp only [al_ete, al_dfn, Bool.not_eq_true', Bool.not_eq_false', al_ne, Bool.not_not, al_nn] at hb42p
                    refine W_skip ?_
                    refine inBlk_normal ?_
                    refine thn_normal ?_
                    have hn8 : ¬ (o = 62 ∧ y.ret.length < yarg g 1 + yarg g 2) := by rintro ⟨h8, h9⟩; rw [hy1, hy2] at h9; omega
                    exact ⟨⟨rfl, rfl, rfl, rfl, trivial⟩, (by repeat (first | assumption | exact Ext.refl _ | refine Ext.alloc ?_ _ | refine Ext.drew ?_ | refine Ext.setB ?_ (by first | omega | (simp only [size_alloc, size_setB, size_drew]; omega)) _ | exact Ext.trans (by assumption) (by assumption) | refine Ext.trans ?_ (by assumption))), hn7, hn9, hn8, fun h => by omega⟩
                · have hb37p := hb37.h; try simp only [al_ete, al_dfn, Bool.not_eq_true', Bool.not_eq_false', al_ne, Bool.not_not, al_nn] at hb37p
                  refine WO_guardF rfl rfl hb37.h ?_
                  refine WO_guardF rfl rfl hb37.h ?_
                  refine WO_guardF rfl rfl hb37.h ?_
                  refine WO_guardF rfl rfl hb37.h ?_
                  refine WO_guardF rfl rfl hb37.h ?_
                  refine WO_guardF rfl rfl hb37.h ?_
                  refine WO_guardF rfl rfl hb37.h ?_
                  refine WO_guardF rfl rfl hb37.h ?_
                  refine WO_p (PS_pickF rfl hb37.h rfl) ?_
                  refine WO_p (PS_assign_bool rfl) ?_
                  refine WO_nil ?_
                  refine thn_normal ?_
                  refine W_condF rfl rfl ?_
                  refine W_skip ?_
                  refine inBlk_normal ?_
                  refine thn_normal ?_
                  have hn8 : ¬ (o = 62 ∧ y.ret.length < yarg g 1 + yarg g 2) := by rintro ⟨h8, h9⟩; rw [hy1, hy2] at h9; omega
                  exact ⟨⟨rfl, rfl, rfl, rfl, trivial⟩, (by repeat (first | assumption | exact Ext.refl _ | refine Ext.alloc ?_ _ | refine Ext.drew ?_ | refine Ext.setB ?_ (by first | omega | (simp only [size_alloc, size_setB, size_drew]; omega)) _ | exact Ext.trans (by assumption) (by assumption) | refine Ext.trans ?_ (by assumption))), hn7, hn9, hn8, fun h => by omega⟩
            · have hb29p := hb29.h; try simp only [al_ete, al_dfn, Bool.not_eq_true', Bool.not_eq_false', al_ne, Bool.not_not, al_nn] at hb29p
              refine WO_guardF rfl rfl hb29.h ?_
              refine WO_guardF rfl rfl hb29.h ?_
              refine WO_guardF rfl rfl hb29.h ?_
              refine WO_guardF rfl rfl hb29.h ?_
              refine WO_guardF rfl rfl hb29.h ?_
              refine WO_p (PS_pickF rfl hb29.h rfl) ?_
              refine WO_p (PS_assign_bool rfl) ?_
              refine WO_nil ?_
              refine thn_normal ?_
              refine W_condF rfl rfl ?_
              refine W_seq ?_
              have hn9 : ¬ ((o = 240 ∨ o = 245) ∧ 512 < yarg g 2) := by rintro ⟨h8, h9⟩; rw [hy2] at h9; omega
              refine W_region rfl ?_
              refine WO_p (PS_move_int rfl) ?_
              refine WO_p (PS_eql rfl rfl) ?_
              refine WO_p (PS_move_bool rfl) ?_
              refine WO_if (t := 51) rfl (fun hb46 => ?_) (fun hb46 => ?_)
              · have hb46p := hb46.h; try simp only [al_ete, al_dfn, Bool.not_eq_true', Bool.not_eq_false', al_ne, Bool.not_not, al_nn] at hb46p
                refine WO_guardT rfl rfl hb46.h ?_
                refine WO_p (PS_move_ptr rfl) ?_
                refine WO_guardT rfl rfl hb46.h ?_
                refine WO_p (PS_move_ptr rfl) ?_
                refine WO_guardT rfl rfl hb46.h ?_
                refine WO_p (PS_move_ptr rfl) ?_
                refine WO_guardT rfl rfl hb46.h ?_
                refine WO_call Hvac.call239 (by rfl) (Ret.mono (arg_spec C c v B m t f _ _ (MS.ext hM (by repeat (first | assumption | exact Ext.refl _ | refine Ext.alloc ?_ _ | refine Ext.drew ?_ | refine Ext.setB ?_ (by first | omega | (simp only [size_alloc, size_setB, size_drew]; omega)) _ | exact Ext.trans (by assumption) (by assumption) | refine Ext.trans ?_ (by assumption)))) hA (by omega)) ?_)
                rintro _ w239_46 ⟨hE239_46, rfl⟩
                have hz239_46 := hE239_46.1
                try simp only [size_alloc, size_setB, size_drew] at hz239_46
                refine WO_guardT rfl rfl hb46.h ?_
                refine WO_p (PS_move_ptr rfl) ?_
                refine WO_guardT rfl rfl hb46.h ?_
                refine WO_p (PS_move_ptr rfl) ?_
                refine WO_guardT rfl rfl hb46.h ?_
                refine WO_call Hvac.call239 (by rfl) (Ret.mono (arg_spec C c v B m t f _ _ (MS.ext hM (by repeat (first | assumption | exact Ext.refl _ | refine Ext.alloc ?_ _ | refine Ext.drew ?_ | refine Ext.setB ?_ (by first | omega | (simp only [size_alloc, size_setB, size_drew]; omega)) _ | exact Ext.trans (by assumption) (by assumption) | refine Ext.trans ?_ (by assumption)))) hA (by omega)) ?_)
                rintro _ w239_47 ⟨hE239_47, rfl⟩
                have hz239_47 := hE239_47.1
                try simp only [size_alloc, size_setB, size_drew] at hz239_47
                refine WO_guardT rfl rfl hb46.h ?_
                refine WO_call Hvac.call240 (by rfl) (Ret.mono (past_ex C c v B m _ _ _ (MS.ext hM (by repeat (first | assumption | exact Ext.refl _ | refine Ext.alloc ?_ _ | refine Ext.drew ?_ | refine Ext.setB ?_ (by first | omega | (simp only [size_alloc, size_setB, size_drew]; omega)) _ | exact Ext.trans (by assumption) (by assumption) | refine Ext.trans ?_ (by assumption)))) hw1 hw2 (by omega)) ?_)
                rintro _ w240_48 ⟨hE240_48, rfl⟩
                have hz240_48 := hE240_48.1
                try simp only [size_alloc, size_setB, size_drew] at hz240_48
                refine WO_p (PS_pickT rfl hb46.h rfl) ?_
                refine WO_p (PS_assign_bool rfl) ?_
                refine WO_nil ?_
                refine thn_normal ?_
                refine W_if rfl (fun hb51 => ?_) (fun hb51 => ?_)
                · have hb51p := hb51.h; try simp only [al_ete, al_dfn, Bool.not_eq_true', Bool.not_eq_false', al_ne, Bool.not_not, al_nn] at hb51p
                  have h81 : o = 62 ∧ y.ret.length < yarg g 1 + yarg g 2 := ⟨by omega, by rw [hy1, hy2]; omega⟩
                  refine W_seq ?_
                  have hrf : yrefP y g o = 8 := by unfold yrefP; rw [if_neg hn7, if_neg hn9, if_pos h81]
                  refine W_region rfl ?_
                  refine WO_p (PS_move_ptr rfl) ?_
                  refine WO_call Hvac.call171 (by rfl) (Ret.mono (fail_ex scan C c v B m t f 0 S _ _ (MS.ext hM (by repeat (first | assumption | exact Ext.refl _ | refine Ext.alloc ?_ _ | refine Ext.drew ?_ | refine Ext.setB ?_ (by first | omega | (simp only [size_alloc, size_setB, size_drew]; omega)) _ | exact Ext.trans (by assumption) (by assumption) | refine Ext.trans ?_ (by assumption)))) hf hI (by omega) y rest g (hRl.ext hM (by repeat (first | assumption | exact Ext.refl _ | refine Ext.alloc ?_ _ | refine Ext.drew ?_ | refine Ext.setB ?_ (by first | omega | (simp only [size_alloc, size_setB, size_drew]; omega)) _ | exact Ext.trans (by assumption) (by assumption) | refine Ext.trans ?_ (by assumption)))) 8 rfl) ?_)
                  rintro _ wq ⟨rfl, vq, mq, hRq, hPq, hXq⟩
                  replace hRq := MRet.pre (w := w) (by repeat (first | assumption | exact Ext.refl _ | refine Ext.alloc ?_ _ | refine Ext.drew ?_ | refine Ext.setB ?_ (by first | omega | (simp only [size_alloc, size_setB, size_drew]; omega)) _ | exact Ext.trans (by assumption) (by assumption) | refine Ext.trans ?_ (by assumption))) hRq
                  refine WO_p (PS_assign_bool rfl) ?_
                  refine WO_nil ?_
                  refine thn_normal ?_
                  refine W_ret ?_
                  refine inBlk_ret ?_
                  refine thn_ret ?_
                  refine bodyQ_ret1 Hvac.results174 rfl (.bool _) rfl ?_
                  exact Or.inl ⟨rfl, vq, mq, hRq, hPq, by rw [hrf]; exact ⟨by decide, hXq⟩⟩
                · have hb51p := hb51.h; try simp only [al_ete, al_dfn, Bool.not_eq_true', Bool.not_eq_false', al_ne, Bool.not_not, al_nn] at hb51p
                  refine W_skip ?_
                  refine inBlk_normal ?_
                  refine thn_normal ?_
                  have hn8 : ¬ (o = 62 ∧ y.ret.length < yarg g 1 + yarg g 2) := by rintro ⟨h8, h9⟩; rw [hy1, hy2] at h9; omega
                  exact ⟨⟨rfl, rfl, rfl, rfl, trivial⟩, (by repeat (first | assumption | exact Ext.refl _ | refine Ext.alloc ?_ _ | refine Ext.drew ?_ | refine Ext.setB ?_ (by first | omega | (simp only [size_alloc, size_setB, size_drew]; omega)) _ | exact Ext.trans (by assumption) (by assumption) | refine Ext.trans ?_ (by assumption))), hn7, hn9, hn8, fun h => by omega⟩
              · have hb46p := hb46.h; try simp only [al_ete, al_dfn, Bool.not_eq_true', Bool.not_eq_false', al_ne, Bool.not_not, al_nn] at hb46p
                refine WO_guardF rfl rfl hb46.h ?_
                refine WO_guardF rfl rfl hb46.h ?_
                refine WO_guardF rfl rfl hb46.h ?_
                refine WO_guardF rfl rfl hb46.h ?_
                refine WO_guardF rfl rfl hb46.h ?_
                refine WO_guardF rfl rfl hb46.h ?_
                refine WO_guardF rfl rfl hb46.h ?_
                refine WO_guardF rfl rfl hb46.h ?_
                refine WO_p (PS_pickF rfl hb46.h rfl) ?_
                refine WO_p (PS_assign_bool rfl) ?_
                refine WO_nil ?_
                refine thn_normal ?_
                refine W_condF rfl rfl ?_
                refine W_skip ?_
                refine inBlk_normal ?_
                refine thn_normal ?_
                have hn8 : ¬ (o = 62 ∧ y.ret.length < yarg g 1 + yarg g 2) := by rintro ⟨h8, h9⟩; rw [hy1, hy2] at h9; omega
                exact ⟨⟨rfl, rfl, rfl, rfl, trivial⟩, (by repeat (first | assumption | exact Ext.refl _ | refine Ext.alloc ?_ _ | refine Ext.drew ?_ | refine Ext.setB ?_ (by first | omega | (simp only [size_alloc, size_setB, size_drew]; omega)) _ | exact Ext.trans (by assumption) (by assumption) | refine Ext.trans ?_ (by assumption))), hn7, hn9, hn8, fun h => by omega⟩
      · have hb5p := hb5.h; try simp only [al_ete, al_dfn, Bool.not_eq_true', Bool.not_eq_false', al_ne, Bool.not_not, al_nn] at hb5p
        have hst0 : f.static = false := by simpa using hb5p
        refine WO_guardF rfl rfl hb5.h ?_
        refine WO_guardF rfl rfl hb5.h ?_
        refine WO_guardF rfl rfl hb5.h ?_
        refine WO_guardF rfl rfl hb5.h ?_
        refine WO_p (PS_pickF rfl hb5.h rfl) ?_
        refine WO_p (PS_assign_bool rfl) ?_
        refine WO_nil ?_
        refine thn_normal ?_
        refine W_condF rfl rfl ?_
        refine W_seq ?_
        have hn7 : ¬ (g.statY = true ∧ ywrites g o = true) := by
          rintro ⟨h8, h9⟩
          rw [← hFP.statY] at h8
          rw [← hwq] at h9
          first
          | exact absurd (hst0.symm.trans h8) (by decide)
          | exact absurd h9 (by assumption)
          | (rw [(by assumption : writesW m f o = false)] at h9; cases h9)
        refine W_region rfl ?_
        refine WO_p (PS_move_int rfl) ?_
        refine WO_p (PS_eql rfl rfl) ?_
        refine WO_p (PS_move_bool rfl) ?_
        refine WO_if (t := 35) rfl (fun hb55 => ?_) (fun hb55 => ?_)
        · have hb55p := hb55.h; try simp only [al_ete, al_dfn, Bool.not_eq_true', Bool.not_eq_false', al_ne, Bool.not_not, al_nn] at hb55p
          refine WO_guardF rfl rfl hb55.h ?_
          refine WO_guardF rfl rfl hb55.h ?_
          refine WO_p (PS_pickT rfl hb55.h rfl) ?_
          refine WO_p (PS_move_bool rfl) ?_
          refine WO_guardT rfl rfl rfl ?_
          refine WO_p (PS_move_ptr rfl) ?_
          refine WO_guardT rfl rfl rfl ?_
          refine WO_p (PS_move_ptr rfl) ?_
          refine WO_guardT rfl rfl rfl ?_
          refine WO_call Hvac.call239 (by rfl) (Ret.mono (arg_spec C c v B m t f _ _ (MS.ext hM (by repeat (first | assumption | exact Ext.refl _ | refine Ext.alloc ?_ _ | refine Ext.drew ?_ | refine Ext.setB ?_ (by first | omega | (simp only [size_alloc, size_setB, size_drew]; omega)) _ | exact Ext.trans (by assumption) (by assumption) | refine Ext.trans ?_ (by assumption)))) hA (by omega)) ?_)
          rintro _ w239_55 ⟨hE239_55, rfl⟩
          have hz239_55 := hE239_55.1
          try simp only [size_alloc, size_setB, size_drew] at hz239_55
          refine WO_guardT rfl rfl rfl ?_
          refine WO_p (PS_buildI (k := .u64) (zs := [0, 0, 0, 0]) (ps := [(0, _)]) (L := [_, 0, 0, 0]) Hvac.zeroValue61 Hvac.runUnderlying61 Hvac.sizeOf26 rfl rfl rfl rfl) ?_
          refine WO_guardT rfl rfl rfl ?_
          refine WO_call Hvac.call139 (by rfl) (Ret.mono (gt_spec _ _ _ hw2 hwd512) ?_)
          rintro _ w139_56 ⟨rfl, hE139_56⟩
          have hz139_56 := hE139_56.1
          try simp only [size_alloc, size_setB, size_drew] at hz139_56
          refine WO_p (PS_pickT rfl rfl rfl) ?_
          refine WO_p (PS_assign_bool rfl) ?_
          refine WO_nil ?_
          refine thn_normal ?_
          refine W_if rfl (fun hb59 => ?_) (fun hb59 => ?_)
          · have hb59p := hb59.h; try simp only [al_ete, al_dfn, Bool.not_eq_true', Bool.not_eq_false', al_ne, Bool.not_not, al_nn] at hb59p
            have h91 : (o = 240 ∨ o = 245) ∧ 512 < yarg g 2 := ⟨by omega, by rw [hy2]; omega⟩
            refine W_seq ?_
            have hrf : yrefP y g o = 9 := by unfold yrefP; rw [if_neg hn7, if_pos h91]
            refine W_region rfl ?_
            refine WO_p (PS_move_ptr rfl) ?_
            refine WO_call Hvac.call171 (by rfl) (Ret.mono (fail_ex scan C c v B m t f 0 S _ _ (MS.ext hM (by repeat (first | assumption | exact Ext.refl _ | refine Ext.alloc ?_ _ | refine Ext.drew ?_ | refine Ext.setB ?_ (by first | omega | (simp only [size_alloc, size_setB, size_drew]; omega)) _ | exact Ext.trans (by assumption) (by assumption) | refine Ext.trans ?_ (by assumption)))) hf hI (by omega) y rest g (hRl.ext hM (by repeat (first | assumption | exact Ext.refl _ | refine Ext.alloc ?_ _ | refine Ext.drew ?_ | refine Ext.setB ?_ (by first | omega | (simp only [size_alloc, size_setB, size_drew]; omega)) _ | exact Ext.trans (by assumption) (by assumption) | refine Ext.trans ?_ (by assumption)))) 9 rfl) ?_)
            rintro _ wq ⟨rfl, vq, mq, hRq, hPq, hXq⟩
            replace hRq := MRet.pre (w := w) (by repeat (first | assumption | exact Ext.refl _ | refine Ext.alloc ?_ _ | refine Ext.drew ?_ | refine Ext.setB ?_ (by first | omega | (simp only [size_alloc, size_setB, size_drew]; omega)) _ | exact Ext.trans (by assumption) (by assumption) | refine Ext.trans ?_ (by assumption))) hRq
            refine WO_p (PS_assign_bool rfl) ?_
            refine WO_nil ?_
            refine thn_normal ?_
            refine W_ret ?_
            refine inBlk_ret ?_
            refine thn_ret ?_
            refine bodyQ_ret1 Hvac.results174 rfl (.bool _) rfl ?_
            exact Or.inl ⟨rfl, vq, mq, hRq, hPq, by rw [hrf]; exact ⟨by decide, hXq⟩⟩
          · have hb59p := hb59.h; try simp only [al_ete, al_dfn, Bool.not_eq_true', Bool.not_eq_false', al_ne, Bool.not_not, al_nn] at hb59p
            refine W_seq ?_
            have hn9 : ¬ ((o = 240 ∨ o = 245) ∧ 512 < yarg g 2) := by rintro ⟨h8, h9⟩; rw [hy2] at h9; omega
            refine W_region rfl ?_
            refine WO_p (PS_move_int rfl) ?_
            refine WO_p (PS_eql rfl rfl) ?_
            refine WO_p (PS_move_bool rfl) ?_
            refine WO_if (t := 51) rfl (fun hb63 => ?_) (fun hb63 => ?_)
            · have hb63p := hb63.h; try simp only [al_ete, al_dfn, Bool.not_eq_true', Bool.not_eq_false', al_ne, Bool.not_not, al_nn] at hb63p
              refine WO_guardT rfl rfl hb63.h ?_
              refine WO_p (PS_move_ptr rfl) ?_
              refine WO_guardT rfl rfl hb63.h ?_
              refine WO_p (PS_move_ptr rfl) ?_
              refine WO_guardT rfl rfl hb63.h ?_
              refine WO_p (PS_move_ptr rfl) ?_
              refine WO_guardT rfl rfl hb63.h ?_
              refine WO_call Hvac.call239 (by rfl) (Ret.mono (arg_spec C c v B m t f _ _ (MS.ext hM (by repeat (first | assumption | exact Ext.refl _ | refine Ext.alloc ?_ _ | refine Ext.drew ?_ | refine Ext.setB ?_ (by first | omega | (simp only [size_alloc, size_setB, size_drew]; omega)) _ | exact Ext.trans (by assumption) (by assumption) | refine Ext.trans ?_ (by assumption)))) hA (by omega)) ?_)
              rintro _ w239_63 ⟨hE239_63, rfl⟩
              have hz239_63 := hE239_63.1
              try simp only [size_alloc, size_setB, size_drew] at hz239_63
              refine WO_guardT rfl rfl hb63.h ?_
              refine WO_p (PS_move_ptr rfl) ?_
              refine WO_guardT rfl rfl hb63.h ?_
              refine WO_p (PS_move_ptr rfl) ?_
              refine WO_guardT rfl rfl hb63.h ?_
              refine WO_call Hvac.call239 (by rfl) (Ret.mono (arg_spec C c v B m t f _ _ (MS.ext hM (by repeat (first | assumption | exact Ext.refl _ | refine Ext.alloc ?_ _ | refine Ext.drew ?_ | refine Ext.setB ?_ (by first | omega | (simp only [size_alloc, size_setB, size_drew]; omega)) _ | exact Ext.trans (by assumption) (by assumption) | refine Ext.trans ?_ (by assumption)))) hA (by omega)) ?_)
              rintro _ w239_64 ⟨hE239_64, rfl⟩
              have hz239_64 := hE239_64.1
              try simp only [size_alloc, size_setB, size_drew] at hz239_64
              refine WO_guardT rfl rfl hb63.h ?_
              refine WO_call Hvac.call240 (by rfl) (Ret.mono (past_ex C c v B m _ _ _ (MS.ext hM (by repeat (first | assumption | exact Ext.refl _ | refine Ext.alloc ?_ _ | refine Ext.drew ?_ | refine Ext.setB ?_ (by first | omega | (simp only [size_alloc, size_setB, size_drew]; omega)) _ | exact Ext.trans (by assumption) (by assumption) | refine Ext.trans ?_ (by assumption)))) hw1 hw2 (by omega)) ?_)
              rintro _ w240_65 ⟨hE240_65, rfl⟩
              have hz240_65 := hE240_65.1
              try simp only [size_alloc, size_setB, size_drew] at hz240_65
              refine WO_p (PS_pickT rfl hb63.h rfl) ?_
              refine WO_p (PS_assign_bool rfl) ?_
              refine WO_nil ?_
              refine thn_normal ?_
              refine W_if rfl (fun hb68 => ?_) (fun hb68 => ?_)
              · have hb68p := hb68.h; try simp only [al_ete, al_dfn, Bool.not_eq_true', Bool.not_eq_false', al_ne, Bool.not_not, al_nn] at hb68p
                have h81 : o = 62 ∧ y.ret.length < yarg g 1 + yarg g 2 := ⟨by omega, by rw [hy1, hy2]; omega⟩
                refine W_seq ?_
                have hrf : yrefP y g o = 8 := by unfold yrefP; rw [if_neg hn7, if_neg hn9, if_pos h81]
                refine W_region rfl ?_
                refine WO_p (PS_move_ptr rfl) ?_
                refine WO_call Hvac.call171 (by rfl) (Ret.mono (fail_ex scan C c v B m t f 0 S _ _ (MS.ext hM (by repeat (first | assumption | exact Ext.refl _ | refine Ext.alloc ?_ _ | refine Ext.drew ?_ | refine Ext.setB ?_ (by first | omega | (simp only [size_alloc, size_setB, size_drew]; omega)) _ | exact Ext.trans (by assumption) (by assumption) | refine Ext.trans ?_ (by assumption)))) hf hI (by omega) y rest g (hRl.ext hM (by repeat (first | assumption | exact Ext.refl _ | refine Ext.alloc ?_ _ | refine Ext.drew ?_ | refine Ext.setB ?_ (by first | omega | (simp only [size_alloc, size_setB, size_drew]; omega)) _ | exact Ext.trans (by assumption) (by assumption) | refine Ext.trans ?_ (by assumption)))) 8 rfl) ?_)
                rintro _ wq ⟨rfl, vq, mq, hRq, hPq, hXq⟩
                replace hRq := MRet.pre (w := w) (by repeat (first | assumption | exact Ext.refl _ | refine Ext.alloc ?_ _ | refine Ext.drew ?_ | refine Ext.setB ?_ (by first | omega | (simp only [size_alloc, size_setB, size_drew]; omega)) _ | exact Ext.trans (by assumption) (by assumption) | refine Ext.trans ?_ (by assumption))) hRq
                refine WO_p (PS_assign_bool rfl) ?_
                refine WO_nil ?_
                refine thn_normal ?_
                refine W_ret ?_
                refine inBlk_ret ?_
                refine thn_ret ?_
                refine bodyQ_ret1 Hvac.results174 rfl (.bool _) rfl ?_
                exact Or.inl ⟨rfl, vq, mq, hRq, hPq, by rw [hrf]; exact ⟨by decide, hXq⟩⟩
              · have hb68p := hb68.h; try simp only [al_ete, al_dfn, Bool.not_eq_true', Bool.not_eq_false', al_ne, Bool.not_not, al_nn] at hb68p
                refine W_skip ?_
                refine inBlk_normal ?_
                refine thn_normal ?_
                have hn8 : ¬ (o = 62 ∧ y.ret.length < yarg g 1 + yarg g 2) := by rintro ⟨h8, h9⟩; rw [hy1, hy2] at h9; omega
                exact ⟨⟨rfl, rfl, rfl, rfl, trivial⟩, (by repeat (first | assumption | exact Ext.refl _ | refine Ext.alloc ?_ _ | refine Ext.drew ?_ | refine Ext.setB ?_ (by first | omega | (simp only [size_alloc, size_setB, size_drew]; omega)) _ | exact Ext.trans (by assumption) (by assumption) | refine Ext.trans ?_ (by assumption))), hn7, hn9, hn8, fun h => by omega⟩
            · have hb63p := hb63.h; try simp only [al_ete, al_dfn, Bool.not_eq_true', Bool.not_eq_false', al_ne, Bool.not_not, al_nn] at hb63p
              refine WO_guardF rfl rfl hb63.h ?_
              refine WO_guardF rfl rfl hb63.h ?_
              refine WO_guardF rfl rfl hb63.h ?_
              refine WO_guardF rfl rfl hb63.h ?_
              refine WO_guardF rfl rfl hb63.h ?_
              refine WO_guardF rfl rfl hb63.h ?_
              refine WO_guardF rfl rfl hb63.h ?_
              refine WO_guardF rfl rfl hb63.h ?_
              refine WO_p (PS_pickF rfl hb63.h rfl) ?_
              refine WO_p (PS_assign_bool rfl) ?_
              refine WO_nil ?_
              refine thn_normal ?_
              refine W_condF rfl rfl ?_
              refine W_skip ?_
              refine inBlk_normal ?_
              refine thn_normal ?_
              have hn8 : ¬ (o = 62 ∧ y.ret.length < yarg g 1 + yarg g 2) := by rintro ⟨h8, h9⟩; rw [hy1, hy2] at h9; omega
              exact ⟨⟨rfl, rfl, rfl, rfl, trivial⟩, (by repeat (first | assumption | exact Ext.refl _ | refine Ext.alloc ?_ _ | refine Ext.drew ?_ | refine Ext.setB ?_ (by first | omega | (simp only [size_alloc, size_setB, size_drew]; omega)) _ | exact Ext.trans (by assumption) (by assumption) | refine Ext.trans ?_ (by assumption))), hn7, hn9, hn8, fun h => by omega⟩
        · have hb55p := hb55.h; try simp only [al_ete, al_dfn, Bool.not_eq_true', Bool.not_eq_false', al_ne, Bool.not_not, al_nn] at hb55p
          refine WO_guardT rfl rfl hb55.h ?_
          refine WO_p (PS_move_int rfl) ?_
          refine WO_guardT rfl rfl hb55.h ?_
          refine WO_p (PS_eql rfl rfl) ?_
          refine WO_p (PS_pickF rfl hb55.h rfl) ?_
          refine WO_p (PS_move_bool rfl) ?_
          refine WO_if (t := 39) rfl (fun hb72 => ?_) (fun hb72 => ?_)
          · have hb72p := hb72.h; try simp only [al_ete, al_dfn, Bool.not_eq_true', Bool.not_eq_false', al_ne, Bool.not_not, al_nn] at hb72p
            refine WO_guardT rfl rfl hb72.h ?_
            refine WO_p (PS_move_ptr rfl) ?_
            refine WO_guardT rfl rfl hb72.h ?_
            refine WO_p (PS_move_ptr rfl) ?_
            refine WO_guardT rfl rfl hb72.h ?_
            refine WO_call Hvac.call239 (by rfl) (Ret.mono (arg_spec C c v B m t f _ _ (MS.ext hM (by repeat (first | assumption | exact Ext.refl _ | refine Ext.alloc ?_ _ | refine Ext.drew ?_ | refine Ext.setB ?_ (by first | omega | (simp only [size_alloc, size_setB, size_drew]; omega)) _ | exact Ext.trans (by assumption) (by assumption) | refine Ext.trans ?_ (by assumption)))) hA (by omega)) ?_)
            rintro _ w239_72 ⟨hE239_72, rfl⟩
            have hz239_72 := hE239_72.1
            try simp only [size_alloc, size_setB, size_drew] at hz239_72
            refine WO_guardT rfl rfl hb72.h ?_
            refine WO_p (PS_buildI (k := .u64) (zs := [0, 0, 0, 0]) (ps := [(0, _)]) (L := [_, 0, 0, 0]) Hvac.zeroValue61 Hvac.runUnderlying61 Hvac.sizeOf26 rfl rfl rfl rfl) ?_
            refine WO_guardT rfl rfl hb72.h ?_
            refine WO_call Hvac.call139 (by rfl) (Ret.mono (gt_spec _ _ _ hw2 hwd512) ?_)
            rintro _ w139_73 ⟨rfl, hE139_73⟩
            have hz139_73 := hE139_73.1
            try simp only [size_alloc, size_setB, size_drew] at hz139_73
            refine WO_p (PS_pickT rfl hb72.h rfl) ?_
            refine WO_p (PS_assign_bool rfl) ?_
            refine WO_nil ?_
            refine thn_normal ?_
            refine W_if rfl (fun hb76 => ?_) (fun hb76 => ?_)
            · have hb76p := hb76.h; try simp only [al_ete, al_dfn, Bool.not_eq_true', Bool.not_eq_false', al_ne, Bool.not_not, al_nn] at hb76p
              have h91 : (o = 240 ∨ o = 245) ∧ 512 < yarg g 2 := ⟨by omega, by rw [hy2]; omega⟩
              refine W_seq ?_
              have hrf : yrefP y g o = 9 := by unfold yrefP; rw [if_neg hn7, if_pos h91]
              refine W_region rfl ?_
              refine WO_p (PS_move_ptr rfl) ?_
              refine WO_call Hvac.call171 (by rfl) (Ret.mono (fail_ex scan C c v B m t f 0 S _ _ (MS.ext hM (by repeat (first | assumption | exact Ext.refl _ | refine Ext.alloc ?_ _ | refine Ext.drew ?_ | refine Ext.setB ?_ (by first | omega | (simp only [size_alloc, size_setB, size_drew]; omega)) _ | exact Ext.trans (by assumption) (by assumption) | refine Ext.trans ?_ (by assumption)))) hf hI (by omega) y rest g (hRl.ext hM (by repeat (first | assumption | exact Ext.refl _ | refine Ext.alloc ?_ _ | refine Ext.drew ?_ | refine Ext.setB ?_ (by first | omega | (simp only [size_alloc, size_setB, size_drew]; omega)) _ | exact Ext.trans (by assumption) (by assumption) | refine Ext.trans ?_ (by assumption)))) 9 rfl) ?_)
              rintro _ wq ⟨rfl, vq, mq, hRq, hPq, hXq⟩
              replace hRq := MRet.pre (w := w) (by repeat (first | assumption | exact Ext.refl _ | refine Ext.alloc ?_ _ | refine Ext.drew ?_ | refine Ext.setB ?_ (by first | omega | (simp only [size_alloc, size_setB, size_drew]; omega)) _ | exact Ext.trans (by assumption) (by assumption) | refine Ext.trans ?_ (by assumption))) hRq
              refine WO_p (PS_assign_bool rfl) ?_
              refine WO_nil ?_
              refine thn_normal ?_
              refine W_ret ?_
              refine inBlk_ret ?_
              refine thn_ret ?_
              refine bodyQ_ret1 Hvac.results174 rfl (.bool _) rfl ?_
              exact Or.inl ⟨rfl, vq, mq, hRq, hPq, by rw [hrf]; exact ⟨by decide, hXq⟩⟩
            · have hb76p := hb76.h; try simp only [al_ete, al_dfn, Bool.not_eq_true', Bool.not_eq_false', al_ne, Bool.not_not, al_nn] at hb76p
              refine W_seq ?_
              have hn9 : ¬ ((o = 240 ∨ o = 245) ∧ 512 < yarg g 2) := by rintro ⟨h8, h9⟩; rw [hy2] at h9; omega
              refine W_region rfl ?_
              refine WO_p (PS_move_int rfl) ?_
              refine WO_p (PS_eql rfl rfl) ?_
              refine WO_p (PS_move_bool rfl) ?_
              refine WO_if (t := 51) rfl (fun hb80 => ?_) (fun hb80 => ?_)
              · have hb80p := hb80.h; try simp only [al_ete, al_dfn, Bool.not_eq_true', Bool.not_eq_false', al_ne, Bool.not_not, al_nn] at hb80p
                refine WO_guardT rfl rfl hb80.h ?_
                refine WO_p (PS_move_ptr rfl) ?_
                refine WO_guardT rfl rfl hb80.h ?_
                refine WO_p (PS_move_ptr rfl) ?_
                refine WO_guardT rfl rfl hb80.h ?_
                refine WO_p (PS_move_ptr rfl) ?_
                refine WO_guardT rfl rfl hb80.h ?_
                refine WO_call Hvac.call239 (by rfl) (Ret.mono (arg_spec C c v B m t f _ _ (MS.ext hM (by repeat (first | assumption | exact Ext.refl _ | refine Ext.alloc ?_ _ | refine Ext.drew ?_ | refine Ext.setB ?_ (by first | omega | (simp only [size_alloc, size_setB, size_drew]; omega)) _ | exact Ext.trans (by assumption) (by assumption) | refine Ext.trans ?_ (by assumption)))) hA (by omega)) ?_)
                rintro _ w239_80 ⟨hE239_80, rfl⟩
                have hz239_80 := hE239_80.1
                try simp only [size_alloc, size_setB, size_drew] at hz239_80
                refine WO_guardT rfl rfl hb80.h ?_
                refine WO_p (PS_move_ptr rfl) ?_
                refine WO_guardT rfl rfl hb80.h ?_
                refine WO_p (PS_move_ptr rfl) ?_
                refine WO_guardT rfl rfl hb80.h ?_
                refine WO_call Hvac.call239 (by rfl) (Ret.mono (arg_spec C c v B m t f _ _ (MS.ext hM (by repeat (first | assumption | exact Ext.refl _ | refine Ext.alloc ?_ _ | refine Ext.drew ?_ | refine Ext.setB ?_ (by first | omega | (simp only [size_alloc, size_setB, size_drew]; omega)) _ | exact Ext.trans (by assumption) (by assumption) | refine Ext.trans ?_ (by assumption)))) hA (by omega)) ?_)
                rintro _ w239_81 ⟨hE239_81, rfl⟩
                have hz239_81 := hE239_81.1
                try simp only [size_alloc, size_setB, size_drew] at hz239_81
                refine WO_guardT rfl rfl hb80.h ?_
                refine WO_call Hvac.call240 (by rfl) (Ret.mono (past_ex C c v B m _ _ _ (MS.ext hM (by repeat (first | assumption | exact Ext.refl _ | refine Ext.alloc ?_ _ | refine Ext.drew ?_ | refine Ext.setB ?_ (by first | omega | (simp only [size_alloc, size_setB, size_drew]; omega)) _ | exact Ext.trans (by assumption) (by assumption) | refine Ext.trans ?_ (by assumption)))) hw1 hw2 (by omega)) ?_)
                rintro _ w240_82 ⟨hE240_82, rfl⟩
                have hz240_82 := hE240_82.1
                try simp only [size_alloc, size_setB, size_drew] at hz240_82
                refine WO_p (PS_pickT rfl hb80.h rfl) ?_
                refine WO_p (PS_assign_bool rfl) ?_
                refine WO_nil ?_
                refine thn_normal ?_
                refine W_if rfl (fun hb85 => ?_) (fun hb85 => ?_)
                · have hb85p := hb85.h; try simp only [al_ete, al_dfn, Bool.not_eq_true', Bool.not_eq_false', al_ne, Bool.not_not, al_nn] at hb85p
                  have h81 : o = 62 ∧ y.ret.length < yarg g 1 + yarg g 2 := ⟨by omega, by rw [hy1, hy2]; omega⟩
                  refine W_seq ?_
                  have hrf : yrefP y g o = 8 := by unfold yrefP; rw [if_neg hn7, if_neg hn9, if_pos h81]
                  refine W_region rfl ?_
                  refine WO_p (PS_move_ptr rfl) ?_
                  refine WO_call Hvac.call171 (by rfl) (Ret.mono (fail_ex scan C c v B m t f 0 S _ _ (MS.ext hM (by repeat (first | assumption | exact Ext.refl _ | refine Ext.alloc ?_ _ | refine Ext.drew ?_ | refine Ext.setB ?_ (by first | omega | (simp only [size_alloc, size_setB, size_drew]; omega)) _ | exact Ext.trans (by assumption) (by assumption) | refine Ext.trans ?_ (by assumption)))) hf hI (by omega) y rest g (hRl.ext hM (by repeat (first | assumption | exact Ext.refl _ | refine Ext.alloc ?_ _ | refine Ext.drew ?_ | refine Ext.setB ?_ (by first | omega | (simp only [size_alloc, size_setB, size_drew]; omega)) _ | exact Ext.trans (by assumption) (by assumption) | refine Ext.trans ?_ (by assumption)))) 8 rfl) ?_)
                  rintro _ wq ⟨rfl, vq, mq, hRq, hPq, hXq⟩
                  replace hRq := MRet.pre (w := w) (by repeat (first | assumption | exact Ext.refl _ | refine Ext.alloc ?_ _ | refine Ext.drew ?_ | refine Ext.setB ?_ (by first | omega | (simp only [size_alloc, size_setB, size_drew]; omega)) _ | exact Ext.trans (by assumption) (by assumption) | refine Ext.trans ?_ (by assumption))) hRq
                  refine WO_p (PS_assign_bool rfl) ?_
                  refine WO_nil ?_
                  refine thn_normal ?_
                  refine W_ret ?_
                  refine inBlk_ret ?_
                  refine thn_ret ?_
                  refine bodyQ_ret1 Hvac.results174 rfl (.bool _) rfl ?_
                  exact Or.inl ⟨rfl, vq, mq, hRq, hPq, by rw [hrf]; exact ⟨by decide, hXq⟩⟩
                · have hb85p := hb85.h; try simp only [al_ete, al_dfn, Bool.not_eq_true', Bool.not_eq_false', al_ne, Bool.not_not, al_nn] at hb85p
                  refine W_skip ?_
                  refine inBlk_normal ?_
                  refine thn_normal ?_
                  have hn8 : ¬ (o = 62 ∧ y.ret.length < yarg g 1 + yarg g 2) := by rintro ⟨h8, h9⟩; rw [hy1, hy2] at h9; omega
                  exact ⟨⟨rfl, rfl, rfl, rfl, trivial⟩, (by repeat (first | assumption | exact Ext.refl _ | refine Ext.alloc ?_ _ | refine Ext.drew ?_ | refine Ext.setB ?_ (by first | omega | (simp only [size_alloc, size_setB, size_drew]; omega)) _ | exact Ext.trans (by assumption) (by assumption) | refine Ext.trans ?_ (by assumption))), hn7, hn9, hn8, fun h => by omega⟩
              · have hb80p := hb80.h; try simp only [al_ete, al_dfn, Bool.not_eq_true', Bool.not_eq_false', al_ne, Bool.not_not, al_nn] at hb80p
                refine WO_guardF rfl rfl hb80.h ?_
                refine WO_guardF rfl rfl hb80.h ?_
                refine WO_guardF rfl rfl hb80.h ?_
                refine WO_guardF rfl rfl hb80.h ?_
                refine WO_guardF rfl rfl hb80.h ?_
                refine WO_guardF rfl rfl hb80.h ?_
                refine WO_guardF rfl rfl hb80.h ?_
                refine WO_guardF rfl rfl hb80.h ?_
                refine WO_p (PS_pickF rfl hb80.h rfl) ?_
                refine WO_p (PS_assign_bool rfl) ?_
                refine WO_nil ?_
                refine thn_normal ?_
                refine W_condF rfl rfl ?_
                refine W_skip ?_
                refine inBlk_normal ?_
                refine thn_normal ?_
                have hn8 : ¬ (o = 62 ∧ y.ret.length < yarg g 1 + yarg g 2) := by rintro ⟨h8, h9⟩; rw [hy1, hy2] at h9; omega
                exact ⟨⟨rfl, rfl, rfl, rfl, trivial⟩, (by repeat (first | assumption | exact Ext.refl _ | refine Ext.alloc ?_ _ | refine Ext.drew ?_ | refine Ext.setB ?_ (by first | omega | (simp only [size_alloc, size_setB, size_drew]; omega)) _ | exact Ext.trans (by assumption) (by assumption) | refine Ext.trans ?_ (by assumption))), hn7, hn9, hn8, fun h => by omega⟩
          · have hb72p := hb72.h; try simp only [al_ete, al_dfn, Bool.not_eq_true', Bool.not_eq_false', al_ne, Bool.not_not, al_nn] at hb72p
            refine WO_guardF rfl rfl hb72.h ?_
            refine WO_guardF rfl rfl hb72.h ?_
            refine WO_guardF rfl rfl hb72.h ?_
            refine WO_guardF rfl rfl hb72.h ?_
            refine WO_guardF rfl rfl hb72.h ?_
            refine WO_p (PS_pickF rfl hb72.h rfl) ?_
            refine WO_p (PS_assign_bool rfl) ?_
            refine WO_nil ?_
            refine thn_normal ?_
            refine W_condF rfl rfl ?_
            refine W_seq ?_
            have hn9 : ¬ ((o = 240 ∨ o = 245) ∧ 512 < yarg g 2) := by rintro ⟨h8, h9⟩; rw [hy2] at h9; omega
            refine W_region rfl ?_
            refine WO_p (PS_move_int rfl) ?_
            refine WO_p (PS_eql rfl rfl) ?_
            refine WO_p (PS_move_bool rfl) ?_
            refine WO_if (t := 51) rfl (fun hb89 => ?_) (fun hb89 => ?_)
            · have hb89p := hb89.h; try simp only [al_ete, al_dfn, Bool.not_eq_true', Bool.not_eq_false', al_ne, Bool.not_not, al_nn] at hb89p
              refine WO_guardT rfl rfl hb89.h ?_
              refine WO_p (PS_move_ptr rfl) ?_
              refine WO_guardT rfl rfl hb89.h ?_
              refine WO_p (PS_move_ptr rfl) ?_
              refine WO_guardT rfl rfl hb89.h ?_
              refine WO_p (PS_move_ptr rfl) ?_
              refine WO_guardT rfl rfl hb89.h ?_
              refine WO_call Hvac.call239 (by rfl) (Ret.mono (arg_spec C c v B m t f _ _ (MS.ext hM (by repeat (first | assumption | exact Ext.refl _ | refine Ext.alloc ?_ _ | refine Ext.drew ?_ | refine Ext.setB ?_ (by first | omega | (simp only [size_alloc, size_setB, size_drew]; omega)) _ | exact Ext.trans (by assumption) (by assumption) | refine Ext.trans ?_ (by assumption)))) hA (by omega)) ?_)
              rintro _ w239_89 ⟨hE239_89, rfl⟩
              have hz239_89 := hE239_89.1
              try simp only [size_alloc, size_setB, size_drew] at hz239_89
              refine WO_guardT rfl rfl hb89.h ?_
              refine WO_p (PS_move_ptr rfl) ?_
              refine WO_guardT rfl rfl hb89.h ?_
              refine WO_p (PS_move_ptr rfl) ?_
              refine WO_guardT rfl rfl hb89.h ?_
              refine WO_call Hvac.call239 (by rfl) (Ret.mono (arg_spec C c v B m t f _ _ (MS.ext hM (by repeat (first | assumption | exact Ext.refl _ | refine Ext.alloc ?_ _ | refine Ext.drew ?_ | refine Ext.setB ?_ (by first | omega | (simp only [size_alloc, size_setB, size_drew]; omega)) _ | exact Ext.trans (by assumption) (by assumption) | refine Ext.trans ?_ (by assumption)))) hA (by omega)) ?_)
              rintro _ w239_90 ⟨hE239_90, rfl⟩
              have hz239_90 := hE239_90.1
              try simp only [size_alloc, size_setB, size_drew] at hz239_90
              refine WO_guardT rfl rfl hb89.h ?_
              refine WO_call Hvac.call240 (by rfl) (Ret.mono (past_ex C c v B m _ _ _ (MS.ext hM (by repeat (first | assumption | exact Ext.refl _ | refine Ext.alloc ?_ _ | refine Ext.drew ?_ | refine Ext.setB ?_ (by first | omega | (simp only [size_alloc, size_setB, size_drew]; omega)) _ | exact Ext.trans (by assumption) (by assumption) | refine Ext.trans ?_ (by assumption)))) hw1 hw2 (by omega)) ?_)
              rintro _ w240_91 ⟨hE240_91, rfl⟩
              have hz240_91 := hE240_91.1
              try simp only [size_alloc, size_setB, size_drew] at hz240_91
              refine WO_p (PS_pickT rfl hb89.h rfl) ?_
              refine WO_p (PS_assign_bool rfl) ?_
              refine WO_nil ?_
              refine thn_normal ?_
              refine W_if rfl (fun hb94 => ?_) (fun hb94 => ?_)
              · have hb94p := hb94.h; try simp only [al_ete, al_dfn, Bool.not_eq_true', Bool.not_eq_false', al_ne, Bool.not_not, al_nn] at hb94p
                have h81 : o = 62 ∧ y.ret.length < yarg g 1 + yarg g 2 := ⟨by omega, by rw [hy1, hy2]; omega⟩
                refine W_seq ?_
                have hrf : yrefP y g o = 8 := by unfold yrefP; rw [if_neg hn7, if_neg hn9, if_pos h81]
                refine W_region rfl ?_
                refine WO_p (PS_move_ptr rfl) ?_
                refine WO_call Hvac.call171 (by rfl) (Ret.mono (fail_ex scan C c v B m t f 0 S _ _ (MS.ext hM (by repeat (first | assumption | exact Ext.refl _ | refine Ext.alloc ?_ _ | refine Ext.drew ?_ | refine Ext.setB ?_ (by first | omega | (simp only [size_alloc, size_setB, size_drew]; omega)) _ | exact Ext.trans (by assumption) (by assumption) | refine Ext.trans ?_ (by assumption)))) hf hI (by omega) y rest g (hRl.ext hM (by repeat (first | assumption | exact Ext.refl _ | refine Ext.alloc ?_ _ | refine Ext.drew ?_ | refine Ext.setB ?_ (by first | omega | (simp only [size_alloc, size_setB, size_drew]; omega)) _ | exact Ext.trans (by assumption) (by assumption) | refine Ext.trans ?_ (by assumption)))) 8 rfl) ?_)
                rintro _ wq ⟨rfl, vq, mq, hRq, hPq, hXq⟩
                replace hRq := MRet.pre (w := w) (by repeat (first | assumption | exact Ext.refl _ | refine Ext.alloc ?_ _ | refine Ext.drew ?_ | refine Ext.setB ?_ (by first | omega | (simp only [size_alloc, size_setB, size_drew]; omega)) _ | exact Ext.trans (by assumption) (by assumption) | refine Ext.trans ?_ (by assumption))) hRq
                refine WO_p (PS_assign_bool rfl) ?_
                refine WO_nil ?_
                refine thn_normal ?_
                refine W_ret ?_
                refine inBlk_ret ?_
                refine thn_ret ?_
                refine bodyQ_ret1 Hvac.results174 rfl (.bool _) rfl ?_
                exact Or.inl ⟨rfl, vq, mq, hRq, hPq, by rw [hrf]; exact ⟨by decide, hXq⟩⟩
              · have hb94p := hb94.h; try simp only [al_ete, al_dfn, Bool.not_eq_true', Bool.not_eq_false', al_ne, Bool.not_not, al_nn] at hb94p
                refine W_skip ?_
                refine inBlk_normal ?_
                refine thn_normal ?_
                have hn8 : ¬ (o = 62 ∧ y.ret.length < yarg g 1 + yarg g 2) := by rintro ⟨h8, h9⟩; rw [hy1, hy2] at h9; omega
                exact ⟨⟨rfl, rfl, rfl, rfl, trivial⟩, (by repeat (first | assumption | exact Ext.refl _ | refine Ext.alloc ?_ _ | refine Ext.drew ?_ | refine Ext.setB ?_ (by first | omega | (simp only [size_alloc, size_setB, size_drew]; omega)) _ | exact Ext.trans (by assumption) (by assumption) | refine Ext.trans ?_ (by assumption))), hn7, hn9, hn8, fun h => by omega⟩
            · have hb89p := hb89.h; try simp only [al_ete, al_dfn, Bool.not_eq_true', Bool.not_eq_false', al_ne, Bool.not_not, al_nn] at hb89p
              refine WO_guardF rfl rfl hb89.h ?_
              refine WO_guardF rfl rfl hb89.h ?_
              refine WO_guardF rfl rfl hb89.h ?_
              refine WO_guardF rfl rfl hb89.h ?_
              refine WO_guardF rfl rfl hb89.h ?_
              refine WO_guardF rfl rfl hb89.h ?_
              refine WO_guardF rfl rfl hb89.h ?_
              refine WO_guardF rfl rfl hb89.h ?_
              refine WO_p (PS_pickF rfl hb89.h rfl) ?_
              refine WO_p (PS_assign_bool rfl) ?_
              refine WO_nil ?_
              refine thn_normal ?_
              refine W_condF rfl rfl ?_
              refine W_skip ?_
              refine inBlk_normal ?_
              refine thn_normal ?_
              have hn8 : ¬ (o = 62 ∧ y.ret.length < yarg g 1 + yarg g 2) := by rintro ⟨h8, h9⟩; rw [hy1, hy2] at h9; omega
              exact ⟨⟨rfl, rfl, rfl, rfl, trivial⟩, (by repeat (first | assumption | exact Ext.refl _ | refine Ext.alloc ?_ _ | refine Ext.drew ?_ | refine Ext.setB ?_ (by first | omega | (simp only [size_alloc, size_setB, size_drew]; omega)) _ | exact Ext.trans (by assumption) (by assumption) | refine Ext.trans ?_ (by assumption))), hn7, hn9, hn8, fun h => by omega⟩
    · rintro ρ wA ⟨hFr, hEA, hn7, hn9, hn8, hcrd⟩
      refine W_env _ hFr ?_
      have hzA := hEA.1
      refine W_seq ?_
      refine W_seq ?_
      refine W_region rfl ?_
      refine WO_p (PS_move_int rfl) ?_
      refine WO_call Hvac.call241 (by rfl) (Ret.mono (flat_spec _ _ ho) ?_)
      rintro _ wfl ⟨hEfl0, rfl⟩
      have hEfl : Ext w wfl := (by repeat (first | assumption | exact Ext.refl _ | refine Ext.alloc ?_ _ | refine Ext.drew ?_ | refine Ext.setB ?_ (by first | omega | (simp only [size_alloc, size_setB, size_drew]; omega)) _ | exact Ext.trans (by assumption) (by assumption) | refine Ext.trans ?_ (by assumption)))
      have hzfl := hEfl.1
      have hMF := hM.ext hEfl
      have hblkF := hMF.vs.blk
      refine WO_nil ?_
      refine thn_normal ?_
      refine W_if rfl (fun hb98 => ?_) (fun hb98 => ?_)
      · have hb98p := hb98.h; try simp only [al_ete, al_dfn, Bool.not_eq_true', Bool.not_eq_false', al_ne, Bool.not_not, al_nn] at hb98p
        have hflat : isFlat o = true := by simpa using hb98p
        refine W_seq ?_
        refine W_seq ?_
        refine W_region rfl ?_
        refine WO_p (PS_move_int rfl) ?_
        refine WO_p (PS_conv_u64n Hvac.runUnderlying42 Hvac.runUnderlying26 rfl (by omega) (by omega)) ?_
        refine WO_p (PS_move_ptr rfl) ?_
        refine WO_p (PS_nilCheck rfl) ?_
        refine WO_p (PS_fieldAddr 7 Hvac.runUnderlying66 rfl Hvac.sizeOf26 rfl rfl) ?_
        refine WO_load (.int _ _) Hvac.isAgg26 rfl (Hb.h (by repeat (first | assumption | exact Hb.newY _ _ | refine Hb.alloc ?_ | refine Hb.drew ?_ | refine Hb.ext (by assumption) ?_ | exact Hb.setSameL (by first | omega | (simp only [size_alloc, size_setB, size_drew]; omega)) | exact Hb.setSame (by assumption) | refine Hb.set (by first | omega | (simp only [size_alloc, size_setB, size_drew]; omega)) ?_ ))) (Ce.h (by first | assumption | exact ⟨rfl⟩)) ?_
        refine WO_p (PS_gtr rfl rfl) ?_
        refine WO_nil ?_
        refine thn_normal ?_
        refine W_if rfl (fun hb100 => ?_) (fun hb100 => ?_)
        · have hb100p := hb100.h; try simp only [al_ete, al_dfn, Bool.not_eq_true', Bool.not_eq_false', al_ne, Bool.not_not, al_nn] at hb100p
          refine W_seq ?_
          have hcF := cost_flat hRP hFP hM hvi hAr ho hkn hnM hflat
          have hrf : yrefP y g o = 2 := by unfold yrefP; rw [if_neg hn7, if_neg hn9, if_neg hn8, if_pos (by omega)]
          refine W_region rfl ?_
          refine WO_p (PS_move_ptr rfl) ?_
          refine WO_call Hvac.call171 (by rfl) (Ret.mono (fail_ex scan C c v B m t f 0 S _ _ (MS.ext hM (by repeat (first | assumption | exact Ext.refl _ | refine Ext.alloc ?_ _ | refine Ext.drew ?_ | refine Ext.setB ?_ (by first | omega | (simp only [size_alloc, size_setB, size_drew]; omega)) _ | exact Ext.trans (by assumption) (by assumption) | refine Ext.trans ?_ (by assumption)))) hf hI (by omega) y rest g (hRl.ext hM (by repeat (first | assumption | exact Ext.refl _ | refine Ext.alloc ?_ _ | refine Ext.drew ?_ | refine Ext.setB ?_ (by first | omega | (simp only [size_alloc, size_setB, size_drew]; omega)) _ | exact Ext.trans (by assumption) (by assumption) | refine Ext.trans ?_ (by assumption)))) 2 rfl) ?_)
          rintro _ wq ⟨rfl, vq, mq, hRq, hPq, hXq⟩
          replace hRq := MRet.pre (w := w) (by repeat (first | assumption | exact Ext.refl _ | refine Ext.alloc ?_ _ | refine Ext.drew ?_ | refine Ext.setB ?_ (by first | omega | (simp only [size_alloc, size_setB, size_drew]; omega)) _ | exact Ext.trans (by assumption) (by assumption) | refine Ext.trans ?_ (by assumption))) hRq
          refine WO_p (PS_assign_bool rfl) ?_
          refine WO_nil ?_
          refine thn_normal ?_
          refine W_ret ?_
          refine thn_ret ?_
          refine thn_ret ?_
          refine bodyQ_ret1 Hvac.results174 rfl (.bool _) rfl ?_
          exact Or.inl ⟨rfl, vq, mq, hRq, hPq, by rw [hrf]; exact ⟨by decide, hXq⟩⟩
        · have hb100p := hb100.h; try simp only [al_ete, al_dfn, Bool.not_eq_true', Bool.not_eq_false', al_ne, Bool.not_not, al_nn] at hb100p
          refine W_skip ?_
          refine thn_normal ?_
          refine W_seq ?_
          refine W_region rfl ?_
          refine WO_p (PS_move_ptr rfl) ?_
          refine WO_p (PS_nilCheck rfl) ?_
          refine WO_p (PS_fieldAddr 7 Hvac.runUnderlying66 rfl Hvac.sizeOf26 rfl rfl) ?_
          refine WO_load (.int _ _) Hvac.isAgg26 rfl (Hb.h (by repeat (first | assumption | exact Hb.newY _ _ | refine Hb.alloc ?_ | refine Hb.drew ?_ | refine Hb.ext (by assumption) ?_ | exact Hb.setSameL (by first | omega | (simp only [size_alloc, size_setB, size_drew]; omega)) | exact Hb.setSame (by assumption) | refine Hb.set (by first | omega | (simp only [size_alloc, size_setB, size_drew]; omega)) ?_ ))) (Ce.h (by first | assumption | exact ⟨rfl⟩)) ?_
          refine WO_p (PS_move_int rfl) ?_
          refine WO_p (PS_conv_u64n Hvac.runUnderlying42 Hvac.runUnderlying26 rfl (by omega) (by omega)) ?_
          refine WO_p (PS_sub_u64n rfl rfl (by omega) (by omega)) ?_
          refine WO_p (PS_nilCheck rfl) ?_
          refine WO_p (PS_fieldAddr 7 Hvac.runUnderlying66 rfl Hvac.sizeOf26 rfl rfl) ?_
          refine WO_store1 Hvac.sizeOf26 rfl (v := (.int _ _)) rfl (Hb.h (by repeat (first | assumption | exact Hb.newY _ _ | refine Hb.alloc ?_ | refine Hb.drew ?_ | refine Hb.ext (by assumption) ?_ | exact Hb.setSameL (by first | omega | (simp only [size_alloc, size_setB, size_drew]; omega)) | exact Hb.setSame (by assumption) | refine Hb.set (by first | omega | (simp only [size_alloc, size_setB, size_drew]; omega)) ?_ ))) rfl (by first | omega | assumption | rfl | decide | exact Nat.le_refl _ | (simp only [size_ic, Value.cells]; omega) | (simp; omega) | simp) rfl ?_
          refine WO_nil ?_
          refine thn_normal ?_
          refine W_seq ?_
          have hcF := cost_flat hRP hFP hM hvi hAr ho hkn hnM hflat
          have hfl9 := flat_not hflat
          have hrf0 : yrefP y g o = 0 := by unfold yrefP; rw [if_neg hn7, if_neg hn9, if_neg hn8, if_neg (by omega), if_neg (by omega), if_neg (by omega), if_neg (by omega)]
          obtain ⟨hM9, hS9⟩ := hMF.putF_gas hf (f.gas - s) (by omega)
          have hRp := Rel.pay hRl hM hM9 (KC.pre hEfl (KC.setC (KeepO.refl _ _) _)) hMI hf (cn := ycost y g o) (by omega) (by omega)
          obtain ⟨hpay, hgq⟩ := hI.pay hM.ty hf (c := s) (buf' := m.buf) (base' := m.base) ⟨hs.1, by omega⟩ hbl0 (Or.inl ⟨rfl, rfl⟩)
          refine W_region rfl ?_
          refine WO_p (PS_assign_bool rfl) ?_
          refine WO_nil ?_
          refine thn_normal ?_
          refine W_ret ?_
          refine thn_ret ?_
          refine bodyQ_ret1 Hvac.results174 rfl (.bool _) rfl ?_
          exact Or.inr ⟨rfl, _, s, ⟨_, _, hM9, (MStep.ext hEfl).trans hS9⟩, ⟨hpay, hset _, Int.le_refl _, fun h => absurd (hflat.symm.trans h) (by decide), fun h => absurd (hflat.symm.trans h) (by decide), hcrd, fun h => absurd (h ▸ hflat) (by decide), fun h => absurd (h ▸ hflat) (by decide), fun h => absurd (hflat.symm.trans h) (by decide)⟩, hgq, hrf0, by rw [yGo_no (flat_reach hflat)]; exact hRp⟩
      · have hb98p := hb98.h; try simp only [al_ete, al_dfn, Bool.not_eq_true', Bool.not_eq_false', al_ne, Bool.not_not, al_nn] at hb98p
        have hflat : isFlat o = false := by simpa using hb98p
        refine W_skip ?_
        refine thn_normal ?_
        refine W_seq ?_
        refine W_region rfl ?_
        refine WO_p (PS_move_ptr rfl) ?_
        refine WO_p (PS_move_ptr rfl) ?_
        refine WO_p (PS_move_int rfl) ?_
        refine WO_call Hvac.call242 (by rfl) (Ret.mono (reaches_spec C c v B m t f o _ (MS.ext hM (by repeat (first | assumption | exact Ext.refl _ | refine Ext.alloc ?_ _ | refine Ext.drew ?_ | refine Ext.setB ?_ (by first | omega | (simp only [size_alloc, size_setB, size_drew]; omega)) _ | exact Ext.trans (by assumption) (by assumption) | refine Ext.trans ?_ (by assumption)))) hA ho) ?_)
        rintro _ w242_102 ⟨hE242_102, rfl⟩
        have hz242_102 := hE242_102.1
        try simp only [size_alloc, size_setB, size_drew] at hz242_102
        rw [hnw]
        refine WO_p (PS_move_tuple rfl) ?_
        refine WO_p (PS_extract_int rfl rfl) ?_
        refine WO_p (PS_extract_bool rfl rfl) ?_
        refine WO_p (PS_assign_int rfl) ?_
        refine WO_p (PS_assign_bool rfl) ?_
        refine WO_nil ?_
        refine thn_normal ?_
        refine W_seq ?_
        refine W_seq ?_
        refine W_region rfl ?_
        refine WO_p (PS_move_bool rfl) ?_
        refine WO_p (PS_not rfl) ?_
        refine WO_nil ?_
        refine thn_normal ?_
        refine W_if rfl (fun hb106 => ?_) (fun hb106 => ?_)
        · have hb106p := hb106.h; try simp only [al_ete, al_dfn, Bool.not_eq_true', Bool.not_eq_false', al_ne, Bool.not_not, al_nn] at hb106p
          have hre0 : (reachesW m f o).2 = false := by simpa using hb106p
          refine W_seq ?_
          have hrf : yrefP y g o = 2 := by
            have hcn : g.gas < ycost y g o := cost_no (reaches_no hAr hM.ty hre0) hnM (by omega) (by rw [← hgg0]; exact hgm)
            unfold yrefP; rw [if_neg hn7, if_neg hn9, if_neg hn8, if_pos hcn]
          refine W_region rfl ?_
          refine WO_p (PS_move_ptr rfl) ?_
          refine WO_call Hvac.call171 (by rfl) (Ret.mono (fail_ex scan C c v B m t f 0 S _ _ (MS.ext hM (by repeat (first | assumption | exact Ext.refl _ | refine Ext.alloc ?_ _ | refine Ext.drew ?_ | refine Ext.setB ?_ (by first | omega | (simp only [size_alloc, size_setB, size_drew]; omega)) _ | exact Ext.trans (by assumption) (by assumption) | refine Ext.trans ?_ (by assumption)))) hf hI (by omega) y rest g (hRl.ext hM (by repeat (first | assumption | exact Ext.refl _ | refine Ext.alloc ?_ _ | refine Ext.drew ?_ | refine Ext.setB ?_ (by first | omega | (simp only [size_alloc, size_setB, size_drew]; omega)) _ | exact Ext.trans (by assumption) (by assumption) | refine Ext.trans ?_ (by assumption)))) 2 rfl) ?_)
          rintro _ wq ⟨rfl, vq, mq, hRq, hPq, hXq⟩
          replace hRq := MRet.pre (w := w) (by repeat (first | assumption | exact Ext.refl _ | refine Ext.alloc ?_ _ | refine Ext.drew ?_ | refine Ext.setB ?_ (by first | omega | (simp only [size_alloc, size_setB, size_drew]; omega)) _ | exact Ext.trans (by assumption) (by assumption) | refine Ext.trans ?_ (by assumption))) hRq
          refine WO_p (PS_assign_bool rfl) ?_
          refine WO_nil ?_
          refine thn_normal ?_
          refine W_ret ?_
          refine thn_ret ?_
          refine bodyQ_ret1 Hvac.results174 rfl (.bool _) rfl ?_
          exact Or.inl ⟨rfl, vq, mq, hRq, hPq, by rw [hrf]; exact ⟨by decide, hXq⟩⟩
        · have hb106p := hb106.h; try simp only [al_ete, al_dfn, Bool.not_eq_true', Bool.not_eq_false', al_ne, Bool.not_not, al_nn] at hb106p
          have hre : (reachesW m f o).2 = true := by simpa using hb106p
          refine W_skip ?_
          refine thn_normal ?_
          refine W_seq ?_
          refine W_region rfl ?_
          refine WO_p (PS_move_ptr rfl) ?_
          refine WO_p (PS_nilCheck rfl) ?_
          refine WO_p (PS_fieldAddr 1 Hvac.runUnderlying70 rfl Hvac.sizeOf59 rfl rfl) ?_
          refine WO_call Hvac.call99 (by rfl) (Ret.mono (memLen_spec C c v B m t lo n _ (MS.ext hM (by repeat (first | assumption | exact Ext.refl _ | refine Ext.alloc ?_ _ | refine Ext.drew ?_ | refine Ext.setB ?_ (by first | omega | (simp only [size_alloc, size_setB, size_drew]; omega)) _ | exact Ext.trans (by assumption) (by assumption) | refine Ext.trans ?_ (by assumption)))) hT) ?_)
          rintro _ w99_108 ⟨hE99_108, rfl⟩
          have hz99_108 := hE99_108.1
          try simp only [size_alloc, size_setB, size_drew] at hz99_108
          refine WO_p (PS_quo_u32 rfl rfl (by omega) (by omega) (by omega)) ?_
          refine WO_p (PS_conv_u64n Hvac.runUnderlying56 Hvac.runUnderlying26 rfl (by omega) (by omega)) ?_
          refine WO_p (PS_assign_int rfl) ?_
          refine WO_nil ?_
          refine thn_normal ?_
          refine W_seq ?_
          refine W_region rfl ?_
          refine WO_p (PS_move_int rfl) ?_
          refine WO_p (PS_conv_u64n Hvac.runUnderlying42 Hvac.runUnderlying26 rfl (by omega) (by omega)) ?_
          refine WO_p (PS_move_ptr rfl) ?_
          refine WO_p (PS_move_ptr rfl) ?_
          refine WO_p (PS_move_int rfl) ?_
          refine WO_call Hvac.call243 (by rfl) (Ret.mono (dynamic_ex C c v B m t f o _ (MS.ext hM (by repeat (first | assumption | exact Ext.refl _ | refine Ext.alloc ?_ _ | refine Ext.drew ?_ | refine Ext.setB ?_ (by first | omega | (simp only [size_alloc, size_setB, size_drew]; omega)) _ | exact Ext.trans (by assumption) (by assumption) | refine Ext.trans ?_ (by assumption)))) hA ho hre) ?_)
          rintro _ w243_109 ⟨hE243_109, rfl, hdyb⟩
          have hz243_109 := hE243_109.1
          try simp only [size_alloc, size_setB, size_drew] at hz243_109
          obtain ⟨x, hxe⟩ : ∃ x, dynW v m f o = x := ⟨_, rfl⟩
          have hdyn := dynR_W (m := m) (v := v) (f := f) hM.ty ⟨hdyb.1, by omega⟩
          rw [hxe] at hdyn hdyb ⊢
          have hdb := hdyn.b0
          have hce := cost_eq hRP hFP hM hvi hAr ho hkn hnM hre
          rw [hxe, hnw, ← hsi] at hce
          refine WO_p (PS_add_u64n rfl rfl (by omega) (by omega)) ?_
          refine WO_p (PS_assign_int rfl) ?_
          refine WO_nil ?_
          refine thn_normal ?_
          refine W_seqJ (fun ρ w' => ∃ cost : Int, Fr [(0, .pointer (some ⟨C, 0, none⟩)), (7, .pointer (some ⟨C, 1803 + t * 65, none⟩)), (1, .int .u8 o), (8, .int .u64 (nw : Int)), (10, .int .u64 ((n : Int) / 32)), (11, .int .u64 cost)] ρ ∧ Ext w w' ∧ s + x ≤ cost ∧ cost ≤ 1000000000 ∧ ((n : Int) / 32 < (nw : Int) → memCost (nw : Int) - memCost ((n : Int) / 32) + (s + x) ≤ cost) ∧ cost = (ycost y g o : Int)) ?_ ?_
          · skip
            refine W_seq ?_
            refine W_region rfl ?_
            refine WO_p (PS_move_int rfl) ?_
            refine WO_p (PS_move_int rfl) ?_
            refine WO_p (PS_gtr rfl rfl) ?_
            refine WO_nil ?_
            refine thn_normal ?_
            refine W_if rfl (fun hb112 => ?_) (fun hb112 => ?_)
            · have hb112p := hb112.h; try simp only [al_ete, al_dfn, Bool.not_eq_true', Bool.not_eq_false', al_ne, Bool.not_not, al_nn] at hb112p
              have hmc1 := memCost_le hwle.1 hwle.2
              have hmc2 := memCost_le (n := (n : Int) / 32) (by omega) (by omega)
              have hmc3 := memCost_mono (a := (n : Int) / 32) (b := (nw : Int)) (by omega) (by omega)
              refine W_region rfl ?_
              refine WO_p (PS_move_int rfl) ?_
              refine WO_p (PS_move_int rfl) ?_
              refine WO_call Hvac.call244 (by rfl) (Ret.mono (memCost_spec _ _ (by omega) (by omega)) ?_)
              rintro _ w244_112 ⟨hE244_112, rfl⟩
              have hz244_112 := hE244_112.1
              try simp only [size_alloc, size_setB, size_drew] at hz244_112
              refine WO_p (PS_move_int rfl) ?_
              refine WO_call Hvac.call244 (by rfl) (Ret.mono (memCost_spec _ _ (by omega) (by omega)) ?_)
              rintro _ w244_113 ⟨hE244_113, rfl⟩
              have hz244_113 := hE244_113.1
              try simp only [size_alloc, size_setB, size_drew] at hz244_113
              refine WO_p (PS_sub_u64n rfl rfl (by omega) (by omega)) ?_
              refine WO_p (PS_add_u64n rfl rfl (by omega) (by omega)) ?_
              refine WO_p (PS_assign_int rfl) ?_
              refine WO_nil ?_
              refine thn_normal ?_
              exact ⟨_, ⟨rfl, rfl, rfl, rfl, rfl, rfl, trivial⟩, (by repeat (first | assumption | exact Ext.refl _ | refine Ext.alloc ?_ _ | refine Ext.drew ?_ | refine Ext.setB ?_ (by first | omega | (simp only [size_alloc, size_setB, size_drew]; omega)) _ | exact Ext.trans (by assumption) (by assumption) | refine Ext.trans ?_ (by assumption))), by omega, by omega, fun _ => by omega, by rw [hce, if_pos (by omega)]⟩
            · have hb112p := hb112.h; try simp only [al_ete, al_dfn, Bool.not_eq_true', Bool.not_eq_false', al_ne, Bool.not_not, al_nn] at hb112p
              refine W_skip ?_
              refine thn_normal ?_
              exact ⟨_, ⟨rfl, rfl, rfl, rfl, rfl, rfl, trivial⟩, (by repeat (first | assumption | exact Ext.refl _ | refine Ext.alloc ?_ _ | refine Ext.drew ?_ | refine Ext.setB ?_ (by first | omega | (simp only [size_alloc, size_setB, size_drew]; omega)) _ | exact Ext.trans (by assumption) (by assumption) | refine Ext.trans ?_ (by assumption))), by omega, by omega, fun h => by omega, by rw [hce, if_neg (by omega)]; omega⟩
          · rintro ρ wB ⟨cost, hFr, hEB, hsx, hcb, hmd, hcoE⟩
            refine W_env _ hFr ?_
            have hzB := hEB.1
            refine W_seq ?_
            refine W_seq ?_
            refine W_region rfl ?_
            refine WO_p (PS_move_int rfl) ?_
            refine WO_p (PS_move_ptr rfl) ?_
            refine WO_p (PS_nilCheck rfl) ?_
            refine WO_p (PS_fieldAddr 7 Hvac.runUnderlying66 rfl Hvac.sizeOf26 rfl rfl) ?_
            refine WO_load (.int _ _) Hvac.isAgg26 rfl (Hb.h (by repeat (first | assumption | exact Hb.newY _ _ | refine Hb.alloc ?_ | refine Hb.drew ?_ | refine Hb.ext (by assumption) ?_ | exact Hb.setSameL (by first | omega | (simp only [size_alloc, size_setB, size_drew]; omega)) | exact Hb.setSame (by assumption) | refine Hb.set (by first | omega | (simp only [size_alloc, size_setB, size_drew]; omega)) ?_ ))) (Ce.h (by first | assumption | exact ⟨rfl⟩)) ?_
            refine WO_p (PS_gtr rfl rfl) ?_
            refine WO_p (PS_move_bool rfl) ?_
            refine WO_if (t := 123) rfl (fun hb116 => ?_) (fun hb116 => ?_)
            · have hb116p := hb116.h; try simp only [al_ete, al_dfn, Bool.not_eq_true', Bool.not_eq_false', al_ne, Bool.not_not, al_nn] at hb116p
              refine WO_guardF rfl rfl hb116.h ?_
              refine WO_guardF rfl rfl hb116.h ?_
              refine WO_guardF rfl rfl hb116.h ?_
              refine WO_guardU rfl rfl ?_
              refine WO_guardU rfl rfl ?_
              refine WO_guardU rfl rfl ?_
              refine WO_guardU rfl rfl ?_
              refine WO_guardU rfl rfl ?_
              refine WO_guardF rfl rfl hb116.h ?_
              refine WO_p (PS_pickT rfl hb116.h rfl) ?_
              refine WO_nil ?_
              refine thn_normal ?_
              refine W_condT rfl rfl ?_
              refine W_seq ?_
              have hrf : yrefP y g o = 2 := by
                unfold yrefP; rw [if_neg hn7, if_neg hn9, if_neg hn8]
                by_cases hcc : g.gas < ycost y g o
                · rw [if_pos hcc]
                · rw [if_neg hcc, if_pos (by omega)]
              refine W_region rfl ?_
              refine WO_p (PS_move_ptr rfl) ?_
              refine WO_call Hvac.call171 (by rfl) (Ret.mono (fail_ex scan C c v B m t f 0 S _ _ (MS.ext hM (by repeat (first | assumption | exact Ext.refl _ | refine Ext.alloc ?_ _ | refine Ext.drew ?_ | refine Ext.setB ?_ (by first | omega | (simp only [size_alloc, size_setB, size_drew]; omega)) _ | exact Ext.trans (by assumption) (by assumption) | refine Ext.trans ?_ (by assumption)))) hf hI (by omega) y rest g (hRl.ext hM (by repeat (first | assumption | exact Ext.refl _ | refine Ext.alloc ?_ _ | refine Ext.drew ?_ | refine Ext.setB ?_ (by first | omega | (simp only [size_alloc, size_setB, size_drew]; omega)) _ | exact Ext.trans (by assumption) (by assumption) | refine Ext.trans ?_ (by assumption)))) 2 rfl) ?_)
              rintro _ wq ⟨rfl, vq, mq, hRq, hPq, hXq⟩
              replace hRq := MRet.pre (w := w) (by repeat (first | assumption | exact Ext.refl _ | refine Ext.alloc ?_ _ | refine Ext.drew ?_ | refine Ext.setB ?_ (by first | omega | (simp only [size_alloc, size_setB, size_drew]; omega)) _ | exact Ext.trans (by assumption) (by assumption) | refine Ext.trans ?_ (by assumption))) hRq
              refine WO_p (PS_assign_bool rfl) ?_
              refine WO_nil ?_
              refine thn_normal ?_
              refine W_ret ?_
              refine thn_ret ?_
              refine bodyQ_ret1 Hvac.results174 rfl (.bool _) rfl ?_
              exact Or.inl ⟨rfl, vq, mq, hRq, hPq, by rw [hrf]; exact ⟨by decide, hXq⟩⟩
            · have hb116p := hb116.h; try simp only [al_ete, al_dfn, Bool.not_eq_true', Bool.not_eq_false', al_ne, Bool.not_not, al_nn] at hb116p
              refine WO_guardT rfl rfl hb116.h ?_
              refine WO_p (PS_move_int rfl) ?_
              refine WO_guardT rfl rfl hb116.h ?_
              refine WO_p (PS_eql rfl rfl) ?_
              refine WO_guardT rfl rfl hb116.h ?_
              refine WO_p (PS_move_bool rfl) ?_
              refine WO_if (t := 126) rfl (fun hb120 => ?_) (fun hb120 => ?_)
              · have hb120p := hb120.h; try simp only [al_ete, al_dfn, Bool.not_eq_true', Bool.not_eq_false', al_ne, Bool.not_not, al_nn] at hb120p
                refine WO_guardT rfl rfl hb120.h ?_
                refine WO_p (PS_move_ptr rfl) ?_
                refine WO_guardT rfl rfl hb120.h ?_
                refine WO_p (PS_nilCheck rfl) ?_
                refine WO_guardT rfl rfl hb120.h ?_
                refine WO_p (PS_fieldAddr 7 Hvac.runUnderlying66 rfl Hvac.sizeOf26 rfl rfl) ?_
                refine WO_guardT rfl rfl hb120.h ?_
                refine WO_load (.int _ _) Hvac.isAgg26 rfl (Hb.h (by repeat (first | assumption | exact Hb.newY _ _ | refine Hb.alloc ?_ | refine Hb.drew ?_ | refine Hb.ext (by assumption) ?_ | exact Hb.setSameL (by first | omega | (simp only [size_alloc, size_setB, size_drew]; omega)) | exact Hb.setSame (by assumption) | refine Hb.set (by first | omega | (simp only [size_alloc, size_setB, size_drew]; omega)) ?_ ))) (Ce.h (by first | assumption | exact ⟨rfl⟩)) ?_
                refine WO_guardT rfl rfl hb120.h ?_
                refine WO_p (PS_leq rfl rfl) ?_
                refine WO_guardT rfl rfl hb116.h ?_
                refine WO_p (PS_pickT rfl hb120.h rfl) ?_
                refine WO_p (PS_pickF rfl hb116.h rfl) ?_
                refine WO_nil ?_
                refine thn_normal ?_
                refine W_if rfl (fun hb122 => ?_) (fun hb122 => ?_)
                · have hb122p := hb122.h; try simp only [al_ete, al_dfn, Bool.not_eq_true', Bool.not_eq_false', al_ne, Bool.not_not, al_nn] at hb122p
                  refine W_seq ?_
                  have hrf : yrefP y g o = 2 := by
                    unfold yrefP; rw [if_neg hn7, if_neg hn9, if_neg hn8]
                    by_cases hcc : g.gas < ycost y g o
                    · rw [if_pos hcc]
                    · rw [if_neg hcc, if_pos (by omega)]
                  refine W_region rfl ?_
                  refine WO_p (PS_move_ptr rfl) ?_
                  refine WO_call Hvac.call171 (by rfl) (Ret.mono (fail_ex scan C c v B m t f 0 S _ _ (MS.ext hM (by repeat (first | assumption | exact Ext.refl _ | refine Ext.alloc ?_ _ | refine Ext.drew ?_ | refine Ext.setB ?_ (by first | omega | (simp only [size_alloc, size_setB, size_drew]; omega)) _ | exact Ext.trans (by assumption) (by assumption) | refine Ext.trans ?_ (by assumption)))) hf hI (by omega) y rest g (hRl.ext hM (by repeat (first | assumption | exact Ext.refl _ | refine Ext.alloc ?_ _ | refine Ext.drew ?_ | refine Ext.setB ?_ (by first | omega | (simp only [size_alloc, size_setB, size_drew]; omega)) _ | exact Ext.trans (by assumption) (by assumption) | refine Ext.trans ?_ (by assumption)))) 2 rfl) ?_)
                  rintro _ wq ⟨rfl, vq, mq, hRq, hPq, hXq⟩
                  replace hRq := MRet.pre (w := w) (by repeat (first | assumption | exact Ext.refl _ | refine Ext.alloc ?_ _ | refine Ext.drew ?_ | refine Ext.setB ?_ (by first | omega | (simp only [size_alloc, size_setB, size_drew]; omega)) _ | exact Ext.trans (by assumption) (by assumption) | refine Ext.trans ?_ (by assumption))) hRq
                  refine WO_p (PS_assign_bool rfl) ?_
                  refine WO_nil ?_
                  refine thn_normal ?_
                  refine W_ret ?_
                  refine thn_ret ?_
                  refine bodyQ_ret1 Hvac.results174 rfl (.bool _) rfl ?_
                  exact Or.inl ⟨rfl, vq, mq, hRq, hPq, by rw [hrf]; exact ⟨by decide, hXq⟩⟩
                · have hb122p := hb122.h; try simp only [al_ete, al_dfn, Bool.not_eq_true', Bool.not_eq_false', al_ne, Bool.not_not, al_nn] at hb122p
                  have hcg : cost ≤ f.gas := by omega
                  refine W_skip ?_
                  refine thn_normal ?_
                  refine W_seqJ (fun ρ w' => Fr [(0, .pointer (some ⟨C, 0, none⟩)), (7, .pointer (some ⟨C, 1803 + t * 65, none⟩)), (1, .int .u8 o), (8, .int .u64 (nw : Int)), (10, .int .u64 ((n : Int) / 32)), (11, .int .u64 cost)] ρ ∧ Ext w w' ∧ yrefP y g o = 0 ∧ (o = 86 → wv (m.argW f 0) < f.cb.length ∧ wv (m.argW f 0) < 512) ∧ (o = 87 → ¬ wv (m.argW f 1) = 0 → wv (m.argW f 0) < f.cb.length ∧ wv (m.argW f 0) < 512)) ?_ ?_
                  · skip
                    refine W_seq ?_
                    have hncost : ¬ g.gas < ycost y g o := by omega
                    have hn85 : ¬ (o = 85 ∧ g.gas ≤ 2300) := by omega
                    refine W_region rfl ?_
                    refine WO_p (PS_move_int rfl) ?_
                    refine WO_p (PS_eql rfl rfl) ?_
                    refine WO_p (PS_move_bool rfl) ?_
                    refine WO_if (t := 138) rfl (fun hb126 => ?_) (fun hb126 => ?_)
                    · have hb126p := hb126.h; try simp only [al_ete, al_dfn, Bool.not_eq_true', Bool.not_eq_false', al_ne, Bool.not_not, al_nn] at hb126p
                      refine WO_guardF rfl rfl hb126.h ?_
                      refine WO_guardF rfl rfl hb126.h ?_
                      refine WO_p (PS_pickT rfl hb126.h rfl) ?_
                      refine WO_nil ?_
                      refine thn_normal ?_
                      refine W_condT rfl rfl ?_
                      refine W_seq ?_
                      refine W_region rfl ?_
                      refine WO_p (PS_move_ptr rfl) ?_
                      refine WO_p (PS_move_ptr rfl) ?_
                      refine WO_call Hvac.call239 (by rfl) (Ret.mono (arg_spec C c v B m t f _ _ (MS.ext hM (by repeat (first | assumption | exact Ext.refl _ | refine Ext.alloc ?_ _ | refine Ext.drew ?_ | refine Ext.setB ?_ (by first | omega | (simp only [size_alloc, size_setB, size_drew]; omega)) _ | exact Ext.trans (by assumption) (by assumption) | refine Ext.trans ?_ (by assumption)))) hA (by omega)) ?_)
                      rintro _ w239_126 ⟨hE239_126, rfl⟩
                      have hz239_126 := hE239_126.1
                      try simp only [size_alloc, size_setB, size_drew] at hz239_126
                      refine WO_allocG Hvac.zeroValue61 ?_
                      intro b12 v12 hg12 hE12 hH12 hl12
                      try simp only [size_alloc, size_setB, size_drew] at hg12
                      have hzz12 := hE12.1
                      try simp only [size_alloc, size_setB, size_drew] at hzz12
                      first | refine WO_storeW Hvac.sizeOf61 rfl (v := .agg _) rfl (Hb.h (by repeat (first | assumption | exact Hb.newY _ _ | refine Hb.alloc ?_ | refine Hb.drew ?_ | refine Hb.ext (by assumption) ?_ | exact Hb.setSameL (by first | omega | (simp only [size_alloc, size_setB, size_drew]; omega)) | exact Hb.setSame (by assumption) | refine Hb.set (by first | omega | (simp only [size_alloc, size_setB, size_drew]; omega)) ?_ ))) rfl (by first | omega | assumption | rfl | decide | exact Nat.le_refl _ | (simp only [size_ic, Value.cells]; omega) | (simp; omega) | simp) (by first | omega | assumption | rfl | decide | exact Nat.le_refl _ | (simp only [size_ic, Value.cells]; omega) | (simp; omega) | simp) (by first | exact oneCell_ic | assumption | exact one_Ws2 _ | exact one_YA2 _ | exact one_YSl2 _ | exact one_YM2 _ | exact one_YT2 _ | exact one_L2 _) ?_ | refine WO_store Hvac.sizeOf61 rfl (v := .agg _) rfl (Hb.h (by repeat (first | assumption | exact Hb.newY _ _ | refine Hb.alloc ?_ | refine Hb.drew ?_ | refine Hb.ext (by assumption) ?_ | exact Hb.setSameL (by first | omega | (simp only [size_alloc, size_setB, size_drew]; omega)) | exact Hb.setSame (by assumption) | refine Hb.set (by first | omega | (simp only [size_alloc, size_setB, size_drew]; omega)) ?_ ))) (by first | omega | assumption | rfl | decide | exact Nat.le_refl _ | (simp only [size_ic, Value.cells]; omega) | (simp; omega) | simp) (by first | omega | assumption | rfl | decide | exact Nat.le_refl _ | (simp only [size_ic, Value.cells]; omega) | (simp; omega) | simp) (by first | exact oneCell_ic | assumption | exact one_Ws2 _ | exact one_YA2 _ | exact one_YSl2 _ | exact one_YM2 _ | exact one_YT2 _ | exact one_L2 _) ?_
                      refine WO_nil ?_
                      refine thn_normal ?_
                      refine W_seq ?_
                      refine W_region rfl ?_
                      refine WO_p (PS_move_int rfl) ?_
                      refine WO_p (PS_eql rfl rfl) ?_
                      refine WO_p (PS_move_bool rfl) ?_
                      refine WO_if (t := 147) rfl (fun hb129 => ?_) (fun hb129 => ?_)
                      · have hb129p := hb129.h; try simp only [al_ete, al_dfn, Bool.not_eq_true', Bool.not_eq_false', al_ne, Bool.not_not, al_nn] at hb129p
                        refine WO_guardF rfl rfl hb129.h ?_
                        refine WO_guardF rfl rfl hb129.h ?_
                        refine WO_guardF rfl rfl hb129.h ?_
                        refine WO_p (PS_pickT rfl hb129.h rfl) ?_
                        refine WO_p (PS_move_bool rfl) ?_
                        refine WO_guardT rfl rfl rfl ?_
                        refine WO_p (PS_move_ptr rfl) ?_
                        refine WO_guardT rfl rfl rfl ?_
                        refine WO_p (PS_move_ptr rfl) ?_
                        refine WO_guardT rfl rfl rfl ?_
                        refine WO_p (PS_move_ptr rfl) ?_
                        refine WO_guardT rfl rfl rfl ?_
                        refine WO_call Hvac.call239 (by rfl) (Ret.mono (arg_spec C c v B m t f _ _ (MS.ext hM (by repeat (first | assumption | exact Ext.refl _ | refine Ext.alloc ?_ _ | refine Ext.drew ?_ | refine Ext.setB ?_ (by first | omega | (simp only [size_alloc, size_setB, size_drew]; omega)) _ | exact Ext.trans (by assumption) (by assumption) | refine Ext.trans ?_ (by assumption)))) hA (by omega)) ?_)
                        rintro _ w239_129 ⟨hE239_129, rfl⟩
                        have hz239_129 := hE239_129.1
                        try simp only [size_alloc, size_setB, size_drew] at hz239_129
                        refine WO_guardT rfl rfl rfl ?_
                        refine WO_call Hvac.call245 (by rfl) (Ret.mono (good_ex C c v B m t f _ _ (MS.ext hM (by repeat (first | assumption | exact Ext.refl _ | refine Ext.alloc ?_ _ | refine Ext.drew ?_ | refine Ext.setB ?_ (by first | omega | (simp only [size_alloc, size_setB, size_drew]; omega)) _ | exact Ext.trans (by assumption) (by assumption) | refine Ext.trans ?_ (by assumption)))) hA hw0 hsc hcb5 hcbl.symm) ?_)
                        rintro _ wg ⟨hEg, rfl⟩
                        have hzg := hEg.1
                        try simp only [size_alloc, size_setB, size_drew] at hzg
                        refine WO_guardT rfl rfl rfl ?_
                        refine WO_p (PS_not rfl) ?_
                        refine WO_p (PS_pickT rfl rfl rfl) ?_
                        refine WO_nil ?_
                        refine thn_normal ?_
                        refine W_if rfl (fun hb134 => ?_) (fun hb134 => ?_)
                        · have hb134p := hb134.h; try simp only [al_ete, al_dfn, Bool.not_eq_true', Bool.not_eq_false', al_ne, Bool.not_not, al_nn] at hb134p
                          have hbad : ydest g.code (yarg g 0) = false := by rw [hy0, ← hFP.code]; simpa using hb134p
                          refine W_seq ?_
                          have hrf : yrefP y g o = 6 := by
                            unfold yrefP; rw [if_neg hn7, if_neg hn9, if_neg hn8, if_neg hncost, if_neg hn85]
                            by_cases h86 : o = 86
                            · rw [if_pos ⟨h86, hbad⟩]
                            · rw [if_neg (fun h => h86 h.1), if_pos ⟨by omega, by rw [hy1]; omega, hbad⟩]
                          refine W_region rfl ?_
                          refine WO_p (PS_move_ptr rfl) ?_
                          refine WO_call Hvac.call171 (by rfl) (Ret.mono (fail_ex scan C c v B m t f 0 S _ _ (MS.ext hM (by repeat (first | assumption | exact Ext.refl _ | refine Ext.alloc ?_ _ | refine Ext.drew ?_ | refine Ext.setB ?_ (by first | omega | (simp only [size_alloc, size_setB, size_drew]; omega)) _ | exact Ext.trans (by assumption) (by assumption) | refine Ext.trans ?_ (by assumption)))) hf hI (by omega) y rest g (hRl.ext hM (by repeat (first | assumption | exact Ext.refl _ | refine Ext.alloc ?_ _ | refine Ext.drew ?_ | refine Ext.setB ?_ (by first | omega | (simp only [size_alloc, size_setB, size_drew]; omega)) _ | exact Ext.trans (by assumption) (by assumption) | refine Ext.trans ?_ (by assumption)))) 6 rfl) ?_)
                          rintro _ wq ⟨rfl, vq, mq, hRq, hPq, hXq⟩
                          replace hRq := MRet.pre (w := w) (by repeat (first | assumption | exact Ext.refl _ | refine Ext.alloc ?_ _ | refine Ext.drew ?_ | refine Ext.setB ?_ (by first | omega | (simp only [size_alloc, size_setB, size_drew]; omega)) _ | exact Ext.trans (by assumption) (by assumption) | refine Ext.trans ?_ (by assumption))) hRq
                          refine WO_p (PS_assign_bool rfl) ?_
                          refine WO_nil ?_
                          refine thn_normal ?_
                          refine W_ret ?_
                          refine thn_ret ?_
                          refine bodyQ_ret1 Hvac.results174 rfl (.bool _) rfl ?_
                          exact Or.inl ⟨rfl, vq, mq, hRq, hPq, by rw [hrf]; exact ⟨by decide, hXq⟩⟩
                        · have hb134p := hb134.h; try simp only [al_ete, al_dfn, Bool.not_eq_true', Bool.not_eq_false', al_ne, Bool.not_not, al_nn] at hb134p
                          have hdt : ydest f.cb (wn (m.argW f 0)) = true := (by simpa using hb134p); have hgg : wv (m.argW f 0) < f.cb.length ∧ wv (m.argW f 0) < 512 := dest_lt hwi0 hdt hcb5; have hrf0 : yrefP y g o = 0 := (by unfold yrefP; rw [if_neg hn7, if_neg hn9, if_neg hn8, if_neg hncost, if_neg hn85, if_neg (fun h => by rw [hy0, ← hFP.code, hdt] at h; cases h.2), if_neg (fun h => by rw [hy0, ← hFP.code, hdt] at h; cases h.2.2)])
                          refine W_skip ?_
                          refine thn_normal ?_
                          exact ⟨⟨rfl, rfl, rfl, rfl, rfl, rfl, trivial⟩, (by repeat (first | assumption | exact Ext.refl _ | refine Ext.alloc ?_ _ | refine Ext.drew ?_ | refine Ext.setB ?_ (by first | omega | (simp only [size_alloc, size_setB, size_drew]; omega)) _ | exact Ext.trans (by assumption) (by assumption) | refine Ext.trans ?_ (by assumption))), hrf0, fun _ => hgg, fun _ _ => hgg⟩
                      · have hb129p := hb129.h; try simp only [al_ete, al_dfn, Bool.not_eq_true', Bool.not_eq_false', al_ne, Bool.not_not, al_nn] at hb129p
                        refine WO_guardT rfl rfl hb129.h ?_
                        refine WO_loadA _ Hvac.isAgg61 Hvac.sizeOf61 rfl (Hb.h (by repeat (first | assumption | exact Hb.newY _ _ | refine Hb.alloc ?_ | refine Hb.drew ?_ | refine Hb.ext (by assumption) ?_ | exact Hb.setSameL (by first | omega | (simp only [size_alloc, size_setB, size_drew]; omega)) | exact Hb.setSame (by assumption) | refine Hb.set (by first | omega | (simp only [size_alloc, size_setB, size_drew]; omega)) ?_ ))) (by first | omega | assumption | rfl | decide | exact Nat.le_refl _ | (simp only [size_ic, Value.cells]; omega) | (simp; omega) | simp) (Xt.h (by first | assumption | exact Xt.whole rfl rfl | exact Xt.whole rfl (by assumption) | exact Xt.whole rfl (by simp only [size_ic, Value.cells]; omega) | exact ⟨rfl⟩)) ?_
                        refine WO_guardT rfl rfl hb129.h ?_
                        refine WO_call Hvac.call223 (by rfl) (Ret.mono (isz_spec _ _ (by first | assumption | exact argW_wd hM.ty _ _ | exact Wd0)) ?_)
                        rintro _ w223_136 ⟨rfl, hE223_136⟩
                        have hz223_136 := hE223_136.1
                        try simp only [size_alloc, size_setB, size_drew] at hz223_136
                        refine WO_guardT rfl rfl hb129.h ?_
                        refine WO_p (PS_not rfl) ?_
                        refine WO_p (PS_pickF rfl hb129.h rfl) ?_
                        refine WO_p (PS_move_bool rfl) ?_
                        refine WO_if (t := 152) rfl (fun hb140 => ?_) (fun hb140 => ?_)
                        · have hb140p := hb140.h; try simp only [al_ete, al_dfn, Bool.not_eq_true', Bool.not_eq_false', al_ne, Bool.not_not, al_nn] at hb140p
                          refine WO_guardT rfl rfl hb140.h ?_
                          refine WO_p (PS_move_ptr rfl) ?_
                          refine WO_guardT rfl rfl hb140.h ?_
                          refine WO_p (PS_move_ptr rfl) ?_
                          refine WO_guardT rfl rfl hb140.h ?_
                          refine WO_p (PS_move_ptr rfl) ?_
                          refine WO_guardT rfl rfl hb140.h ?_
                          refine WO_call Hvac.call239 (by rfl) (Ret.mono (arg_spec C c v B m t f _ _ (MS.ext hM (by repeat (first | assumption | exact Ext.refl _ | refine Ext.alloc ?_ _ | refine Ext.drew ?_ | refine Ext.setB ?_ (by first | omega | (simp only [size_alloc, size_setB, size_drew]; omega)) _ | exact Ext.trans (by assumption) (by assumption) | refine Ext.trans ?_ (by assumption)))) hA (by omega)) ?_)
                          rintro _ w239_140 ⟨hE239_140, rfl⟩
                          have hz239_140 := hE239_140.1
                          try simp only [size_alloc, size_setB, size_drew] at hz239_140
                          refine WO_guardT rfl rfl hb140.h ?_
                          refine WO_call Hvac.call245 (by rfl) (Ret.mono (good_ex C c v B m t f _ _ (MS.ext hM (by repeat (first | assumption | exact Ext.refl _ | refine Ext.alloc ?_ _ | refine Ext.drew ?_ | refine Ext.setB ?_ (by first | omega | (simp only [size_alloc, size_setB, size_drew]; omega)) _ | exact Ext.trans (by assumption) (by assumption) | refine Ext.trans ?_ (by assumption)))) hA hw0 hsc hcb5 hcbl.symm) ?_)
                          rintro _ wg ⟨hEg, rfl⟩
                          have hzg := hEg.1
                          try simp only [size_alloc, size_setB, size_drew] at hzg
                          refine WO_guardT rfl rfl hb140.h ?_
                          refine WO_p (PS_not rfl) ?_
                          refine WO_p (PS_pickT rfl hb140.h rfl) ?_
                          refine WO_nil ?_
                          refine thn_normal ?_
                          refine W_if rfl (fun hb145 => ?_) (fun hb145 => ?_)
                          · have hb145p := hb145.h; try simp only [al_ete, al_dfn, Bool.not_eq_true', Bool.not_eq_false', al_ne, Bool.not_not, al_nn] at hb145p
                            have hbad : ydest g.code (yarg g 0) = false := by rw [hy0, ← hFP.code]; simpa using hb145p
                            refine W_seq ?_
                            have hrf : yrefP y g o = 6 := by
                              unfold yrefP; rw [if_neg hn7, if_neg hn9, if_neg hn8, if_neg hncost, if_neg hn85]
                              by_cases h86 : o = 86
                              · rw [if_pos ⟨h86, hbad⟩]
                              · rw [if_neg (fun h => h86 h.1), if_pos ⟨by omega, by rw [hy1]; omega, hbad⟩]
                            refine W_region rfl ?_
                            refine WO_p (PS_move_ptr rfl) ?_
                            refine WO_call Hvac.call171 (by rfl) (Ret.mono (fail_ex scan C c v B m t f 0 S _ _ (MS.ext hM (by repeat (first | assumption | exact Ext.refl _ | refine Ext.alloc ?_ _ | refine Ext.drew ?_ | refine Ext.setB ?_ (by first | omega | (simp only [size_alloc, size_setB, size_drew]; omega)) _ | exact Ext.trans (by assumption) (by assumption) | refine Ext.trans ?_ (by assumption)))) hf hI (by omega) y rest g (hRl.ext hM (by repeat (first | assumption | exact Ext.refl _ | refine Ext.alloc ?_ _ | refine Ext.drew ?_ | refine Ext.setB ?_ (by first | omega | (simp only [size_alloc, size_setB, size_drew]; omega)) _ | exact Ext.trans (by assumption) (by assumption) | refine Ext.trans ?_ (by assumption)))) 6 rfl) ?_)
                            rintro _ wq ⟨rfl, vq, mq, hRq, hPq, hXq⟩
                            replace hRq := MRet.pre (w := w) (by repeat (first | assumption | exact Ext.refl _ | refine Ext.alloc ?_ _ | refine Ext.drew ?_ | refine Ext.setB ?_ (by first | omega | (simp only [size_alloc, size_setB, size_drew]; omega)) _ | exact Ext.trans (by assumption) (by assumption) | refine Ext.trans ?_ (by assumption))) hRq
                            refine WO_p (PS_assign_bool rfl) ?_
                            refine WO_nil ?_
                            refine thn_normal ?_
                            refine W_ret ?_
                            refine thn_ret ?_
                            refine bodyQ_ret1 Hvac.results174 rfl (.bool _) rfl ?_
                            exact Or.inl ⟨rfl, vq, mq, hRq, hPq, by rw [hrf]; exact ⟨by decide, hXq⟩⟩
                          · have hb145p := hb145.h; try simp only [al_ete, al_dfn, Bool.not_eq_true', Bool.not_eq_false', al_ne, Bool.not_not, al_nn] at hb145p
                            have hdt : ydest f.cb (wn (m.argW f 0)) = true := (by simpa using hb145p); have hgg : wv (m.argW f 0) < f.cb.length ∧ wv (m.argW f 0) < 512 := dest_lt hwi0 hdt hcb5; have hrf0 : yrefP y g o = 0 := (by unfold yrefP; rw [if_neg hn7, if_neg hn9, if_neg hn8, if_neg hncost, if_neg hn85, if_neg (fun h => by rw [hy0, ← hFP.code, hdt] at h; cases h.2), if_neg (fun h => by rw [hy0, ← hFP.code, hdt] at h; cases h.2.2)])
                            refine W_skip ?_
                            refine thn_normal ?_
                            exact ⟨⟨rfl, rfl, rfl, rfl, rfl, rfl, trivial⟩, (by repeat (first | assumption | exact Ext.refl _ | refine Ext.alloc ?_ _ | refine Ext.drew ?_ | refine Ext.setB ?_ (by first | omega | (simp only [size_alloc, size_setB, size_drew]; omega)) _ | exact Ext.trans (by assumption) (by assumption) | refine Ext.trans ?_ (by assumption))), hrf0, fun _ => hgg, fun _ _ => hgg⟩
                        · have hb140p := hb140.h; try simp only [al_ete, al_dfn, Bool.not_eq_true', Bool.not_eq_false', al_ne, Bool.not_not, al_nn] at hb140p
                          have hz87 : ¬ o = 86 ∧ wv (m.argW f 1) = 0 := ⟨by omega, by omega⟩
                          have hrf0 : yrefP y g o = 0 := by unfold yrefP; rw [if_neg hn7, if_neg hn9, if_neg hn8, if_neg hncost, if_neg hn85, if_neg (fun h => hz87.1 h.1), if_neg (fun h => h.2.1 (by rw [hy1]; omega))]
                          refine WO_guardF rfl rfl hb140.h ?_
                          refine WO_guardF rfl rfl hb140.h ?_
                          refine WO_guardF rfl rfl hb140.h ?_
                          refine WO_guardF rfl rfl hb140.h ?_
                          refine WO_guardF rfl rfl hb140.h ?_
                          refine WO_guardF rfl rfl hb140.h ?_
                          refine WO_p (PS_pickF rfl hb140.h rfl) ?_
                          refine WO_nil ?_
                          refine thn_normal ?_
                          refine W_condF rfl rfl ?_
                          refine W_skip ?_
                          refine thn_normal ?_
                          exact ⟨⟨rfl, rfl, rfl, rfl, rfl, rfl, trivial⟩, (by repeat (first | assumption | exact Ext.refl _ | refine Ext.alloc ?_ _ | refine Ext.drew ?_ | refine Ext.setB ?_ (by first | omega | (simp only [size_alloc, size_setB, size_drew]; omega)) _ | exact Ext.trans (by assumption) (by assumption) | refine Ext.trans ?_ (by assumption))), hrf0, fun h => by omega, fun h hc => by omega⟩
                    · have hb126p := hb126.h; try simp only [al_ete, al_dfn, Bool.not_eq_true', Bool.not_eq_false', al_ne, Bool.not_not, al_nn] at hb126p
                      refine WO_guardT rfl rfl hb126.h ?_
                      refine WO_p (PS_move_int rfl) ?_
                      refine WO_guardT rfl rfl hb126.h ?_
                      refine WO_p (PS_eql rfl rfl) ?_
                      refine WO_p (PS_pickF rfl hb126.h rfl) ?_
                      refine WO_nil ?_
                      refine thn_normal ?_
                      refine W_if rfl (fun hb149 => ?_) (fun hb149 => ?_)
                      · have hb149p := hb149.h; try simp only [al_ete, al_dfn, Bool.not_eq_true', Bool.not_eq_false', al_ne, Bool.not_not, al_nn] at hb149p
                        refine W_seq ?_
                        refine W_region rfl ?_
                        refine WO_p (PS_move_ptr rfl) ?_
                        refine WO_p (PS_move_ptr rfl) ?_
                        refine WO_call Hvac.call239 (by rfl) (Ret.mono (arg_spec C c v B m t f _ _ (MS.ext hM (by repeat (first | assumption | exact Ext.refl _ | refine Ext.alloc ?_ _ | refine Ext.drew ?_ | refine Ext.setB ?_ (by first | omega | (simp only [size_alloc, size_setB, size_drew]; omega)) _ | exact Ext.trans (by assumption) (by assumption) | refine Ext.trans ?_ (by assumption)))) hA (by omega)) ?_)
                        rintro _ w239_149 ⟨hE239_149, rfl⟩
                        have hz239_149 := hE239_149.1
                        try simp only [size_alloc, size_setB, size_drew] at hz239_149
                        refine WO_allocG Hvac.zeroValue61 ?_
                        intro b12 v12 hg12 hE12 hH12 hl12
                        try simp only [size_alloc, size_setB, size_drew] at hg12
                        have hzz12 := hE12.1
                        try simp only [size_alloc, size_setB, size_drew] at hzz12
                        first | refine WO_storeW Hvac.sizeOf61 rfl (v := .agg _) rfl (Hb.h (by repeat (first | assumption | exact Hb.newY _ _ | refine Hb.alloc ?_ | refine Hb.drew ?_ | refine Hb.ext (by assumption) ?_ | exact Hb.setSameL (by first | omega | (simp only [size_alloc, size_setB, size_drew]; omega)) | exact Hb.setSame (by assumption) | refine Hb.set (by first | omega | (simp only [size_alloc, size_setB, size_drew]; omega)) ?_ ))) rfl (by first | omega | assumption | rfl | decide | exact Nat.le_refl _ | (simp only [size_ic, Value.cells]; omega) | (simp; omega) | simp) (by first | omega | assumption | rfl | decide | exact Nat.le_refl _ | (simp only [size_ic, Value.cells]; omega) | (simp; omega) | simp) (by first | exact oneCell_ic | assumption | exact one_Ws2 _ | exact one_YA2 _ | exact one_YSl2 _ | exact one_YM2 _ | exact one_YT2 _ | exact one_L2 _) ?_ | refine WO_store Hvac.sizeOf61 rfl (v := .agg _) rfl (Hb.h (by repeat (first | assumption | exact Hb.newY _ _ | refine Hb.alloc ?_ | refine Hb.drew ?_ | refine Hb.ext (by assumption) ?_ | exact Hb.setSameL (by first | omega | (simp only [size_alloc, size_setB, size_drew]; omega)) | exact Hb.setSame (by assumption) | refine Hb.set (by first | omega | (simp only [size_alloc, size_setB, size_drew]; omega)) ?_ ))) (by first | omega | assumption | rfl | decide | exact Nat.le_refl _ | (simp only [size_ic, Value.cells]; omega) | (simp; omega) | simp) (by first | omega | assumption | rfl | decide | exact Nat.le_refl _ | (simp only [size_ic, Value.cells]; omega) | (simp; omega) | simp) (by first | exact oneCell_ic | assumption | exact one_Ws2 _ | exact one_YA2 _ | exact one_YSl2 _ | exact one_YM2 _ | exact one_YT2 _ | exact one_L2 _) ?_
                        refine WO_nil ?_
                        refine thn_normal ?_
                        refine W_seq ?_
                        refine W_region rfl ?_
                        refine WO_p (PS_move_int rfl) ?_
                        refine WO_p (PS_eql rfl rfl) ?_
                        refine WO_p (PS_move_bool rfl) ?_
                        refine WO_if (t := 147) rfl (fun hb152 => ?_) (fun hb152 => ?_)
                        · have hb152p := hb152.h; try simp only [al_ete, al_dfn, Bool.not_eq_true', Bool.not_eq_false', al_ne, Bool.not_not, al_nn] at hb152p
                          refine WO_guardF rfl rfl hb152.h ?_
                          refine WO_guardF rfl rfl hb152.h ?_
                          refine WO_guardF rfl rfl hb152.h ?_
                          refine WO_p (PS_pickT rfl hb152.h rfl) ?_
                          refine WO_p (PS_move_bool rfl) ?_
                          refine WO_guardT rfl rfl rfl ?_
                          refine WO_p (PS_move_ptr rfl) ?_
                          refine WO_guardT rfl rfl rfl ?_
                          refine WO_p (PS_move_ptr rfl) ?_
                          refine WO_guardT rfl rfl rfl ?_
                          refine WO_p (PS_move_ptr rfl) ?_
                          refine WO_guardT rfl rfl rfl ?_
                          refine WO_call Hvac.call239 (by rfl) (Ret.mono (arg_spec C c v B m t f _ _ (MS.ext hM (by repeat (first | assumption | exact Ext.refl _ | refine Ext.alloc ?_ _ | refine Ext.drew ?_ | refine Ext.setB ?_ (by first | omega | (simp only [size_alloc, size_setB, size_drew]; omega)) _ | exact Ext.trans (by assumption) (by assumption) | refine Ext.trans ?_ (by assumption)))) hA (by omega)) ?_)
                          rintro _ w239_152 ⟨hE239_152, rfl⟩
                          have hz239_152 := hE239_152.1
                          try simp only [size_alloc, size_setB, size_drew] at hz239_152
                          refine WO_guardT rfl rfl rfl ?_
                          refine WO_call Hvac.call245 (by rfl) (Ret.mono (good_ex C c v B m t f _ _ (MS.ext hM (by repeat (first | assumption | exact Ext.refl _ | refine Ext.alloc ?_ _ | refine Ext.drew ?_ | refine Ext.setB ?_ (by first | omega | (simp only [size_alloc, size_setB, size_drew]; omega)) _ | exact Ext.trans (by assumption) (by assumption) | refine Ext.trans ?_ (by assumption)))) hA hw0 hsc hcb5 hcbl.symm) ?_)
                          rintro _ wg ⟨hEg, rfl⟩
                          have hzg := hEg.1
                          try simp only [size_alloc, size_setB, size_drew] at hzg
                          refine WO_guardT rfl rfl rfl ?_
                          refine WO_p (PS_not rfl) ?_
                          refine WO_p (PS_pickT rfl rfl rfl) ?_
                          refine WO_nil ?_
                          refine thn_normal ?_
                          refine W_if rfl (fun hb157 => ?_) (fun hb157 => ?_)
                          · have hb157p := hb157.h; try simp only [al_ete, al_dfn, Bool.not_eq_true', Bool.not_eq_false', al_ne, Bool.not_not, al_nn] at hb157p
                            have hbad : ydest g.code (yarg g 0) = false := by rw [hy0, ← hFP.code]; simpa using hb157p
                            refine W_seq ?_
                            have hrf : yrefP y g o = 6 := by
                              unfold yrefP; rw [if_neg hn7, if_neg hn9, if_neg hn8, if_neg hncost, if_neg hn85]
                              by_cases h86 : o = 86
                              · rw [if_pos ⟨h86, hbad⟩]
                              · rw [if_neg (fun h => h86 h.1), if_pos ⟨by omega, by rw [hy1]; omega, hbad⟩]
                            refine W_region rfl ?_
                            refine WO_p (PS_move_ptr rfl) ?_
                            refine WO_call Hvac.call171 (by rfl) (Ret.mono (fail_ex scan C c v B m t f 0 S _ _ (MS.ext hM (by repeat (first | assumption | exact Ext.refl _ | refine Ext.alloc ?_ _ | refine Ext.drew ?_ | refine Ext.setB ?_ (by first | omega | (simp only [size_alloc, size_setB, size_drew]; omega)) _ | exact Ext.trans (by assumption) (by assumption) | refine Ext.trans ?_ (by assumption)))) hf hI (by omega) y rest g (hRl.ext hM (by repeat (first | assumption | exact Ext.refl _ | refine Ext.alloc ?_ _ | refine Ext.drew ?_ | refine Ext.setB ?_ (by first | omega | (simp only [size_alloc, size_setB, size_drew]; omega)) _ | exact Ext.trans (by assumption) (by assumption) | refine Ext.trans ?_ (by assumption)))) 6 rfl) ?_)
                            rintro _ wq ⟨rfl, vq, mq, hRq, hPq, hXq⟩
                            replace hRq := MRet.pre (w := w) (by repeat (first | assumption | exact Ext.refl _ | refine Ext.alloc ?_ _ | refine Ext.drew ?_ | refine Ext.setB ?_ (by first | omega | (simp only [size_alloc, size_setB, size_drew]; omega)) _ | exact Ext.trans (by assumption) (by assumption) | refine Ext.trans ?_ (by assumption))) hRq
                            refine WO_p (PS_assign_bool rfl) ?_
                            refine WO_nil ?_
                            refine thn_normal ?_
                            refine W_ret ?_
                            refine thn_ret ?_
                            refine bodyQ_ret1 Hvac.results174 rfl (.bool _) rfl ?_
                            exact Or.inl ⟨rfl, vq, mq, hRq, hPq, by rw [hrf]; exact ⟨by decide, hXq⟩⟩
                          · have hb157p := hb157.h; try simp only [al_ete, al_dfn, Bool.not_eq_true', Bool.not_eq_false', al_ne, Bool.not_not, al_nn] at hb157p
                            have hdt : ydest f.cb (wn (m.argW f 0)) = true := (by simpa using hb157p); have hgg : wv (m.argW f 0) < f.cb.length ∧ wv (m.argW f 0) < 512 := dest_lt hwi0 hdt hcb5; have hrf0 : yrefP y g o = 0 := (by unfold yrefP; rw [if_neg hn7, if_neg hn9, if_neg hn8, if_neg hncost, if_neg hn85, if_neg (fun h => by rw [hy0, ← hFP.code, hdt] at h; cases h.2), if_neg (fun h => by rw [hy0, ← hFP.code, hdt] at h; cases h.2.2)])
                            refine W_skip ?_
                            refine thn_normal ?_
                            exact ⟨⟨rfl, rfl, rfl, rfl, rfl, rfl, trivial⟩, (by repeat (first | assumption | exact Ext.refl _ | refine Ext.alloc ?_ _ | refine Ext.drew ?_ | refine Ext.setB ?_ (by first | omega | (simp only [size_alloc, size_setB, size_drew]; omega)) _ | exact Ext.trans (by assumption) (by assumption) | refine Ext.trans ?_ (by assumption))), hrf0, fun _ => hgg, fun _ _ => hgg⟩
                        · have hb152p := hb152.h; try simp only [al_ete, al_dfn, Bool.not_eq_true', Bool.not_eq_false', al_ne, Bool.not_not, al_nn] at hb152p
                          refine WO_guardT rfl rfl hb152.h ?_
                          refine WO_loadA _ Hvac.isAgg61 Hvac.sizeOf61 rfl (Hb.h (by repeat (first | assumption | exact Hb.newY _ _ | refine Hb.alloc ?_ | refine Hb.drew ?_ | refine Hb.ext (by assumption) ?_ | exact Hb.setSameL (by first | omega | (simp only [size_alloc, size_setB, size_drew]; omega)) | exact Hb.setSame (by assumption) | refine Hb.set (by first | omega | (simp only [size_alloc, size_setB, size_drew]; omega)) ?_ ))) (by first | omega | assumption | rfl | decide | exact Nat.le_refl _ | (simp only [size_ic, Value.cells]; omega) | (simp; omega) | simp) (Xt.h (by first | assumption | exact Xt.whole rfl rfl | exact Xt.whole rfl (by assumption) | exact Xt.whole rfl (by simp only [size_ic, Value.cells]; omega) | exact ⟨rfl⟩)) ?_
                          refine WO_guardT rfl rfl hb152.h ?_
                          refine WO_call Hvac.call223 (by rfl) (Ret.mono (isz_spec _ _ (by first | assumption | exact argW_wd hM.ty _ _ | exact Wd0)) ?_)
                          rintro _ w223_159 ⟨rfl, hE223_159⟩
                          have hz223_159 := hE223_159.1
                          try simp only [size_alloc, size_setB, size_drew] at hz223_159
                          refine WO_guardT rfl rfl hb152.h ?_
                          refine WO_p (PS_not rfl) ?_
                          refine WO_p (PS_pickF rfl hb152.h rfl) ?_
                          refine WO_p (PS_move_bool rfl) ?_
                          refine WO_if (t := 152) rfl (fun hb163 => ?_) (fun hb163 => ?_)
                          · have hb163p := hb163.h; try simp only [al_ete, al_dfn, Bool.not_eq_true', Bool.not_eq_false', al_ne, Bool.not_not, al_nn] at hb163p
                            refine WO_guardT rfl rfl hb163.h ?_
                            refine WO_p (PS_move_ptr rfl) ?_
                            refine WO_guardT rfl rfl hb163.h ?_
                            refine WO_p (PS_move_ptr rfl) ?_
                            refine WO_guardT rfl rfl hb163.h ?_
                            refine WO_p (PS_move_ptr rfl) ?_
                            refine WO_guardT rfl rfl hb163.h ?_
                            refine WO_call Hvac.call239 (by rfl) (Ret.mono (arg_spec C c v B m t f _ _ (MS.ext hM (by repeat (first | assumption | exact Ext.refl _ | refine Ext.alloc ?_ _ | refine Ext.drew ?_ | refine Ext.setB ?_ (by first | omega | (simp only [size_alloc, size_setB, size_drew]; omega)) _ | exact Ext.trans (by assumption) (by assumption) | refine Ext.trans ?_ (by assumption)))) hA (by omega)) ?_)
                            rintro _ w239_163 ⟨hE239_163, rfl⟩
                            have hz239_163 := hE239_163.1
                            try simp only [size_alloc, size_setB, size_drew] at hz239_163
                            refine WO_guardT rfl rfl hb163.h ?_
                            refine WO_call Hvac.call245 (by rfl) (Ret.mono (good_ex C c v B m t f _ _ (MS.ext hM (by repeat (first | assumption | exact Ext.refl _ | refine Ext.alloc ?_ _ | refine Ext.drew ?_ | refine Ext.setB ?_ (by first | omega | (simp only [size_alloc, size_setB, size_drew]; omega)) _ | exact Ext.trans (by assumption) (by assumption) | refine Ext.trans ?_ (by assumption)))) hA hw0 hsc hcb5 hcbl.symm) ?_)
                            rintro _ wg ⟨hEg, rfl⟩
                            have hzg := hEg.1
                            try simp only [size_alloc, size_setB, size_drew] at hzg
                            refine WO_guardT rfl rfl hb163.h ?_
                            refine WO_p (PS_not rfl) ?_
                            refine WO_p (PS_pickT rfl hb163.h rfl) ?_
                            refine WO_nil ?_
                            refine thn_normal ?_
                            refine W_if rfl (fun hb168 => ?_) (fun hb168 => ?_)
                            · have hb168p := hb168.h; try simp only [al_ete, al_dfn, Bool.not_eq_true', Bool.not_eq_false', al_ne, Bool.not_not, al_nn] at hb168p
                              have hbad : ydest g.code (yarg g 0) = false := by rw [hy0, ← hFP.code]; simpa using hb168p
                              refine W_seq ?_
                              have hrf : yrefP y g o = 6 := by
                                unfold yrefP; rw [if_neg hn7, if_neg hn9, if_neg hn8, if_neg hncost, if_neg hn85]
                                by_cases h86 : o = 86
                                · rw [if_pos ⟨h86, hbad⟩]
                                · rw [if_neg (fun h => h86 h.1), if_pos ⟨by omega, by rw [hy1]; omega, hbad⟩]
                              refine W_region rfl ?_
                              refine WO_p (PS_move_ptr rfl) ?_
                              refine WO_call Hvac.call171 (by rfl) (Ret.mono (fail_ex scan C c v B m t f 0 S _ _ (MS.ext hM (by repeat (first | assumption | exact Ext.refl _ | refine Ext.alloc ?_ _ | refine Ext.drew ?_ | refine Ext.setB ?_ (by first | omega | (simp only [size_alloc, size_setB, size_drew]; omega)) _ | exact Ext.trans (by assumption) (by assumption) | refine Ext.trans ?_ (by assumption)))) hf hI (by omega) y rest g (hRl.ext hM (by repeat (first | assumption | exact Ext.refl _ | refine Ext.alloc ?_ _ | refine Ext.drew ?_ | refine Ext.setB ?_ (by first | omega | (simp only [size_alloc, size_setB, size_drew]; omega)) _ | exact Ext.trans (by assumption) (by assumption) | refine Ext.trans ?_ (by assumption)))) 6 rfl) ?_)
                              rintro _ wq ⟨rfl, vq, mq, hRq, hPq, hXq⟩
                              replace hRq := MRet.pre (w := w) (by repeat (first | assumption | exact Ext.refl _ | refine Ext.alloc ?_ _ | refine Ext.drew ?_ | refine Ext.setB ?_ (by first | omega | (simp only [size_alloc, size_setB, size_drew]; omega)) _ | exact Ext.trans (by assumption) (by assumption) | refine Ext.trans ?_ (by assumption))) hRq
                              refine WO_p (PS_assign_bool rfl) ?_
                              refine WO_nil ?_
                              refine thn_normal ?_
                              refine W_ret ?_
                              refine thn_ret ?_
                              refine bodyQ_ret1 Hvac.results174 rfl (.bool _) rfl ?_
                              exact Or.inl ⟨rfl, vq, mq, hRq, hPq, by rw [hrf]; exact ⟨by decide, hXq⟩⟩
                            · have hb168p := hb168.h; try simp only [al_ete, al_dfn, Bool.not_eq_true', Bool.not_eq_false', al_ne, Bool.not_not, al_nn] at hb168p
                              have hdt : ydest f.cb (wn (m.argW f 0)) = true := (by simpa using hb168p); have hgg : wv (m.argW f 0) < f.cb.length ∧ wv (m.argW f 0) < 512 := dest_lt hwi0 hdt hcb5; have hrf0 : yrefP y g o = 0 := (by unfold yrefP; rw [if_neg hn7, if_neg hn9, if_neg hn8, if_neg hncost, if_neg hn85, if_neg (fun h => by rw [hy0, ← hFP.code, hdt] at h; cases h.2), if_neg (fun h => by rw [hy0, ← hFP.code, hdt] at h; cases h.2.2)])
                              refine W_skip ?_
                              refine thn_normal ?_
                              exact ⟨⟨rfl, rfl, rfl, rfl, rfl, rfl, trivial⟩, (by repeat (first | assumption | exact Ext.refl _ | refine Ext.alloc ?_ _ | refine Ext.drew ?_ | refine Ext.setB ?_ (by first | omega | (simp only [size_alloc, size_setB, size_drew]; omega)) _ | exact Ext.trans (by assumption) (by assumption) | refine Ext.trans ?_ (by assumption))), hrf0, fun _ => hgg, fun _ _ => hgg⟩
                          · have hb163p := hb163.h; try simp only [al_ete, al_dfn, Bool.not_eq_true', Bool.not_eq_false', al_ne, Bool.not_not, al_nn] at hb163p
                            have hz87 : ¬ o = 86 ∧ wv (m.argW f 1) = 0 := ⟨by omega, by omega⟩
                            have hrf0 : yrefP y g o = 0 := by unfold yrefP; rw [if_neg hn7, if_neg hn9, if_neg hn8, if_neg hncost, if_neg hn85, if_neg (fun h => hz87.1 h.1), if_neg (fun h => h.2.1 (by rw [hy1]; omega))]
                            refine WO_guardF rfl rfl hb163.h ?_
                            refine WO_guardF rfl rfl hb163.h ?_
                            refine WO_guardF rfl rfl hb163.h ?_
                            refine WO_guardF rfl rfl hb163.h ?_
                            refine WO_guardF rfl rfl hb163.h ?_
                            refine WO_guardF rfl rfl hb163.h ?_
                            refine WO_p (PS_pickF rfl hb163.h rfl) ?_
                            refine WO_nil ?_
                            refine thn_normal ?_
                            refine W_condF rfl rfl ?_
                            refine W_skip ?_
                            refine thn_normal ?_
                            exact ⟨⟨rfl, rfl, rfl, rfl, rfl, rfl, trivial⟩, (by repeat (first | assumption | exact Ext.refl _ | refine Ext.alloc ?_ _ | refine Ext.drew ?_ | refine Ext.setB ?_ (by first | omega | (simp only [size_alloc, size_setB, size_drew]; omega)) _ | exact Ext.trans (by assumption) (by assumption) | refine Ext.trans ?_ (by assumption))), hrf0, fun h => by omega, fun h hc => by omega⟩
                      · have hb149p := hb149.h; try simp only [al_ete, al_dfn, Bool.not_eq_true', Bool.not_eq_false', al_ne, Bool.not_not, al_nn] at hb149p
                        have hrf0 : yrefP y g o = 0 := by unfold yrefP; rw [if_neg hn7, if_neg hn9, if_neg hn8, if_neg hncost, if_neg hn85, if_neg (by omega), if_neg (by omega)]
                        refine W_skip ?_
                        refine thn_normal ?_
                        exact ⟨⟨rfl, rfl, rfl, rfl, rfl, rfl, trivial⟩, (by repeat (first | assumption | exact Ext.refl _ | refine Ext.alloc ?_ _ | refine Ext.drew ?_ | refine Ext.setB ?_ (by first | omega | (simp only [size_alloc, size_setB, size_drew]; omega)) _ | exact Ext.trans (by assumption) (by assumption) | refine Ext.trans ?_ (by assumption))), hrf0, fun h => by omega, fun h => by omega⟩
                  · rintro ρ wC ⟨hFr, hEC, hrf0, hj1, hj2⟩
                    refine W_env _ hFr ?_
                    have hzC := hEC.1
                    have hMC := hM.ext hEC
                    have hblkC := hMC.vs.blk
                    refine W_seq ?_
                    refine W_region rfl ?_
                    refine WO_p (PS_move_ptr rfl) ?_
                    refine WO_p (PS_nilCheck rfl) ?_
                    refine WO_p (PS_fieldAddr 7 Hvac.runUnderlying66 rfl Hvac.sizeOf26 rfl rfl) ?_
                    refine WO_load (.int _ _) Hvac.isAgg26 rfl (Hb.h (by repeat (first | assumption | exact Hb.newY _ _ | refine Hb.alloc ?_ | refine Hb.drew ?_ | refine Hb.ext (by assumption) ?_ | exact Hb.setSameL (by first | omega | (simp only [size_alloc, size_setB, size_drew]; omega)) | exact Hb.setSame (by assumption) | refine Hb.set (by first | omega | (simp only [size_alloc, size_setB, size_drew]; omega)) ?_ ))) (Ce.h (by first | assumption | exact ⟨rfl⟩)) ?_
                    refine WO_p (PS_move_int rfl) ?_
                    refine WO_p (PS_sub_u64n rfl rfl (by omega) (by omega)) ?_
                    refine WO_p (PS_nilCheck rfl) ?_
                    refine WO_p (PS_fieldAddr 7 Hvac.runUnderlying66 rfl Hvac.sizeOf26 rfl rfl) ?_
                    refine WO_store1 Hvac.sizeOf26 rfl (v := (.int _ _)) rfl (Hb.h (by repeat (first | assumption | exact Hb.newY _ _ | refine Hb.alloc ?_ | refine Hb.drew ?_ | refine Hb.ext (by assumption) ?_ | exact Hb.setSameL (by first | omega | (simp only [size_alloc, size_setB, size_drew]; omega)) | exact Hb.setSame (by assumption) | refine Hb.set (by first | omega | (simp only [size_alloc, size_setB, size_drew]; omega)) ?_ ))) rfl (by first | omega | assumption | rfl | decide | exact Nat.le_refl _ | (simp only [size_ic, Value.cells]; omega) | (simp; omega) | simp) rfl ?_
                    refine WO_nil ?_
                    refine thn_normal ?_
                    refine W_seq ?_
                    refine W_seq ?_
                    obtain ⟨hM9, hS9⟩ := hMC.putF_gas hf (f.gas - cost) (by omega)
                    have hRp := Rel.pay hRl hM hM9 (KC.pre hEC (KC.setC (KeepO.refl _ _) _)) hMI hf (cn := ycost y g o) hcoE (by omega)
                    obtain ⟨L9, hL9, hP9⟩ := hRp.ex
                    replace hS9 := (MStep.ext hEC).trans hS9
                    have hblk9 := hM9.vs.blk
                    have hT9 : MemT { m with frames := m.frames.set t { f with gas := f.gas - cost } } t lo n := ⟨hI.mtY, by omega, hlo, hhi, hlon, by show m.buf.2.1 ≤ 6000000; omega⟩
                    refine W_region rfl ?_
                    refine WO_p (PS_move_int rfl) ?_
                    refine WO_p (PS_move_int rfl) ?_
                    refine WO_p (PS_gtr rfl rfl) ?_
                    refine WO_p (PS_move_bool rfl) ?_
                    refine WO_if (t := 173) rfl (fun hb172 => ?_) (fun hb172 => ?_)
                    · have hb172p := hb172.h; try simp only [al_ete, al_dfn, Bool.not_eq_true', Bool.not_eq_false', al_ne, Bool.not_not, al_nn] at hb172p
                      have hwy : nw = ywords (yreach g o) := by have := reaches_ok hAr hM.ty hre; omega
                      refine WO_guardT rfl rfl hb172.h ?_
                      refine WO_p (PS_move_ptr rfl) ?_
                      refine WO_guardT rfl rfl hb172.h ?_
                      refine WO_p (PS_nilCheck rfl) ?_
                      refine WO_guardT rfl rfl hb172.h ?_
                      refine WO_p (PS_fieldAddr 1 Hvac.runUnderlying70 rfl Hvac.sizeOf59 rfl rfl) ?_
                      refine WO_guardT rfl rfl hb172.h ?_
                      refine WO_p (PS_move_int rfl) ?_
                      refine WO_guardT rfl rfl hb172.h ?_
                      refine WO_p (PS_conv_u32n Hvac.runUnderlying26 Hvac.runUnderlying56 rfl (by omega) (by omega)) ?_
                      refine WO_guardT rfl rfl hb172.h ?_
                      refine WO_call Hvac.call246 (by rfl) (Ret.mono (memGrow_ex C _ v B _ t lo n nw _ hM9 L9 hL9 hT9 (by omega) (by omega)) ?_)
                      rintro _ w10 ⟨rfl, s10, L10, hl10, hBX10, hlow10, hz10, hR10⟩
                      replace hl10 : s10.2.1 = max m.buf.2.1 (lo + 32 * nw) := hl10
                      obtain ⟨hpay, hgq⟩ := hI.pay hM.ty hf (c := cost) (buf' := s10) (base' := m.base.set (t + 1) ((lo + 32 * nw : Nat) : Int)) ⟨by omega, by omega⟩ (by omega) (Or.inr ⟨lo, nw, hlo, rfl, by omega, by omega, by rw [show (szOf m.base t + 31) / 32 = (n : Int) / 32 by omega]; have := hmd (by omega); omega⟩)
                      have hpc := hI.payc hM.ty hf (c := cost) (d := s + x) hsx (base' := m.base.set (t + 1) ((lo + 32 * nw : Nat) : Int)) (Or.inr ⟨lo, nw, hlo, rfl, by rw [show (szOf m.base t + 31) / 32 = (n : Int) / 32 by omega]; exact hmd (by omega)⟩)
                      obtain ⟨eb1, eb2⟩ := baseOf_set (b := m.base) (t := t) (x := ((lo + 32 * nw : Nat) : Int)) (by rw [hM.ty.base.1]; omega)
                      have eb3 := baseOf_some hlo
                      have hsz10 : 32 * (reachesW m f o).1 ≤ szOf (m.base.set (t + 1) ((lo + 32 * nw : Nat) : Int)) t := by unfold szOf; rw [eb1, eb2, eb3]; omega
                      refine WO_guardT rfl rfl hb172.h ?_
                      refine WO_p (PS_not rfl) ?_
                      refine WO_p (PS_pickT rfl hb172.h rfl) ?_
                      refine WO_nil ?_
                      refine thn_normal ?_
                      refine W_if rfl (fun hb176 => ?_) (fun hb176 => ?_)
                      · have hb176p := hb176.h; try simp only [al_ete, al_dfn, Bool.not_eq_true', Bool.not_eq_false', al_ne, Bool.not_not, al_nn] at hb176p
                        simp_all --END
                      · have hb176p := hb176.h; try simp only [al_ete, al_dfn, Bool.not_eq_true', Bool.not_eq_false', al_ne, Bool.not_not, al_nn] at hb176p
                        refine W_skip ?_
                        refine thn_normal ?_
                        refine W_seq ?_
                        refine W_region rfl ?_
                        refine WO_p (PS_assign_bool rfl) ?_
                        refine WO_nil ?_
                        refine thn_normal ?_
                        refine W_ret ?_
                        refine bodyQ_ret1 Hvac.results174 rfl (.bool _) rfl ?_
                        obtain ⟨c10, B10, hM10, hS10⟩ := hR10; exact Or.inr ⟨rfl, _, cost, ⟨_, _, hM10, hS9.trans hS10⟩, ⟨hpay, hset _, by omega, fun _ => ⟨x, ⟨hdyn.b0, hdyn.acc0, hdyn.acc1, hdyn.val, hdyn.sload, hdyn.sst, hdyn.dst⟩, hsx⟩, fun _ => ⟨hre, hsz10⟩, hcrd, hj1, hj2, fun _ => ⟨x, ⟨hdyn.b0, hdyn.acc0, hdyn.acc1, hdyn.val, hdyn.sload, hdyn.sst, hdyn.dst⟩, hsx, hpc⟩⟩, hgq, hrf0, by rw [yGo_yes (by rw [hnM, ← hwy]; omega), ← hwy]; exact Rel.grow hP9 hM9 hS10 hL9 ⟨hMB.lo, hMB.sz, hMB.low, hMB.buf⟩ htl (hMI.pay hf) (hset _) (by omega) hl10 hBX10 hlow10 hz10 hM.ty.base.1⟩
                    · have hb172p := hb172.h; try simp only [al_ete, al_dfn, Bool.not_eq_true', Bool.not_eq_false', al_ne, Bool.not_not, al_nn] at hb172p
                      obtain ⟨hpay, hgq⟩ := hI.pay hM.ty hf (c := cost) (buf' := m.buf) (base' := m.base) ⟨by omega, by omega⟩ hbl0 (Or.inl ⟨rfl, rfl⟩)
                      have hpc := hI.payc hM.ty hf (c := cost) (d := s + x) hsx (base' := m.base) (Or.inl rfl)
                      refine WO_guardF rfl rfl hb172.h ?_
                      refine WO_guardF rfl rfl hb172.h ?_
                      refine WO_guardF rfl rfl hb172.h ?_
                      refine WO_guardF rfl rfl hb172.h ?_
                      refine WO_guardF rfl rfl hb172.h ?_
                      refine WO_guardF rfl rfl hb172.h ?_
                      refine WO_guardF rfl rfl hb172.h ?_
                      refine WO_p (PS_pickF rfl hb172.h rfl) ?_
                      refine WO_nil ?_
                      refine thn_normal ?_
                      refine W_condF rfl rfl ?_
                      refine W_skip ?_
                      refine thn_normal ?_
                      refine W_seq ?_
                      refine W_region rfl ?_
                      refine WO_p (PS_assign_bool rfl) ?_
                      refine WO_nil ?_
                      refine thn_normal ?_
                      refine W_ret ?_
                      refine bodyQ_ret1 Hvac.results174 rfl (.bool _) rfl ?_
                      exact Or.inr ⟨rfl, _, cost, ⟨_, _, hM9, hS9⟩, ⟨hpay, hset _, by omega, fun _ => ⟨x, ⟨hdyn.b0, hdyn.acc0, hdyn.acc1, hdyn.val, hdyn.sload, hdyn.sst, hdyn.dst⟩, hsx⟩, fun _ => ⟨hre, by show 32 * (reachesW m f o).1 ≤ szOf m.base t; omega⟩, hcrd, hj1, hj2, fun _ => ⟨x, ⟨hdyn.b0, hdyn.acc0, hdyn.acc1, hdyn.val, hdyn.sload, hdyn.sst, hdyn.dst⟩, hsx, hpc⟩⟩, hgq, hrf0, by rw [yGo_no (by rw [hnM]; have := reaches_ok hAr hM.ty hre; omega)]; exact hRp⟩
              · have hb120p := hb120.h; try simp only [al_ete, al_dfn, Bool.not_eq_true', Bool.not_eq_false', al_ne, Bool.not_not, al_nn] at hb120p
                refine WO_guardF rfl rfl hb120.h ?_
                refine WO_guardF rfl rfl hb120.h ?_
                refine WO_guardF rfl rfl hb120.h ?_
                refine WO_guardF rfl rfl hb120.h ?_
                refine WO_guardF rfl rfl hb120.h ?_
                refine WO_guardT rfl rfl hb116.h ?_
                refine WO_p (PS_pickF rfl hb120.h rfl) ?_
                refine WO_p (PS_pickF rfl hb116.h rfl) ?_
                refine WO_nil ?_
                refine thn_normal ?_
                refine W_condF rfl rfl ?_
                refine W_skip ?_
                refine thn_normal ?_
                refine W_seqJ (fun ρ w' => Fr [(0, .pointer (some ⟨C, 0, none⟩)), (7, .pointer (some ⟨C, 1803 + t * 65, none⟩)), (1, .int .u8 o), (8, .int .u64 (nw : Int)), (10, .int .u64 ((n : Int) / 32)), (11, .int .u64 cost)] ρ ∧ Ext w w' ∧ yrefP y g o = 0 ∧ (o = 86 → wv (m.argW f 0) < f.cb.length ∧ wv (m.argW f 0) < 512) ∧ (o = 87 → ¬ wv (m.argW f 1) = 0 → wv (m.argW f 0) < f.cb.length ∧ wv (m.argW f 0) < 512)) ?_ ?_
                · skip
                  refine W_seq ?_
                  have hncost : ¬ g.gas < ycost y g o := by omega
                  have hn85 : ¬ (o = 85 ∧ g.gas ≤ 2300) := by omega
                  refine W_region rfl ?_
                  refine WO_p (PS_move_int rfl) ?_
                  refine WO_p (PS_eql rfl rfl) ?_
                  refine WO_p (PS_move_bool rfl) ?_
                  refine WO_if (t := 138) rfl (fun hb178 => ?_) (fun hb178 => ?_)
                  · have hb178p := hb178.h; try simp only [al_ete, al_dfn, Bool.not_eq_true', Bool.not_eq_false', al_ne, Bool.not_not, al_nn] at hb178p
                    refine WO_guardF rfl rfl hb178.h ?_
                    refine WO_guardF rfl rfl hb178.h ?_
                    refine WO_p (PS_pickT rfl hb178.h rfl) ?_
                    refine WO_nil ?_
                    refine thn_normal ?_
                    refine W_condT rfl rfl ?_
                    refine W_seq ?_
                    refine W_region rfl ?_
                    refine WO_p (PS_move_ptr rfl) ?_
                    refine WO_p (PS_move_ptr rfl) ?_
                    refine WO_call Hvac.call239 (by rfl) (Ret.mono (arg_spec C c v B m t f _ _ (MS.ext hM (by repeat (first | assumption | exact Ext.refl _ | refine Ext.alloc ?_ _ | refine Ext.drew ?_ | refine Ext.setB ?_ (by first | omega | (simp only [size_alloc, size_setB, size_drew]; omega)) _ | exact Ext.trans (by assumption) (by assumption) | refine Ext.trans ?_ (by assumption)))) hA (by omega)) ?_)
                    rintro _ w239_178 ⟨hE239_178, rfl⟩
                    have hz239_178 := hE239_178.1
                    try simp only [size_alloc, size_setB, size_drew] at hz239_178
                    refine WO_allocG Hvac.zeroValue61 ?_
                    intro b12 v12 hg12 hE12 hH12 hl12
                    try simp only [size_alloc, size_setB, size_drew] at hg12
                    have hzz12 := hE12.1
                    try simp only [size_alloc, size_setB, size_drew] at hzz12
                    first | refine WO_storeW Hvac.sizeOf61 rfl (v := .agg _) rfl (Hb.h (by repeat (first | assumption | exact Hb.newY _ _ | refine Hb.alloc ?_ | refine Hb.drew ?_ | refine Hb.ext (by assumption) ?_ | exact Hb.setSameL (by first | omega | (simp only [size_alloc, size_setB, size_drew]; omega)) | exact Hb.setSame (by assumption) | refine Hb.set (by first | omega | (simp only [size_alloc, size_setB, size_drew]; omega)) ?_ ))) rfl (by first | omega | assumption | rfl | decide | exact Nat.le_refl _ | (simp only [size_ic, Value.cells]; omega) | (simp; omega) | simp) (by first | omega | assumption | rfl | decide | exact Nat.le_refl _ | (simp only [size_ic, Value.cells]; omega) | (simp; omega) | simp) (by first | exact oneCell_ic | assumption | exact one_Ws2 _ | exact one_YA2 _ | exact one_YSl2 _ | exact one_YM2 _ | exact one_YT2 _ | exact one_L2 _) ?_ | refine WO_store Hvac.sizeOf61 rfl (v := .agg _) rfl (Hb.h (by repeat (first | assumption | exact Hb.newY _ _ | refine Hb.alloc ?_ | refine Hb.drew ?_ | refine Hb.ext (by assumption) ?_ | exact Hb.setSameL (by first | omega | (simp only [size_alloc, size_setB, size_drew]; omega)) | exact Hb.setSame (by assumption) | refine Hb.set (by first | omega | (simp only [size_alloc, size_setB, size_drew]; omega)) ?_ ))) (by first | omega | assumption | rfl | decide | exact Nat.le_refl _ | (simp only [size_ic, Value.cells]; omega) | (simp; omega) | simp) (by first | omega | assumption | rfl | decide | exact Nat.le_refl _ | (simp only [size_ic, Value.cells]; omega) | (simp; omega) | simp) (by first | exact oneCell_ic | assumption | exact one_Ws2 _ | exact one_YA2 _ | exact one_YSl2 _ | exact one_YM2 _ | exact one_YT2 _ | exact one_L2 _) ?_
                    refine WO_nil ?_
                    refine thn_normal ?_
                    refine W_seq ?_
                    refine W_region rfl ?_
                    refine WO_p (PS_move_int rfl) ?_
                    refine WO_p (PS_eql rfl rfl) ?_
                    refine WO_p (PS_move_bool rfl) ?_
                    refine WO_if (t := 147) rfl (fun hb181 => ?_) (fun hb181 => ?_)
                    · have hb181p := hb181.h; try simp only [al_ete, al_dfn, Bool.not_eq_true', Bool.not_eq_false', al_ne, Bool.not_not, al_nn] at hb181p
                      refine WO_guardF rfl rfl hb181.h ?_
                      refine WO_guardF rfl rfl hb181.h ?_
                      refine WO_guardF rfl rfl hb181.h ?_
                      refine WO_p (PS_pickT rfl hb181.h rfl) ?_
                      refine WO_p (PS_move_bool rfl) ?_
                      refine WO_guardT rfl rfl rfl ?_
                      refine WO_p (PS_move_ptr rfl) ?_
                      refine WO_guardT rfl rfl rfl ?_
                      refine WO_p (PS_move_ptr rfl) ?_
                      refine WO_guardT rfl rfl rfl ?_
                      refine WO_p (PS_move_ptr rfl) ?_
                      refine WO_guardT rfl rfl rfl ?_
                      refine WO_call Hvac.call239 (by rfl) (Ret.mono (arg_spec C c v B m t f _ _ (MS.ext hM (by repeat (first | assumption | exact Ext.refl _ | refine Ext.alloc ?_ _ | refine Ext.drew ?_ | refine Ext.setB ?_ (by first | omega | (simp only [size_alloc, size_setB, size_drew]; omega)) _ | exact Ext.trans (by assumption) (by assumption) | refine Ext.trans ?_ (by assumption)))) hA (by omega)) ?_)
                      rintro _ w239_181 ⟨hE239_181, rfl⟩
                      have hz239_181 := hE239_181.1
                      try simp only [size_alloc, size_setB, size_drew] at hz239_181
                      refine WO_guardT rfl rfl rfl ?_
                      refine WO_call Hvac.call245 (by rfl) (Ret.mono (good_ex C c v B m t f _ _ (MS.ext hM (by repeat (first | assumption | exact Ext.refl _ | refine Ext.alloc ?_ _ | refine Ext.drew ?_ | refine Ext.setB ?_ (by first | omega | (simp only [size_alloc, size_setB, size_drew]; omega)) _ | exact Ext.trans (by assumption) (by assumption) | refine Ext.trans ?_ (by assumption)))) hA hw0 hsc hcb5 hcbl.symm) ?_)
                      rintro _ wg ⟨hEg, rfl⟩
                      have hzg := hEg.1
                      try simp only [size_alloc, size_setB, size_drew] at hzg
                      refine WO_guardT rfl rfl rfl ?_
                      refine WO_p (PS_not rfl) ?_
                      refine WO_p (PS_pickT rfl rfl rfl) ?_
                      refine WO_nil ?_
                      refine thn_normal ?_
                      refine W_if rfl (fun hb186 => ?_) (fun hb186 => ?_)
                      · have hb186p := hb186.h; try simp only [al_ete, al_dfn, Bool.not_eq_true', Bool.not_eq_false', al_ne, Bool.not_not, al_nn] at hb186p
                        have hbad : ydest g.code (yarg g 0) = false := by rw [hy0, ← hFP.code]; simpa using hb186p
                        refine W_seq ?_
                        have hrf : yrefP y g o = 6 := by
                          unfold yrefP; rw [if_neg hn7, if_neg hn9, if_neg hn8, if_neg hncost, if_neg hn85]
                          by_cases h86 : o = 86
                          · rw [if_pos ⟨h86, hbad⟩]
                          · rw [if_neg (fun h => h86 h.1), if_pos ⟨by omega, by rw [hy1]; omega, hbad⟩]
                        refine W_region rfl ?_
                        refine WO_p (PS_move_ptr rfl) ?_
                        refine WO_call Hvac.call171 (by rfl) (Ret.mono (fail_ex scan C c v B m t f 0 S _ _ (MS.ext hM (by repeat (first | assumption | exact Ext.refl _ | refine Ext.alloc ?_ _ | refine Ext.drew ?_ | refine Ext.setB ?_ (by first | omega | (simp only [size_alloc, size_setB, size_drew]; omega)) _ | exact Ext.trans (by assumption) (by assumption) | refine Ext.trans ?_ (by assumption)))) hf hI (by omega) y rest g (hRl.ext hM (by repeat (first | assumption | exact Ext.refl _ | refine Ext.alloc ?_ _ | refine Ext.drew ?_ | refine Ext.setB ?_ (by first | omega | (simp only [size_alloc, size_setB, size_drew]; omega)) _ | exact Ext.trans (by assumption) (by assumption) | refine Ext.trans ?_ (by assumption)))) 6 rfl) ?_)
                        rintro _ wq ⟨rfl, vq, mq, hRq, hPq, hXq⟩
                        replace hRq := MRet.pre (w := w) (by repeat (first | assumption | exact Ext.refl _ | refine Ext.alloc ?_ _ | refine Ext.drew ?_ | refine Ext.setB ?_ (by first | omega | (simp only [size_alloc, size_setB, size_drew]; omega)) _ | exact Ext.trans (by assumption) (by assumption) | refine Ext.trans ?_ (by assumption))) hRq
                        refine WO_p (PS_assign_bool rfl) ?_
                        refine WO_nil ?_
                        refine thn_normal ?_
                        refine W_ret ?_
                        refine thn_ret ?_
                        refine bodyQ_ret1 Hvac.results174 rfl (.bool _) rfl ?_
                        exact Or.inl ⟨rfl, vq, mq, hRq, hPq, by rw [hrf]; exact ⟨by decide, hXq⟩⟩
                      · have hb186p := hb186.h; try simp only [al_ete, al_dfn, Bool.not_eq_true', Bool.not_eq_false', al_ne, Bool.not_not, al_nn] at hb186p
                        have hdt : ydest f.cb (wn (m.argW f 0)) = true := (by simpa using hb186p); have hgg : wv (m.argW f 0) < f.cb.length ∧ wv (m.argW f 0) < 512 := dest_lt hwi0 hdt hcb5; have hrf0 : yrefP y g o = 0 := (by unfold yrefP; rw [if_neg hn7, if_neg hn9, if_neg hn8, if_neg hncost, if_neg hn85, if_neg (fun h => by rw [hy0, ← hFP.code, hdt] at h; cases h.2), if_neg (fun h => by rw [hy0, ← hFP.code, hdt] at h; cases h.2.2)])
                        refine W_skip ?_
                        refine thn_normal ?_
                        exact ⟨⟨rfl, rfl, rfl, rfl, rfl, rfl, trivial⟩, (by repeat (first | assumption | exact Ext.refl _ | refine Ext.alloc ?_ _ | refine Ext.drew ?_ | refine Ext.setB ?_ (by first | omega | (simp only [size_alloc, size_setB, size_drew]; omega)) _ | exact Ext.trans (by assumption) (by assumption) | refine Ext.trans ?_ (by assumption))), hrf0, fun _ => hgg, fun _ _ => hgg⟩
                    · have hb181p := hb181.h; try simp only [al_ete, al_dfn, Bool.not_eq_true', Bool.not_eq_false', al_ne, Bool.not_not, al_nn] at hb181p
                      refine WO_guardT rfl rfl hb181.h ?_
                      refine WO_loadA _ Hvac.isAgg61 Hvac.sizeOf61 rfl (Hb.h (by repeat (first | assumption | exact Hb.newY _ _ | refine Hb.alloc ?_ | refine Hb.drew ?_ | refine Hb.ext (by assumption) ?_ | exact Hb.setSameL (by first | omega | (simp only [size_alloc, size_setB, size_drew]; omega)) | exact Hb.setSame (by assumption) | refine Hb.set (by first | omega | (simp only [size_alloc, size_setB, size_drew]; omega)) ?_ ))) (by first | omega | assumption | rfl | decide | exact Nat.le_refl _ | (simp only [size_ic, Value.cells]; omega) | (simp; omega) | simp) (Xt.h (by first | assumption | exact Xt.whole rfl rfl | exact Xt.whole rfl (by assumption) | exact Xt.whole rfl (by simp only [size_ic, Value.cells]; omega) | exact ⟨rfl⟩)) ?_
                      refine WO_guardT rfl rfl hb181.h ?_
                      refine WO_call Hvac.call223 (by rfl) (Ret.mono (isz_spec _ _ (by first | assumption | exact argW_wd hM.ty _ _ | exact Wd0)) ?_)
                      rintro _ w223_188 ⟨rfl, hE223_188⟩
                      have hz223_188 := hE223_188.1
                      try simp only [size_alloc, size_setB, size_drew] at hz223_188
                      refine WO_guardT rfl rfl hb181.h ?_
                      refine WO_p (PS_not rfl) ?_
                      refine WO_p (PS_pickF rfl hb181.h rfl) ?_
                      refine WO_p (PS_move_bool rfl) ?_
                      refine WO_if (t := 152) rfl (fun hb192 => ?_) (fun hb192 => ?_)
                      · have hb192p := hb192.h; try simp only [al_ete, al_dfn, Bool.not_eq_true', Bool.not_eq_false', al_ne, Bool.not_not, al_nn] at hb192p
                        refine WO_guardT rfl rfl hb192.h ?_
                        refine WO_p (PS_move_ptr rfl) ?_
                        refine WO_guardT rfl rfl hb192.h ?_
                        refine WO_p (PS_move_ptr rfl) ?_
                        refine WO_guardT rfl rfl hb192.h ?_
                        refine WO_p (PS_move_ptr rfl) ?_
                        refine WO_guardT rfl rfl hb192.h ?_
                        refine WO_call Hvac.call239 (by rfl) (Ret.mono (arg_spec C c v B m t f _ _ (MS.ext hM (by repeat (first | assumption | exact Ext.refl _ | refine Ext.alloc ?_ _ | refine Ext.drew ?_ | refine Ext.setB ?_ (by first | omega | (simp only [size_alloc, size_setB, size_drew]; omega)) _ | exact Ext.trans (by assumption) (by assumption) | refine Ext.trans ?_ (by assumption)))) hA (by omega)) ?_)
                        rintro _ w239_192 ⟨hE239_192, rfl⟩
                        have hz239_192 := hE239_192.1
                        try simp only [size_alloc, size_setB, size_drew] at hz239_192
                        refine WO_guardT rfl rfl hb192.h ?_
                        refine WO_call Hvac.call245 (by rfl) (Ret.mono (good_ex C c v B m t f _ _ (MS.ext hM (by repeat (first | assumption | exact Ext.refl _ | refine Ext.alloc ?_ _ | refine Ext.drew ?_ | refine Ext.setB ?_ (by first | omega | (simp only [size_alloc, size_setB, size_drew]; omega)) _ | exact Ext.trans (by assumption) (by assumption) | refine Ext.trans ?_ (by assumption)))) hA hw0 hsc hcb5 hcbl.symm) ?_)
                        rintro _ wg ⟨hEg, rfl⟩
                        have hzg := hEg.1
                        try simp only [size_alloc, size_setB, size_drew] at hzg
                        refine WO_guardT rfl rfl hb192.h ?_
                        refine WO_p (PS_not rfl) ?_
                        refine WO_p (PS_pickT rfl hb192.h rfl) ?_
                        refine WO_nil ?_
                        refine thn_normal ?_
                        refine W_if rfl (fun hb197 => ?_) (fun hb197 => ?_)
                        · have hb197p := hb197.h; try simp only [al_ete, al_dfn, Bool.not_eq_true', Bool.not_eq_false', al_ne, Bool.not_not, al_nn] at hb197p
                          have hbad : ydest g.code (yarg g 0) = false := by rw [hy0, ← hFP.code]; simpa using hb197p
                          refine W_seq ?_
                          have hrf : yrefP y g o = 6 := by
                            unfold yrefP; rw [if_neg hn7, if_neg hn9, if_neg hn8, if_neg hncost, if_neg hn85]
                            by_cases h86 : o = 86
                            · rw [if_pos ⟨h86, hbad⟩]
                            · rw [if_neg (fun h => h86 h.1), if_pos ⟨by omega, by rw [hy1]; omega, hbad⟩]
                          refine W_region rfl ?_
                          refine WO_p (PS_move_ptr rfl) ?_
                          refine WO_call Hvac.call171 (by rfl) (Ret.mono (fail_ex scan C c v B m t f 0 S _ _ (MS.ext hM (by repeat (first | assumption | exact Ext.refl _ | refine Ext.alloc ?_ _ | refine Ext.drew ?_ | refine Ext.setB ?_ (by first | omega | (simp only [size_alloc, size_setB, size_drew]; omega)) _ | exact Ext.trans (by assumption) (by assumption) | refine Ext.trans ?_ (by assumption)))) hf hI (by omega) y rest g (hRl.ext hM (by repeat (first | assumption | exact Ext.refl _ | refine Ext.alloc ?_ _ | refine Ext.drew ?_ | refine Ext.setB ?_ (by first | omega | (simp only [size_alloc, size_setB, size_drew]; omega)) _ | exact Ext.trans (by assumption) (by assumption) | refine Ext.trans ?_ (by assumption)))) 6 rfl) ?_)
                          rintro _ wq ⟨rfl, vq, mq, hRq, hPq, hXq⟩
                          replace hRq := MRet.pre (w := w) (by repeat (first | assumption | exact Ext.refl _ | refine Ext.alloc ?_ _ | refine Ext.drew ?_ | refine Ext.setB ?_ (by first | omega | (simp only [size_alloc, size_setB, size_drew]; omega)) _ | exact Ext.trans (by assumption) (by assumption) | refine Ext.trans ?_ (by assumption))) hRq
                          refine WO_p (PS_assign_bool rfl) ?_
                          refine WO_nil ?_
                          refine thn_normal ?_
                          refine W_ret ?_
                          refine thn_ret ?_
                          refine bodyQ_ret1 Hvac.results174 rfl (.bool _) rfl ?_
                          exact Or.inl ⟨rfl, vq, mq, hRq, hPq, by rw [hrf]; exact ⟨by decide, hXq⟩⟩
                        · have hb197p := hb197.h; try simp only [al_ete, al_dfn, Bool.not_eq_true', Bool.not_eq_false', al_ne, Bool.not_not, al_nn] at hb197p
                          have hdt : ydest f.cb (wn (m.argW f 0)) = true := (by simpa using hb197p); have hgg : wv (m.argW f 0) < f.cb.length ∧ wv (m.argW f 0) < 512 := dest_lt hwi0 hdt hcb5; have hrf0 : yrefP y g o = 0 := (by unfold yrefP; rw [if_neg hn7, if_neg hn9, if_neg hn8, if_neg hncost, if_neg hn85, if_neg (fun h => by rw [hy0, ← hFP.code, hdt] at h; cases h.2), if_neg (fun h => by rw [hy0, ← hFP.code, hdt] at h; cases h.2.2)])
                          refine W_skip ?_
                          refine thn_normal ?_
                          exact ⟨⟨rfl, rfl, rfl, rfl, rfl, rfl, trivial⟩, (by repeat (first | assumption | exact Ext.refl _ | refine Ext.alloc ?_ _ | refine Ext.drew ?_ | refine Ext.setB ?_ (by first | omega | (simp only [size_alloc, size_setB, size_drew]; omega)) _ | exact Ext.trans (by assumption) (by assumption) | refine Ext.trans ?_ (by assumption))), hrf0, fun _ => hgg, fun _ _ => hgg⟩
                      · have hb192p := hb192.h; try simp only [al_ete, al_dfn, Bool.not_eq_true', Bool.not_eq_false', al_ne, Bool.not_not, al_nn] at hb192p
                        have hz87 : ¬ o = 86 ∧ wv (m.argW f 1) = 0 := ⟨by omega, by omega⟩
                        have hrf0 : yrefP y g o = 0 := by unfold yrefP; rw [if_neg hn7, if_neg hn9, if_neg hn8, if_neg hncost, if_neg hn85, if_neg (fun h => hz87.1 h.1), if_neg (fun h => h.2.1 (by rw [hy1]; omega))]
                        refine WO_guardF rfl rfl hb192.h ?_
                        refine WO_guardF rfl rfl hb192.h ?_
                        refine WO_guardF rfl rfl hb192.h ?_
                        refine WO_guardF rfl rfl hb192.h ?_
                        refine WO_guardF rfl rfl hb192.h ?_
                        refine WO_guardF rfl rfl hb192.h ?_
                        refine WO_p (PS_pickF rfl hb192.h rfl) ?_
                        refine WO_nil ?_
                        refine thn_normal ?_
                        refine W_condF rfl rfl ?_
                        refine W_skip ?_
                        refine thn_normal ?_
                        exact ⟨⟨rfl, rfl, rfl, rfl, rfl, rfl, trivial⟩, (by repeat (first | assumption | exact Ext.refl _ | refine Ext.alloc ?_ _ | refine Ext.drew ?_ | refine Ext.setB ?_ (by first | omega | (simp only [size_alloc, size_setB, size_drew]; omega)) _ | exact Ext.trans (by assumption) (by assumption) | refine Ext.trans ?_ (by assumption))), hrf0, fun h => by omega, fun h hc => by omega⟩
                  · have hb178p := hb178.h; try simp only [al_ete, al_dfn, Bool.not_eq_true', Bool.not_eq_false', al_ne, Bool.not_not, al_nn] at hb178p
                    refine WO_guardT rfl rfl hb178.h ?_
                    refine WO_p (PS_move_int rfl) ?_
                    refine WO_guardT rfl rfl hb178.h ?_
                    refine WO_p (PS_eql rfl rfl) ?_
                    refine WO_p (PS_pickF rfl hb178.h rfl) ?_
                    refine WO_nil ?_
                    refine thn_normal ?_
                    refine W_if rfl (fun hb201 => ?_) (fun hb201 => ?_)
                    · have hb201p := hb201.h; try simp only [al_ete, al_dfn, Bool.not_eq_true', Bool.not_eq_false', al_ne, Bool.not_not, al_nn] at hb201p
                      refine W_seq ?_
                      refine W_region rfl ?_
                      refine WO_p (PS_move_ptr rfl) ?_
                      refine WO_p (PS_move_ptr rfl) ?_
                      refine WO_call Hvac.call239 (by rfl) (Ret.mono (arg_spec C c v B m t f _ _ (MS.ext hM (by repeat (first | assumption | exact Ext.refl _ | refine Ext.alloc ?_ _ | refine Ext.drew ?_ | refine Ext.setB ?_ (by first | omega | (simp only [size_alloc, size_setB, size_drew]; omega)) _ | exact Ext.trans (by assumption) (by assumption) | refine Ext.trans ?_ (by assumption)))) hA (by omega)) ?_)
                      rintro _ w239_201 ⟨hE239_201, rfl⟩
                      have hz239_201 := hE239_201.1
                      try simp only [size_alloc, size_setB, size_drew] at hz239_201
                      refine WO_allocG Hvac.zeroValue61 ?_
                      intro b12 v12 hg12 hE12 hH12 hl12
                      try simp only [size_alloc, size_setB, size_drew] at hg12
                      have hzz12 := hE12.1
                      try simp only [size_alloc, size_setB, size_drew] at hzz12
                      first | refine WO_storeW Hvac.sizeOf61 rfl (v := .agg _) rfl (Hb.h (by repeat (first | assumption | exact Hb.newY _ _ | refine Hb.alloc ?_ | refine Hb.drew ?_ | refine Hb.ext (by assumption) ?_ | exact Hb.setSameL (by first | omega | (simp only [size_alloc, size_setB, size_drew]; omega)) | exact Hb.setSame (by assumption) | refine Hb.set (by first | omega | (simp only [size_alloc, size_setB, size_drew]; omega)) ?_ ))) rfl (by first | omega | assumption | rfl | decide | exact Nat.le_refl _ | (simp only [size_ic, Value.cells]; omega) | (simp; omega) | simp) (by first | omega | assumption | rfl | decide | exact Nat.le_refl _ | (simp only [size_ic, Value.cells]; omega) | (simp; omega) | simp) (by first | exact oneCell_ic | assumption | exact one_Ws2 _ | exact one_YA2 _ | exact one_YSl2 _ | exact one_YM2 _ | exact one_YT2 _ | exact one_L2 _) ?_ | refine WO_store Hvac.sizeOf61 rfl (v := .agg _) rfl (Hb.h (by repeat (first | assumption | exact Hb.newY _ _ | refine Hb.alloc ?_ | refine Hb.drew ?_ | refine Hb.ext (by assumption) ?_ | exact Hb.setSameL (by first | omega | (simp only [size_alloc, size_setB, size_drew]; omega)) | exact Hb.setSame (by assumption) | refine Hb.set (by first | omega | (simp only [size_alloc, size_setB, size_drew]; omega)) ?_ ))) (by first | omega | assumption | rfl | decide | exact Nat.le_refl _ | (simp only [size_ic, Value.cells]; omega) | (simp; omega) | simp) (by first | omega | assumption | rfl | decide | exact Nat.le_refl _ | (simp only [size_ic, Value.cells]; omega) | (simp; omega) | simp) (by first | exact oneCell_ic | assumption | exact one_Ws2 _ | exact one_YA2 _ | exact one_YSl2 _ | exact one_YM2 _ | exact one_YT2 _ | exact one_L2 _) ?_
                      refine WO_nil ?_
                      refine thn_normal ?_
                      refine W_seq ?_
                      refine W_region rfl ?_
                      refine WO_p (PS_move_int rfl) ?_
                      refine WO_p (PS_eql rfl rfl) ?_
                      refine WO_p (PS_move_bool rfl) ?_
                      refine WO_if (t := 147) rfl (fun hb204 => ?_) (fun hb204 => ?_)
                      · have hb204p := hb204.h; try simp only [al_ete, al_dfn, Bool.not_eq_true', Bool.not_eq_false', al_ne, Bool.not_not, al_nn] at hb204p
                        refine WO_guardF rfl rfl hb204.h ?_
                        refine WO_guardF rfl rfl hb204.h ?_
                        refine WO_guardF rfl rfl hb204.h ?_
                        refine WO_p (PS_pickT rfl hb204.h rfl) ?_
                        refine WO_p (PS_move_bool rfl) ?_
                        refine WO_guardT rfl rfl rfl ?_
                        refine WO_p (PS_move_ptr rfl) ?_
                        refine WO_guardT rfl rfl rfl ?_
                        refine WO_p (PS_move_ptr rfl) ?_
                        refine WO_guardT rfl rfl rfl ?_
                        refine WO_p (PS_move_ptr rfl) ?_
                        refine WO_guardT rfl rfl rfl ?_
                        refine WO_call Hvac.call239 (by rfl) (Ret.mono (arg_spec C c v B m t f _ _ (MS.ext hM (by repeat (first | assumption | exact Ext.refl _ | refine Ext.alloc ?_ _ | refine Ext.drew ?_ | refine Ext.setB ?_ (by first | omega | (simp only [size_alloc, size_setB, size_drew]; omega)) _ | exact Ext.trans (by assumption) (by assumption) | refine Ext.trans ?_ (by assumption)))) hA (by omega)) ?_)
                        rintro _ w239_204 ⟨hE239_204, rfl⟩
                        have hz239_204 := hE239_204.1
                        try simp only [size_alloc, size_setB, size_drew] at hz239_204
                        refine WO_guardT rfl rfl rfl ?_
                        refine WO_call Hvac.call245 (by rfl) (Ret.mono (good_ex C c v B m t f _ _ (MS.ext hM (by repeat (first | assumption | exact Ext.refl _ | refine Ext.alloc ?_ _ | refine Ext.drew ?_ | refine Ext.setB ?_ (by first | omega | (simp only [size_alloc, size_setB, size_drew]; omega)) _ | exact Ext.trans (by assumption) (by assumption) | refine Ext.trans ?_ (by assumption)))) hA hw0 hsc hcb5 hcbl.symm) ?_)
                        rintro _ wg ⟨hEg, rfl⟩
                        have hzg := hEg.1
                        try simp only [size_alloc, size_setB, size_drew] at hzg
                        refine WO_guardT rfl rfl rfl ?_
                        refine WO_p (PS_not rfl) ?_
                        refine WO_p (PS_pickT rfl rfl rfl) ?_
                        refine WO_nil ?_
                        refine thn_normal ?_
                        refine W_if rfl (fun hb209 => ?_) (fun hb209 => ?_)
                        · have hb209p := hb209.h; try simp only [al_ete, al_dfn, Bool.not_eq_true', Bool.not_eq_false', al_ne, Bool.not_not, al_nn] at hb209p
                          have hbad : ydest g.code (yarg g 0) = false := by rw [hy0, ← hFP.code]; simpa using hb209p
                          refine W_seq ?_
                          have hrf : yrefP y g o = 6 := by
                            unfold yrefP; rw [if_neg hn7, if_neg hn9, if_neg hn8, if_neg hncost, if_neg hn85]
                            by_cases h86 : o = 86
                            · rw [if_pos ⟨h86, hbad⟩]
                            · rw [if_neg (fun h => h86 h.1), if_pos ⟨by omega, by rw [hy1]; omega, hbad⟩]
                          refine W_region rfl ?_
                          refine WO_p (PS_move_ptr rfl) ?_
                          refine WO_call Hvac.call171 (by rfl) (Ret.mono (fail_ex scan C c v B m t f 0 S _ _ (MS.ext hM (by repeat (first | assumption | exact Ext.refl _ | refine Ext.alloc ?_ _ | refine Ext.drew ?_ | refine Ext.setB ?_ (by first | omega | (simp only [size_alloc, size_setB, size_drew]; omega)) _ | exact Ext.trans (by assumption) (by assumption) | refine Ext.trans ?_ (by assumption)))) hf hI (by omega) y rest g (hRl.ext hM (by repeat (first | assumption | exact Ext.refl _ | refine Ext.alloc ?_ _ | refine Ext.drew ?_ | refine Ext.setB ?_ (by first | omega | (simp only [size_alloc, size_setB, size_drew]; omega)) _ | exact Ext.trans (by assumption) (by assumption) | refine Ext.trans ?_ (by assumption)))) 6 rfl) ?_)
                          rintro _ wq ⟨rfl, vq, mq, hRq, hPq, hXq⟩
                          replace hRq := MRet.pre (w := w) (by repeat (first | assumption | exact Ext.refl _ | refine Ext.alloc ?_ _ | refine Ext.drew ?_ | refine Ext.setB ?_ (by first | omega | (simp only [size_alloc, size_setB, size_drew]; omega)) _ | exact Ext.trans (by assumption) (by assumption) | refine Ext.trans ?_ (by assumption))) hRq
                          refine WO_p (PS_assign_bool rfl) ?_
                          refine WO_nil ?_
                          refine thn_normal ?_
                          refine W_ret ?_
                          refine thn_ret ?_
                          refine bodyQ_ret1 Hvac.results174 rfl (.bool _) rfl ?_
                          exact Or.inl ⟨rfl, vq, mq, hRq, hPq, by rw [hrf]; exact ⟨by decide, hXq⟩⟩
                        · have hb209p := hb209.h; try simp only [al_ete, al_dfn, Bool.not_eq_true', Bool.not_eq_false', al_ne, Bool.not_not, al_nn] at hb209p
                          have hdt : ydest f.cb (wn (m.argW f 0)) = true := (by simpa using hb209p); have hgg : wv (m.argW f 0) < f.cb.length ∧ wv (m.argW f 0) < 512 := dest_lt hwi0 hdt hcb5; have hrf0 : yrefP y g o = 0 := (by unfold yrefP; rw [if_neg hn7, if_neg hn9, if_neg hn8, if_neg hncost, if_neg hn85, if_neg (fun h => by rw [hy0, ← hFP.code, hdt] at h; cases h.2), if_neg (fun h => by rw [hy0, ← hFP.code, hdt] at h; cases h.2.2)])
                          refine W_skip ?_
                          refine thn_normal ?_
                          exact ⟨⟨rfl, rfl, rfl, rfl, rfl, rfl, trivial⟩, (by repeat (first | assumption | exact Ext.refl _ | refine Ext.alloc ?_ _ | refine Ext.drew ?_ | refine Ext.setB ?_ (by first | omega | (simp only [size_alloc, size_setB, size_drew]; omega)) _ | exact Ext.trans (by assumption) (by assumption) | refine Ext.trans ?_ (by assumption))), hrf0, fun _ => hgg, fun _ _ => hgg⟩
                      · have hb204p := hb204.h; try simp only [al_ete, al_dfn, Bool.not_eq_true', Bool.not_eq_false', al_ne, Bool.not_not, al_nn] at hb204p
                        refine WO_guardT rfl rfl hb204.h ?_
                        refine WO_loadA _ Hvac.isAgg61 Hvac.sizeOf61 rfl (Hb.h (by repeat (first | assumption | exact Hb.newY _ _ | refine Hb.alloc ?_ | refine Hb.drew ?_ | refine Hb.ext (by assumption) ?_ | exact Hb.setSameL (by first | omega | (simp only [size_alloc, size_setB, size_drew]; omega)) | exact Hb.setSame (by assumption) | refine Hb.set (by first | omega | (simp only [size_alloc, size_setB, size_drew]; omega)) ?_ ))) (by first | omega | assumption | rfl | decide | exact Nat.le_refl _ | (simp only [size_ic, Value.cells]; omega) | (simp; omega) | simp) (Xt.h (by first | assumption | exact Xt.whole rfl rfl | exact Xt.whole rfl (by assumption) | exact Xt.whole rfl (by simp only [size_ic, Value.cells]; omega) | exact ⟨rfl⟩)) ?_
                        refine WO_guardT rfl rfl hb204.h ?_
                        refine WO_call Hvac.call223 (by rfl) (Ret.mono (isz_spec _ _ (by first | assumption | exact argW_wd hM.ty _ _ | exact Wd0)) ?_)
                        rintro _ w223_211 ⟨rfl, hE223_211⟩
                        have hz223_211 := hE223_211.1
                        try simp only [size_alloc, size_setB, size_drew] at hz223_211
                        refine WO_guardT rfl rfl hb204.h ?_
                        refine WO_p (PS_not rfl) ?_
                        refine WO_p (PS_pickF rfl hb204.h rfl) ?_
                        refine WO_p (PS_move_bool rfl) ?_
                        refine WO_if (t := 152) rfl (fun hb215 => ?_) (fun hb215 => ?_)
                        · have hb215p := hb215.h; try simp only [al_ete, al_dfn, Bool.not_eq_true', Bool.not_eq_false', al_ne, Bool.not_not, al_nn] at hb215p
                          refine WO_guardT rfl rfl hb215.h ?_
                          refine WO_p (PS_move_ptr rfl) ?_
                          refine WO_guardT rfl rfl hb215.h ?_
                          refine WO_p (PS_move_ptr rfl) ?_
                          refine WO_guardT rfl rfl hb215.h ?_
                          refine WO_p (PS_move_ptr rfl) ?_
                          refine WO_guardT rfl rfl hb215.h ?_
                          refine WO_call Hvac.call239 (by rfl) (Ret.mono (arg_spec C c v B m t f _ _ (MS.ext hM (by repeat (first | assumption | exact Ext.refl _ | refine Ext.alloc ?_ _ | refine Ext.drew ?_ | refine Ext.setB ?_ (by first | omega | (simp only [size_alloc, size_setB, size_drew]; omega)) _ | exact Ext.trans (by assumption) (by assumption) | refine Ext.trans ?_ (by assumption)))) hA (by omega)) ?_)
                          rintro _ w239_215 ⟨hE239_215, rfl⟩
                          have hz239_215 := hE239_215.1
                          try simp only [size_alloc, size_setB, size_drew] at hz239_215
                          refine WO_guardT rfl rfl hb215.h ?_
                          refine WO_call Hvac.call245 (by rfl) (Ret.mono (good_ex C c v B m t f _ _ (MS.ext hM (by repeat (first | assumption | exact Ext.refl _ | refine Ext.alloc ?_ _ | refine Ext.drew ?_ | refine Ext.setB ?_ (by first | omega | (simp only [size_alloc, size_setB, size_drew]; omega)) _ | exact Ext.trans (by assumption) (by assumption) | refine Ext.trans ?_ (by assumption)))) hA hw0 hsc hcb5 hcbl.symm) ?_)
                          rintro _ wg ⟨hEg, rfl⟩
                          have hzg := hEg.1
                          try simp only [size_alloc, size_setB, size_drew] at hzg
                          refine WO_guardT rfl rfl hb215.h ?_
                          refine WO_p (PS_not rfl) ?_
                          refine WO_p (PS_pickT rfl hb215.h rfl) ?_
                          refine WO_nil ?_
                          refine thn_normal ?_
                          refine W_if rfl (fun hb220 => ?_) (fun hb220 => ?_)
                          · have hb220p := hb220.h; try simp only [al_ete, al_dfn, Bool.not_eq_true', Bool.not_eq_false', al_ne, Bool.not_not, al_nn] at hb220p
                            have hbad : ydest g.code (yarg g 0) = false := by rw [hy0, ← hFP.code]; simpa using hb220p
                            refine W_seq ?_
                            have hrf : yrefP y g o = 6 := by
                              unfold yrefP; rw [if_neg hn7, if_neg hn9, if_neg hn8, if_neg hncost, if_neg hn85]
                              by_cases h86 : o = 86
                              · rw [if_pos ⟨h86, hbad⟩]
                              · rw [if_neg (fun h => h86 h.1), if_pos ⟨by omega, by rw [hy1]; omega, hbad⟩]
                            refine W_region rfl ?_
                            refine WO_p (PS_move_ptr rfl) ?_
                            refine WO_call Hvac.call171 (by rfl) (Ret.mono (fail_ex scan C c v B m t f 0 S _ _ (MS.ext hM (by repeat (first | assumption | exact Ext.refl _ | refine Ext.alloc ?_ _ | refine Ext.drew ?_ | refine Ext.setB ?_ (by first | omega | (simp only [size_alloc, size_setB, size_drew]; omega)) _ | exact Ext.trans (by assumption) (by assumption) | refine Ext.trans ?_ (by assumption)))) hf hI (by omega) y rest g (hRl.ext hM (by repeat (first | assumption | exact Ext.refl _ | refine Ext.alloc ?_ _ | refine Ext.drew ?_ | refine Ext.setB ?_ (by first | omega | (simp only [size_alloc, size_setB, size_drew]; omega)) _ | exact Ext.trans (by assumption) (by assumption) | refine Ext.trans ?_ (by assumption)))) 6 rfl) ?_)
                            rintro _ wq ⟨rfl, vq, mq, hRq, hPq, hXq⟩
                            replace hRq := MRet.pre (w := w) (by repeat (first | assumption | exact Ext.refl _ | refine Ext.alloc ?_ _ | refine Ext.drew ?_ | refine Ext.setB ?_ (by first | omega | (simp only [size_alloc, size_setB, size_drew]; omega)) _ | exact Ext.trans (by assumption) (by assumption) | refine Ext.trans ?_ (by assumption))) hRq
                            refine WO_p (PS_assign_bool rfl) ?_
                            refine WO_nil ?_
                            refine thn_normal ?_
                            refine W_ret ?_
                            refine thn_ret ?_
                            refine bodyQ_ret1 Hvac.results174 rfl (.bool _) rfl ?_
                            exact Or.inl ⟨rfl, vq, mq, hRq, hPq, by rw [hrf]; exact ⟨by decide, hXq⟩⟩
                          · have hb220p := hb220.h; try simp only [al_ete, al_dfn, Bool.not_eq_true', Bool.not_eq_false', al_ne, Bool.not_not, al_nn] at hb220p
                            have hdt : ydest f.cb (wn (m.argW f 0)) = true := (by simpa using hb220p); have hgg : wv (m.argW f 0) < f.cb.length ∧ wv (m.argW f 0) < 512 := dest_lt hwi0 hdt hcb5; have hrf0 : yrefP y g o = 0 := (by unfold yrefP; rw [if_neg hn7, if_neg hn9, if_neg hn8, if_neg hncost, if_neg hn85, if_neg (fun h => by rw [hy0, ← hFP.code, hdt] at h; cases h.2), if_neg (fun h => by rw [hy0, ← hFP.code, hdt] at h; cases h.2.2)])
                            refine W_skip ?_
                            refine thn_normal ?_
                            exact ⟨⟨rfl, rfl, rfl, rfl, rfl, rfl, trivial⟩, (by repeat (first | assumption | exact Ext.refl _ | refine Ext.alloc ?_ _ | refine Ext.drew ?_ | refine Ext.setB ?_ (by first | omega | (simp only [size_alloc, size_setB, size_drew]; omega)) _ | exact Ext.trans (by assumption) (by assumption) | refine Ext.trans ?_ (by assumption))), hrf0, fun _ => hgg, fun _ _ => hgg⟩
                        · have hb215p := hb215.h; try simp only [al_ete, al_dfn, Bool.not_eq_true', Bool.not_eq_false', al_ne, Bool.not_not, al_nn] at hb215p
                          have hz87 : ¬ o = 86 ∧ wv (m.argW f 1) = 0 := ⟨by omega, by omega⟩
                          have hrf0 : yrefP y g o = 0 := by unfold yrefP; rw [if_neg hn7, if_neg hn9, if_neg hn8, if_neg hncost, if_neg hn85, if_neg (fun h => hz87.1 h.1), if_neg (fun h => h.2.1 (by rw [hy1]; omega))]
                          refine WO_guardF rfl rfl hb215.h ?_
                          refine WO_guardF rfl rfl hb215.h ?_
                          refine WO_guardF rfl rfl hb215.h ?_
                          refine WO_guardF rfl rfl hb215.h ?_
                          refine WO_guardF rfl rfl hb215.h ?_
                          refine WO_guardF rfl rfl hb215.h ?_
                          refine WO_p (PS_pickF rfl hb215.h rfl) ?_
                          refine WO_nil ?_
                          refine thn_normal ?_
                          refine W_condF rfl rfl ?_
                          refine W_skip ?_
                          refine thn_normal ?_
                          exact ⟨⟨rfl, rfl, rfl, rfl, rfl, rfl, trivial⟩, (by repeat (first | assumption | exact Ext.refl _ | refine Ext.alloc ?_ _ | refine Ext.drew ?_ | refine Ext.setB ?_ (by first | omega | (simp only [size_alloc, size_setB, size_drew]; omega)) _ | exact Ext.trans (by assumption) (by assumption) | refine Ext.trans ?_ (by assumption))), hrf0, fun h => by omega, fun h hc => by omega⟩
                    · have hb201p := hb201.h; try simp only [al_ete, al_dfn, Bool.not_eq_true', Bool.not_eq_false', al_ne, Bool.not_not, al_nn] at hb201p
                      have hrf0 : yrefP y g o = 0 := by unfold yrefP; rw [if_neg hn7, if_neg hn9, if_neg hn8, if_neg hncost, if_neg hn85, if_neg (by omega), if_neg (by omega)]
                      refine W_skip ?_
                      refine thn_normal ?_
                      exact ⟨⟨rfl, rfl, rfl, rfl, rfl, rfl, trivial⟩, (by repeat (first | assumption | exact Ext.refl _ | refine Ext.alloc ?_ _ | refine Ext.drew ?_ | refine Ext.setB ?_ (by first | omega | (simp only [size_alloc, size_setB, size_drew]; omega)) _ | exact Ext.trans (by assumption) (by assumption) | refine Ext.trans ?_ (by assumption))), hrf0, fun h => by omega, fun h => by omega⟩
                · rintro ρ wC ⟨hFr, hEC, hrf0, hj1, hj2⟩
                  refine W_env _ hFr ?_
                  have hzC := hEC.1
                  have hMC := hM.ext hEC
                  have hblkC := hMC.vs.blk
                  refine W_seq ?_
                  refine W_region rfl ?_
                  refine WO_p (PS_move_ptr rfl) ?_
                  refine WO_p (PS_nilCheck rfl) ?_
                  refine WO_p (PS_fieldAddr 7 Hvac.runUnderlying66 rfl Hvac.sizeOf26 rfl rfl) ?_
                  refine WO_load (.int _ _) Hvac.isAgg26 rfl (Hb.h (by repeat (first | assumption | exact Hb.newY _ _ | refine Hb.alloc ?_ | refine Hb.drew ?_ | refine Hb.ext (by assumption) ?_ | exact Hb.setSameL (by first | omega | (simp only [size_alloc, size_setB, size_drew]; omega)) | exact Hb.setSame (by assumption) | refine Hb.set (by first | omega | (simp only [size_alloc, size_setB, size_drew]; omega)) ?_ ))) (Ce.h (by first | assumption | exact ⟨rfl⟩)) ?_
                  refine WO_p (PS_move_int rfl) ?_
                  refine WO_p (PS_sub_u64n rfl rfl (by omega) (by omega)) ?_
                  refine WO_p (PS_nilCheck rfl) ?_
                  refine WO_p (PS_fieldAddr 7 Hvac.runUnderlying66 rfl Hvac.sizeOf26 rfl rfl) ?_
                  refine WO_store1 Hvac.sizeOf26 rfl (v := (.int _ _)) rfl (Hb.h (by repeat (first | assumption | exact Hb.newY _ _ | refine Hb.alloc ?_ | refine Hb.drew ?_ | refine Hb.ext (by assumption) ?_ | exact Hb.setSameL (by first | omega | (simp only [size_alloc, size_setB, size_drew]; omega)) | exact Hb.setSame (by assumption) | refine Hb.set (by first | omega | (simp only [size_alloc, size_setB, size_drew]; omega)) ?_ ))) rfl (by first | omega | assumption | rfl | decide | exact Nat.le_refl _ | (simp only [size_ic, Value.cells]; omega) | (simp; omega) | simp) rfl ?_
                  refine WO_nil ?_
                  refine thn_normal ?_
                  refine W_seq ?_
                  refine W_seq ?_
                  obtain ⟨hM9, hS9⟩ := hMC.putF_gas hf (f.gas - cost) (by omega)
                  have hRp := Rel.pay hRl hM hM9 (KC.pre hEC (KC.setC (KeepO.refl _ _) _)) hMI hf (cn := ycost y g o) hcoE (by omega)
                  obtain ⟨L9, hL9, hP9⟩ := hRp.ex
                  replace hS9 := (MStep.ext hEC).trans hS9
                  have hblk9 := hM9.vs.blk
                  have hT9 : MemT { m with frames := m.frames.set t { f with gas := f.gas - cost } } t lo n := ⟨hI.mtY, by omega, hlo, hhi, hlon, by show m.buf.2.1 ≤ 6000000; omega⟩
                  refine W_region rfl ?_
                  refine WO_p (PS_move_int rfl) ?_
                  refine WO_p (PS_move_int rfl) ?_
                  refine WO_p (PS_gtr rfl rfl) ?_
                  refine WO_p (PS_move_bool rfl) ?_
                  refine WO_if (t := 173) rfl (fun hb224 => ?_) (fun hb224 => ?_)
                  · have hb224p := hb224.h; try simp only [al_ete, al_dfn, Bool.not_eq_true', Bool.not_eq_false', al_ne, Bool.not_not, al_nn] at hb224p
                    have hwy : nw = ywords (yreach g o) := by have := reaches_ok hAr hM.ty hre; omega
                    refine WO_guardT rfl rfl hb224.h ?_
                    refine WO_p (PS_move_ptr rfl) ?_
                    refine WO_guardT rfl rfl hb224.h ?_
                    refine WO_p (PS_nilCheck rfl) ?_
                    refine WO_guardT rfl rfl hb224.h ?_
                    refine WO_p (PS_fieldAddr 1 Hvac.runUnderlying70 rfl Hvac.sizeOf59 rfl rfl) ?_
                    refine WO_guardT rfl rfl hb224.h ?_
                    refine WO_p (PS_move_int rfl) ?_
                    refine WO_guardT rfl rfl hb224.h ?_
                    refine WO_p (PS_conv_u32n Hvac.runUnderlying26 Hvac.runUnderlying56 rfl (by omega) (by omega)) ?_
                    refine WO_guardT rfl rfl hb224.h ?_
                    refine WO_call Hvac.call246 (by rfl) (Ret.mono (memGrow_ex C _ v B _ t lo n nw _ hM9 L9 hL9 hT9 (by omega) (by omega)) ?_)
                    rintro _ w10 ⟨rfl, s10, L10, hl10, hBX10, hlow10, hz10, hR10⟩
                    replace hl10 : s10.2.1 = max m.buf.2.1 (lo + 32 * nw) := hl10
                    obtain ⟨hpay, hgq⟩ := hI.pay hM.ty hf (c := cost) (buf' := s10) (base' := m.base.set (t + 1) ((lo + 32 * nw : Nat) : Int)) ⟨by omega, by omega⟩ (by omega) (Or.inr ⟨lo, nw, hlo, rfl, by omega, by omega, by rw [show (szOf m.base t + 31) / 32 = (n : Int) / 32 by omega]; have := hmd (by omega); omega⟩)
                    have hpc := hI.payc hM.ty hf (c := cost) (d := s + x) hsx (base' := m.base.set (t + 1) ((lo + 32 * nw : Nat) : Int)) (Or.inr ⟨lo, nw, hlo, rfl, by rw [show (szOf m.base t + 31) / 32 = (n : Int) / 32 by omega]; exact hmd (by omega)⟩)
                    obtain ⟨eb1, eb2⟩ := baseOf_set (b := m.base) (t := t) (x := ((lo + 32 * nw : Nat) : Int)) (by rw [hM.ty.base.1]; omega)
                    have eb3 := baseOf_some hlo
                    have hsz10 : 32 * (reachesW m f o).1 ≤ szOf (m.base.set (t + 1) ((lo + 32 * nw : Nat) : Int)) t := by unfold szOf; rw [eb1, eb2, eb3]; omega
                    refine WO_guardT rfl rfl hb224.h ?_
                    refine WO_p (PS_not rfl) ?_
                    refine WO_p (PS_pickT rfl hb224.h rfl) ?_
                    refine WO_nil ?_
                    refine thn_normal ?_
                    refine W_if rfl (fun hb228 => ?_) (fun hb228 => ?_)
                    · have hb228p := hb228.h; try simp only [al_ete, al_dfn, Bool.not_eq_true', Bool.not_eq_false', al_ne, Bool.not_not, al_nn] at hb228p
                      simp_all --END
                    · have hb228p := hb228.h; try simp only [al_ete, al_dfn, Bool.not_eq_true', Bool.not_eq_false', al_ne, Bool.not_not, al_nn] at hb228p
                      refine W_skip ?_
                      refine thn_normal ?_
                      refine W_seq ?_
                      refine W_region rfl ?_
                      refine WO_p (PS_assign_bool rfl) ?_
                      refine WO_nil ?_
                      refine thn_normal ?_
                      refine W_ret ?_
                      refine bodyQ_ret1 Hvac.results174 rfl (.bool _) rfl ?_
                      obtain ⟨c10, B10, hM10, hS10⟩ := hR10; exact Or.inr ⟨rfl, _, cost, ⟨_, _, hM10, hS9.trans hS10⟩, ⟨hpay, hset _, by omega, fun _ => ⟨x, ⟨hdyn.b0, hdyn.acc0, hdyn.acc1, hdyn.val, hdyn.sload, hdyn.sst, hdyn.dst⟩, hsx⟩, fun _ => ⟨hre, hsz10⟩, hcrd, hj1, hj2, fun _ => ⟨x, ⟨hdyn.b0, hdyn.acc0, hdyn.acc1, hdyn.val, hdyn.sload, hdyn.sst, hdyn.dst⟩, hsx, hpc⟩⟩, hgq, hrf0, by rw [yGo_yes (by rw [hnM, ← hwy]; omega), ← hwy]; exact Rel.grow hP9 hM9 hS10 hL9 ⟨hMB.lo, hMB.sz, hMB.low, hMB.buf⟩ htl (hMI.pay hf) (hset _) (by omega) hl10 hBX10 hlow10 hz10 hM.ty.base.1⟩
                  · have hb224p := hb224.h; try simp only [al_ete, al_dfn, Bool.not_eq_true', Bool.not_eq_false', al_ne, Bool.not_not, al_nn] at hb224p
                    obtain ⟨hpay, hgq⟩ := hI.pay hM.ty hf (c := cost) (buf' := m.buf) (base' := m.base) ⟨by omega, by omega⟩ hbl0 (Or.inl ⟨rfl, rfl⟩)
                    have hpc := hI.payc hM.ty hf (c := cost) (d := s + x) hsx (base' := m.base) (Or.inl rfl)
                    refine WO_guardF rfl rfl hb224.h ?_
                    refine WO_guardF rfl rfl hb224.h ?_
                    refine WO_guardF rfl rfl hb224.h ?_
                    refine WO_guardF rfl rfl hb224.h ?_
                    refine WO_guardF rfl rfl hb224.h ?_
                    refine WO_guardF rfl rfl hb224.h ?_
                    refine WO_guardF rfl rfl hb224.h ?_
                    refine WO_p (PS_pickF rfl hb224.h rfl) ?_
                    refine WO_nil ?_
                    refine thn_normal ?_
                    refine W_condF rfl rfl ?_
                    refine W_skip ?_
                    refine thn_normal ?_
                    refine W_seq ?_
                    refine W_region rfl ?_
                    refine WO_p (PS_assign_bool rfl) ?_
                    refine WO_nil ?_
                    refine thn_normal ?_
                    refine W_ret ?_
                    refine bodyQ_ret1 Hvac.results174 rfl (.bool _) rfl ?_
                    exact Or.inr ⟨rfl, _, cost, ⟨_, _, hM9, hS9⟩, ⟨hpay, hset _, by omega, fun _ => ⟨x, ⟨hdyn.b0, hdyn.acc0, hdyn.acc1, hdyn.val, hdyn.sload, hdyn.sst, hdyn.dst⟩, hsx⟩, fun _ => ⟨hre, by show 32 * (reachesW m f o).1 ≤ szOf m.base t; omega⟩, hcrd, hj1, hj2, fun _ => ⟨x, ⟨hdyn.b0, hdyn.acc0, hdyn.acc1, hdyn.val, hdyn.sload, hdyn.sst, hdyn.dst⟩, hsx, hpc⟩⟩, hgq, hrf0, by rw [yGo_no (by rw [hnM]; have := reaches_ok hAr hM.ty hre; omega)]; exact hRp⟩

end Go.Proofs.YgvacwGreat
