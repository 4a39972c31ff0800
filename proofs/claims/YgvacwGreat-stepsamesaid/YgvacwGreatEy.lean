import Derived.Test.YgvacwGreatEx
import Derived.Test.YgvacwGreatEg
namespace Go.Proofs.YgvacwGreat
set_option linter.unusedSimpArgs false
set_option linter.unusedVariables false
theorem RI.snle {scan : List Int → List Int} {v : V} {m : Mc} {t : Nat} {c S : Int} (h : RI scan v m t c S) {f : Fm} (hf : m.frames[t]? = some f) : ∀ i f', i ≤ t → m.frames[i]? = some f' → 0 ≤ f'.snap ∧ f'.snap ≤ f.snap := by
  have hl := lt_of_getElem? hf
  have key : ∀ k i f', i + k = t → m.frames[i]? = some f' → f'.snap ≤ f.snap := by
    intro k
    induction k with
    | zero => intro i f' hi hf'; rw [show i = t by omega, hf] at hf'; rw [Option.some.inj hf']; exact Int.le_refl _
    | succ k ih =>
      intro i f' hi hf'
      obtain ⟨f2, hf2⟩ : ∃ x, m.frames[i + 1]? = some x := ⟨_, List.getElem?_eq_getElem (by omega)⟩
      have h1 := h.sm i f' f2 (by omega) hf' hf2
      have h2 := ih (i + 1) f2 (by omega) hf2
      omega
  intro i f' hi hf'
  exact ⟨(h.sn i f' hi hf').1, key (t - i) i f' (by omega) hf'⟩
theorem lvX_lo {w' : World} {v2 : V} {m : Mc} {g : PF} {LA LB : Nat × Nat × List Int × PSt} {fs : List PF} {g2 st2 : Int} {o2 : SV} (hLB : ylvB g LA = LB) (h : g2 = (LA.1 : Int) ∧ st2 = (LA.2.1 : Int) ∧ rdB w' o2 = LA.2.2.1 ∧ Rel w' v2 m (LA.2.2.2, fs)) (hs : st2 ≤ 1) : g2 = (LB.1 : Int) ∧ st2 = (LB.2.1 : Int) ∧ rdB w' o2 = LB.2.2.1 ∧ Rel w' v2 m (LA.2.2.2, fs) := by
  obtain ⟨h1, h2, h3, h4⟩ := h
  have hn : ¬ 1 < LA.2.1 := by omega
  subst hLB
  refine ⟨?_, h2, ?_, h4⟩
  · show g2 = ((if 1 < LA.2.1 then 0 else LA.1 : Nat) : Int); rw [if_neg hn]; exact h1
  · show _ = if 1 < LA.2.1 then [] else LA.2.2.1; rw [if_neg hn]; exact h3
theorem lvX_hi {w' : World} {v2 : V} {m : Mc} {g : PF} {LA LB : Nat × Nat × List Int × PSt} {fs : List PF} {g2 st2 : Int} {o2 : SV} (hLB : ylvB g LA = LB) (h : g2 = (LA.1 : Int) ∧ st2 = (LA.2.1 : Int) ∧ rdB w' o2 = LA.2.2.1 ∧ Rel w' v2 m (LA.2.2.2, fs)) (hs : 1 < st2) : (0 : Int) = (LB.1 : Int) ∧ st2 = (LB.2.1 : Int) ∧ rdB w' (none, 0, 0) = LB.2.2.1 ∧ Rel w' v2 m (LA.2.2.2, fs) := by
  obtain ⟨h1, h2, h3, h4⟩ := h
  have hn : 1 < LA.2.1 := by omega
  subst hLB
  refine ⟨?_, h2, ?_, h4⟩
  · show (0 : Int) = ((if 1 < LA.2.1 then 0 else LA.1 : Nat) : Int); rw [if_pos hn]; rfl
  · show _ = if 1 < LA.2.1 then [] else LA.2.2.1; rw [if_pos hn]; exact rdB_nil _ _ _
theorem lvB_y {g : PF} {LA LB : Nat × Nat × List Int × PSt} (hLB : ylvB g LA = LB) : LB.2.2.2 = if LA.2.1 ≠ 0 then { LA.2.2.2 with now := g.saved } else LA.2.2.2 := by subst hLB; rfl
theorem deposit_exG (pf : PF) (gI : Int) (s : SV) (L : List Int) (w : World) (hgI : gI = (pf.gas : Int)) (hg : pf.gas ≤ 18446744073709551615) (hs : SC w .u8 1 s L) (hL : By8 L) (hl : s.2.1 ≤ 1000000) : Ret Hvac.prog 230 #[.int .u64 gI, .slice s.1 s.2.1 s.2.2] w fun u w' => Ext w w' ∧ ∃ r st, u = .tuple #[.int .u64 r, .int .u8 st] ∧ r = ((ydep pf L).1 : Int) ∧ st = ((ydep pf L).2 : Int) ∧ ((st = 0 ∧ r = gI - 200 * s.2.1 ∧ 200 * (s.2.1 : Int) ≤ gI ∧ s.2.1 ≤ 256) ∨ (r = 0 ∧ 2 ≤ st ∧ st ≤ 11)) := by
  subst hgI
  refine Ret.mono (deposit_ex pf s L w hg hs hL hl) ?_
  rintro u w' ⟨h1, h2⟩
  refine ⟨h1, _, _, h2, rfl, rfl, ?_⟩
  have hn := hs.1
  unfold ydep
  split
  · exact Or.inr ⟨rfl, by decide, by decide⟩
  · split
    · exact Or.inr ⟨rfl, by decide, by decide⟩
    · split
      · exact Or.inr ⟨rfl, by decide, by decide⟩
      · exact Or.inl ⟨rfl, by simp only; omega, by omega, by omega⟩
theorem Rel.fin_end [Om] {wC W : World} {C : Nat} {c3 ce : Array Value} {v3 : V} {B3 Be : VB} {m me : Mc} {β : Option Nat} {y : PSt} {g : PF} {sn : Nat} {Lo : List Int} {LA LB : Nat × Nat × List Int × PSt} {x g2 st2 : Int} {o2 : SV} {f : Fm} (hR : Rel wC v3 { m with mtop := x } (LB.2.2.2, [] ++ [g])) (hM : MS wC C c3 v3 B3 { m with mtop := x }) (hMe : MS W C ce v3 Be me) (hK : KeepO (fun b => b = C) wC W) (hLA : ylvA y g sn Lo = LA) (hLB : ylvB g LA = LB) (hf : m.frames[0]? = some f) (hg : g2 = (LB.1 : Int)) (ho : rdB wC o2 = LB.2.2.1) (hb : BS wC β o2) : Rel W v3 (m.popE f g2 st2 o2) (yleave y [] g sn Lo) := by
  have k5 : KT 5 wC W := KC.kt hK hM.vs.blk (by decide)
  have k28 : KT 28 wC W := KC.kt hK hM.vs.blk (by decide)
  obtain ⟨L, hL, hP⟩ := (hR.kt hM k5 k28).ex
  have hoW : rdB W o2 = LB.2.2.1 := ((hb.rd.kt k5).rd).trans ho
  rw [yleave_nil, hLA, hLB]
  have := RelP.ended (st2 := st2) (sn := LB.2.1) (o2 := o2) hP hf hg
  rw [hoW] at this
  exact ⟨L, hL, this⟩
theorem Rel.fin_pop [Om] {wC W : World} {C : Nat} {c3 c6 : Array Value} {v3 : V} {B3 B6 : VB} {m : Mc} {β : Option Nat} {rr : List PF} {ppY g : PF} {LB : Nat × Nat × List Int × PSt} {x g2 : Int} {o2 : SV} {s : Nat} {p : Fm} (hR : Rel wC v3 { m with mtop := x } (LB.2.2.2, (rr ++ [ppY]) ++ [g])) (hM : MS wC C c3 v3 B3 { m with mtop := x }) (hM6 : MS W C c6 v3 B6 ({ m with mtop := ((s + 1 : Nat) : Int), ret := o2, top := ((s + 1 : Nat) : Int) - 1, frames := m.frames.set s { p with gas := p.gas + g2 } } : Mc)) (hK : KeepO (fun b => b = C) wC W) (hp : m.frames[s]? = some p) (hg : g2 = (LB.1 : Int)) (ho : rdB wC o2 = LB.2.2.1) (hb : BS wC β o2) (hsr : s = rr.length) (hph : m.phase = 1) :
    Rel W v3 ({ m with mtop := ((s + 1 : Nat) : Int), ret := o2, top := ((s + 1 : Nat) : Int) - 1, frames := m.frames.set s { p with gas := p.gas + g2 } } : Mc) ({ LB.2.2.2 with ret := LB.2.2.1 }, rr ++ [{ ppY with gas := ppY.gas + LB.1 }]) := by
  have k5 : KT 5 wC W := KC.kt hK hM.vs.blk (by decide)
  have k28 : KT 28 wC W := KC.kt hK hM.vs.blk (by decide)
  obtain ⟨L, hL, hP⟩ := (hR.kt hM k5 k28).ex
  have hoW : rdB W o2 = LB.2.2.1 := ((hb.rd.kt k5).rd).trans ho
  have := hP.pop (m' := ({ m with mtop := ((s + 1 : Nat) : Int), ret := o2, top := ((s + 1 : Nat) : Int) - 1, frames := m.frames.set s { p with gas := p.gas + g2 } } : Mc)) (o2 := o2) hsr hp hph hg ⟨rfl, rfl, rfl, rfl, rfl, rfl, rfl, rfl, rfl, rfl⟩ rfl rfl rfl (by show ((s + 1 : Nat) : Int) - 1 = (s : Int); omega) rfl
  rw [hoW] at this
  exact ⟨L, hL, this⟩
theorem Rel.fin_wr [Om] {wD w12 : World} {C : Nat} {c6 : Array Value} {v3 : V} {B3 B7 : VB} {M4 : Mc} {Y : PSt} {rr : List PF} {ppY PPg : PF} {L OL : List Int} {s lo n nn : Nat} {p fp : Fm} {o2 : SV} (hP : RelP (rdB wD) (rdH wD M4.ehash) L v3 M4 Y (rr ++ [PPg])) (hM : MS wD C c6 v3 B3 M4) (hS : MStep wD w12 C B3 M4 B7 M4) (hBX : BufX wD M4.buf L) (hMB : MB_ M4 s lo n) (hsr : s = rr.length) (hMI : MI M4 s) (hf : M4.frames[s]? = some fp) (hBOl : (rdB wD o2).length = o2.2.1) (hnn : nn = min p.outLen.toNat o2.2.1) (hn0 : 0 < nn) (hoD : rdB wD o2 = OL) (hpo : p.outOff = (ppY.outOff : Int)) (hpl : p.outLen = (ppY.outLen : Int)) (hb : ppY.outLen < 18446744073709551616) (hoff : p.outOff.toNat + nn ≤ n) (hL : BufX w12 M4.buf (mid L (lo + p.outOff.toNat) (ycut (rdB wD o2) 0 nn))) :
    Rel w12 v3 M4 (Y, rr ++ [if 0 < min (ysmall ppY.outLen).toNat OL.length then ywrite PPg ppY.outOff (OL.take (min (ysmall ppY.outLen).toNat OL.length)) else PPg]) := by
  have h1 := Rel.write hP hM hS hBX hMB hsr hMI hf (by rw [ycut_len]; exact hoff) hL
  have e1 : (ysmall ppY.outLen).toNat = ppY.outLen := by rw [ysmall_eq hb]; exact Int.toNat_natCast _
  have e2 : min (ysmall ppY.outLen).toNat OL.length = nn := by rw [e1, ← hoD, hBOl, hnn, hpl, Int.toNat_natCast]
  rw [e2, if_pos hn0]
  rw [hpo, Int.toNat_natCast, hoD, ycut_zero (by rw [← hoD, hBOl]; omega)] at h1
  exact h1
theorem Rel.fin_back [Om] {wF w13 : World} {C : Nat} {c7 : Array Value} {v3 : V} {B7 : VB} {M4 : Mc} {Y : PSt} {rr : List PF} {ppY g : PF} {LB : Nat × Nat × List Int × PSt} {s : Nat} {fp : Fm} {W : List Int} (hR : Rel wF v3 M4 (Y, rr ++ [(if 0 < min (ysmall ppY.outLen).toNat LB.2.2.1.length then ywrite { ppY with gas := ppY.gas + LB.1 } ppY.outOff (LB.2.2.1.take (min (ysmall ppY.outLen).toNat LB.2.2.1.length)) else { ppY with gas := ppY.gas + LB.1 })])) (hM : MS wF C c7 v3 B7 M4) (hMI : MI M4 s) (hf : M4.frames[s]? = some fp) (hK : KeepO (fun b => b = C) wF w13) (hW : wn W = (if LB.2.1 = 0 then (if ycreates g.kind = true then bvY g.self else 1) else 0)) (hsp : fp.sp < 64) :
    Rel w13 v3 (M4.settle s fp 0 true W 1) (Y, rr ++ [yback ppY g LB.2.1 LB.1 LB.2.2.1]) := by
  have h1 := hR.settle hM hMI hf (KC.kt hK hM.vs.blk (by decide)) (KC.kt hK hM.vs.blk (by decide)) (k := 0) (st := 1) (gv := true) (W := W) (by have := (hM.ty.frames.2 fp (List.mem_of_getElem? hf)).sp.1; omega) (fun _ => by omega)
  rw [hW] at h1
  exact h1
theorem RI.mi4 {scan : List Int → List Int} {v : V} {m : Mc} {s : Nat} {c S : Int} (h : RI scan v m (s + 1) c S) {p : Fm} (hp : m.frames[s]? = some p) (hty : MTy m) {g2 : Int} {o2 : SV} : MI ({ m with mtop := ((s + 1 : Nat) : Int), ret := o2, top := ((s + 1 : Nat) : Int) - 1, frames := m.frames.set s { p with gas := p.gas + g2 } } : Mc) s := by
  refine ⟨h.ph, by show ((s + 1 : Nat) : Int) - 1 = (s : Int); omega, by have := h.t6; omega, fun i f hi hf => ?_⟩
  have hf' : (m.frames.set s { p with gas := p.gas + g2 })[i]? = some f := hf
  rcases getElem?_setD hp hf' with ⟨h1, h2⟩ | ⟨h1, h2⟩
  · exact ⟨(h.fr i f (by omega) h2).sb, (h.fr i f (by omega) h2).sp⟩
  · subst h1; subst h2
    exact ⟨(h.fr i p (by omega) hp).sb, (h.fr i p (by omega) hp).sp⟩
theorem RI.mb4 {scan : List Int → List Int} {v : V} {m : Mc} {s lo n : Nat} {c S : Int} (h : RI scan v m (s + 1) c S) (hty : MTy m) (hlo : m.base[s]? = some (lo : Int)) (hn : szOf m.base s = (n : Int)) (hb : lo + n ≤ m.buf.2.1) {p : Fm} {g2 : Int} {o2 : SV} : MB_ ({ m with mtop := ((s + 1 : Nat) : Int), ret := o2, top := ((s + 1 : Nat) : Int) - 1, frames := m.frames.set s { p with gas := p.gas + g2 } } : Mc) s lo n := by
  refine ⟨baseOf_some hlo, hn, fun i hi => ⟨baseOf_nn hty i, (h.bs i (by omega)).1, ?_⟩, hb⟩
  have := base_mono (t := s) (fun i hi => (h.bs i (by omega)).1) (s - (i + 1)) (i + 1) (by omega)
  rw [show i + 1 + (s - (i + 1)) = s by omega, baseOf_some hlo] at this
  show baseOf m.base i + szOf m.base i ≤ _
  unfold szOf; omega

set_option maxRecDepth 10000 in
set_option maxHeartbeats 4000000 in
theorem end_ex [Om] (scan : List Int → List Int) (C : Nat) (c : Array Value) (v : V) (B : VB) (m : Mc) (t : Nat) (f : Fm) (cr S st : Int) (out : SV) (w : World) (hM : MS w C c v B m) (hf : m.frames[t]? = some f) (hI : RI scan v m t cr S) (hst : 0 ≤ st ∧ st ≤ 11) (ho : BS w (bb m) out) (hol : out.2.1 ≤ 717280 ∧ out.2.1 ≤ out.2.2) (y : PSt) (rest : List PF) (g : PF) (hRl : Rel w v m (y, rest ++ [g])) (sn : Nat) (hsN : st = (sn : Int)) : Ret Hvac.prog 172 #[.pointer (some ⟨C, 0, none⟩), .int .u8 st, .slice out.1 out.2.1 out.2.2] w fun _ w' => ∃ v' m', MRet w C B m w' v' m' ∧ ((t = 0 ∧ EI v' m' S ∧ gasOf m'.frames 0 ≤ f.gas) ∨ (∃ s, t = s + 1 ∧ RI scan v' m' s 0 S ∧ gasTo m'.frames (s + 1) ≤ gasTo m.frames (t + 1))) ∧ Rel w' v' m' (yleave y rest g sn (rdB w out)) := by
  have hMI := hI.mi
  have htl := hRl.len hMI
  obtain ⟨Lm0, hLm0, hFP, hRP⟩ := hRl.top hMI hf
  have hmk : makes f.kind = ycreates g.kind := makes_y hFP.kind
  obtain ⟨LA, hLA⟩ : ∃ a, ylvA y g sn (rdB w out) = a := ⟨_, rfl⟩
  obtain ⟨LB, hLB⟩ : ∃ b, ylvB g LA = b := ⟨_, rfl⟩
  have hB1 : LB.2.1 = LA.2.1 := by rw [← hLB]; rfl
  have hsnl := hI.snle hf
  have hR := hI.run hf
  have hA := hR.fa
  have hblk := hM.vs.blk
  have hCl := hblk.lt
  have hcs := hM.sz
  have hc_s := hM.rep.s
  obtain ⟨ht7, hfty, hF⟩ := hM.openF hf
  have hf_gas := hF.gas
  have hf_kind := hF.kind
  have hf_self := hF.self
  have hgt := hfty.gas
  have hkt := hfty.kind
  have hvi := hI.ti.vi
  have hen := (hI.fr t f (Nat.le_refl _) hf).en
  have hgb := gas_bd hI hM.ty
  have hgf := gasOf_some hf
  have hlj := hI.rw_.j
  have hty := hM.ty
  have htot := hgb (t + 1) (Nat.le_refl _)
  have hpre := hgb t (by omega)
  have hsum : gasTo m.frames (t + 1) = gasTo m.frames t + f.gas := by simp only [gasTo, hgf]
  have hgs := hI.gs
  have hc0 := hI.c0
  have htx := hI.ti.tx
  have hlm := hI.ti.lm
  have hjl : v.journal.length < 65536 := by have := hI.rw_.s0; omega
  refine Ret_of_W Hvac.func172 rfl rfl ?_
  refine W_seq ?_
  refine W_region rfl ?_
  refine WO_p (PS_move_ptr rfl) ?_
  refine WO_call Hvac.call95 (by rfl) (Ret.mono (running_spec C c v B m t f _ hM hR) ?_)
  rintro _ w0 ⟨hE0, rfl⟩
  have hz0 := hE0.1
  try simp only [size_alloc, size_setB, size_drew] at hz0
  have hblk0 := hblk.ext hE0
  refine WO_p (PS_assign_ptr rfl) ?_
  refine WO_nil ?_
  refine thn_normal ?_
  refine W_seq ?_
  refine W_seq ?_
  refine W_region rfl ?_
  refine WO_p (PS_move_ptr rfl) ?_
  refine WO_p (PS_eqlnil Hvac.underlying187 rfl) ?_
  refine WO_nil ?_
  refine thn_normal ?_
  refine W_if rfl (fun hb3 => ?_) (fun hb3 => ?_)
  · have hb3p := hb3.h; try simp only [al_ete, al_dfn, Bool.not_eq_true', Bool.not_eq_false', al_ne, Bool.not_not, al_nn] at hb3p
    simp at hb3p --END
  · have hb3p := hb3.h; try simp only [al_ete, al_dfn, Bool.not_eq_true', Bool.not_eq_false', al_ne, Bool.not_not, al_nn] at hb3p
    refine W_skip ?_
    refine thn_normal ?_
    refine W_seq ?_
    refine W_region rfl ?_
    refine WO_p (PS_move_ptr rfl) ?_
    refine WO_p (PS_nilCheck rfl) ?_
    refine WO_p (PS_fieldAddr 7 Hvac.runUnderlying66 rfl Hvac.sizeOf26 rfl rfl) ?_
    refine WO_load (.int _ _) Hvac.isAgg26 rfl (Hb.h (by repeat (first | assumption | exact Hb.newY _ _ | refine Hb.alloc ?_ | refine Hb.drew ?_ | refine Hb.ext (by assumption) ?_ | exact Hb.setSameL (by first | omega | (simp only [size_alloc, size_setB, size_drew]; omega)) | exact Hb.setSame (by assumption) | refine Hb.set (by first | omega | (simp only [size_alloc, size_setB, size_drew]; omega)) ?_ ))) (Ce.h (by first | assumption | exact ⟨rfl⟩)) ?_
    refine WO_p (PS_assign_int rfl) ?_
    refine WO_nil ?_
    refine thn_normal ?_
    refine W_seq ?_
    refine W_region rfl ?_
    refine WO_p (PS_move_ptr rfl) ?_
    refine WO_p (PS_nilCheck rfl) ?_
    refine WO_p (PS_fieldAddr 0 Hvac.runUnderlying66 rfl Hvac.sizeOf5 rfl rfl) ?_
    refine WO_load (.int _ _) Hvac.isAgg5 rfl (Hb.h (by repeat (first | assumption | exact Hb.newY _ _ | refine Hb.alloc ?_ | refine Hb.drew ?_ | refine Hb.ext (by assumption) ?_ | exact Hb.setSameL (by first | omega | (simp only [size_alloc, size_setB, size_drew]; omega)) | exact Hb.setSame (by assumption) | refine Hb.set (by first | omega | (simp only [size_alloc, size_setB, size_drew]; omega)) ?_ ))) (Ce.h (by first | assumption | exact ⟨rfl⟩)) ?_
    refine WO_call Hvac.call157 (by rfl) (Ret.mono (creates_spec _ _ (by omega)) ?_)
    rintro _ w157_3 ⟨hE157_3, rfl⟩
    have hz157_3 := hE157_3.1
    try simp only [size_alloc, size_setB, size_drew] at hz157_3
    refine WO_p (PS_assign_bool rfl) ?_
    refine WO_nil ?_
    refine thn_normal ?_
    refine W_seqJ (fun ρ w' => ∃ (g2 st2 : Int) (o2 : SV) (v2 : V) (c2 : Array Value) (B2 : VB), Fr [(0, .pointer (some ⟨C, 0, none⟩)), (6, .pointer (some ⟨C, 1803 + t * 65, none⟩)), (7, .int .u64 g2), (1, .int .u8 st2), (2, .slice o2.1 o2.2.1 o2.2.2), (8, .bool (makes f.kind))] ρ ∧ MS w' C c2 v2 B2 m ∧ MStep w w' C B m B2 m ∧ (0 ≤ st2 ∧ st2 ≤ 11) ∧ (0 ≤ g2 ∧ g2 ≤ f.gas) ∧ BS w' (bb m) o2 ∧ (o2.2.1 ≤ 717280 ∧ o2.2.1 ≤ o2.2.2) ∧ (g2 = (LA.1 : Int) ∧ st2 = (LA.2.1 : Int) ∧ rdB w' o2 = LA.2.2.1 ∧ Rel w' v2 m (LA.2.2.2, rest ++ [g])) ∧ ∃ dj : Nat, Calm v v2 dj ∧ 25 * (dj : Int) ≤ f.gas - g2) ?_ ?_
    · skip
      refine W_seq ?_
      refine W_region rfl ?_
      refine WO_p (PS_move_bool rfl) ?_
      refine WO_p (PS_move_bool rfl) ?_
      refine WO_if (t := 28) rfl (fun hb6 => ?_) (fun hb6 => ?_)
      · have hb6p := hb6.h; try simp only [al_ete, al_dfn, Bool.not_eq_true', Bool.not_eq_false', al_ne, Bool.not_not, al_nn] at hb6p
        have hmk1 : ycreates g.kind = true := by rw [← hmk]; simpa using hb6p
        refine WO_guardT rfl rfl hb6.h ?_
        refine WO_p (PS_move_int rfl) ?_
        refine WO_guardT rfl rfl hb6.h ?_
        refine WO_p (PS_eql rfl rfl) ?_
        refine WO_p (PS_pickT rfl hb6.h rfl) ?_
        refine WO_nil ?_
        refine thn_normal ?_
        refine W_if rfl (fun hb8 => ?_) (fun hb8 => ?_)
        · have hb8p := hb8.h; try simp only [al_ete, al_dfn, Bool.not_eq_true', Bool.not_eq_false', al_ne, Bool.not_not, al_nn] at hb8p
          refine W_seq ?_
          obtain ⟨Lo, hLoe⟩ : ∃ L, rdB w out = L := ⟨_, rfl⟩
          have hbxo := ho.rd
          rw [hLoe] at hbxo
          have hosc := hbxo.sc
          have hoL : By8 Lo := hbxo.by_
          have hLol := hosc.1
          refine W_region rfl ?_
          refine WO_p (PS_move_int rfl) ?_
          refine WO_p (PS_move_slice rfl) ?_
          refine WO_call Hvac.call230 (by rfl) (Ret.mono (deposit_exG g _ out Lo _ hFP.gas (by have := hFP.gas; omega) (SC.ext hosc (by repeat (first | assumption | exact Ext.refl _ | refine Ext.alloc ?_ _ | refine Ext.drew ?_ | refine Ext.setB ?_ (by first | omega | (simp only [size_alloc, size_setB, size_drew]; omega)) _ | exact Ext.trans (by assumption) (by assumption) | refine Ext.trans ?_ (by assumption)))) hoL (by omega)) ?_)
          rintro _ w1 ⟨hE1, r1, s1, rfl, hr1, hs1, hdep⟩
          have hz1 := hE1.1
          try simp only [size_alloc, size_setB, size_drew] at hz1
          refine WO_p (PS_move_tuple rfl) ?_
          refine WO_p (PS_extract_int rfl rfl) ?_
          refine WO_p (PS_extract_int rfl rfl) ?_
          refine WO_p (PS_assign_int rfl) ?_
          refine WO_p (PS_assign_int rfl) ?_
          refine WO_nil ?_
          refine thn_normal ?_
          refine W_seq ?_
          refine W_region rfl ?_
          refine WO_p (PS_move_int rfl) ?_
          refine WO_p (PS_eql rfl rfl) ?_
          refine WO_nil ?_
          refine thn_normal ?_
          refine W_if rfl (fun hb11 => ?_) (fun hb11 => ?_)
          · have hb11p := hb11.h; try simp only [al_ete, al_dfn, Bool.not_eq_true', Bool.not_eq_false', al_ne, Bool.not_not, al_nn] at hb11p
            refine W_seq ?_
            refine W_seq ?_
            refine W_drawE [false, false, false, false, false, false, false, false, false, false, false, false, false, false, false, false] hmix (by kernel_rfl) rfl ?_
            refine WH_p (PS_move_slice rfl) rfl ?_
            refine WH_p (PS_lenS Hvac.runUnderlying32 rfl) rfl ?_
            refine WH_p (PS_gtr rfl rfl) rfl ?_
            refine WH_p (PS_move_bool rfl) rfl ?_
            refine WH_if (t := 43) rfl (fun hb13 => ?_) (fun hb13 => ?_)
            · have hb13p := hb13.h; try simp only [al_ete, al_dfn, Bool.not_eq_true', Bool.not_eq_false', al_ne, Bool.not_not, al_nn] at hb13p
              have hlp : 0 < Lo.length := by omega
              have hYA : LA = ((ydep g Lo).1, (ydep g Lo).2, [], ysAccts y (yput y.now.accts { yacct y.now.accts g.self with code := Lo })) := by rw [← hLA, hLoe, ylvA_dep ⟨hmk1, by omega⟩, if_pos (by omega), if_pos hlp]
              refine WH_guardT rfl rfl hb13.h ?_
              refine WH_p (PS_move_ptr rfl) rfl ?_
              refine WH_guardT rfl rfl hb13.h ?_
              refine WH_p (PS_nilCheck rfl) rfl ?_
              refine WH_guardT rfl rfl hb13.h ?_
              refine WH_p (PS_fieldAddr 0 Hvac.runUnderlying70 rfl Hvac.sizeOf55 rfl rfl) rfl ?_
              refine WH_guardT rfl rfl hb13.h ?_
              refine WH_load (.pointer _) Hvac.isAgg55 rfl (Hb.h (by repeat (first | assumption | exact Hb.newY _ _ | refine Hb.alloc ?_ | refine Hb.drew ?_ | refine Hb.ext (by assumption) ?_ | exact Hb.setSameL (by first | omega | (simp only [size_alloc, size_setB, size_drew]; omega)) | exact Hb.setSame (by assumption) | refine Hb.set (by first | omega | (simp only [size_alloc, size_setB, size_drew]; omega)) ?_ ))) (Ce.h (by first | assumption | exact ⟨rfl⟩)) ?_
              refine WH_guardT rfl rfl hb13.h ?_
              refine WH_p (PS_move_ptr rfl) rfl ?_
              refine WH_guardT rfl rfl hb13.h ?_
              refine WH_p (PS_nilCheck rfl) rfl ?_
              refine WH_guardT rfl rfl hb13.h ?_
              refine WH_p (PS_fieldAddr 9 Hvac.runUnderlying66 rfl Hvac.sizeOf25 rfl rfl) rfl ?_
              refine WH_guardT rfl rfl hb13.h ?_
              refine WH_loadA _ Hvac.isAgg25 Hvac.sizeOf25 rfl (Hb.h (by repeat (first | assumption | exact Hb.newY _ _ | refine Hb.alloc ?_ | refine Hb.drew ?_ | refine Hb.ext (by assumption) ?_ | exact Hb.setSameL (by first | omega | (simp only [size_alloc, size_setB, size_drew]; omega)) | exact Hb.setSame (by assumption) | refine Hb.set (by first | omega | (simp only [size_alloc, size_setB, size_drew]; omega)) ?_ ))) (by first | omega | assumption | rfl | decide | exact Nat.le_refl _ | (simp only [size_ic, Value.cells]; omega) | (simp; omega) | simp) (Xt.h (by first | assumption | exact Xt.whole rfl rfl | exact Xt.whole rfl (by assumption) | exact Xt.whole rfl (by simp only [size_ic, Value.cells]; omega) | exact ⟨rfl⟩)) ?_
              refine WH_guardT rfl rfl hb13.h ?_
              refine WH_p (PS_move_slice rfl) rfl ?_
              refine WH_guardT rfl rfl hb13.h ?_
              refine WH_call Hvac.call231 (by rfl) (Ret.mono (putCode_ex C c v B (bb m) f.self out Lo _ (VS.ext hM.vs (by repeat (first | assumption | exact Ext.refl _ | refine Ext.alloc ?_ _ | refine Ext.drew ?_ | refine Ext.setB ?_ (by first | omega | (simp only [size_alloc, size_setB, size_drew]; omega)) _ | exact Ext.trans (by assumption) (by assumption) | refine Ext.trans ?_ (by assumption)))) hfty.self (SC.ext hosc (by repeat (first | assumption | exact Ext.refl _ | refine Ext.alloc ?_ _ | refine Ext.drew ?_ | refine Ext.setB ?_ (by first | omega | (simp only [size_alloc, size_setB, size_drew]; omega)) _ | exact Ext.trans (by assumption) (by assumption) | refine Ext.trans ?_ (by assumption)))) hoL (bb_lt (MS.ext hM (by repeat (first | assumption | exact Ext.refl _ | refine Ext.alloc ?_ _ | refine Ext.drew ?_ | refine Ext.setB ?_ (by first | omega | (simp only [size_alloc, size_setB, size_drew]; omega)) _ | exact Ext.trans (by assumption) (by assumption) | refine Ext.trans ?_ (by assumption))))) (BS.notown hM ho)) ?_)
              rintro _ w8 ⟨s8, hl8, hn8, rfl, hR8, hrd8⟩
              refine ⟨(fun h => by cases h), ?_⟩
              have hKv8 := VRet.kts (MS.ext hM (by repeat (first | assumption | exact Ext.refl _ | refine Ext.alloc ?_ _ | refine Ext.drew ?_ | refine Ext.setB ?_ (by first | omega | (simp only [size_alloc, size_setB, size_drew]; omega)) _ | exact Ext.trans (by assumption) (by assumption) | refine Ext.trans ?_ (by assumption)))).vs hR8
              have hK8a : KT 5 w w8 := (KT.ext (by repeat (first | assumption | exact Ext.refl _ | refine Ext.alloc ?_ _ | refine Ext.drew ?_ | refine Ext.setB ?_ (by first | omega | (simp only [size_alloc, size_setB, size_drew]; omega)) _ | exact Ext.trans (by assumption) (by assumption) | refine Ext.trans ?_ (by assumption)))).trans hKv8.1
              have hK8b : KT 28 w w8 := (KT.ext (by repeat (first | assumption | exact Ext.refl _ | refine Ext.alloc ?_ _ | refine Ext.drew ?_ | refine Ext.setB ?_ (by first | omega | (simp only [size_alloc, size_setB, size_drew]; omega)) _ | exact Ext.trans (by assumption) (by assumption) | refine Ext.trans ?_ (by assumption)))).trans hKv8.2
              obtain ⟨hok8, a8, hset8⟩ := putCode_go (n := Lo.length) (s := s8) hvi (Or.inl hen) hjl (by omega) ⟨by omega, Or.inl (by omega)⟩
              have hcalm8 := hset8.calm hen rfl
              have hR8x := hRl.code hM hvi hK8a hK8b (putCode_x hvi (n := Lo.length) (s := s8) (Or.inl hen) hjl (by omega)) (hrd8 hok8) (hI.snx htl)
              obtain ⟨c8, B8, hM8, hS8⟩ := MRet.pre (w := w) (by repeat (first | assumption | exact Ext.refl _ | refine Ext.alloc ?_ _ | refine Ext.drew ?_ | refine Ext.setB ?_ (by first | omega | (simp only [size_alloc, size_setB, size_drew]; omega)) _ | exact Ext.trans (by assumption) (by assumption) | refine Ext.trans ?_ (by assumption))) ((MS.ext hM (by repeat (first | assumption | exact Ext.refl _ | refine Ext.alloc ?_ _ | refine Ext.drew ?_ | refine Ext.setB ?_ (by first | omega | (simp only [size_alloc, size_setB, size_drew]; omega)) _ | exact Ext.trans (by assumption) (by assumption) | refine Ext.trans ?_ (by assumption)))).vret hR8)
              refine WH_guardT rfl rfl hb13.h ?_
              refine WH_p (PS_not rfl) rfl ?_
              refine WH_p (PS_pickT rfl hb13.h rfl) rfl ?_
              refine WH_nil ?_
              refine thn_normal ?_
              refine W_if rfl (fun hb17 => ?_) (fun hb17 => ?_)
              · have hb17p := hb17.h; try simp only [al_ete, al_dfn, Bool.not_eq_true', Bool.not_eq_false', al_ne, Bool.not_not, al_nn] at hb17p
                simp_all --END
              · have hb17p := hb17.h; try simp only [al_ete, al_dfn, Bool.not_eq_true', Bool.not_eq_false', al_ne, Bool.not_not, al_nn] at hb17p
                refine W_skip ?_
                refine thn_normal ?_
                refine W_region rfl ?_
                refine WO_p (PS_assign_slice rfl) ?_
                refine WO_nil ?_
                refine thn_normal ?_
                exact ⟨_, _, (none, 0, 0), _, c8, B8, ⟨rfl, rfl, rfl, rfl, rfl, rfl, trivial⟩, hM8, hS8, by omega, by omega, Or.inl ⟨rfl, rfl⟩, by simp, ⟨by rw [hYA]; exact hr1, by rw [hYA]; exact hs1, by rw [hYA]; exact rdB_nil _ _ _, by rw [hYA, ← hFP.self]; exact hR8x⟩, 1, hcalm8, by omega⟩
            · have hb13p := hb13.h; try simp only [al_ete, al_dfn, Bool.not_eq_true', Bool.not_eq_false', al_ne, Bool.not_not, al_nn] at hb13p
              have hlp : ¬ 0 < Lo.length := by omega
              have hYA : LA = ((ydep g Lo).1, (ydep g Lo).2, [], y) := by rw [← hLA, hLoe, ylvA_dep ⟨hmk1, by omega⟩, if_pos (by omega), if_neg hlp]
              refine WH_guardF rfl rfl hb13.h ?_
              refine WH_guardF rfl rfl hb13.h ?_
              refine WH_guardF rfl rfl hb13.h ?_
              refine WH_guardF rfl rfl hb13.h ?_
              refine WH_guardF rfl rfl hb13.h ?_
              refine WH_guardF rfl rfl hb13.h ?_
              refine WH_guardF rfl rfl hb13.h ?_
              refine WH_guardF rfl rfl hb13.h ?_
              refine WH_guardF rfl rfl hb13.h ?_
              refine WH_guardF rfl rfl hb13.h ?_
              refine WH_guardF rfl rfl hb13.h ?_
              refine WH_p (PS_pickF rfl hb13.h rfl) rfl ?_
              refine WH_nil ?_
              refine thn_normal ?_
              refine W_condF rfl rfl ?_
              refine W_skip ?_
              refine thn_normal ?_
              refine W_region rfl ?_
              refine WO_p (PS_assign_slice rfl) ?_
              refine WO_nil ?_
              refine thn_normal ?_
              exact ⟨_, _, (none, 0, 0), v, c, B, ⟨rfl, rfl, rfl, rfl, rfl, rfl, trivial⟩, hM.ext (by repeat (first | assumption | exact Ext.refl _ | refine Ext.alloc ?_ _ | refine Ext.drew ?_ | refine Ext.setB ?_ (by first | omega | (simp only [size_alloc, size_setB, size_drew]; omega)) _ | exact Ext.trans (by assumption) (by assumption) | refine Ext.trans ?_ (by assumption))), MStep.ext (by repeat (first | assumption | exact Ext.refl _ | refine Ext.alloc ?_ _ | refine Ext.drew ?_ | refine Ext.setB ?_ (by first | omega | (simp only [size_alloc, size_setB, size_drew]; omega)) _ | exact Ext.trans (by assumption) (by assumption) | refine Ext.trans ?_ (by assumption))), by omega, by omega, Or.inl ⟨rfl, rfl⟩, by simp, ⟨by rw [hYA]; exact hr1, by rw [hYA]; exact hs1, by rw [hYA]; exact rdB_nil _ _ _, by rw [hYA]; exact hRl.ext hM (by repeat (first | assumption | exact Ext.refl _ | refine Ext.alloc ?_ _ | refine Ext.drew ?_ | refine Ext.setB ?_ (by first | omega | (simp only [size_alloc, size_setB, size_drew]; omega)) _ | exact Ext.trans (by assumption) (by assumption) | refine Ext.trans ?_ (by assumption)))⟩, 0, Calm.refl hvi, by omega⟩
          · have hb11p := hb11.h; try simp only [al_ete, al_dfn, Bool.not_eq_true', Bool.not_eq_false', al_ne, Bool.not_not, al_nn] at hb11p
            have hst8 := hb11p
            have hYA : LA = ((ydep g Lo).1, (ydep g Lo).2, Lo, y) := by rw [← hLA, hLoe, ylvA_dep ⟨hmk1, by omega⟩, if_neg (by omega)]
            refine W_skip ?_
            refine thn_normal ?_
            exact ⟨_, _, out, v, c, B, ⟨rfl, rfl, rfl, rfl, rfl, rfl, trivial⟩, hM.ext (by repeat (first | assumption | exact Ext.refl _ | refine Ext.alloc ?_ _ | refine Ext.drew ?_ | refine Ext.setB ?_ (by first | omega | (simp only [size_alloc, size_setB, size_drew]; omega)) _ | exact Ext.trans (by assumption) (by assumption) | refine Ext.trans ?_ (by assumption))), MStep.ext (by repeat (first | assumption | exact Ext.refl _ | refine Ext.alloc ?_ _ | refine Ext.drew ?_ | refine Ext.setB ?_ (by first | omega | (simp only [size_alloc, size_setB, size_drew]; omega)) _ | exact Ext.trans (by assumption) (by assumption) | refine Ext.trans ?_ (by assumption))), by omega, by omega, ho.ext (by repeat (first | assumption | exact Ext.refl _ | refine Ext.alloc ?_ _ | refine Ext.drew ?_ | refine Ext.setB ?_ (by first | omega | (simp only [size_alloc, size_setB, size_drew]; omega)) _ | exact Ext.trans (by assumption) (by assumption) | refine Ext.trans ?_ (by assumption))), hol, ⟨by rw [hYA]; exact hr1, by rw [hYA]; exact hs1, by rw [hYA]; exact (ho.rde (by repeat (first | assumption | exact Ext.refl _ | refine Ext.alloc ?_ _ | refine Ext.drew ?_ | refine Ext.setB ?_ (by first | omega | (simp only [size_alloc, size_setB, size_drew]; omega)) _ | exact Ext.trans (by assumption) (by assumption) | refine Ext.trans ?_ (by assumption)))).trans hLoe, by rw [hYA]; exact hRl.ext hM (by repeat (first | assumption | exact Ext.refl _ | refine Ext.alloc ?_ _ | refine Ext.drew ?_ | refine Ext.setB ?_ (by first | omega | (simp only [size_alloc, size_setB, size_drew]; omega)) _ | exact Ext.trans (by assumption) (by assumption) | refine Ext.trans ?_ (by assumption)))⟩, 0, Calm.refl hvi, by omega⟩
        · have hb8p := hb8.h; try simp only [al_ete, al_dfn, Bool.not_eq_true', Bool.not_eq_false', al_ne, Bool.not_not, al_nn] at hb8p
          have hst9 := hb8p
          have hYA : f.gas = (LA.1 : Int) ∧ st = (LA.2.1 : Int) ∧ LA.2.2.1 = rdB w out ∧ LA.2.2.2 = y := by
            rw [← hLA, ylvA_st (by intro hh; apply hst9; omega)]; exact ⟨hFP.gas, hsN, rfl, rfl⟩
          refine W_skip ?_
          refine thn_normal ?_
          exact ⟨f.gas, st, out, v, c, B, ⟨rfl, rfl, rfl, rfl, rfl, rfl, trivial⟩, hM.ext (by repeat (first | assumption | exact Ext.refl _ | refine Ext.alloc ?_ _ | refine Ext.drew ?_ | refine Ext.setB ?_ (by first | omega | (simp only [size_alloc, size_setB, size_drew]; omega)) _ | exact Ext.trans (by assumption) (by assumption) | refine Ext.trans ?_ (by assumption))), MStep.ext (by repeat (first | assumption | exact Ext.refl _ | refine Ext.alloc ?_ _ | refine Ext.drew ?_ | refine Ext.setB ?_ (by first | omega | (simp only [size_alloc, size_setB, size_drew]; omega)) _ | exact Ext.trans (by assumption) (by assumption) | refine Ext.trans ?_ (by assumption))), hst, by omega, ho.ext (by repeat (first | assumption | exact Ext.refl _ | refine Ext.alloc ?_ _ | refine Ext.drew ?_ | refine Ext.setB ?_ (by first | omega | (simp only [size_alloc, size_setB, size_drew]; omega)) _ | exact Ext.trans (by assumption) (by assumption) | refine Ext.trans ?_ (by assumption))), hol, ⟨hYA.1, hYA.2.1, (ho.rde (by repeat (first | assumption | exact Ext.refl _ | refine Ext.alloc ?_ _ | refine Ext.drew ?_ | refine Ext.setB ?_ (by first | omega | (simp only [size_alloc, size_setB, size_drew]; omega)) _ | exact Ext.trans (by assumption) (by assumption) | refine Ext.trans ?_ (by assumption)))).trans hYA.2.2.1.symm, by rw [hYA.2.2.2]; exact hRl.ext hM (by repeat (first | assumption | exact Ext.refl _ | refine Ext.alloc ?_ _ | refine Ext.drew ?_ | refine Ext.setB ?_ (by first | omega | (simp only [size_alloc, size_setB, size_drew]; omega)) _ | exact Ext.trans (by assumption) (by assumption) | refine Ext.trans ?_ (by assumption)))⟩, 0, Calm.refl hvi, by omega⟩
      · have hb6p := hb6.h; try simp only [al_ete, al_dfn, Bool.not_eq_true', Bool.not_eq_false', al_ne, Bool.not_not, al_nn] at hb6p
        have hmk0 := hb6p
        have hYA : f.gas = (LA.1 : Int) ∧ st = (LA.2.1 : Int) ∧ LA.2.2.1 = rdB w out ∧ LA.2.2.2 = y := by
          rw [← hLA, ylvA_st (by intro hh; rw [← hmk] at hh; simp_all)]; exact ⟨hFP.gas, hsN, rfl, rfl⟩
        refine WO_guardF rfl rfl hb6.h ?_
        refine WO_guardF rfl rfl hb6.h ?_
        refine WO_p (PS_pickF rfl hb6.h rfl) ?_
        refine WO_nil ?_
        refine thn_normal ?_
        refine W_condF rfl rfl ?_
        refine W_skip ?_
        refine thn_normal ?_
        exact ⟨f.gas, st, out, v, c, B, ⟨rfl, rfl, rfl, rfl, rfl, rfl, trivial⟩, hM.ext (by repeat (first | assumption | exact Ext.refl _ | refine Ext.alloc ?_ _ | refine Ext.drew ?_ | refine Ext.setB ?_ (by first | omega | (simp only [size_alloc, size_setB, size_drew]; omega)) _ | exact Ext.trans (by assumption) (by assumption) | refine Ext.trans ?_ (by assumption))), MStep.ext (by repeat (first | assumption | exact Ext.refl _ | refine Ext.alloc ?_ _ | refine Ext.drew ?_ | refine Ext.setB ?_ (by first | omega | (simp only [size_alloc, size_setB, size_drew]; omega)) _ | exact Ext.trans (by assumption) (by assumption) | refine Ext.trans ?_ (by assumption))), hst, by omega, ho.ext (by repeat (first | assumption | exact Ext.refl _ | refine Ext.alloc ?_ _ | refine Ext.drew ?_ | refine Ext.setB ?_ (by first | omega | (simp only [size_alloc, size_setB, size_drew]; omega)) _ | exact Ext.trans (by assumption) (by assumption) | refine Ext.trans ?_ (by assumption))), hol, ⟨hYA.1, hYA.2.1, (ho.rde (by repeat (first | assumption | exact Ext.refl _ | refine Ext.alloc ?_ _ | refine Ext.drew ?_ | refine Ext.setB ?_ (by first | omega | (simp only [size_alloc, size_setB, size_drew]; omega)) _ | exact Ext.trans (by assumption) (by assumption) | refine Ext.trans ?_ (by assumption)))).trans hYA.2.2.1.symm, by rw [hYA.2.2.2]; exact hRl.ext hM (by repeat (first | assumption | exact Ext.refl _ | refine Ext.alloc ?_ _ | refine Ext.drew ?_ | refine Ext.setB ?_ (by first | omega | (simp only [size_alloc, size_setB, size_drew]; omega)) _ | exact Ext.trans (by assumption) (by assumption) | refine Ext.trans ?_ (by assumption)))⟩, 0, Calm.refl hvi, by omega⟩
    · rintro ρ wA ⟨g2, st2, o2, v2, c2, B2, hFr, hM2, hS2, hst2, hg2, hob, hol2, hXA, dj, hcalm, hdj⟩
      refine W_env _ hFr ?_
      clear hFr
      refine W_seqJ (fun ρ w' => ∃ (g2 st2 : Int) (o2 : SV) (v2 : V) (c2 : Array Value) (B2 : VB), Fr [(0, .pointer (some ⟨C, 0, none⟩)), (6, .pointer (some ⟨C, 1803 + t * 65, none⟩)), (7, .int .u64 g2), (1, .int .u8 st2), (2, .slice o2.1 o2.2.1 o2.2.2), (8, .bool (makes f.kind))] ρ ∧ MS w' C c2 v2 B2 m ∧ MStep w w' C B m B2 m ∧ (0 ≤ st2 ∧ st2 ≤ 11) ∧ (0 ≤ g2 ∧ g2 ≤ f.gas) ∧ BS w' (bb m) o2 ∧ (o2.2.1 ≤ 717280 ∧ o2.2.1 ≤ o2.2.2) ∧ (g2 = (LB.1 : Int) ∧ st2 = (LB.2.1 : Int) ∧ rdB w' o2 = LB.2.2.1 ∧ Rel w' v2 m (LA.2.2.2, rest ++ [g])) ∧ ∃ dj : Nat, Calm v v2 dj ∧ 25 * (dj : Int) ≤ f.gas - g2) ?_ ?_
      · skip
        refine W_seq ?_
        refine W_region rfl ?_
        refine WO_p (PS_move_int rfl) ?_
        refine WO_p (PS_gtr rfl rfl) ?_
        refine WO_nil ?_
        refine thn_normal ?_
        refine W_if rfl (fun hb19 => ?_) (fun hb19 => ?_)
        · have hb19p := hb19.h; try simp only [al_ete, al_dfn, Bool.not_eq_true', Bool.not_eq_false', al_ne, Bool.not_not, al_nn] at hb19p
          refine W_seq ?_
          refine W_region rfl ?_
          refine WO_p (PS_assign_int rfl) ?_
          refine WO_nil ?_
          refine thn_normal ?_
          refine W_region rfl ?_
          refine WO_p (PS_assign_slice rfl) ?_
          refine WO_nil ?_
          refine thn_normal ?_
          first
          | exact ⟨g2, st2, o2, v2, c2, B2, ⟨rfl, rfl, rfl, rfl, rfl, rfl, trivial⟩, hM2, hS2, hst2, hg2, hob, hol2, lvX_lo hLB hXA (by omega), dj, hcalm, hdj⟩
          | exact ⟨0, st2, (none, 0, 0), v2, c2, B2, ⟨rfl, rfl, rfl, rfl, rfl, rfl, trivial⟩, hM2, hS2, hst2, by omega, Or.inl ⟨rfl, rfl⟩, by simp, lvX_hi hLB hXA (by omega), dj, hcalm, by omega⟩
        · have hb19p := hb19.h; try simp only [al_ete, al_dfn, Bool.not_eq_true', Bool.not_eq_false', al_ne, Bool.not_not, al_nn] at hb19p
          refine W_skip ?_
          refine thn_normal ?_
          first
          | exact ⟨g2, st2, o2, v2, c2, B2, ⟨rfl, rfl, rfl, rfl, rfl, rfl, trivial⟩, hM2, hS2, hst2, hg2, hob, hol2, lvX_lo hLB hXA (by omega), dj, hcalm, hdj⟩
          | exact ⟨0, st2, (none, 0, 0), v2, c2, B2, ⟨rfl, rfl, rfl, rfl, rfl, rfl, trivial⟩, hM2, hS2, hst2, by omega, Or.inl ⟨rfl, rfl⟩, by simp, lvX_hi hLB hXA (by omega), dj, hcalm, by omega⟩
      · rintro ρ wB ⟨g2, st2, o2, v2, c2, B2, hFr, hM2, hS2, hst2, hg2, hob, hol2, hXB, dj, hcalm, hdj⟩
        refine W_env _ hFr ?_
        clear hFr
        have hblk2 := hM2.vs.blk
        have hc_s2 := hM2.rep.s
        have hcs2 := hM2.sz
        obtain ⟨_, _, hF2⟩ := hM2.openF hf
        have hf_snap2 := hF2.snap
        have hsn0 := hI.sn t f (Nat.le_refl _) hf
        have hsn9 : 0 ≤ f.snap ∧ f.snap < v2.nmarks := by rw [hcalm.go.nm]; exact hsn0
        have hrw2 : RW v2 m S (m.txgas - gasTo m.frames t - g2) := hI.rw_.calm hcalm (by omega) rfl rfl
        refine W_seqJ (fun ρ w' => ∃ (v3 : V) (c3 : Array Value) (B3 : VB), Fr [(0, .pointer (some ⟨C, 0, none⟩)), (6, .pointer (some ⟨C, 1803 + t * 65, none⟩)), (7, .int .u64 g2), (1, .int .u8 st2), (2, .slice o2.1 o2.2.1 o2.2.2), (8, .bool (makes f.kind))] ρ ∧ MS w' C c3 v3 B3 { m with mtop := (t : Int) } ∧ MStep w w' C B m B3 { m with mtop := (t : Int) } ∧ VInv v3 ∧ (∀ A, v.entered A → v3.entered A) ∧ f.snap ≤ v3.nmarks ∧ RW v3 m S (m.txgas - gasTo m.frames t - g2) ∧ BS w' (bb m) o2 ∧ Rel w' v3 { m with mtop := (t : Int) } (LB.2.2.2, rest ++ [g]) ∧ rdB w' o2 = LB.2.2.1) ?_ ?_
        · skip
          refine W_seq ?_
          refine W_drawE [false, false, false, false, false, false, false, false, false, false, false, false, false, false, false, false, false, false, false, false, false] hmix (by kernel_rfl) rfl ?_
          refine WH_p (PS_move_int rfl) rfl ?_
          refine WH_p (PS_neq rfl rfl) rfl ?_
          refine WH_p (PS_move_bool rfl) rfl ?_
          refine WH_if (t := 62) rfl (fun hb21 => ?_) (fun hb21 => ?_)
          · have hb21p := hb21.h; try simp only [al_ete, al_dfn, Bool.not_eq_true', Bool.not_eq_false', al_ne, Bool.not_not, al_nn] at hb21p
            refine WH_guardT rfl rfl hb21.h ?_
            refine WH_p (PS_move_ptr rfl) rfl ?_
            refine WH_guardT rfl rfl hb21.h ?_
            refine WH_p (PS_nilCheck rfl) rfl ?_
            refine WH_guardT rfl rfl hb21.h ?_
            refine WH_p (PS_fieldAddr 0 Hvac.runUnderlying70 rfl Hvac.sizeOf55 rfl rfl) rfl ?_
            refine WH_guardT rfl rfl hb21.h ?_
            refine WH_load (.pointer _) Hvac.isAgg55 rfl (Hb.h (by repeat (first | assumption | exact Hb.newY _ _ | refine Hb.alloc ?_ | refine Hb.drew ?_ | refine Hb.ext (by assumption) ?_ | exact Hb.setSameL (by first | omega | (simp only [size_alloc, size_setB, size_drew]; omega)) | exact Hb.setSame (by assumption) | refine Hb.set (by first | omega | (simp only [size_alloc, size_setB, size_drew]; omega)) ?_ ))) (Ce.h (by first | assumption | exact ⟨rfl⟩)) ?_
            refine WH_guardT rfl rfl hb21.h ?_
            refine WH_p (PS_move_ptr rfl) rfl ?_
            refine WH_guardT rfl rfl hb21.h ?_
            refine WH_p (PS_nilCheck rfl) rfl ?_
            refine WH_guardT rfl rfl hb21.h ?_
            refine WH_p (PS_fieldAddr 8 Hvac.runUnderlying66 rfl Hvac.sizeOf21 rfl rfl) rfl ?_
            refine WH_guardT rfl rfl hb21.h ?_
            refine WH_load (.int _ _) Hvac.isAgg21 rfl (Hb.h (by repeat (first | assumption | exact Hb.newY _ _ | refine Hb.alloc ?_ | refine Hb.drew ?_ | refine Hb.ext (by assumption) ?_ | exact Hb.setSameL (by first | omega | (simp only [size_alloc, size_setB, size_drew]; omega)) | exact Hb.setSame (by assumption) | refine Hb.set (by first | omega | (simp only [size_alloc, size_setB, size_drew]; omega)) ?_ ))) (Ce.h (by first | assumption | exact ⟨rfl⟩)) ?_
            refine WH_guardT rfl rfl hb21.h ?_
            refine WH_call Hvac.call222 (by rfl) (Ret.mono (revertTo_spec C c2 v2 B2 (bb m) f.snap _ (VS.ext hM2.vs (by repeat (first | assumption | exact Ext.refl _ | refine Ext.alloc ?_ _ | refine Ext.drew ?_ | refine Ext.setB ?_ (by first | omega | (simp only [size_alloc, size_setB, size_drew]; omega)) _ | exact Ext.trans (by assumption) (by assumption) | refine Ext.trans ?_ (by assumption)))) hcalm.go.inv.nm) ?_)
            rintro _ w9 ⟨rfl, hR9⟩
            refine ⟨(fun h => by cases h), ?_⟩
            obtain ⟨hok9, hrev9⟩ := revertTo_go hcalm.go.inv hsn9.1 hsn9.2
            have hKv9 := VRet.kts (MS.ext hM2 (by repeat (first | assumption | exact Ext.refl _ | refine Ext.alloc ?_ _ | refine Ext.drew ?_ | refine Ext.setB ?_ (by first | omega | (simp only [size_alloc, size_setB, size_drew]; omega)) _ | exact Ext.trans (by assumption) (by assumption) | refine Ext.trans ?_ (by assumption)))).vs hR9
            have hRv9 := hXB.2.2.2.revert hM2 ((KT.ext (by repeat (first | assumption | exact Ext.refl _ | refine Ext.alloc ?_ _ | refine Ext.drew ?_ | refine Ext.setB ?_ (by first | omega | (simp only [size_alloc, size_setB, size_drew]; omega)) _ | exact Ext.trans (by assumption) (by assumption) | refine Ext.trans ?_ (by assumption)))).trans hKv9.1) ((KT.ext (by repeat (first | assumption | exact Ext.refl _ | refine Ext.alloc ?_ _ | refine Ext.drew ?_ | refine Ext.setB ?_ (by first | omega | (simp only [size_alloc, size_setB, size_drew]; omega)) _ | exact Ext.trans (by assumption) (by assumption) | refine Ext.trans ?_ (by assumption)))).trans hKv9.2) hcalm.go.inv htl hf hsnl hsn9.2
            obtain ⟨c9, B9, hM9, hS9⟩ := MRet.pre (w := wB) (by repeat (first | assumption | exact Ext.refl _ | refine Ext.alloc ?_ _ | refine Ext.drew ?_ | refine Ext.setB ?_ (by first | omega | (simp only [size_alloc, size_setB, size_drew]; omega)) _ | exact Ext.trans (by assumption) (by assumption) | refine Ext.trans ?_ (by assumption))) ((MS.ext hM2 (by repeat (first | assumption | exact Ext.refl _ | refine Ext.alloc ?_ _ | refine Ext.drew ?_ | refine Ext.setB ?_ (by first | omega | (simp only [size_alloc, size_setB, size_drew]; omega)) _ | exact Ext.trans (by assumption) (by assumption) | refine Ext.trans ?_ (by assumption)))).vret hR9)
            refine WH_guardT rfl rfl hb21.h ?_
            refine WH_p (PS_not rfl) rfl ?_
            refine WH_p (PS_pickT rfl hb21.h rfl) rfl ?_
            refine WH_p (PS_move_bool rfl) rfl ?_
            refine WH_if (t := 74) rfl (fun hb25 => ?_) (fun hb25 => ?_)
            · have hb25p := hb25.h; try simp only [al_ete, al_dfn, Bool.not_eq_true', Bool.not_eq_false', al_ne, Bool.not_not, al_nn] at hb25p
              simp_all --END
            · have hb25p := hb25.h; try simp only [al_ete, al_dfn, Bool.not_eq_true', Bool.not_eq_false', al_ne, Bool.not_not, al_nn] at hb25p
              refine WH_guardT rfl rfl hb25.h ?_
              refine WH_p (PS_move_ptr rfl) rfl ?_
              refine WH_guardT rfl rfl hb25.h ?_
              refine WH_p (PS_nilCheck rfl) rfl ?_
              refine WH_guardT rfl rfl hb25.h ?_
              refine WH_p (PS_fieldAddr 1 Hvac.runUnderlying70 rfl Hvac.sizeOf59 rfl rfl) rfl ?_
              refine WH_guardT rfl rfl hb25.h ?_
              refine WH_call Hvac.call232 (by rfl) (Ret.mono (memLeave_ex C c9 (v2.revertTo f.snap).2 B9 m t _ hM9 hI.mtY) ?_)
              rintro _ w10 ⟨rfl, ⟨cL, BL, hML, hSL⟩, hKL⟩
              refine ⟨(fun h => by cases h), ?_⟩
              have hRL9 : Rel w10 (v2.revertTo f.snap).2 { m with mtop := (t : Int) } (LB.2.2.2, rest ++ [g]) := by
                rw [lvB_y hLB, if_pos (by omega)]
                exact (Rel.kt hRv9 hM9 (KC.kt hKL hM9.vs.blk (by decide)) (KC.kt hKL hM9.vs.blk (by decide))).mtop _
              have hSL1 := hSL
              have hSL0 := hS2.trans hS9
              replace hSL := hSL0.trans hSL
              have hviL := hrev9.inv
              have henL := fun A hA => hrev9.ent A (hcalm.go.ent A hA)
              have hsnL := hrev9.le
              have hrwL := hrw2.revd hrev9 (by omega) (Int.le_refl _) rfl rfl
              have hobL := BS.mstep (hM2) (hS9.trans hSL1) hob
              have hoL9 : rdB w10 o2 = LB.2.2.1 := (hob.rdk hM2 (hS9.trans hSL1)).trans hXB.2.2.1
              refine WH_guardT rfl rfl hb25.h ?_
              refine WH_p (PS_not rfl) rfl ?_
              refine WH_p (PS_pickF rfl hb25.h rfl) rfl ?_
              refine WH_nil ?_
              refine thn_normal ?_
              refine W_if rfl (fun hb29 => ?_) (fun hb29 => ?_)
              · have hb29p := hb29.h; try simp only [al_ete, al_dfn, Bool.not_eq_true', Bool.not_eq_false', al_ne, Bool.not_not, al_nn] at hb29p
                simp_all --END
              · have hb29p := hb29.h; try simp only [al_ete, al_dfn, Bool.not_eq_true', Bool.not_eq_false', al_ne, Bool.not_not, al_nn] at hb29p
                refine W_skip ?_
                refine thn_normal ?_
                exact ⟨_, _, _, ⟨rfl, rfl, rfl, rfl, rfl, rfl, trivial⟩, hML, hSL, hviL, henL, hsnL, hrwL, hobL, hRL9, hoL9⟩
          · have hb21p := hb21.h; try simp only [al_ete, al_dfn, Bool.not_eq_true', Bool.not_eq_false', al_ne, Bool.not_not, al_nn] at hb21p
            refine WH_guardF rfl rfl hb21.h ?_
            refine WH_guardF rfl rfl hb21.h ?_
            refine WH_guardF rfl rfl hb21.h ?_
            refine WH_guardF rfl rfl hb21.h ?_
            refine WH_guardF rfl rfl hb21.h ?_
            refine WH_guardF rfl rfl hb21.h ?_
            refine WH_guardF rfl rfl hb21.h ?_
            refine WH_guardF rfl rfl hb21.h ?_
            refine WH_guardF rfl rfl hb21.h ?_
            refine WH_guardF rfl rfl hb21.h ?_
            refine WH_p (PS_pickF rfl hb21.h rfl) rfl ?_
            refine WH_p (PS_move_bool rfl) rfl ?_
            refine WH_guardT rfl rfl rfl ?_
            refine WH_p (PS_move_ptr rfl) rfl ?_
            refine WH_guardT rfl rfl rfl ?_
            refine WH_p (PS_nilCheck rfl) rfl ?_
            refine WH_guardT rfl rfl rfl ?_
            refine WH_p (PS_fieldAddr 1 Hvac.runUnderlying70 rfl Hvac.sizeOf59 rfl rfl) rfl ?_
            refine WH_guardT rfl rfl rfl ?_
            refine WH_call Hvac.call232 (by rfl) (Ret.mono (memLeave_ex C c2 v2 B2 m t _ (MS.ext hM2 (Ext.drew (Ext.refl wB))) hI.mtY) ?_)
            rintro _ w10 ⟨rfl, ⟨cL, BL, hML, hSL⟩, hKL⟩
            refine ⟨(fun h => by cases h), ?_⟩
            have hRL9 : Rel w10 v2 { m with mtop := (t : Int) } (LB.2.2.2, rest ++ [g]) := by
              rw [lvB_y hLB, if_neg (by omega)]
              exact (Rel.kt (hXB.2.2.2.ext hM2 (Ext.drew (Ext.refl wB))) (MS.ext hM2 (Ext.drew (Ext.refl wB))) (KC.kt hKL (MS.ext hM2 (Ext.drew (Ext.refl wB))).vs.blk (by decide)) (KC.kt hKL (MS.ext hM2 (Ext.drew (Ext.refl wB))).vs.blk (by decide))).mtop _
            have hSL1 := hSL
            have hSL0 := hS2.trans (MStep.ext (C := C) (B := B2) (m := m) (Ext.drew (Ext.refl wB)))
            replace hSL := hSL0.trans hSL
            have hviL := hcalm.go.inv
            have henL := hcalm.go.ent
            have hsnL := (by omega : f.snap ≤ v2.nmarks)
            have hrwL := hrw2
            have hobL := BS.mstep (hM2) ((MStep.ext (C := C) (B := B2) (m := m) (Ext.drew (Ext.refl wB))).trans hSL1) hob
            have hoL9 : rdB w10 o2 = LB.2.2.1 := (hob.rdk hM2 ((MStep.ext (C := C) (B := B2) (m := m) (Ext.drew (Ext.refl wB))).trans hSL1)).trans hXB.2.2.1
            refine WH_guardT rfl rfl rfl ?_
            refine WH_p (PS_not rfl) rfl ?_
            refine WH_p (PS_pickF rfl rfl rfl) rfl ?_
            refine WH_nil ?_
            refine thn_normal ?_
            refine W_if rfl (fun hb33 => ?_) (fun hb33 => ?_)
            · have hb33p := hb33.h; try simp only [al_ete, al_dfn, Bool.not_eq_true', Bool.not_eq_false', al_ne, Bool.not_not, al_nn] at hb33p
              simp_all --END
            · have hb33p := hb33.h; try simp only [al_ete, al_dfn, Bool.not_eq_true', Bool.not_eq_false', al_ne, Bool.not_not, al_nn] at hb33p
              refine W_skip ?_
              refine thn_normal ?_
              exact ⟨_, _, _, ⟨rfl, rfl, rfl, rfl, rfl, rfl, trivial⟩, hML, hSL, hviL, henL, hsnL, hrwL, hobL, hRL9, hoL9⟩
        · rintro ρ wC ⟨v3, c3, B3, hFr, hM3, hS3, hvi3, hen3, hsn3, hrw3, hob3, hRC, hoC⟩
          refine W_env _ hFr ?_
          clear hFr
          have hblk3 := hM3.vs.blk
          have hcs3 := hM3.sz
          have hCl3 := hblk3.lt
          have hz3 := hS3.keep.sz
          refine W_seq ?_
          refine W_region rfl ?_
          refine WO_p (PS_move_ptr rfl) ?_
          refine WO_p (PS_move_slice rfl) ?_
          refine WO_p (PS_nilCheck rfl) ?_
          refine WO_p (PS_fieldAddr 2259 Hvac.runUnderlying70 rfl Hvac.sizeOf32 rfl rfl) ?_
          refine WO_store1 Hvac.sizeOf32 rfl (v := (.slice _ _ _)) rfl (Hb.h (by repeat (first | assumption | exact Hb.newY _ _ | refine Hb.alloc ?_ | refine Hb.drew ?_ | refine Hb.ext (by assumption) ?_ | exact Hb.setSameL (by first | omega | (simp only [size_alloc, size_setB, size_drew]; omega)) | exact Hb.setSame (by assumption) | refine Hb.set (by first | omega | (simp only [size_alloc, size_setB, size_drew]; omega)) ?_ ))) rfl (by first | omega | assumption | rfl | decide | exact Nat.le_refl _ | (simp only [size_ic, Value.cells]; omega) | (simp; omega) | simp) rfl ?_
          refine WO_nil ?_
          refine thn_normal ?_
          refine W_seq ?_
          obtain ⟨hM4, hS4⟩ := hM3.put_ret o2 hob3
          have hblk4 := hM4.vs.blk
          have hcs4 := hM4.sz
          have hc_top4 := hM4.rep.top
          replace hc_top4 : Ce _ 2258 (.int .i8 m.top) := hc_top4
          rw [hI.top] at hc_top4
          refine W_region rfl ?_
          refine WO_p (PS_move_ptr rfl) ?_
          refine WO_p (PS_nilCheck rfl) ?_
          refine WO_p (PS_fieldAddr 2258 Hvac.runUnderlying70 rfl Hvac.sizeOf68 rfl rfl) ?_
          refine WO_load (.int _ _) Hvac.isAgg68 rfl (Hb.h (by repeat (first | assumption | exact Hb.newY _ _ | refine Hb.alloc ?_ | refine Hb.drew ?_ | refine Hb.ext (by assumption) ?_ | exact Hb.setSameL (by first | omega | (simp only [size_alloc, size_setB, size_drew]; omega)) | exact Hb.setSame (by assumption) | refine Hb.set (by first | omega | (simp only [size_alloc, size_setB, size_drew]; omega)) ?_ ))) (Ce.h (by first | assumption | exact ⟨rfl⟩)) ?_
          refine WO_p (PS_sub_i8n rfl rfl (by omega) (by omega)) ?_
          refine WO_p (PS_nilCheck rfl) ?_
          refine WO_p (PS_fieldAddr 2258 Hvac.runUnderlying70 rfl Hvac.sizeOf68 rfl rfl) ?_
          refine WO_store1 Hvac.sizeOf68 rfl (v := (.int _ _)) rfl (Hb.h (by repeat (first | assumption | exact Hb.newY _ _ | refine Hb.alloc ?_ | refine Hb.drew ?_ | refine Hb.ext (by assumption) ?_ | exact Hb.setSameL (by first | omega | (simp only [size_alloc, size_setB, size_drew]; omega)) | exact Hb.setSame (by assumption) | refine Hb.set (by first | omega | (simp only [size_alloc, size_setB, size_drew]; omega)) ?_ ))) rfl (by first | omega | assumption | rfl | decide | exact Nat.le_refl _ | (simp only [size_ic, Value.cells]; omega) | (simp; omega) | simp) rfl ?_
          refine WO_nil ?_
          refine thn_normal ?_
          refine W_seq ?_
          refine W_seq ?_
          obtain ⟨hM5, hS5⟩ := hM4.put_top ((t : Int) - 1) (by omega)
          have hblk5 := hM5.vs.blk
          have hcs5 := hM5.sz
          have hc_top5 := hM5.rep.top
          replace hc_top5 : Ce _ 2258 (.int .i8 ((t : Int) - 1)) := hc_top5
          replace hS5 := (hS3.trans hS4).trans hS5
          refine W_region rfl ?_
          refine WO_p (PS_move_ptr rfl) ?_
          refine WO_p (PS_nilCheck rfl) ?_
          refine WO_p (PS_fieldAddr 2258 Hvac.runUnderlying70 rfl Hvac.sizeOf68 rfl rfl) ?_
          refine WO_load (.int _ _) Hvac.isAgg68 rfl (Hb.h (by repeat (first | assumption | exact Hb.newY _ _ | refine Hb.alloc ?_ | refine Hb.drew ?_ | refine Hb.ext (by assumption) ?_ | exact Hb.setSameL (by first | omega | (simp only [size_alloc, size_setB, size_drew]; omega)) | exact Hb.setSame (by assumption) | refine Hb.set (by first | omega | (simp only [size_alloc, size_setB, size_drew]; omega)) ?_ ))) (Ce.h (by first | assumption | exact ⟨rfl⟩)) ?_
          refine WO_p (PS_lss rfl rfl) ?_
          refine WO_nil ?_
          refine thn_normal ?_
          refine W_if rfl (fun hb35 => ?_) (fun hb35 => ?_)
          · have hb35p := hb35.h; try simp only [al_ete, al_dfn, Bool.not_eq_true', Bool.not_eq_false', al_ne, Bool.not_not, al_nn] at hb35p
            obtain rfl : t = 0 := by omega
            obtain rfl : rest = [] := List.eq_nil_of_length_eq_zero (by omega)
            refine W_seq ?_
            refine W_region rfl ?_
            refine WO_p (PS_move_ptr rfl) ?_
            refine WO_p (PS_nilCheck rfl) ?_
            refine WO_p (PS_fieldAddr 2404 Hvac.runUnderlying70 rfl Hvac.sizeOf5 rfl rfl) ?_
            refine WO_store1 Hvac.sizeOf5 rfl (v := (.int _ _)) rfl (Hb.h (by repeat (first | assumption | exact Hb.newY _ _ | refine Hb.alloc ?_ | refine Hb.drew ?_ | refine Hb.ext (by assumption) ?_ | exact Hb.setSameL (by first | omega | (simp only [size_alloc, size_setB, size_drew]; omega)) | exact Hb.setSame (by assumption) | refine Hb.set (by first | omega | (simp only [size_alloc, size_setB, size_drew]; omega)) ?_ ))) rfl (by first | omega | assumption | rfl | decide | exact Nat.le_refl _ | (simp only [size_ic, Value.cells]; omega) | (simp; omega) | simp) rfl ?_
            refine WO_nil ?_
            refine thn_normal ?_
            refine W_seq ?_
            obtain ⟨hMe1, hSe1⟩ := hM5.put_phase 2 (by omega)
            have hblke1 := hMe1.vs.blk
            have hcse1 := hMe1.sz
            refine W_region rfl ?_
            refine WO_p (PS_move_ptr rfl) ?_
            refine WO_p (PS_move_int rfl) ?_
            refine WO_p (PS_nilCheck rfl) ?_
            refine WO_p (PS_fieldAddr 2405 Hvac.runUnderlying70 rfl Hvac.sizeOf5 rfl rfl) ?_
            refine WO_store1 Hvac.sizeOf5 rfl (v := (.int _ _)) rfl (Hb.h (by repeat (first | assumption | exact Hb.newY _ _ | refine Hb.alloc ?_ | refine Hb.drew ?_ | refine Hb.ext (by assumption) ?_ | exact Hb.setSameL (by first | omega | (simp only [size_alloc, size_setB, size_drew]; omega)) | exact Hb.setSame (by assumption) | refine Hb.set (by first | omega | (simp only [size_alloc, size_setB, size_drew]; omega)) ?_ ))) rfl (by first | omega | assumption | rfl | decide | exact Nat.le_refl _ | (simp only [size_ic, Value.cells]; omega) | (simp; omega) | simp) rfl ?_
            refine WO_nil ?_
            refine thn_normal ?_
            refine W_seq ?_
            obtain ⟨hMe2, hSe2⟩ := hMe1.put_status st2 (by omega)
            have hblke2 := hMe2.vs.blk
            have hcse2 := hMe2.sz
            replace hSe2 := (hS5.trans hSe1).trans hSe2
            refine W_region rfl ?_
            refine WO_p (PS_move_ptr rfl) ?_
            refine WO_p (PS_move_int rfl) ?_
            refine WO_p (PS_nilCheck rfl) ?_
            refine WO_p (PS_fieldAddr 1803 Hvac.runUnderlying70 rfl Hvac.sizeOf67 rfl rfl) ?_
            refine WO_p (PS_indexA Hvac.runUnderlying67 Hvac.sizeOf66 rfl rfl (by omega) (by omega)) ?_
            refine WO_p (PS_fieldAddr 7 Hvac.runUnderlying66 rfl Hvac.sizeOf26 rfl rfl) ?_
            refine WO_store1 Hvac.sizeOf26 rfl (v := (.int _ _)) rfl (Hb.h (by repeat (first | assumption | exact Hb.newY _ _ | refine Hb.alloc ?_ | refine Hb.drew ?_ | refine Hb.ext (by assumption) ?_ | exact Hb.setSameL (by first | omega | (simp only [size_alloc, size_setB, size_drew]; omega)) | exact Hb.setSame (by assumption) | refine Hb.set (by first | omega | (simp only [size_alloc, size_setB, size_drew]; omega)) ?_ ))) rfl (by first | omega | assumption | rfl | decide | exact Nat.le_refl _ | (simp only [size_ic, Value.cells]; omega) | (simp; omega) | simp) rfl ?_
            refine WO_nil ?_
            refine thn_normal ?_
            refine W_ret ?_
            refine thn_ret ?_
            first | refine bodyQ_ret0 Hvac.results172 ?_ | refine bodyQ_end0 Hvac.results172 ?_
            (obtain ⟨hMe3, hSe3⟩ := hMe2.putF_gas (t := 0) (f := f) hf g2 (by omega)); exact ⟨v3, m.popE f g2 st2 o2, ⟨_, _, hMe3, hSe2.trans hSe3⟩, Or.inl ⟨rfl, popE_inv hI hf hg2 hst2 hol2 hvi3 hen3 (by simpa [gasTo] using hrw3), by show gasOf (m.frames.set 0 { f with gas := g2 }) 0 ≤ f.gas; rw [gasOf_set (lt_of_getElem? hf), if_pos rfl]; exact hg2.2⟩, Rel.fin_end hRC hM3 hMe3 (by repeat (first | exact KeepO.refl _ _ | refine KC.setC ?_ _ | refine KC.alloc ?_ _ | refine KC.drew ?_ | refine KC.ext ?_ (by assumption))) hLA hLB hf hXB.1 hoC hob3⟩
          · have hb35p := hb35.h; try simp only [al_ete, al_dfn, Bool.not_eq_true', Bool.not_eq_false', al_ne, Bool.not_not, al_nn] at hb35p
            obtain ⟨s, rfl⟩ : ∃ s, t = s + 1 := ⟨t - 1, by omega⟩
            obtain ⟨rr, ppY, hrs, hsr⟩ := snoc_of htl
            subst hrs
            obtain ⟨p, hp⟩ := frames_lt hty (i := s) (by omega)
            have hptk := hI.wt s p f (by omega) hp hf
            have hpfk := hI.fr s p (by omega) hp
            have hpt := hty.frames.2 p (List.mem_of_getElem? hp)
            have hpg := hpt.gas
            have hppc := hpt.pc
            have hpsp := hpt.sp
            have hwsp := hptk.sp
            have hwpc := hptk.pc
            have hpgs := gasOf_some hp
            have hpq := hgb s (by omega)
            have hpre2 : gasTo m.frames (s + 1) = gasTo m.frames s + p.gas := by simp only [gasTo, hpgs]
            obtain ⟨lo, n, hlo, hhi, hszn, hlon, _⟩ := hI.mem hty (i := s) (by omega)
            have hwo := hptk.out
            have hcl5 := hpfk.cl
            refine W_skip ?_
            refine thn_normal ?_
            refine W_seq ?_
            refine W_drawE [false, false, false, false, false, false, false, false, false] hmix (by kernel_rfl) rfl ?_
            refine WH_p (PS_move_ptr rfl) rfl ?_
            refine WH_p (PS_move_ptr rfl) rfl ?_
            refine WH_p (PS_nilCheck rfl) rfl ?_
            refine WH_p (PS_fieldAddr 2258 Hvac.runUnderlying70 rfl Hvac.sizeOf68 rfl rfl) rfl ?_
            refine WH_load (.int _ _) Hvac.isAgg68 rfl (Hb.h (by repeat (first | assumption | exact Hb.newY _ _ | refine Hb.alloc ?_ | refine Hb.drew ?_ | refine Hb.ext (by assumption) ?_ | exact Hb.setSameL (by first | omega | (simp only [size_alloc, size_setB, size_drew]; omega)) | exact Hb.setSame (by assumption) | refine Hb.set (by first | omega | (simp only [size_alloc, size_setB, size_drew]; omega)) ?_ ))) (Ce.h (by first | assumption | exact ⟨rfl⟩)) ?_
            refine WH_p (PS_nilCheck rfl) rfl ?_
            refine WH_p (PS_fieldAddr 1803 Hvac.runUnderlying70 rfl Hvac.sizeOf67 rfl rfl) rfl ?_
            refine WH_p (PS_indexA Hvac.runUnderlying67 Hvac.sizeOf66 rfl rfl (by omega) (by omega)) rfl ?_
            rw [show (((s + 1 : Nat) : Int) - 1).toNat = s by omega]
            refine WH_p (PS_assign_ptr rfl) rfl ?_
            refine WH_nil ?_
            refine thn_normal ?_
            refine W_seq ?_
            have hM5d := hM5.ext (Ext.drew (Ext.refl _))
            have hblk5d := hM5d.vs.blk
            have hp5 : m.frames[s]? = some p := hp
            obtain ⟨_, _, hF5⟩ := hM5d.openF hp5
            have hf_pg := hF5.gas
            refine W_region rfl ?_
            refine WO_p (PS_move_ptr rfl) ?_
            refine WO_p (PS_nilCheck rfl) ?_
            refine WO_p (PS_fieldAddr 7 Hvac.runUnderlying66 rfl Hvac.sizeOf26 rfl rfl) ?_
            refine WO_load (.int _ _) Hvac.isAgg26 rfl (Hb.h (by repeat (first | assumption | exact Hb.newY _ _ | refine Hb.alloc ?_ | refine Hb.drew ?_ | refine Hb.ext (by assumption) ?_ | exact Hb.setSameL (by first | omega | (simp only [size_alloc, size_setB, size_drew]; omega)) | exact Hb.setSame (by assumption) | refine Hb.set (by first | omega | (simp only [size_alloc, size_setB, size_drew]; omega)) ?_ ))) (Ce.h (by first | assumption | exact ⟨rfl⟩)) ?_
            refine WO_p (PS_move_int rfl) ?_
            refine WO_p (PS_add_u64n rfl rfl (by omega) (by omega)) ?_
            refine WO_p (PS_nilCheck rfl) ?_
            refine WO_p (PS_fieldAddr 7 Hvac.runUnderlying66 rfl Hvac.sizeOf26 rfl rfl) ?_
            refine WO_store1 Hvac.sizeOf26 rfl (v := (.int _ _)) rfl (Hb.h (by repeat (first | assumption | exact Hb.newY _ _ | refine Hb.alloc ?_ | refine Hb.drew ?_ | refine Hb.ext (by assumption) ?_ | exact Hb.setSameL (by first | omega | (simp only [size_alloc, size_setB, size_drew]; omega)) | exact Hb.setSame (by assumption) | refine Hb.set (by first | omega | (simp only [size_alloc, size_setB, size_drew]; omega)) ?_ ))) rfl (by first | omega | assumption | rfl | decide | exact Nat.le_refl _ | (simp only [size_ic, Value.cells]; omega) | (simp; omega) | simp) rfl ?_
            refine WO_nil ?_
            refine thn_normal ?_
            refine W_seq ?_
            obtain ⟨hM6, hS6⟩ := hM5d.putF_gas hp5 (p.gas + g2) (by omega)
            have hblk6 := hM6.vs.blk
            have hCl6 := hblk6.lt
            replace hS6 := (hS5.trans (MStep.ext (Ext.drew (Ext.refl _)))).trans hS6
            have hR6 := Rel.fin_pop hRC hM3 hM6 (by repeat (first | exact KeepO.refl _ _ | refine KC.setC ?_ _ | refine KC.alloc ?_ _ | refine KC.drew ?_ | refine KC.ext ?_ (by assumption))) hp hXB.1 hoC hob3 hsr hI.ph
            have hf6 : (m.frames.set s { p with gas := p.gas + g2 })[s + 1]? = some f := by rw [List.getElem?_set_ne (by omega)]; exact hf
            obtain ⟨_, _, hF6⟩ := hM6.openF hf6
            have hf_self6 := hF6.self
            have hcs6 := hM6.sz
            refine W_region rfl ?_
            refine WO_p (PS_buildI (k := .u64) (zs := [0, 0, 0, 0]) (ps := []) (L := [0, 0, 0, 0]) Hvac.zeroValue61 Hvac.runUnderlying61 Hvac.sizeOf26 rfl rfl rfl rfl) ?_
            refine WO_allocG Hvac.zeroValue61 ?_
            intro b10 v10 hg10 hE10 hH10 hl10
            try simp only [size_alloc, size_setB, size_drew] at hg10
            have hzz10 := hE10.1
            try simp only [size_alloc, size_setB, size_drew] at hzz10
            first | refine WO_storeW Hvac.sizeOf61 rfl (v := .agg _) rfl (Hb.h (by repeat (first | assumption | exact Hb.newY _ _ | refine Hb.alloc ?_ | refine Hb.drew ?_ | refine Hb.ext (by assumption) ?_ | exact Hb.setSameL (by first | omega | (simp only [size_alloc, size_setB, size_drew]; omega)) | exact Hb.setSame (by assumption) | refine Hb.set (by first | omega | (simp only [size_alloc, size_setB, size_drew]; omega)) ?_ ))) rfl (by first | omega | assumption | rfl | decide | exact Nat.le_refl _ | (simp only [size_ic, Value.cells]; omega) | (simp; omega) | simp) (by first | omega | assumption | rfl | decide | exact Nat.le_refl _ | (simp only [size_ic, Value.cells]; omega) | (simp; omega) | simp) (by first | exact oneCell_ic | assumption | exact one_Ws2 _ | exact one_YA2 _ | exact one_YSl2 _ | exact one_YM2 _ | exact one_YT2 _ | exact one_L2 _) ?_ | refine WO_store Hvac.sizeOf61 rfl (v := .agg _) rfl (Hb.h (by repeat (first | assumption | exact Hb.newY _ _ | refine Hb.alloc ?_ | refine Hb.drew ?_ | refine Hb.ext (by assumption) ?_ | exact Hb.setSameL (by first | omega | (simp only [size_alloc, size_setB, size_drew]; omega)) | exact Hb.setSame (by assumption) | refine Hb.set (by first | omega | (simp only [size_alloc, size_setB, size_drew]; omega)) ?_ ))) (by first | omega | assumption | rfl | decide | exact Nat.le_refl _ | (simp only [size_ic, Value.cells]; omega) | (simp; omega) | simp) (by first | omega | assumption | rfl | decide | exact Nat.le_refl _ | (simp only [size_ic, Value.cells]; omega) | (simp; omega) | simp) (by first | exact oneCell_ic | assumption | exact one_Ws2 _ | exact one_YA2 _ | exact one_YSl2 _ | exact one_YM2 _ | exact one_YT2 _ | exact one_L2 _) ?_
            refine WO_nil ?_
            refine thn_normal ?_
            refine W_seqJ (fun ρ w' => ∃ (W : List Int) (c6 : Array Value), Wd W ∧ Fr [(0, .pointer (some ⟨C, 0, none⟩)), (9, .pointer (some ⟨C, 1803 + s * 65, none⟩)), (2, .slice o2.1 o2.2.1 o2.2.2), (10, .pointer (some ⟨b10, 0, none⟩))] ρ ∧ MS w' C c6 v3 B3 ({ m with mtop := ((s + 1 : Nat) : Int), ret := o2, top := ((s + 1 : Nat) : Int) - 1, frames := m.frames.set s { p with gas := p.gas + g2 } } : Mc) ∧ MStep w w' C B m B3 ({ m with mtop := ((s + 1 : Nat) : Int), ret := o2, top := ((s + 1 : Nat) : Int) - 1, frames := m.frames.set s { p with gas := p.gas + g2 } } : Mc) ∧ Hb w' b10 (.cells (ic .u64 W) 61 (0, 0)) ∧ wn W = (if LB.2.1 = 0 then (if ycreates g.kind = true then bvY g.self else 1) else 0) ∧ Rel w' v3 ({ m with mtop := ((s + 1 : Nat) : Int), ret := o2, top := ((s + 1 : Nat) : Int) - 1, frames := m.frames.set s { p with gas := p.gas + g2 } } : Mc) ({ LB.2.2.2 with ret := LB.2.2.1 }, rr ++ [{ ppY with gas := ppY.gas + LB.1 }])) ?_ ?_
            · skip
              refine W_seq ?_
              refine W_region rfl ?_
              refine WO_p (PS_move_int rfl) ?_
              refine WO_p (PS_eql rfl rfl) ?_
              refine WO_nil ?_
              refine thn_normal ?_
              refine W_if rfl (fun hb37 => ?_) (fun hb37 => ?_)
              · have hb37p := hb37.h; try simp only [al_ete, al_dfn, Bool.not_eq_true', Bool.not_eq_false', al_ne, Bool.not_not, al_nn] at hb37p
                refine W_seq ?_
                refine W_region rfl ?_
                refine WO_p (PS_indexA Hvac.runUnderlying61 Hvac.sizeOf26 rfl rfl (by omega) (by omega)) ?_
                refine WO_store1 Hvac.sizeOf26 rfl (v := .int _ _) rfl (Hb.h (by repeat (first | assumption | exact Hb.newY _ _ | refine Hb.alloc ?_ | refine Hb.drew ?_ | refine Hb.ext (by assumption) ?_ | exact Hb.setSameL (by first | omega | (simp only [size_alloc, size_setB, size_drew]; omega)) | exact Hb.setSame (by assumption) | refine Hb.set (by first | omega | (simp only [size_alloc, size_setB, size_drew]; omega)) ?_ ))) rfl (by first | omega | assumption | rfl | decide | exact Nat.le_refl _ | (simp only [size_ic, Value.cells]; omega) | (simp; omega) | simp) rfl ?_
                change WO _ _ _ _ _ (setB (setB v10 b10 (.cells (ic .u64 [0, 0, 0, 0]) 61 (0, 0))) b10 (.cells (ic .u64 [1, 0, 0, 0]) 61 (0, 0)))
                refine WO_nil ?_
                refine thn_normal ?_
                refine W_seq ?_
                refine W_region rfl ?_
                refine WO_p (PS_move_bool rfl) ?_
                refine WO_nil ?_
                refine thn_normal ?_
                refine W_if rfl (fun hb39 => ?_) (fun hb39 => ?_)
                · have hb39p := hb39.h; try simp only [al_ete, al_dfn, Bool.not_eq_true', Bool.not_eq_false', al_ne, Bool.not_not, al_nn] at hb39p
                  have hmade := hb39p
                  refine W_region rfl ?_
                  refine WO_p (PS_move_ptr rfl) ?_
                  refine WO_p (PS_nilCheck rfl) ?_
                  refine WO_p (PS_fieldAddr 9 Hvac.runUnderlying66 rfl Hvac.sizeOf25 rfl rfl) ?_
                  refine WO_loadA _ Hvac.isAgg25 Hvac.sizeOf25 rfl (Hb.h (by repeat (first | assumption | exact Hb.newY _ _ | refine Hb.alloc ?_ | refine Hb.drew ?_ | refine Hb.ext (by assumption) ?_ | exact Hb.setSameL (by first | omega | (simp only [size_alloc, size_setB, size_drew]; omega)) | exact Hb.setSame (by assumption) | refine Hb.set (by first | omega | (simp only [size_alloc, size_setB, size_drew]; omega)) ?_ ))) (by first | omega | assumption | rfl | decide | exact Nat.le_refl _ | (simp only [size_ic, Value.cells]; omega) | (simp; omega) | simp) (Xt.h (by first | assumption | exact Xt.whole rfl rfl | exact Xt.whole rfl (by assumption) | exact Xt.whole rfl (by simp only [size_ic, Value.cells]; omega) | exact ⟨rfl⟩)) ?_
                  refine WO_call Hvac.call233 (by rfl) (Ret.mono (addrWord_ex f.self _ hfty.self) ?_)
                  rintro _ w11 ⟨hE11, R11, rfl, hfw, hfwn⟩
                  have hz11 := hE11.1
                  try simp only [size_alloc, size_setB, size_drew] at hz11
                  have hfl := hfw.1
                  have hH11 := Hb.ext hE11 (Hb.mk (Hb.h (by repeat (first | assumption | exact Hb.newY _ _ | refine Hb.alloc ?_ | refine Hb.drew ?_ | refine Hb.ext (by assumption) ?_ | exact Hb.setSameL (by first | omega | (simp only [size_alloc, size_setB, size_drew]; omega)) | exact Hb.setSame (by assumption) | refine Hb.set (by first | omega | (simp only [size_alloc, size_setB, size_drew]; omega)) ?_ ))) : Hb _ b10 _)
                  first | refine WO_storeW Hvac.sizeOf61 rfl (v := .agg _) rfl (Hb.h (by repeat (first | assumption | exact Hb.newY _ _ | refine Hb.alloc ?_ | refine Hb.drew ?_ | refine Hb.ext (by assumption) ?_ | exact Hb.setSameL (by first | omega | (simp only [size_alloc, size_setB, size_drew]; omega)) | exact Hb.setSame (by assumption) | refine Hb.set (by first | omega | (simp only [size_alloc, size_setB, size_drew]; omega)) ?_ ))) rfl (by first | omega | assumption | rfl | decide | exact Nat.le_refl _ | (simp only [size_ic, Value.cells]; omega) | (simp; omega) | simp) (by first | omega | assumption | rfl | decide | exact Nat.le_refl _ | (simp only [size_ic, Value.cells]; omega) | (simp; omega) | simp) (by first | exact oneCell_ic | assumption | exact one_Ws2 _ | exact one_YA2 _ | exact one_YSl2 _ | exact one_YM2 _ | exact one_YT2 _ | exact one_L2 _) ?_ | refine WO_store Hvac.sizeOf61 rfl (v := .agg _) rfl (Hb.h (by repeat (first | assumption | exact Hb.newY _ _ | refine Hb.alloc ?_ | refine Hb.drew ?_ | refine Hb.ext (by assumption) ?_ | exact Hb.setSameL (by first | omega | (simp only [size_alloc, size_setB, size_drew]; omega)) | exact Hb.setSame (by assumption) | refine Hb.set (by first | omega | (simp only [size_alloc, size_setB, size_drew]; omega)) ?_ ))) (by first | omega | assumption | rfl | decide | exact Nat.le_refl _ | (simp only [size_ic, Value.cells]; omega) | (simp; omega) | simp) (by first | omega | assumption | rfl | decide | exact Nat.le_refl _ | (simp only [size_ic, Value.cells]; omega) | (simp; omega) | simp) (by first | exact oneCell_ic | assumption | exact one_Ws2 _ | exact one_YA2 _ | exact one_YSl2 _ | exact one_YM2 _ | exact one_YT2 _ | exact one_L2 _) ?_
                  refine WO_nil ?_
                  refine thn_normal ?_
                  exact ⟨_, _, hfw, ⟨rfl, rfl, rfl, rfl, trivial⟩, hM6.ext (by repeat (first | assumption | exact Ext.refl _ | refine Ext.alloc ?_ _ | refine Ext.drew ?_ | refine Ext.setB ?_ (by first | omega | (simp only [size_alloc, size_setB, size_drew]; omega)) _ | exact Ext.trans (by assumption) (by assumption) | refine Ext.trans ?_ (by assumption))), hS6.trans (MStep.ext (by repeat (first | assumption | exact Ext.refl _ | refine Ext.alloc ?_ _ | refine Ext.drew ?_ | refine Ext.setB ?_ (by first | omega | (simp only [size_alloc, size_setB, size_drew]; omega)) _ | exact Ext.trans (by assumption) (by assumption) | refine Ext.trans ?_ (by assumption)))), Hb.mk (Hb.h (by repeat (first | assumption | exact Hb.newY _ _ | refine Hb.alloc ?_ | refine Hb.drew ?_ | refine Hb.ext (by assumption) ?_ | exact Hb.setSameL (by first | omega | (simp only [size_alloc, size_setB, size_drew]; omega)) | exact Hb.setSame (by assumption) | refine Hb.set (by first | omega | (simp only [size_alloc, size_setB, size_drew]; omega)) ?_ ))), (by rw [if_pos (by omega), if_pos (by rw [← hmk]; simpa using hmade), ← hFP.self]; exact hfwn), hR6.ext hM6 (by repeat (first | assumption | exact Ext.refl _ | refine Ext.alloc ?_ _ | refine Ext.drew ?_ | refine Ext.setB ?_ (by first | omega | (simp only [size_alloc, size_setB, size_drew]; omega)) _ | exact Ext.trans (by assumption) (by assumption) | refine Ext.trans ?_ (by assumption)))⟩
                · have hb39p := hb39.h; try simp only [al_ete, al_dfn, Bool.not_eq_true', Bool.not_eq_false', al_ne, Bool.not_not, al_nn] at hb39p
                  have hmade := hb39p
                  refine W_skip ?_
                  refine thn_normal ?_
                  exact ⟨[1, 0, 0, 0], _, Wd1, ⟨rfl, rfl, rfl, rfl, trivial⟩, hM6.ext (by repeat (first | assumption | exact Ext.refl _ | refine Ext.alloc ?_ _ | refine Ext.drew ?_ | refine Ext.setB ?_ (by first | omega | (simp only [size_alloc, size_setB, size_drew]; omega)) _ | exact Ext.trans (by assumption) (by assumption) | refine Ext.trans ?_ (by assumption))), hS6.trans (MStep.ext (by repeat (first | assumption | exact Ext.refl _ | refine Ext.alloc ?_ _ | refine Ext.drew ?_ | refine Ext.setB ?_ (by first | omega | (simp only [size_alloc, size_setB, size_drew]; omega)) _ | exact Ext.trans (by assumption) (by assumption) | refine Ext.trans ?_ (by assumption)))), Hb.mk (Hb.h (by repeat (first | assumption | exact Hb.newY _ _ | refine Hb.alloc ?_ | refine Hb.drew ?_ | refine Hb.ext (by assumption) ?_ | exact Hb.setSameL (by first | omega | (simp only [size_alloc, size_setB, size_drew]; omega)) | exact Hb.setSame (by assumption) | refine Hb.set (by first | omega | (simp only [size_alloc, size_setB, size_drew]; omega)) ?_ ))), (by rw [if_pos (by omega), if_neg (by rw [← hmk]; simpa using hmade)]; rfl), hR6.ext hM6 (by repeat (first | assumption | exact Ext.refl _ | refine Ext.alloc ?_ _ | refine Ext.drew ?_ | refine Ext.setB ?_ (by first | omega | (simp only [size_alloc, size_setB, size_drew]; omega)) _ | exact Ext.trans (by assumption) (by assumption) | refine Ext.trans ?_ (by assumption)))⟩
              · have hb37p := hb37.h; try simp only [al_ete, al_dfn, Bool.not_eq_true', Bool.not_eq_false', al_ne, Bool.not_not, al_nn] at hb37p
                refine W_skip ?_
                refine thn_normal ?_
                exact ⟨[0, 0, 0, 0], _, Wd0, ⟨rfl, rfl, rfl, rfl, trivial⟩, hM6.ext (by repeat (first | assumption | exact Ext.refl _ | refine Ext.alloc ?_ _ | refine Ext.drew ?_ | refine Ext.setB ?_ (by first | omega | (simp only [size_alloc, size_setB, size_drew]; omega)) _ | exact Ext.trans (by assumption) (by assumption) | refine Ext.trans ?_ (by assumption))), hS6.trans (MStep.ext (by repeat (first | assumption | exact Ext.refl _ | refine Ext.alloc ?_ _ | refine Ext.drew ?_ | refine Ext.setB ?_ (by first | omega | (simp only [size_alloc, size_setB, size_drew]; omega)) _ | exact Ext.trans (by assumption) (by assumption) | refine Ext.trans ?_ (by assumption)))), Hb.mk (Hb.h (by repeat (first | assumption | exact Hb.newY _ _ | refine Hb.alloc ?_ | refine Hb.drew ?_ | refine Hb.ext (by assumption) ?_ | exact Hb.setSameL (by first | omega | (simp only [size_alloc, size_setB, size_drew]; omega)) | exact Hb.setSame (by assumption) | refine Hb.set (by first | omega | (simp only [size_alloc, size_setB, size_drew]; omega)) ?_ ))), (by rw [if_neg (by omega)]; rfl), hR6.ext hM6 (by repeat (first | assumption | exact Ext.refl _ | refine Ext.alloc ?_ _ | refine Ext.drew ?_ | refine Ext.setB ?_ (by first | omega | (simp only [size_alloc, size_setB, size_drew]; omega)) _ | exact Ext.trans (by assumption) (by assumption) | refine Ext.trans ?_ (by assumption)))⟩
            · rintro ρ wD ⟨W, c6, hWd, hFr, hMD, hSD, hHD, hWn, hRD⟩
              refine W_env _ hFr ?_
              clear hFr
              have hblkD := hMD.vs.blk
              have hlb10 := hHD.lt
              have hcsD := hMD.sz
              have hpD : (m.frames.set s { p with gas := p.gas + g2 })[s]? = some { p with gas := p.gas + g2 } := by rw [List.getElem?_set_self (lt_of_getElem? hp)]
              obtain ⟨_, _, hFD⟩ := hMD.openF hpD
              have hf_ol : Ce _ (1803 + s * 65 + 64) (.int .u32 p.outLen) := hFD.outLen
              have hf_oo : Ce _ (1803 + s * 65 + 63) (.int .u32 p.outOff) := hFD.outOff
              have hpol := hpt.outLen
              have hpoo := hpt.outOff
              have hWdl := hWd.1
              obtain ⟨LmD, hLmD, hPD⟩ := hRD.ex
              have hBO : BX wD (bb m) o2 (rdB wD o2) := hMD.ret.rd
              have hBOl := hBO.len
              have hoD : rdB wD o2 = LB.2.2.1 := hPD.ret
              have hOLl : LB.2.2.1.length = o2.2.1 := by rw [← hoD]; exact hBOl
              have hFPp := hRP.fr s p ppY hp (by rw [List.getElem?_append_left (by simp; omega)]; exact last_get hsr)
              have hppo := hFPp.oo
              have hppl := hFPp.ol
              have hM4I := hI.mi4 hp hM.ty (g2 := g2) (o2 := o2)
              have hMB4 := hI.mb4 hty hlo hszn hlon (g2 := g2) (o2 := o2) (p := p)
              have hp4 : (({ m with mtop := ((s + 1 : Nat) : Int), ret := o2, top := ((s + 1 : Nat) : Int) - 1, frames := m.frames.set s { p with gas := p.gas + g2 } } : Mc)).frames[s]? = some { p with gas := p.gas + g2 } := hpD
              refine W_seq ?_
              refine W_region rfl ?_
              refine WO_p (PS_move_ptr rfl) ?_
              refine WO_p (PS_nilCheck rfl) ?_
              refine WO_p (PS_fieldAddr 64 Hvac.runUnderlying66 rfl Hvac.sizeOf56 rfl rfl) ?_
              refine WO_load (.int _ _) Hvac.isAgg56 rfl (Hb.h (by repeat (first | assumption | exact Hb.newY _ _ | refine Hb.alloc ?_ | refine Hb.drew ?_ | refine Hb.ext (by assumption) ?_ | exact Hb.setSameL (by first | omega | (simp only [size_alloc, size_setB, size_drew]; omega)) | exact Hb.setSame (by assumption) | refine Hb.set (by first | omega | (simp only [size_alloc, size_setB, size_drew]; omega)) ?_ ))) (Ce.h (by first | assumption | exact ⟨rfl⟩)) ?_
              refine WO_p (PS_assign_int rfl) ?_
              refine WO_nil ?_
              refine thn_normal ?_
              refine W_seqJ (fun ρ w' => ∃ (nn : Nat), Fr [(0, .pointer (some ⟨C, 0, none⟩)), (9, .pointer (some ⟨C, 1803 + s * 65, none⟩)), (2, .slice o2.1 o2.2.1 o2.2.2), (10, .pointer (some ⟨b10, 0, none⟩)), (11, .int .u32 nn)] ρ ∧ w' = wD ∧ (nn : Int) ≤ p.outLen ∧ nn ≤ o2.2.1 ∧ nn = min p.outLen.toNat o2.2.1) ?_ ?_
              · skip
                refine W_seq ?_
                refine W_region rfl ?_
                refine WO_p (PS_move_int rfl) ?_
                refine WO_p (PS_conv_u64n Hvac.runUnderlying56 Hvac.runUnderlying26 rfl (by omega) (by omega)) ?_
                refine WO_p (PS_move_slice rfl) ?_
                refine WO_p (PS_lenS Hvac.runUnderlying32 rfl) ?_
                refine WO_p (PS_conv_u64n Hvac.runUnderlying3 Hvac.runUnderlying26 rfl (by omega) (by omega)) ?_
                refine WO_p (PS_gtr rfl rfl) ?_
                refine WO_nil ?_
                refine thn_normal ?_
                refine W_if rfl (fun hb42 => ?_) (fun hb42 => ?_)
                · have hb42p := hb42.h; try simp only [al_ete, al_dfn, Bool.not_eq_true', Bool.not_eq_false', al_ne, Bool.not_not, al_nn] at hb42p
                  refine W_region rfl ?_
                  refine WO_p (PS_move_slice rfl) ?_
                  refine WO_p (PS_lenS Hvac.runUnderlying32 rfl) ?_
                  refine WO_p (PS_conv_u32n Hvac.runUnderlying3 Hvac.runUnderlying56 rfl (by omega) (by omega)) ?_
                  refine WO_p (PS_assign_int rfl) ?_
                  refine WO_nil ?_
                  refine thn_normal ?_
                  first
                  | exact ⟨p.outLen.toNat, ⟨rfl, rfl, rfl, rfl, congrArg (Value.int .u32) (by omega), trivial⟩, rfl, by omega, by omega, by omega⟩
                  | exact ⟨o2.2.1, ⟨rfl, rfl, rfl, rfl, rfl, trivial⟩, rfl, by omega, by omega, by omega⟩
                · have hb42p := hb42.h; try simp only [al_ete, al_dfn, Bool.not_eq_true', Bool.not_eq_false', al_ne, Bool.not_not, al_nn] at hb42p
                  refine W_skip ?_
                  refine thn_normal ?_
                  first
                  | exact ⟨p.outLen.toNat, ⟨rfl, rfl, rfl, rfl, congrArg (Value.int .u32) (by omega), trivial⟩, rfl, by omega, by omega, by omega⟩
                  | exact ⟨o2.2.1, ⟨rfl, rfl, rfl, rfl, rfl, trivial⟩, rfl, by omega, by omega, by omega⟩
              · rintro ρ wE ⟨nn, hFr, hwE, hnn1, hnn2, hnn3⟩
                subst hwE
                refine W_env _ hFr ?_
                clear hFr
                refine W_seqJ (fun ρ w' => ∃ (c7 : Array Value) (B7 : VB), Fr [(0, .pointer (some ⟨C, 0, none⟩)), (9, .pointer (some ⟨C, 1803 + s * 65, none⟩)), (2, .slice o2.1 o2.2.1 o2.2.2), (10, .pointer (some ⟨b10, 0, none⟩))] ρ ∧ MS w' C c7 v3 B7 ({ m with mtop := ((s + 1 : Nat) : Int), ret := o2, top := ((s + 1 : Nat) : Int) - 1, frames := m.frames.set s { p with gas := p.gas + g2 } } : Mc) ∧ MStep w w' C B m B7 ({ m with mtop := ((s + 1 : Nat) : Int), ret := o2, top := ((s + 1 : Nat) : Int) - 1, frames := m.frames.set s { p with gas := p.gas + g2 } } : Mc) ∧ Hb w' b10 (.cells (ic .u64 W) 61 (0, 0)) ∧ Rel w' v3 ({ m with mtop := ((s + 1 : Nat) : Int), ret := o2, top := ((s + 1 : Nat) : Int) - 1, frames := m.frames.set s { p with gas := p.gas + g2 } } : Mc) ({ LB.2.2.2 with ret := LB.2.2.1 }, rr ++ [(if 0 < min (ysmall ppY.outLen).toNat LB.2.2.1.length then ywrite { ppY with gas := ppY.gas + LB.1 } ppY.outOff (LB.2.2.1.take (min (ysmall ppY.outLen).toNat LB.2.2.1.length)) else { ppY with gas := ppY.gas + LB.1 })])) ?_ ?_
                · skip
                  refine W_seq ?_
                  refine W_drawE [false, false, false, false, false, false, false, false, false, false, false, false, false, false, false] hmix (by kernel_rfl) rfl ?_
                  refine WH_p (PS_move_int rfl) rfl ?_
                  refine WH_p (PS_gtr rfl rfl) rfl ?_
                  refine WH_p (PS_move_bool rfl) rfl ?_
                  refine WH_if (t := 153) rfl (fun hb44 => ?_) (fun hb44 => ?_)
                  · have hb44p := hb44.h; try simp only [al_ete, al_dfn, Bool.not_eq_true', Bool.not_eq_false', al_ne, Bool.not_not, al_nn] at hb44p
                    have hT : MemT ({ m with mtop := ((s + 1 : Nat) : Int), ret := o2, top := ((s + 1 : Nat) : Int) - 1, frames := m.frames.set s { p with gas := p.gas + g2 } } : Mc) s lo n := ⟨rfl, by omega, hlo, hhi, hlon, by show m.buf.2.1 ≤ 6000000; have := hI.ti.bl; omega⟩
                    obtain ⟨bq, Lq, hbq, _⟩ := hMD.buf.some (by show 0 < m.buf.2.1; omega)
                    rw [show p.outOff = (p.outOff.toNat : Int) by omega] at hf_oo
                    refine WH_guardT rfl rfl hb44.h ?_
                    refine WH_p (PS_move_ptr rfl) rfl ?_
                    refine WH_guardT rfl rfl hb44.h ?_
                    refine WH_p (PS_nilCheck rfl) rfl ?_
                    refine WH_guardT rfl rfl hb44.h ?_
                    refine WH_p (PS_fieldAddr 1 Hvac.runUnderlying70 rfl Hvac.sizeOf59 rfl rfl) rfl ?_
                    refine WH_guardT rfl rfl hb44.h ?_
                    refine WH_p (PS_move_ptr rfl) rfl ?_
                    refine WH_guardT rfl rfl hb44.h ?_
                    refine WH_p (PS_nilCheck rfl) rfl ?_
                    refine WH_guardT rfl rfl hb44.h ?_
                    refine WH_p (PS_fieldAddr 63 Hvac.runUnderlying66 rfl Hvac.sizeOf56 rfl rfl) rfl ?_
                    refine WH_guardT rfl rfl hb44.h ?_
                    refine WH_load (.int _ _) Hvac.isAgg56 rfl (Hb.h (by repeat (first | assumption | exact Hb.newY _ _ | refine Hb.alloc ?_ | refine Hb.drew ?_ | refine Hb.ext (by assumption) ?_ | exact Hb.setSameL (by first | omega | (simp only [size_alloc, size_setB, size_drew]; omega)) | exact Hb.setSame (by assumption) | refine Hb.set (by first | omega | (simp only [size_alloc, size_setB, size_drew]; omega)) ?_ ))) (Ce.h (by first | assumption | exact ⟨rfl⟩)) ?_
                    refine WH_guardT rfl rfl hb44.h ?_
                    refine WH_p (PS_move_slice rfl) rfl ?_
                    refine WH_guardT rfl rfl hb44.h ?_
                    refine WH_p (PS_move_int rfl) rfl ?_
                    refine WH_guardT rfl rfl hb44.h ?_
                    refine WH_call Hvac.call234 (by rfl) (Ret.mono (memWrite_ex C _ v3 _ ({ m with mtop := ((s + 1 : Nat) : Int), ret := o2, top := ((s + 1 : Nat) : Int) - 1, frames := m.frames.set s { p with gas := p.gas + g2 } } : Mc) s lo n p.outOff.toNat nn bq 0 o2 _ (MS.ext hMD (by repeat (first | assumption | exact Ext.refl _ | refine Ext.alloc ?_ _ | refine Ext.drew ?_ | refine Ext.setB ?_ (by first | omega | (simp only [size_alloc, size_setB, size_drew]; omega)) _ | exact Ext.trans (by assumption) (by assumption) | refine Ext.trans ?_ (by assumption)))) LmD (BufX.ext hLmD (by repeat (first | assumption | exact Ext.refl _ | refine Ext.alloc ?_ _ | refine Ext.drew ?_ | refine Ext.setB ?_ (by first | omega | (simp only [size_alloc, size_setB, size_drew]; omega)) _ | exact Ext.trans (by assumption) (by assumption) | refine Ext.trans ?_ (by assumption)))) hT hbq (by omega) (by omega) _ (SC.ext hBO.sc (by repeat (first | assumption | exact Ext.refl _ | refine Ext.alloc ?_ _ | refine Ext.drew ?_ | refine Ext.setB ?_ (by first | omega | (simp only [size_alloc, size_setB, size_drew]; omega)) _ | exact Ext.trans (by assumption) (by assumption) | refine Ext.trans ?_ (by assumption)))) hBO.by_ hol2.2 (by omega)) ?_)
                    rintro _ w12 ⟨rfl, ⟨c7, B7, hM7, hS7⟩, L7, hL7, hl7, hg7⟩
                    refine ⟨(fun h => by cases h), ?_⟩
                    have hS7d := (MStep.ext (w := wE) (C := C) (B := B3) (m := ({ m with mtop := ((s + 1 : Nat) : Int), ret := o2, top := ((s + 1 : Nat) : Int) - 1, frames := m.frames.set s { p with gas := p.gas + g2 } } : Mc)) (by repeat (first | assumption | exact Ext.refl _ | refine Ext.alloc ?_ _ | refine Ext.drew ?_ | refine Ext.setB ?_ (by first | omega | (simp only [size_alloc, size_setB, size_drew]; omega)) _ | exact Ext.trans (by assumption) (by assumption) | refine Ext.trans ?_ (by assumption)))).trans hS7
                    have hL7m := copy_mid hl7 (by have h9 : m.buf.2.1 ≤ LmD.length := hLmD.le; omega) hg7
                    rw [hL7m] at hL7
                    have hRF := Rel.fin_wr hPD hMD hS7d hLmD hMB4 hsr hM4I hpD hBOl hnn3 (by omega) hoD hppo hppl (by omega) (by omega) hL7
                    have hH7 : Hb w12 b10 (.cells (ic .u64 W) 61 (0, 0)) := Hb.keepO hS7.keep (by
                      rintro (hh | hh)
                      · exact hMD.vs.not_own hHD (by decide) hh
                      · exact absurd (bb_lt hM _ (Or.inl hh)) (by omega)) (Hb.mk (Hb.h (by repeat (first | assumption | exact Hb.newY _ _ | refine Hb.alloc ?_ | refine Hb.drew ?_ | refine Hb.ext (by assumption) ?_ | exact Hb.setSameL (by first | omega | (simp only [size_alloc, size_setB, size_drew]; omega)) | exact Hb.setSame (by assumption) | refine Hb.set (by first | omega | (simp only [size_alloc, size_setB, size_drew]; omega)) ?_ ))))
                    replace hS7 := (hSD.trans (MStep.ext (Ext.drew (Ext.refl _)))).trans hS7
                    refine WH_guardT rfl rfl hb44.h ?_
                    refine WH_p (PS_not rfl) rfl ?_
                    refine WH_p (PS_pickT rfl hb44.h rfl) rfl ?_
                    refine WH_nil ?_
                    refine thn_normal ?_
                    refine W_if rfl (fun hb48 => ?_) (fun hb48 => ?_)
                    · have hb48p := hb48.h; try simp only [al_ete, al_dfn, Bool.not_eq_true', Bool.not_eq_false', al_ne, Bool.not_not, al_nn] at hb48p
                      simp_all --END
                    · have hb48p := hb48.h; try simp only [al_ete, al_dfn, Bool.not_eq_true', Bool.not_eq_false', al_ne, Bool.not_not, al_nn] at hb48p
                      refine W_skip ?_
                      refine thn_normal ?_
                      exact ⟨_, _, ⟨rfl, rfl, rfl, rfl, trivial⟩, hM7, hS7, hH7, hRF⟩
                  · have hb44p := hb44.h; try simp only [al_ete, al_dfn, Bool.not_eq_true', Bool.not_eq_false', al_ne, Bool.not_not, al_nn] at hb44p
                    refine WH_guardF rfl rfl hb44.h ?_
                    refine WH_guardF rfl rfl hb44.h ?_
                    refine WH_guardF rfl rfl hb44.h ?_
                    refine WH_guardF rfl rfl hb44.h ?_
                    refine WH_guardF rfl rfl hb44.h ?_
                    refine WH_guardF rfl rfl hb44.h ?_
                    refine WH_guardF rfl rfl hb44.h ?_
                    refine WH_guardF rfl rfl hb44.h ?_
                    refine WH_guardF rfl rfl hb44.h ?_
                    refine WH_guardF rfl rfl hb44.h ?_
                    refine WH_guardF rfl rfl hb44.h ?_
                    refine WH_p (PS_pickF rfl hb44.h rfl) rfl ?_
                    refine WH_nil ?_
                    refine thn_normal ?_
                    refine W_condF rfl rfl ?_
                    refine W_skip ?_
                    refine thn_normal ?_
                    exact ⟨_, _, ⟨rfl, rfl, rfl, rfl, trivial⟩, hMD.ext (by repeat (first | assumption | exact Ext.refl _ | refine Ext.alloc ?_ _ | refine Ext.drew ?_ | refine Ext.setB ?_ (by first | omega | (simp only [size_alloc, size_setB, size_drew]; omega)) _ | exact Ext.trans (by assumption) (by assumption) | refine Ext.trans ?_ (by assumption))), hSD.trans (MStep.ext (by repeat (first | assumption | exact Ext.refl _ | refine Ext.alloc ?_ _ | refine Ext.drew ?_ | refine Ext.setB ?_ (by first | omega | (simp only [size_alloc, size_setB, size_drew]; omega)) _ | exact Ext.trans (by assumption) (by assumption) | refine Ext.trans ?_ (by assumption)))), Hb.mk (Hb.h (by repeat (first | assumption | exact Hb.newY _ _ | refine Hb.alloc ?_ | refine Hb.drew ?_ | refine Hb.ext (by assumption) ?_ | exact Hb.setSameL (by first | omega | (simp only [size_alloc, size_setB, size_drew]; omega)) | exact Hb.setSame (by assumption) | refine Hb.set (by first | omega | (simp only [size_alloc, size_setB, size_drew]; omega)) ?_ ))), by rw [if_neg (by rw [ysmall_eq (by omega)]; omega)]; exact hRD.ext hMD (by repeat (first | assumption | exact Ext.refl _ | refine Ext.alloc ?_ _ | refine Ext.drew ?_ | refine Ext.setB ?_ (by first | omega | (simp only [size_alloc, size_setB, size_drew]; omega)) _ | exact Ext.trans (by assumption) (by assumption) | refine Ext.trans ?_ (by assumption)))⟩
                · rintro ρ wF ⟨c7, B7, hFr, hM7, hS7, hH7, hRF⟩
                  refine W_env _ hFr ?_
                  clear hFr
                  have hWdl2 := hWd.1
                  have hA7 : FrA ({ m with mtop := ((s + 1 : Nat) : Int), ret := o2, top := ((s + 1 : Nat) : Int) - 1, frames := m.frames.set s { p with gas := p.gas + g2 } } : Mc) s { p with gas := p.gas + g2 } := ⟨by omega, by show (m.frames.set s { p with gas := p.gas + g2 })[s]? = _; rw [List.getElem?_set_self (lt_of_getElem? hp)], hpfk.sb, by show p.sp ≤ 64; omega⟩
                  refine W_region rfl ?_
                  refine WO_p (PS_move_ptr rfl) ?_
                  refine WO_p (PS_move_ptr rfl) ?_
                  refine WO_loadA _ Hvac.isAgg61 Hvac.sizeOf61 rfl (Hb.h (by repeat (first | assumption | exact Hb.newY _ _ | refine Hb.alloc ?_ | refine Hb.drew ?_ | refine Hb.ext (by assumption) ?_ | exact Hb.setSameL (by first | omega | (simp only [size_alloc, size_setB, size_drew]; omega)) | exact Hb.setSame (by assumption) | refine Hb.set (by first | omega | (simp only [size_alloc, size_setB, size_drew]; omega)) ?_ ))) (by first | omega | assumption | rfl | decide | exact Nat.le_refl _ | (simp only [size_ic, Value.cells]; omega) | (simp; omega) | simp) (Xt.h (by first | assumption | exact Xt.whole rfl rfl | exact Xt.whole rfl (by assumption) | exact Xt.whole rfl (by simp only [size_ic, Value.cells]; omega) | exact ⟨rfl⟩)) ?_
                  refine WO_call Hvac.call235 (by rfl) (Ret.mono (settle_ex C c7 v3 B7 ({ m with mtop := ((s + 1 : Nat) : Int), ret := o2, top := ((s + 1 : Nat) : Int) - 1, frames := m.frames.set s { p with gas := p.gas + g2 } } : Mc) s { p with gas := p.gas + g2 } 0 1 true W _ hM7 hA7 (by show 0 ≤ (0 : Int) ∧ (0 : Int) ≤ p.sp; omega) (fun _ => by show p.sp - 0 < 64; omega) hWd (by show 0 ≤ (1 : Int) ∧ p.pc + 1 ≤ 65535; omega)) ?_)
                  rintro _ w13 hR13
                  refine WO_nil ?_
                  first | refine bodyQ_ret0 Hvac.results172 ?_ | refine bodyQ_end0 Hvac.results172 ?_
                  (obtain ⟨⟨c13, B13, hM13, hS13⟩, hKS13⟩ := hR13); (have hR13x := Rel.fin_back hRF hM7 hM4I hp4 hKS13 hWn (by show p.sp < 64; omega)); (have hX13 := hS7.trans hS13); (rw [show (((s + 1 : Nat) : Int)) - 1 = (s : Int) by omega, show (((s + 1 : Nat) : Int)) = (s : Int) + 1 by omega] at hM13 hX13 hR13x); (have e13 : m.txgas - (gasTo m.frames s + p.gas + g2) = m.txgas - gasTo m.frames (s + 1) - g2 := by omega); exact ⟨v3, m.popP s p g2 o2 W, ⟨_, _, hM13, hX13⟩, Or.inr ⟨s, rfl, popP_inv hI hty hp hf hg2 hol2 hvi3 hen3 hsn3 (by rw [e13]; exact hrw3), by rw [popP_gas hp]; omega⟩, by rw [yleave_snoc, hLA, hLB]; exact hR13x⟩

end Go.Proofs.YgvacwGreat
