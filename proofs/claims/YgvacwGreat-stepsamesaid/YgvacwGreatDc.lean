import Derived.Test.YgvacwGreatDb
import Derived.Test.YgvacwGreatJu
namespace Go.Proofs.YgvacwGreat
set_option linter.unusedSimpArgs false
set_option linter.unusedVariables false
/-! what is seen of both -/
structure VwP where
  done : Bool
  statY : Bool
  depth : Int
  pc : Int
  gas : Int
  ref : Int
  self : List Int
  caller : List Int
  stack : List (List Int)
  mem : List Int
  ret : List Int
  nlogs : Int
structure VE (w : World) (V : Vw) (P : VwP) : Prop where
  a : V.done = P.done ∧ V.statY = P.statY ∧ V.depth = P.depth ∧ V.pc = P.pc ∧ V.gas = P.gas ∧ V.ref = P.ref ∧ V.self = P.self ∧ V.caller = P.caller ∧ V.nlogs = P.nlogs
  st : PLA encW32 32 28 w V.stack P.stack
  mem : MB w V.mem P.mem
  ret : MB w V.ret P.ret
structure VPB (P : VwP) : Prop where
  sf : By P.self 20
  ca : By P.caller 20
  st : ∀ x ∈ P.stack, By x 32
  sl : P.stack.length ≤ 1000
theorem VE.kt {w w' : World} {V : Vw} {P : VwP} (h : VE w V P) (h5 : KT 5 w w') (h28 : KT 28 w w') : VE w' V P := ⟨h.a, h.st.kt h28, h.mem.kt h5, h.ret.kt h5⟩
theorem VE.ext {w w' : World} {V : Vw} {P : VwP} (h : VE w V P) (he : Ext w w') : VE w' V P := h.kt (KT.ext he) (KT.ext he)
theorem VE.b44 {w : World} {V : Vw} {P : VwP} {b : Nat} {r : Array Value} {o : Obj} (h : VE w V P) (hb : Hb w b (.cells r 44 (0, 0))) : VE (setB w b o) V P := h.kt (KT.setB hb (by decide)) (KT.setB hb (by decide))
theorem meet {w : World} {V V' : Vw} {P : VwP} (h : VE w V P) (h' : VE w V' P) (hP : VPB P) : Ret Hvac.prog 7 #[.agg (encVw V).toArray, .agg (encVw V').toArray] w fun u w' => u = .bool true ∧ Ext w w' := by
  obtain ⟨d, q, de, pc, g, r, A, B, s8, s9, s10, nl⟩ := V
  obtain ⟨d', q', de', pc', g', r', A', B', s8', s9', s10', nl'⟩ := V'
  obtain ⟨⟨h1, h2, h3, h4, h5, h6, h7, h8, h9⟩, hs, hm, hr⟩ := h
  obtain ⟨⟨k1, k2, k3, k4, k5, k6, k7, k8, k9⟩, ks, km, kr⟩ := h'
  dsimp only at h1 h2 h3 h4 h5 h6 h7 h8 h9 k1 k2 k3 k4 k5 k6 k7 k8 k9 hs hm hr ks km kr
  rw [h1, h2, h3, h4, h5, h6, h7, h8, h9, k1, k2, k3, k4, k5, k6, k7, k8, k9]
  exact viewsMeet_spec _ _ _ _ _ _ _ _ _ s8 s9 s10 s8' s9' s10' P.stack P.mem P.ret w hP.sf hP.ca hs ks hP.st hP.sl hm.ab km.ab hr.ab kr.ab
def pvR (y : PSt) (rest : List PF) (g : PF) : VwP := ⟨false, g.statY, rest.length, ysmall g.pc, ysmall g.gas, ysmall y.now.ref, g.self, g.caller, g.stack.map be32N, g.mem, y.ret, y.now.nlogs⟩
def pvD (y : PSt) : VwP := ⟨true, false, 0, 0, ysmall y.left, ysmall y.now.ref, List.replicate 20 0, List.replicate 20 0, [], [], y.ret, y.now.nlogs⟩
def pvI : VwP := ⟨true, false, 0, 0, 0, 0, List.replicate 20 0, List.replicate 20 0, [], [], [], 0⟩
theorem By.z20 : By (List.replicate 20 0) 20 := ⟨rfl, by decide⟩
theorem ysm_i {n : Nat} {x : Int} (h : x = (n : Int)) (hx : x ≤ 18446744073709551615) : x = ysmall n := by rw [h]; exact (ysmall_eq (by omega)).symm
theorem PLA.nil' (w : World) : PLA encW32 32 28 w (none, 0, 0) [] := ⟨rfl, Nat.le_refl _, fun h => absurd h (Nat.lt_irrefl 0)⟩
theorem PB.mb [Om] {w : World} {s : SV} {L : List Int} (h : PB w s L) : MB w s L := ⟨h.len, h.cap, h.by_, fun h0 => by obtain ⟨b, r, fz, h1, _, h2⟩ := h.row h0; exact ⟨b, r, fz, h1, h2⟩⟩
theorem be32_N {W : List Int} (h : Wd W) : be32 W = be32N (wn W) := by
  rw [be32_be h]; unfold be32N; rw [if_pos (wn_lt h)]
theorem YPre.psb {y : PSt} {N : Nat} {rest : List PF} {g : PF} (hP : YPre y rest g) {fs : List PF} (hN : YN N y fs) (hNb : 2800 ≤ N) : PSB N y := hN.psb (Nat.le_trans hP.nl hNb) (Nat.le_trans hP.rz (by omega)) (Nat.le_trans hP.rl (by omega)) (by rw [hP.ph]; decide) (Nat.le_trans hP.pz (by omega))
/-- a view's answer -/
def VA (P : VwP) (w : World) : Value → World → Prop := fun u w' => Ext w w' ∧ ∃ V : Vw, u = .agg (encVw V).toArray ∧ V.self.length = 20 ∧ V.caller.length = 20 ∧ VE w' V P
section
variable [Om] {w : World} {C : Nat} {c : Array Value} {v : V} {B : VB} {m : Mc}
theorem eV36R {t : Nat} {S : Int} {y : PSt} {rest : List PF} {g : PF} (hM : MS w C c v B m) (hI : RI scanW v m t 0 S) (hRl : Rel w v m (y, rest ++ [g])) : Ret Hvac.prog 36 #[.pointer (some ⟨C, 0, none⟩)] w (VA (pvR y rest g) w) := by
  obtain ⟨L, hL, hP⟩ := hRl.ex
  have htl := hRl.len hI.mi
  have ht6 := hI.t6
  obtain ⟨f, hf⟩ := frames_lt hM.ty (i := t) (by omega)
  have hF := hP.fr t f g hf (last_get htl)
  have hT := hM.ty.frames.2 f (List.mem_of_getElem? hf)
  obtain ⟨lo, n, hlo, hhi, hszn, hlon, hn32⟩ := hI.mem hM.ty (i := t) (Nat.le_refl _)
  have hbl0 := hI.ti.bl
  have hMT : MemT m t lo n := ⟨hI.mtY, by omega, hlo, hhi, hlon, by omega⟩
  refine Ret.mono (eViewR_spec C c v B m t f 0 lo n w hM (hI.run hf) L hL hMT (by have := hI.ti.rt.1; omega)) ?_
  rintro u w' ⟨hE, s8, s9, s10, rfl, h8, h9, h10⟩
  refine ⟨hE, _, rfl, hT.self.1, hT.caller.1, ⟨⟨rfl, hF.statY, by show (t : Int) = (rest.length : Int); rw [htl], ysm_i (x := f.pc) hF.pc (by have := hT.pc.2; omega), ysm_i hF.gas hT.gas.2, ysm_i hP.vr.ref hM.vs.ty.ref.2, hF.self, hF.caller, by show (v.logs.length : Int) = _; rw [show v.logs.length = y.now.nlogs from hP.vr.logs]; rfl⟩, ?_, ?_, ?_⟩⟩
  · have e : ((List.range f.sp.toNat).map fun j => be32 (m.stack.getD (64 * t + j) [0, 0, 0, 0])) = (pvR y rest g).stack := by
      show _ = g.stack.map be32N
      rw [hF.stack, List.map_map]
      refine List.map_congr_left fun j _ => ?_
      show be32 _ = be32N (wn _)
      refine be32_N ?_
      exact getD_mem hM.ty.stack.2 Wd0
    rw [← e]; exact h8.a
  · have e : (L.drop lo).take n = (pvR y rest g).mem := by
      show _ = g.mem
      rw [hF.mem, baseOf_some hlo, hszn]; rfl
    rw [← e]; exact h9
  · have e : rdB w m.ret = (pvR y rest g).ret := hP.ret
    rw [← e]; exact h10
theorem eV36D {y : PSt} {fs : List PF} (hM : MS w C c v B m) (hp : m.phase = 2) (hrt : m.ret.2.1 ≤ 717280) (hRl : Rel w v m (y, fs)) : Ret Hvac.prog 36 #[.pointer (some ⟨C, 0, none⟩)] w (VA (pvD y) w) := by
  obtain ⟨L, hL, hP⟩ := hRl.ex
  obtain ⟨f0, hf0⟩ := frames_lt hM.ty (i := 0) (by omega)
  have hT := hM.ty.frames.2 f0 (List.mem_of_getElem? hf0)
  refine Ret.mono (eViewD_spec C c v B m w hM hp (by omega)) ?_
  rintro u w' ⟨hE, s, rfl, hs⟩
  refine ⟨hE, _, rfl, rfl, rfl, ⟨⟨rfl, rfl, rfl, rfl, ysm_i (hP.left hp) (by rw [gasOf_some hf0]; exact hT.gas.2), ysm_i hP.vr.ref hM.vs.ty.ref.2, rfl, rfl, by show (v.logs.length : Int) = _; rw [show v.logs.length = y.now.nlogs from hP.vr.logs]; rfl⟩, PLA.nil' _, MB.nil _, ?_⟩⟩
  have e : rdB w m.ret = (pvD y).ret := hP.ret
  rw [← e]; exact hs
theorem eV36I (hM : MS w C c v B m) (hp : m.phase ≠ 1) (hp2 : m.phase ≠ 2) : Ret Hvac.prog 36 #[.pointer (some ⟨C, 0, none⟩)] w (VA pvI w) := by
  refine Ret.mono (eViewI_spec C c v B m w hM hp hp2) ?_
  rintro u w' ⟨hE, rfl⟩
  exact ⟨hE, _, rfl, rfl, rfl, ⟨⟨rfl, rfl, rfl, rfl, rfl, rfl, rfl, rfl, rfl⟩, PLA.nil' _, MB.nil _, MB.nil _⟩⟩
end
section
variable [Om] {Y : Nat → Prop} {w : World} {D : Nat} {x : YSt} {y : PSt} {xs : List YFr} {N : Nat}
theorem YX.fp {rest : List PF} {g : PF} (hX : YX Y w D x y xs (rest ++ [g])) : ∃ F, x.frames.1 = some ⟨F, 0, none⟩ := by
  have h1 := hX.frs.lf
  simp at h1
  obtain ⟨F, r, h2, _⟩ := hX.frs.blk (by omega)
  exact ⟨F, h2⟩
theorem yV9R {rest : List PF} {g : PF} (hX : YX Y w D x y xs (rest ++ [g])) (hP : YPre y rest g) {fs : List PF} (hN : YN N y fs) (hNb : 2800 ≤ N) (hN2 : N ≤ 99999800) : Ret Hvac.prog 9 #[.pointer (some ⟨D, 0, none⟩)] w (VA (pvR y rest g) w) := by
  obtain ⟨F, hF⟩ := hX.fp
  have hsb : By g.self 20 ∧ By g.caller 20 := by
    have h1 := hX.frs.lf
    have h2 := hX.frs.lx
    simp at h1
    obtain ⟨x9, hx9⟩ : ∃ x9, xs[rest.length]? = some x9 := ⟨_, List.getElem?_eq_getElem (by omega)⟩
    have h3 := (hX.frs.rel rest.length x9 g hx9 (by simp)).rel
    exact ⟨h3.sb, h3.cb⟩
  refine Ret.mono (yViewR_spec w hX.omb Y D x y xs rest g N hX (hP.psb hN hNb) hN2 hP.yb (hP.pf g (by simp)).1 (fun f hf => hP.pf f (by simp [hf])) (hP.pf g (by simp)).2 (by have := hP.r6; omega) F hF hP.ph hP.pc (by have := hP.sl; omega) (by have := hP.r6; omega) (by have := hP.nl; omega) (by have := hP.rz; omega) (by have := hP.ml; omega)) ?_
  rintro u w' ⟨hE, s8, s9, s10, rfl, h8, h9, h10⟩
  exact ⟨hE, _, rfl, hsb.1.1, hsb.2.1, ⟨⟨rfl, rfl, rfl, rfl, rfl, rfl, rfl, rfl, rfl⟩, h8.a, h9.mb, h10.mb⟩⟩
theorem yV9D {fs : List PF} (hX : YX Y w D x y xs fs) (hp : y.phase = 2) (hl : sz y.left ≤ 8) (hr : sz y.now.ref ≤ 8) (hrt : y.ret.length ≤ 717280) (hn : y.now.nlogs ≤ 2800) : Ret Hvac.prog 9 #[.pointer (some ⟨D, 0, none⟩)] w (VA (pvD y) w) := by
  refine Ret.mono (yViewD_spec w hX.omb D x y hX.ss hp (by omega) (by omega) (by omega) (by omega)) ?_
  rintro u w' ⟨hE, s, rfl, hs⟩
  exact ⟨hE, _, rfl, rfl, rfl, ⟨⟨rfl, rfl, rfl, rfl, rfl, rfl, rfl, rfl, rfl⟩, PLA.nil' _, MB.nil _, hs.mb⟩⟩
theorem yV9I {fs : List PF} (hX : YX Y w D x y xs fs) (hp : y.phase = 0) : Ret Hvac.prog 9 #[.pointer (some ⟨D, 0, none⟩)] w (VA pvI w) := by
  refine Ret.mono (yViewI_spec w hX.omb D x y hX.ss (by omega) (by omega) (by omega)) ?_
  rintro u w' ⟨hE, rfl⟩
  exact ⟨hE, _, rfl, rfl, rfl, ⟨⟨rfl, rfl, rfl, rfl, rfl, rfl, rfl, rfl, rfl⟩, PLA.nil' _, MB.nil _, MB.nil _⟩⟩
end

set_option maxRecDepth 10000 in
set_option maxHeartbeats 8000000 in
theorem eView8 (C : Nat) (P : VwP) (w : World) (c : Array Value) (hblk : Hb w C (.cells c 87 (0, 0))) (hV : ∀ w1, Ext w w1 → Ret Hvac.prog 36 #[.pointer (some ⟨C, 0, none⟩)] w1 (VA P w1)) : Ret Hvac.prog 8 #[.pointer (some ⟨C, 0, none⟩)] w (VA P w) := by
  have hsz0 : (encVw vw0).toArray.size = 50 := encVw_sz rfl rfl
  refine Ret_of_W Hvac.func8 rfl rfl ?_
  refine W_seq ?_
  refine W_region rfl ?_
  refine WO_allocG Hvac.zeroValue44 ?_
  intro b2 v2 hg2 hE2 hH2 hl2
  try simp only [size_alloc, size_setB, size_drew] at hg2
  have hzz2 := hE2.1
  try simp only [size_alloc, size_setB, size_drew] at hzz2
  replace hH2 : Hb v2 b2 (.cells ((encVw vw0).toArray) 44 (0, 0)) := hH2
  refine WO_nil ?_
  refine thn_normal ?_
  refine W_seq ?_
  refine W_region rfl ?_
  refine WO_p (PS_move_ptr rfl) ?_
  refine WO_p (PS_nilCheck rfl) ?_
  refine WO_p (PS_fieldAddr 0 Hvac.runUnderlying87 rfl Hvac.sizeOf70 rfl rfl) ?_
  refine WO_call Hvac.call36 (by rfl) (Ret.mono (hV _ (by repeat (first | assumption | exact Ext.refl _ | refine Ext.alloc ?_ _ | refine Ext.drew ?_ | refine Ext.setB ?_ (by first | omega | (simp only [size_alloc, size_setB, size_drew]; omega)) _ | exact Ext.trans (by assumption) (by assumption) | refine Ext.trans ?_ (by assumption)))) ?_)
  rintro _ w9 ⟨hE9, V9, rfl, hsl9, hcl9, hVE9⟩
  have hz9 := hE9.1
  have hsz9 : (encVw V9).toArray.size = 50 := encVw_sz hsl9 hcl9
  have hone9 := one_Vw V9
  first | refine WO_storeW Hvac.sizeOf44 rfl (v := .agg _) rfl (Hb.h (by repeat (first | assumption | exact Hb.newY _ _ | refine Hb.alloc ?_ | refine Hb.drew ?_ | refine Hb.ext (by assumption) ?_ | exact Hb.setSameL (by first | omega | (simp only [size_alloc, size_setB, size_drew]; omega)) | exact Hb.setSame (by assumption) | refine Hb.set (by first | omega | (simp only [size_alloc, size_setB, size_drew]; omega)) ?_ ))) rfl (by first | omega | assumption | rfl | decide | exact Nat.le_refl _ | (simp only [size_ic, Value.cells]; omega) | (simp; omega) | simp) (by first | omega | assumption | rfl | decide | exact Nat.le_refl _ | (simp only [size_ic, Value.cells]; omega) | (simp; omega) | simp) (by first | exact oneCell_ic | assumption | exact one_Ws2 _ | exact one_YA2 _ | exact one_YSl2 _ | exact one_YM2 _ | exact one_YT2 _ | exact one_L2 _) ?_ | refine WO_store Hvac.sizeOf44 rfl (v := .agg _) rfl (Hb.h (by repeat (first | assumption | exact Hb.newY _ _ | refine Hb.alloc ?_ | refine Hb.drew ?_ | refine Hb.ext (by assumption) ?_ | exact Hb.setSameL (by first | omega | (simp only [size_alloc, size_setB, size_drew]; omega)) | exact Hb.setSame (by assumption) | refine Hb.set (by first | omega | (simp only [size_alloc, size_setB, size_drew]; omega)) ?_ ))) (by first | omega | assumption | rfl | decide | exact Nat.le_refl _ | (simp only [size_ic, Value.cells]; omega) | (simp; omega) | simp) (by first | omega | assumption | rfl | decide | exact Nat.le_refl _ | (simp only [size_ic, Value.cells]; omega) | (simp; omega) | simp) (by first | exact oneCell_ic | assumption | exact one_Ws2 _ | exact one_YA2 _ | exact one_YSl2 _ | exact one_YM2 _ | exact one_YT2 _ | exact one_L2 _) ?_
  refine WO_nil ?_
  refine thn_normal ?_
  refine W_ret ?_
  refine bodyQ_cell1 Hvac.results8 rfl Hvac.isAgg44 Hvac.sizeOf44 rfl (Hb.h (by repeat (first | assumption | exact Hb.newY _ _ | refine Hb.alloc ?_ | refine Hb.drew ?_ | refine Hb.ext (by assumption) ?_ | exact Hb.setSameL (by first | omega | (simp only [size_alloc, size_setB, size_drew]; omega)) | exact Hb.setSame (by assumption) | refine Hb.set (by first | omega | (simp only [size_alloc, size_setB, size_drew]; omega)) ?_ ))) (by first | omega | assumption | rfl | decide | exact Nat.le_refl _ | (simp only [size_ic, Value.cells]; omega) | (simp; omega) | simp) ?_
  exact ⟨(by repeat (first | assumption | exact Ext.refl _ | refine Ext.alloc ?_ _ | refine Ext.drew ?_ | refine Ext.setB ?_ (by first | omega | (simp only [size_alloc, size_setB, size_drew]; omega)) _ | refine Ext.trans ?_ (by assumption))), V9, rfl, hsl9, hcl9, hVE9.b44 (Hb.mk (o := .cells (encVw vw0).toArray 44 (0, 0)) (Hb.h (by repeat (first | assumption | exact Hb.newY _ _ | refine Hb.alloc ?_ | refine Hb.drew ?_ | refine Hb.ext (by assumption) ?_ | exact Hb.setSameL (by first | omega | (simp only [size_alloc, size_setB, size_drew]; omega)) | exact Hb.setSame (by assumption) | refine Hb.set (by first | omega | (simp only [size_alloc, size_setB, size_drew]; omega)) ?_ ))))⟩

/-! where the run stands -/
def RunT (w : World) (v : V) (m : Mc) (y : PSt) (fs : List PF) (n : Nat) : Prop :=
  (∃ t S rest g, fs = rest ++ [g] ∧ RI scanW v m t 0 S ∧ Rel w v m (y, fs) ∧ n = (gasTo m.frames (t + 1)).toNat * 8 + t + 1) ∨
  (n = 0 ∧ m.phase = 2 ∧ m.ret.2.1 ≤ 717280 ∧ Rel w v m (y, fs)) ∨ (n = 0 ∧ m.phase = 0 ∧ RelN w v m y)
section
variable {O : Om} {Y : Nat → Prop} {w w' : World} {C : Nat} {c : Array Value} {v : V} {B : VB} {m : Mc} {D : Nat} {x : YSt} {y : PSt} {xs : List YFr} {fs : List PF} {N n : Nat}
theorem RunT.ext (hT : Two O Y w C c v B m D x y xs fs) (h : RunT w v m y fs n) (he : Ext w w') : RunT w' v m y fs n := by
  rcases h with ⟨t, S, rest, g, h1, h2, h3, h4⟩ | ⟨h1, h2, h3, h4⟩ | ⟨h1, h2, h3⟩
  · exact Or.inl ⟨t, S, rest, g, h1, h2, @Rel.ext ⟨Y⟩ _ _ _ _ _ _ _ _ h3 hT.ms he, h4⟩
  · exact Or.inr (Or.inl ⟨h1, h2, h3, @Rel.ext ⟨Y⟩ _ _ _ _ _ _ _ _ h4 hT.ms he⟩)
  · exact Or.inr (Or.inr ⟨h1, h2, @RelN.ext ⟨Y⟩ _ _ _ _ _ _ _ _ h3 hT.ms he⟩)
theorem RunT.kp (hT : Two O Y w C c v B m D x y xs fs) {y' : PSt} {fs' : List PF} (h : RunT w v m y' fs' n) (hk : KeepO Y w w') : RunT w' v m y' fs' n := by
  rcases h with ⟨t, S, rest, g, h1, h2, h3, h4⟩ | ⟨h1, h2, h3, h4⟩ | ⟨h1, h2, h3⟩
  · exact Or.inl ⟨t, S, rest, g, h1, h2, hT.rel h3 hk, h4⟩
  · exact Or.inr (Or.inl ⟨h1, h2, h3, hT.rel h4 hk⟩)
  · exact Or.inr (Or.inr ⟨h1, h2, hT.relN h3 hk⟩)
/-- both are seen alike -/
theorem Two.views (hT : Two O Y w C c v B m D x y xs fs) (hR : RunT w v m y fs n) (hN : YN N y fs) (hNb : 2800 ≤ N) (hN2 : N ≤ 99999800) : ∃ P : VwP, VPB P ∧ (∀ w', Ext w w' → Ret Hvac.prog 8 #[.pointer (some ⟨C, 0, none⟩)] w' (VA P w')) ∧ (∀ w', Ext w w' → Ret Hvac.prog 9 #[.pointer (some ⟨D, 0, none⟩)] w' (VA P w')) := by
  have hblk := @VS.blk ⟨Y⟩ _ _ _ _ _ _ (@MS.vs ⟨Y⟩ _ _ _ _ _ _ hT.ms)
  rcases hR with ⟨t, S, rest, g, rfl, h2, h3, h4⟩ | ⟨h1, h2, h3, h4⟩ | ⟨h1, h2, h3⟩
  · obtain ⟨hP, htl⟩ := @Rel.ypre ⟨Y⟩ _ _ _ _ _ _ _ _ _ _ _ h3 hT.ms h2
    have hsb : By g.self 20 ∧ By g.caller 20 := by
      have h1 := @FRS.lf O _ _ _ _ _ (@YX.frs O _ _ _ _ _ _ _ hT.yx)
      have h2 := @FRS.lx O _ _ _ _ _ (@YX.frs O _ _ _ _ _ _ _ hT.yx)
      simp at h1
      obtain ⟨x9, hx9⟩ : ∃ x9, xs[rest.length]? = some x9 := ⟨_, List.getElem?_eq_getElem (by omega)⟩
      have h3 := @FR1.rel O _ _ _ _ (@FRS.rel O _ _ _ _ _ (@YX.frs O _ _ _ _ _ _ _ hT.yx) rest.length x9 g hx9 (by simp))
      exact ⟨@FrR.sb O _ _ _ h3, @FrR.cb O _ _ _ h3⟩
    refine ⟨pvR y rest g, ⟨hsb.1, hsb.2, ?_, ?_⟩, fun w' he => eView8 C _ w' c (hblk.ext he) fun w1 he1 => ?_, fun w' he => ?_⟩
    · intro z hz
      obtain ⟨k, _, rfl⟩ := List.mem_map.1 (show z ∈ g.stack.map be32N from hz)
      exact be32N_by k
    · show (g.stack.map be32N).length ≤ 1000
      rw [List.length_map]; have := hP.sl; omega
    · exact @eV36R ⟨Y⟩ _ _ _ _ _ _ _ _ _ _ _ (@MS.ext ⟨Y⟩ _ _ _ _ _ _ _ hT.ms (he.trans he1)) h2 (@Rel.ext ⟨Y⟩ _ _ _ _ _ _ _ _ h3 hT.ms (he.trans he1))
    · exact @yV9R O Y _ _ _ _ _ _ _ _ (@YX.ext O _ _ _ _ _ _ _ _ hT.yx he) hP _ hN hNb hN2
  · obtain ⟨L, hL, hP⟩ := h4.ex
    obtain ⟨f0, hf0⟩ := frames_lt (@MS.ty ⟨Y⟩ _ _ _ _ _ _ hT.ms) (i := 0) (by omega)
    have hTf := (@MS.ty ⟨Y⟩ _ _ _ _ _ _ hT.ms).frames.2 f0 (List.mem_of_getElem? hf0)
    have hvt := @VS.ty ⟨Y⟩ _ _ _ _ _ _ (@MS.vs ⟨Y⟩ _ _ _ _ _ _ hT.ms)
    have hret := @MS.ret ⟨Y⟩ _ _ _ _ _ _ hT.ms
    have hpy : y.phase = 2 := by have h9 := hP.ph; rw [h2] at h9; simp only at h9; omega
    have hyr : y.ret.length ≤ 717280 := by
      have e : rdB w m.ret = y.ret := hP.ret
      rw [← e, @BX.len ⟨Y⟩ _ _ _ _ (@BS.rd ⟨Y⟩ _ _ _ hret)]; exact h3
    have hlf : sz y.left ≤ 8 := sz_of64 (hP.left h2) (by rw [gasOf_some hf0]; exact hTf.gas.2)
    refine ⟨pvD y, ⟨By.z20, By.z20, fun z hz => absurd hz (by simp [pvD]), by simp [pvD]⟩, fun w' he => eView8 C _ w' c (hblk.ext he) fun w1 he1 => ?_, fun w' he => ?_⟩
    · exact @eV36D ⟨Y⟩ _ _ _ _ _ _ _ _ (@MS.ext ⟨Y⟩ _ _ _ _ _ _ _ hT.ms (he.trans he1)) h2 h3 (@Rel.ext ⟨Y⟩ _ _ _ _ _ _ _ _ h4 hT.ms (he.trans he1))
    · exact @yV9D O Y _ _ _ _ _ _ (@YX.ext O _ _ _ _ _ _ _ _ hT.yx he) hpy hlf (hP.vr.rz hvt) hyr (hP.vr.nl hvt)
  · refine ⟨pvI, ⟨By.z20, By.z20, fun z hz => absurd hz (by simp [pvI]), by simp [pvI]⟩, fun w' he => eView8 C _ w' c (hblk.ext he) fun w1 he1 => ?_, fun w' he => ?_⟩
    · exact @eV36I ⟨Y⟩ _ _ _ _ _ _ (@MS.ext ⟨Y⟩ _ _ _ _ _ _ _ hT.ms (he.trans he1)) (by rw [h2]; decide) (by rw [h2]; decide)
    · exact @yV9I O Y _ _ _ _ _ _ (@YX.ext O _ _ _ _ _ _ _ _ hT.yx he) h3.ph.2
/-- neither goes on -/
theorem Two.stop (hT : Two O Y w C c v B m D x y xs fs) (hR : RunT w v m y fs 0) : (∀ w', Ext w w' → Ret Hvac.prog 10 #[.pointer (some ⟨C, 0, none⟩)] w' fun u w1 => u = .bool false ∧ Ext w' w1) ∧ (∀ w', Ext w w' → Ret Hvac.prog 11 #[.pointer (some ⟨D, 0, none⟩)] w' fun u w1 => u = .bool false ∧ Ext w' w1) := by
  have hph : m.phase ≠ 1 ∧ y.phase ≠ 1 ∧ y.phase ≤ 255 := by
    rcases hR with ⟨t, S, rest, g, _, _, _, h4⟩ | ⟨_, h2, _, h4⟩ | ⟨_, h2, h3⟩
    · omega
    · obtain ⟨L, hL, hP⟩ := h4.ex
      have h9 := hP.ph
      rw [h2] at h9
      simp only at h9
      omega
    · have := h3.ph; omega
  refine ⟨fun w' he => @eStepN_ex ⟨Y⟩ C c v B m w' (@MS.ext ⟨Y⟩ _ _ _ _ _ _ _ hT.ms he) hph.1, fun w' he => ?_⟩
  have hX := @YX.ext O _ _ _ _ _ _ _ _ hT.yx he
  exact @yStepNo_spec O w' (@YX.omb O _ _ _ _ _ _ _ hX) D x y (@YX.ss O _ _ _ _ _ _ _ hX) hph.2.1 hph.2.2
/-- the engine goes a step -/
structure Half (O : Om) (Y : Nat → Prop) (w : World) (C : Nat) (c : Array Value) (v : V) (B : VB) (m : Mc) (D : Nat) (x : YSt) (y : PSt) (xs : List YFr) (rest : List PF) (g : PF) (n : Nat) : Prop where
  two : Two O Y w C c v B m D x y xs (rest ++ [g])
  pre : YPre y rest g
  run : ∃ n', n' < n ∧ RunT w v m (ystep khash y rest g).1 (ystep khash y rest g).2 n'
theorem Two.go (hT : Two O Y w C c v B m D x y xs fs) (hR : RunT w v m y fs n) (hn : 0 < n) : ∃ rest g, fs = rest ++ [g] ∧ ∀ w', Ext w w' → Ret Hvac.prog 10 #[.pointer (some ⟨C, 0, none⟩)] w' fun u w1 => u = .bool true ∧ ∃ O' c' v' B' m', MStep w' w1 C B m B' m' ∧ Half O' Y w1 C c' v' B' m' D x y xs rest g n := by
  rcases hR with ⟨t, S, rest, g, rfl, h2, h3, h4⟩ | ⟨h1, _⟩ | ⟨h1, _⟩
  · refine ⟨rest, g, rfl, fun w' he => ?_⟩
    have hT' := hT.ext he
    have h3' := @Rel.ext ⟨Y⟩ _ _ _ _ _ _ _ _ h3 hT.ms he
    obtain ⟨hP, htl⟩ := @Rel.ypre ⟨Y⟩ _ _ _ _ _ _ _ _ _ _ _ h3' hT'.ms h2
    have ht6 := h2.t6
    have hty := @MS.ty ⟨Y⟩ _ _ _ _ _ _ hT'.ms
    obtain ⟨f, hf⟩ := frames_lt hty (i := t) (by omega)
    refine Ret.mono (@eStepR_ex ⟨Y⟩ C c v B m t f S w' hT'.ms hf h2 y rest g h3') ?_
    rintro u w1 ⟨rfl, v', m', hR1, hO1, hL1⟩
    obtain ⟨O', c', B', hS, hT1⟩ := hT'.eng hR1
    have hty1 := @MS.ty ⟨Y⟩ _ _ _ _ _ _ hT1.ms
    refine ⟨rfl, O', c', v', B', m', hS, hT1, hP, ?_⟩
    have hg0 := (gasTo_le hty (t + 1) 0 (by omega)).2
    rcases hO1 with ⟨t', h5, h6⟩ | ⟨h5, h6⟩
    · obtain ⟨L, hL, hP1⟩ := hL1.ex
      have htop := hP1.top
      rw [h5.top] at htop
      have hg1 := (gasTo_le hty1 (t' + 1) 0 (by omega)).2
      have hne : (ystep khash y rest g).2 ≠ [] := by
        intro e
        rw [e] at htop
        simp only [List.length_nil] at htop
        omega
      refine ⟨(gasTo m'.frames (t' + 1)).toNat * 8 + t' + 1, ?_, Or.inl ⟨t', S, (ystep khash y rest g).2.dropLast, (ystep khash y rest g).2.getLast hne, (List.dropLast_concat_getLast hne).symm, h5, hL1, rfl⟩⟩
      have := h5.t6
      omega
    · exact ⟨0, hn, Or.inr (Or.inl ⟨rfl, h5.ph, h5.ti.rt.1, hL1⟩)⟩
  · omega
  · omega
/-- and so does the other -/
theorem Half.go {rest : List PF} {g : PF} (hH : Half O Y w C c v B m D x y xs rest g n) (hN : YN N y (rest ++ [g])) (hNb : 2800 ≤ N) (hN2 : N < 99999000) : Ret Hvac.prog 11 #[.pointer (some ⟨D, 0, none⟩)] w fun u w1 => u = .bool true ∧ ∃ O' Y' x' xs' n', KeepO Y w w1 ∧ (∀ b, Y' b → Y b ∨ w.heap.size ≤ b) ∧ n' < n ∧ Two O' Y' w1 C c v B m D x' (ystep khash y rest g).1 xs' (ystep khash y rest g).2 ∧ RunT w1 v m (ystep khash y rest g).1 (ystep khash y rest g).2 n' ∧ YN (N + 8) (ystep khash y rest g).1 (ystep khash y rest g).2 := by
  obtain ⟨hT, hP, n', hn', hR⟩ := hH
  obtain ⟨F, hF⟩ := @YX.fp O _ _ _ _ _ _ _ _ hT.yx
  refine Ret.mono (@yStep_spec O w (@YX.omb O _ _ _ _ _ _ _ hT.yx) Y D x y xs rest g N hT.yx (hP.psb hN hNb) (by omega) hP.yb (hP.pf g (by simp)).1 (fun f hf => hP.pf f (by simp [hf])) (hP.pf g (by simp)).2 (by have := hP.r6; omega) F hF (by have := hP.rz; omega) khash khash_ksum (by have := hP.hl; omega) hP.ph hP.mg hP.m32 (by have := hP.sl; omega) (sz_lt64.1 (by have := hP.pc; omega)) (by have := hP.il; omega) hP.vz) ?_
  rintro u w1 ⟨rfl, hY⟩
  obtain ⟨O', Y', x', xs', hk, hlow, hT1⟩ := hT.ret hY
  exact ⟨rfl, O', Y', x', xs', n', hk, hlow, hn', hT1, hR.kp hT hk, hN.step khash hN2 (hP.pf g (by simp)).2⟩
end

end Go.Proofs.YgvacwGreat
