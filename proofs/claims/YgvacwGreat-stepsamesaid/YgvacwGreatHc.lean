import Derived.Test.YgvacwGreatHa
namespace Go.Proofs.YgvacwGreat
set_option linter.unusedSimpArgs false
set_option linter.unusedVariables false
theorem one_YF (x : YFr) : ∀ u ∈ (encYF x).toArray.toList, u.oneCell' = true := by
  intro u hu
  simp [encYF, encWs, sv] at hu
  rcases hu with h | h | h | h | h | h | h | h | h | h | h | h | ⟨a, _, h⟩ | ⟨a, _, h⟩ | h | h | h | h | h | h | h | h <;> subst h <;> rfl
def fr0 : YFr := ⟨0, 0, false, (none, 0, 0), (none, 0, 0), (none, 0, 0), (none, 0, 0), (none, 0, 0), (none, 0, 0), (none, 0, 0), (none, 0, 0), (none, 0, 0), List.replicate 20 0, List.replicate 20 0, ⟨(none, 0, 0), (none, 0, 0), (none, 0, 0), (none, 0, 0), (none, 0, 0), (none, 0, 0), (none, 0, 0), (none, 0, 0)⟩⟩
theorem fr0_sz : (encYF fr0).toArray.size = 60 := encYF_sz rfl rfl
theorem ylvA_a {y : PSt} {f : PF} {st : Nat} {L : List Int} (hm : ycreates f.kind = true) (h0 : st = 0) (hd : (ydep f L).2 = 0) (hl : 0 < L.length) : ylvA y f st L = ((ydep f L).1, (ydep f L).2, [], ysAccts y (yput y.now.accts { yacct y.now.accts f.self with code := L })) := by unfold ylvA; rw [if_pos ⟨hm, h0⟩, if_pos hd, if_pos hl]
theorem ylvA_b {y : PSt} {f : PF} {st : Nat} {L : List Int} (hm : ycreates f.kind = true) (h0 : st = 0) (hd : (ydep f L).2 = 0) (hl : ¬ 0 < L.length) : ylvA y f st L = ((ydep f L).1, (ydep f L).2, [], y) := by unfold ylvA; rw [if_pos ⟨hm, h0⟩, if_pos hd, if_neg hl]
theorem ylvA_c {y : PSt} {f : PF} {st : Nat} {L : List Int} (hm : ycreates f.kind = true) (h0 : st = 0) (hd : ¬ (ydep f L).2 = 0) : ylvA y f st L = ((ydep f L).1, (ydep f L).2, L, y) := by unfold ylvA; rw [if_pos ⟨hm, h0⟩, if_neg hd]
theorem ylvA_d {y : PSt} {f : PF} {st : Nat} {L : List Int} (h : ¬ (ycreates f.kind = true ∧ st = 0)) : ylvA y f st L = (f.gas, st, L, y) := by unfold ylvA; rw [if_neg h]
theorem ylvA_bd {y : PSt} {f : PF} {st : Nat} {L : List Int} (h : sz f.gas ≤ 30) (hs : st ≤ 255) : sz (ylvA y f st L).1 ≤ 30 ∧ (ylvA y f st L).2.1 ≤ 255 ∧ (ylvA y f st L).2.2.1.length ≤ L.length := by
  have h0 : sz 0 ≤ 30 := sz_le (by decide)
  have hd : sz (ydep f L).1 ≤ 30 ∧ (ydep f L).2 ≤ 255 := by
    have h1 : sz (f.gas - 200 * L.length) ≤ 30 := Nat.le_trans (sz_mono (Nat.sub_le _ _)) h
    unfold ydep
    repeat (first | exact ⟨h0, by decide⟩ | exact ⟨h1, Nat.zero_le _⟩ | split)
  unfold ylvA
  split
  · split
    · exact ⟨hd.1, hd.2, Nat.zero_le _⟩
    · exact ⟨hd.1, hd.2, Nat.le_refl _⟩
  · exact ⟨h, hs, Nat.le_refl _⟩
theorem AcR.setCode [Om] {w : World} {x : YAc} {a : PA} {p : Option Addr} {n c : Nat} {L : List Int} (h : AcR w x a) (hc : PB w (p, n, c) L) : AcR w { x with code := (p, n, c) } { a with code := L } := ⟨h.addr, h.ab, h.nonce, h.bal, h.nz, h.bz, hc, h.slots⟩
theorem SStep.pre [Om] {w w1 w2 : World} {C : Nat} {x : YSt} {y : PSt} (he : Ext w w1) (h : SStep w1 w2 C x y) : SStep w w2 C x y := ⟨(he.keepO _).trans h.keep (fun _ _ e => e), h.ss⟩
theorem KeepO.mono {O O' : Nat → Prop} {w w' : World} (h : KeepO O w w') (hO : ∀ b, O b → O' b) : KeepO O' w w' := ⟨h.sz, fun b hb hn => h.old b hb (fun e => hn (hO b e)), h.en⟩
theorem SStep.put2 [Om] {w w1 w2 : World} {C : Nat} {x x' : YSt} {y y' : PSt} {c : Array Value} (h2 : w2 = setB w1 C (.cells c 101 (0, 0))) (hS : YSS w C x y) (hE : Ext w w1) (hc : c = (encYS x').toArray) (hr : StRel w1 x' y') : SStep w w2 C x' y' := SStep.put hS hE hr hc h2
theorem ylvB_1 {f : PF} {A : Nat × Nat × List Int × PSt} (h : A.2.1 ≠ 0) : (ylvB f A).2.2.2 = { A.2.2.2 with now := f.saved } := by unfold ylvB; dsimp only; rw [if_pos h]
theorem ylvB_2 {f : PF} {A : Nat × Nat × List Int × PSt} (h : ¬ A.2.1 ≠ 0) : (ylvB f A).2.2.2 = A.2.2.2 := by unfold ylvB; dsimp only; rw [if_neg h]
theorem ylvB_3 {f : PF} {A : Nat × Nat × List Int × PSt} (h : 1 < A.2.1) : (ylvB f A).1 = 0 ∧ (ylvB f A).2.2.1 = [] := by unfold ylvB; dsimp only; rw [if_pos h, if_pos h]; exact ⟨rfl, rfl⟩
theorem ylvB_4 {f : PF} {A : Nat × Nat × List Int × PSt} (h : ¬ 1 < A.2.1) : (ylvB f A).1 = A.1 ∧ (ylvB f A).2.2.1 = A.2.2.1 := by unfold ylvB; dsimp only; rw [if_neg h, if_neg h]; exact ⟨rfl, rfl⟩
theorem AB.xt {w : World} {b o n : Nat} {r : Array Value} {T : TypeId} {fz : Nat × Nat} {L : List Int} (hb : Hb w b (.cells r T fz)) (hx : Xt r o (o + n) (ic .u8 L)) (hr : o + n ≤ r.size) (hl : L.length = n) (hby : ∀ x ∈ L, 0 ≤ x ∧ x ≤ 255) : AB w (some ⟨b, o, none⟩, n, n) L := ⟨hl, Nat.le_refl _, hby, fun _ => ⟨b, o, r, T, fz, rfl, hb, hr, hx⟩⟩
theorem PS_slS_hA {P : Program} {ρ : Nat → Value} {t e : TypeId} {s n cp : Nat} {kh : IntKind} {h : Int} {x xh : Operand} {p : Option Addr} (hU : ∀ w, (underlying t).run P w = .ok (.slice e) w) (hS : ∀ w, (Go.sizeOf e).run P w = .ok s w) (hx : ev ρ x = .slice p n cp) (hh : ev ρ xh = .int kh h) (hh0 : 0 ≤ h) (hh1 : h ≤ cp) : PS P (.slice t x none (some xh) none) ρ (.slice p h.toNat cp) :=
  ⟨fun oo w hop => by
    have bh := fun code => bound_ok (P := P) (k := kh) (code := code) w hh0 (show h ≤ ((cp : Nat) : Int) from hh1)
    have hpp : p.map (fun a => a.add (0 * s)) = p := by cases p <;> simp [Addr.add]
    simp [execOp, hop, Instr.sliceAt, hU, hx, Instr.sliceBounds, hS, Instr.slice, hh, bh]
    try (cases p <;> simp [Addr.add])
    done⟩
theorem PFB.back {p : PF} {g : Nat} (h : PFB p) (hg : sz p.gas ≤ 30) (h2 : sz g ≤ 30) : PFB { p with gas := p.gas + g } := { h with gas := by have := sz_add p.gas g; show sz (p.gas + g) ≤ 40; omega }
theorem PFB.wr {p : PF} {a : Nat} {M : List Int} (h : PFB p) : PFB (ywrite p a M) := { h with ml := by show (ywr p.mem a M).length ≤ _; rw [ywr_len]; exact h.ml }

set_option maxRecDepth 10000 in
set_option maxHeartbeats 4000000 in
theorem yLeave_spec [Om] (w : World) (hO : OmB w) (Y : Nat → Prop) (C : Nat) (x : YSt) (y : PSt) (xs : List YFr) (rest : List PF) (f : PF) (N : Nat) (hX : YX Y w C x y xs (rest ++ [f])) (hB : PSB N y) (hN : N ≤ 99999900) (hP : PFB f) (hPr : ∀ g ∈ rest, PFB g ∧ sz g.gas ≤ 30) (hgf : sz f.gas ≤ 30) (hrl : rest.length ≤ 1000) (sv : Nat) (hsv : sv ≤ 255) (p : Option Addr) (sn sc : Nat) (L : List Int) (hs : PB w (p, sn, sc) L) (hsn : sn ≤ 1000000) : Ret Hvac.prog 43 #[.pointer (some ⟨C, 0, none⟩), .int .u8 sv, .slice p sn sc] w fun u w' => u = .tuple #[] ∧ YRet Y w w' C (yleave y rest f sv L).1 (yleave y rest f sv L).2 := by
  have hO0 := hO
  have hSb := hX.ss.blk
  have hSS := hX.ss
  have hSo := hX.ss.om
  have hSl := hSb.lt
  have hlf := hX.frs.lf
  rw [List.length_append, List.length_singleton] at hlf
  obtain ⟨F, r, xf, f0, hFp, hYF, hxf, hf0, hFM, hrs, hF1⟩ := hX.frs.at_ (i := rest.length) (by omega)
  rw [List.getElem?_append_right (Nat.le_refl _), Nat.sub_self, List.getElem?_cons_zero] at hf0
  have hf0' := Option.some.inj hf0
  subst hf0'
  have hFR := hF1.rel
  have hFC := hFM.fc
  have hFb := hFM.blk
  have hFl := hFb.lt
  have hFsz := hFC.size
  have hsf : xf.self.length = 20 := by rw [hFR.self]; exact hFR.sb.1
  have hcf : xf.caller.length = 20 := by rw [hFR.caller]; exact hFR.cb.1
  have hszf := encYF_sz hsf hcf
  have hsz0 := fr0_sz
  have honef := one_YF xf
  have hBX := FC.box rfl hsf hcf
  have hkk : Ce (encYF xf).toArray (0 + 0) (.int .u8 f.kind) := by rw [← hFR.kind]; exact ⟨rfl⟩
  have hk4 := hBX.gas
  have hN4f := hFR.gas
  have hkz := hP.gas
  have hk12 := hBX.self
  rw [hFR.self] at hk12
  have hsbl := hFR.sb.1
  have hk52 := hBX.saved
  have hones := one_Ws2 xf.saved
  have hkd := hP.kd
  have hylS : ∀ b, sblk xf.saved.logs b → Om.p b → Y b := fun b hb hp => by
    obtain ⟨L9, h1, _⟩ := hFR.saved.logs
    obtain ⟨o9, h2, h3⟩ := hb
    obtain ⟨b9, r9, fz9, h4, h5, _⟩ := h1.row h3
    rw [h2] at h4
    injection h4 with h4
    injection h4 with h4 _
    subst h4
    exact absurd hp h5
  have hXf : Xt r (0 + (((rest.length + 1 : Nat) : Int) - 1).toNat * 60) (0 + (((rest.length + 1 : Nat) : Int) - 1).toNat * 60 + 60) (encYF xf).toArray := by rw [show (((rest.length + 1 : Nat) : Int) - 1).toNat = rest.length by omega, Nat.zero_add]; exact hFC.xt
  have hk9g : ∀ x' : YSt, x'.frames = x.frames → Ce (encYS x').toArray (0 + 9) (.slice (some ⟨F, 0, none⟩) (rest.length + 1) x.frames.2.2) := fun x' he => ⟨by
    have h9 : (encYS x').toArray[0 + 9]? = some (.slice x'.frames.1 x'.frames.2.1 x'.frames.2.2) := rfl
    rw [h9, he, hFp, ← hlf]⟩
  have hk9 := hk9g x rfl
  have hfcap := hX.frs.cap
  have hLn := hs.len
  dsimp only at hLn
  obtain ⟨hAz, hAs, hAl⟩ := ylvA_bd (y := y) (L := L) hgf hsv
  refine Ret_of_W Hvac.func43 rfl rfl ?_
  refine W_seq ?_
  refine W_drawE [false, false, false, false, false, false, false, false, false, false, false, false, true, false] hmix (by kernel_rfl) rfl ?_
  refine WH_p (PS_move_ptr rfl) rfl ?_
  refine WH_p (PS_nilCheck rfl) rfl ?_
  refine WH_p (PS_fieldAddr 9 Hvac.runUnderlying99 rfl Hvac.sizeOf97 rfl rfl) rfl ?_
  refine WH_load (.slice _ _ _) Hvac.isAgg97 rfl (Hb.h (by repeat (first | assumption | exact Hb.newY _ _ | refine Hb.alloc ?_ | refine Hb.drew ?_ | refine Hb.ext (by assumption) ?_ | exact Hb.setSameL (by first | omega | (simp only [size_alloc, size_setB, size_drew]; omega)) | exact Hb.setSame (by assumption) | refine Hb.set (by first | omega | (simp only [size_alloc, size_setB, size_drew]; omega)) ?_ ))) (Ce.h (by first | assumption | exact ⟨rfl⟩)) ?_
  refine WH_p (PS_move_ptr rfl) rfl ?_
  refine WH_p (PS_nilCheck rfl) rfl ?_
  refine WH_p (PS_fieldAddr 9 Hvac.runUnderlying99 rfl Hvac.sizeOf97 rfl rfl) rfl ?_
  refine WH_load (.slice _ _ _) Hvac.isAgg97 rfl (Hb.h (by repeat (first | assumption | exact Hb.newY _ _ | refine Hb.alloc ?_ | refine Hb.drew ?_ | refine Hb.ext (by assumption) ?_ | exact Hb.setSameL (by first | omega | (simp only [size_alloc, size_setB, size_drew]; omega)) | exact Hb.setSame (by assumption) | refine Hb.set (by first | omega | (simp only [size_alloc, size_setB, size_drew]; omega)) ?_ ))) (Ce.h (by first | assumption | exact ⟨rfl⟩)) ?_
  refine WH_p (PS_lenS Hvac.runUnderlying97 rfl) rfl ?_
  refine WH_p (PS_sub_i64n rfl rfl (by omega) (by omega)) rfl ?_
  refine WH_p (PS_indexS Hvac.runUnderlying97 Hvac.sizeOf121 rfl rfl (by omega) (by omega)) rfl ?_
  refine WH_loadA _ Hvac.isAgg121 Hvac.sizeOf121 rfl (Hb.h (by repeat (first | assumption | exact Hb.newY _ _ | refine Hb.alloc ?_ | refine Hb.drew ?_ | refine Hb.ext (by assumption) ?_ | exact Hb.setSameL (by first | omega | (simp only [size_alloc, size_setB, size_drew]; omega)) | exact Hb.setSame (by assumption) | refine Hb.set (by first | omega | (simp only [size_alloc, size_setB, size_drew]; omega)) ?_ ))) (by first | omega | assumption | rfl | decide | exact Nat.le_refl _ | (simp only [size_ic, Value.cells]; omega) | (simp [encWs]; done) | (simp; omega) | simp | exact encYA_sz (by assumption) | exact encYT_sz (by assumption) | exact encYM_sz (by assumption)) (Xt.h (by first | assumption | exact Xt.whole rfl rfl | exact Xt.whole rfl (by assumption) | exact Xt.whole rfl (by simp only [size_ic, Value.cells]; omega) | exact ⟨rfl⟩)) ?_
  refine WH_allocG Hvac.zeroValue121 ?_
  intro b6 v6 hg6 hE6 hH6 hl6
  try simp only [size_alloc, size_setB, size_drew] at hg6
  have hzz6 := hE6.1
  try simp only [size_alloc, size_setB, size_drew] at hzz6
  replace hH6 : Hb v6 b6 (.cells ((encYF fr0).toArray) 121 (0, 0)) := hH6
  refine ⟨fun _ => (by repeat (first | assumption | exact Ext.refl _ | refine Ext.alloc ?_ _ | refine Ext.drew ?_ | refine Ext.setB ?_ (by first | omega | (simp only [size_alloc, size_setB, size_drew]; omega)) _ | exact Ext.trans (by assumption) (by assumption) | refine Ext.trans ?_ (by assumption))), ?_⟩
  first | refine WH_storeW Hvac.sizeOf121 rfl (v := .agg _) rfl (Hb.h (by repeat (first | assumption | exact Hb.newY _ _ | refine Hb.alloc ?_ | refine Hb.drew ?_ | refine Hb.ext (by assumption) ?_ | exact Hb.setSameL (by first | omega | (simp only [size_alloc, size_setB, size_drew]; omega)) | exact Hb.setSame (by assumption) | refine Hb.set (by first | omega | (simp only [size_alloc, size_setB, size_drew]; omega)) ?_ ))) rfl (by first | omega | assumption | rfl | decide | exact Nat.le_refl _ | (simp only [size_ic, Value.cells]; omega) | (simp [encWs]; done) | (simp; omega) | simp | exact encYA_sz (by assumption) | exact encYT_sz (by assumption) | exact encYM_sz (by assumption)) (by first | omega | assumption | rfl | decide | exact Nat.le_refl _ | (simp only [size_ic, Value.cells]; omega) | (simp [encWs]; done) | (simp; omega) | simp | exact encYA_sz (by assumption) | exact encYT_sz (by assumption) | exact encYM_sz (by assumption)) (by first | exact oneCell_ic | assumption | exact one_Ws2 _ | exact one_YA2 _ | exact one_YSl2 _ | exact one_YM2 _ | exact one_YT2 _ | exact one_L2 _) (fun h => by cases h) ?_ | refine WH_store Hvac.sizeOf121 rfl (v := .agg _) rfl (Hb.h (by repeat (first | assumption | exact Hb.newY _ _ | refine Hb.alloc ?_ | refine Hb.drew ?_ | refine Hb.ext (by assumption) ?_ | exact Hb.setSameL (by first | omega | (simp only [size_alloc, size_setB, size_drew]; omega)) | exact Hb.setSame (by assumption) | refine Hb.set (by first | omega | (simp only [size_alloc, size_setB, size_drew]; omega)) ?_ ))) (by first | omega | assumption | rfl | decide | exact Nat.le_refl _ | (simp only [size_ic, Value.cells]; omega) | (simp [encWs]; done) | (simp; omega) | simp | exact encYA_sz (by assumption) | exact encYT_sz (by assumption) | exact encYM_sz (by assumption)) (by first | omega | assumption | rfl | decide | exact Nat.le_refl _ | (simp only [size_ic, Value.cells]; omega) | (simp [encWs]; done) | (simp; omega) | simp | exact encYA_sz (by assumption) | exact encYT_sz (by assumption) | exact encYM_sz (by assumption)) (by first | exact oneCell_ic | assumption | exact one_Ws2 _ | exact one_YA2 _ | exact one_YSl2 _ | exact one_YM2 _ | exact one_YT2 _ | exact one_L2 _) (fun h => by cases h) ?_
  refine WH_nil ?_
  refine thn_normal ?_
  refine W_seq ?_
  refine W_region rfl ?_
  refine WO_p (PS_fieldAddr 4 Hvac.runUnderlying121 rfl Hvac.sizeOf92 rfl rfl) ?_
  refine WO_load (.slice _ _ _) Hvac.isAgg92 rfl (Hb.h (by repeat (first | assumption | exact Hb.newY _ _ | refine Hb.alloc ?_ | refine Hb.drew ?_ | refine Hb.ext (by assumption) ?_ | exact Hb.setSameL (by first | omega | (simp only [size_alloc, size_setB, size_drew]; omega)) | exact Hb.setSame (by assumption) | refine Hb.set (by first | omega | (simp only [size_alloc, size_setB, size_drew]; omega)) ?_ ))) (Ce.h (by first | assumption | exact ⟨rfl⟩)) ?_
  refine WO_p (PS_assign_slice rfl) ?_
  refine WO_nil ?_
  refine thn_normal ?_
  refine W_seq ?_
  refine W_region rfl ?_
  refine WO_p (PS_fieldAddr 0 Hvac.runUnderlying121 rfl Hvac.sizeOf5 rfl rfl) ?_
  refine WO_load (.int _ _) Hvac.isAgg5 rfl (Hb.h (by repeat (first | assumption | exact Hb.newY _ _ | refine Hb.alloc ?_ | refine Hb.drew ?_ | refine Hb.ext (by assumption) ?_ | exact Hb.setSameL (by first | omega | (simp only [size_alloc, size_setB, size_drew]; omega)) | exact Hb.setSame (by assumption) | refine Hb.set (by first | omega | (simp only [size_alloc, size_setB, size_drew]; omega)) ?_ ))) (Ce.h (by first | assumption | exact ⟨rfl⟩)) ?_
  refine WO_call Hvac.call93 (by rfl) (Ret.mono (yCreates_spec f.kind _ hP.kd) ?_)
  rintro _ w93_0 ⟨hE93_0, rfl⟩
  have hz93_0 := hE93_0.1
  try simp only [size_alloc, size_setB, size_drew] at hz93_0
  refine WO_p (PS_assign_bool rfl) ?_
  refine WO_nil ?_
  refine thn_normal ?_
  refine W_seqJ (fun ρ w' => ∃ (s7 s2 : SV) (x1 : YSt), Fr [(0, .pointer (some ⟨C, 0, none⟩)), (1, .int .u8 ((ylvA y f sv L).2.1)), (2, .slice s2.1 s2.2.1 s2.2.2), (6, .pointer (some ⟨b6, 0, none⟩)), (7, .slice s7.1 s7.2.1 s7.2.2), (8, .bool (ycreates f.kind))] ρ ∧ SStep w w' C x1 (ylvA y f sv L).2.2.2 ∧ x1.frames = x.frames ∧ (∀ b, sblk x1.now.logs b → Om.p b → Y b) ∧ NN w' s7 (ylvA y f sv L).1 ∧ PB w' s2 (ylvA y f sv L).2.2.1 ∧ Hb w' b6 (.cells (encYF xf).toArray 121 (0, 0))) ?_ ?_
  · skip
    refine W_seq ?_
    refine W_region rfl ?_
    refine WO_p (PS_move_bool rfl) ?_
    refine WO_p (PS_move_bool rfl) ?_
    refine WO_if (t := 31) rfl (fun hb3 => ?_) (fun hb3 => ?_)
    · have hb3p := hb3.h; try simp only [al_ete, al_dfn, Bool.not_eq_true', Bool.not_eq_false', al_ne, Bool.not_not, al_nn] at hb3p
      have hmk : ycreates f.kind = true := hb3p
      refine WO_guardT rfl rfl hb3.h ?_
      refine WO_p (PS_move_int rfl) ?_
      refine WO_guardT rfl rfl hb3.h ?_
      refine WO_p (PS_eql rfl rfl) ?_
      refine WO_p (PS_pickT rfl hb3.h rfl) ?_
      refine WO_nil ?_
      refine thn_normal ?_
      refine W_if rfl (fun hb5 => ?_) (fun hb5 => ?_)
      · have hb5p := hb5.h; try simp only [al_ete, al_dfn, Bool.not_eq_true', Bool.not_eq_false', al_ne, Bool.not_not, al_nn] at hb5p
        have hs0 : sv = 0 := by omega
        refine W_seq ?_
        refine W_region rfl ?_
        refine WO_p (PS_move_slice rfl) ?_
        refine WO_call Hvac.call115 (by rfl) (Ret.mono (yDeposit_spec _ (OmB.ext hO (by repeat (first | assumption | exact Ext.refl _ | refine Ext.alloc ?_ _ | refine Ext.drew ?_ | refine Ext.setB ?_ (by first | omega | (simp only [size_alloc, size_setB, size_drew]; omega)) _ | exact Ext.trans (by assumption) (by assumption) | refine Ext.trans ?_ (by assumption)))) _ _ xf f ⟨⟨_, _, _, Hb.mk (Hb.h (by repeat (first | assumption | exact Hb.newY _ _ | refine Hb.alloc ?_ | refine Hb.drew ?_ | refine Hb.ext (by assumption) ?_ | exact Hb.setSameL (by first | omega | (simp only [size_alloc, size_setB, size_drew]; omega)) | exact Hb.setSame (by assumption) | refine Hb.set (by first | omega | (simp only [size_alloc, size_setB, size_drew]; omega)) ?_ ))), hBX⟩, FrR.ext hFR (by repeat (first | assumption | exact Ext.refl _ | refine Ext.alloc ?_ _ | refine Ext.drew ?_ | refine Ext.setB ?_ (by first | omega | (simp only [size_alloc, size_setB, size_drew]; omega)) _ | exact Ext.trans (by assumption) (by assumption) | refine Ext.trans ?_ (by assumption)))⟩ hP _ _ _ _ (PB.ab (by first | exact PB.nil _ | assumption | exact PB.ext (by assumption) (by repeat (first | assumption | exact Ext.refl _ | refine Ext.alloc ?_ _ | refine Ext.drew ?_ | refine Ext.setB ?_ (by first | omega | (simp only [size_alloc, size_setB, size_drew]; omega)) _ | exact Ext.trans (by assumption) (by assumption) | refine Ext.trans ?_ (by assumption))))) (by omega)) ?_)
        rintro _ w4 ⟨hE4, s4, rfl, hN4⟩
        have hz4 := hE4.1
        try simp only [size_alloc, size_setB, size_drew] at hz4
        refine WO_p (PS_move_tuple rfl) ?_
        refine WO_p (PS_extract_slice rfl rfl) ?_
        refine WO_p (PS_extract_int rfl rfl) ?_
        refine WO_p (PS_assign_slice rfl) ?_
        refine WO_p (PS_assign_int rfl) ?_
        refine WO_nil ?_
        refine thn_normal ?_
        refine W_seq ?_
        refine W_region rfl ?_
        refine WO_p (PS_move_int rfl) ?_
        refine WO_p (PS_eql rfl rfl) ?_
        refine WO_nil ?_
        refine thn_normal ?_
        refine W_if rfl (fun hb8 => ?_) (fun hb8 => ?_)
        · have hb8p := hb8.h; try simp only [al_ete, al_dfn, Bool.not_eq_true', Bool.not_eq_false', al_ne, Bool.not_not, al_nn] at hb8p
          have hd0 : (ydep f L).2 = 0 := by omega
          refine W_seq ?_
          refine W_seq ?_
          refine W_region rfl ?_
          refine WO_p (PS_move_slice rfl) ?_
          refine WO_p (PS_lenS Hvac.runUnderlying32 rfl) ?_
          refine WO_p (PS_gtr rfl rfl) ?_
          refine WO_nil ?_
          refine thn_normal ?_
          refine W_if rfl (fun hb10 => ?_) (fun hb10 => ?_)
          · have hb10p := hb10.h; try simp only [al_ete, al_dfn, Bool.not_eq_true', Bool.not_eq_false', al_ne, Bool.not_not, al_nn] at hb10p
            have hl0 : 0 < L.length := by omega
            refine W_seq ?_
            refine W_drawF [false, false, false, false, false, false, true, false] [6] [0, 1, 2, 3, 4, 5, 7] hmix (by kernel_rfl) rfl rfl rfl ?_
            refine F_q (i := 0) rfl (by kernel_rfl) ?_
            refine WH_p (PS_move_ptr rfl) rfl ?_
            refine WH_nil ?_
            refine F_q (i := 1) rfl (by kernel_rfl) ?_
            refine WH_p (PS_nilCheck rfl) rfl ?_
            refine WH_nil ?_
            refine F_q (i := 2) rfl (by kernel_rfl) ?_
            refine WH_p (PS_fieldAddr 0 Hvac.runUnderlying99 rfl Hvac.sizeOf95 rfl rfl) rfl ?_
            refine WH_nil ?_
            refine F_q (i := 3) rfl (by kernel_rfl) ?_
            refine WH_p (PS_fieldAddr 12 Hvac.runUnderlying121 rfl Hvac.sizeOf25 rfl rfl) rfl ?_
            refine WH_nil ?_
            refine F_q (i := 4) rfl (by kernel_rfl) ?_
            refine WH_loadA _ Hvac.isAgg25 Hvac.sizeOf25 rfl (Hb.h (by repeat (first | assumption | exact Hb.newY _ _ | refine Hb.alloc ?_ | refine Hb.drew ?_ | refine Hb.ext (by assumption) ?_ | exact Hb.setSameL (by first | omega | (simp only [size_alloc, size_setB, size_drew]; omega)) | exact Hb.setSame (by assumption) | refine Hb.set (by first | omega | (simp only [size_alloc, size_setB, size_drew]; omega)) ?_ ))) (by first | omega | assumption | rfl | decide | exact Nat.le_refl _ | (simp only [size_ic, Value.cells]; omega) | (simp [encWs]; done) | (simp; omega) | simp | exact encYA_sz (by assumption) | exact encYT_sz (by assumption) | exact encYM_sz (by assumption)) (Xt.h (by first | assumption | exact Xt.whole rfl rfl | exact Xt.whole rfl (by assumption) | exact Xt.whole rfl (by simp only [size_ic, Value.cells]; omega) | exact ⟨rfl⟩)) ?_
            refine WH_nil ?_
            refine F_fork1 (i := 5) rfl rfl ?_ ?_
            · refine WH_call Hvac.call17 (by rfl) (Ret.mono (acctS (OmB.ext hO (by repeat (first | assumption | exact Ext.refl _ | refine Ext.alloc ?_ _ | refine Ext.drew ?_ | refine Ext.setB ?_ (by first | omega | (simp only [size_alloc, size_setB, size_drew]; omega)) _ | exact Ext.trans (by assumption) (by assumption) | refine Ext.trans ?_ (by assumption)))) (by first | assumption | exact YSS.ext (by assumption) (by repeat (first | assumption | exact Ext.refl _ | refine Ext.alloc ?_ _ | refine Ext.drew ?_ | refine Ext.setB ?_ (by first | omega | (simp only [size_alloc, size_setB, size_drew]; omega)) _ | exact Ext.trans (by assumption) (by assumption) | refine Ext.trans ?_ (by assumption)))) hB (by omega) hFR.sb) ?_)
              rintro _ w7 ⟨hE7, x7, rfl, hxa7, hxr7⟩
              refine ⟨(fun h => by cases h), ?_⟩
              have hz7 := hE7.1
              try simp only [size_alloc, size_setB, size_drew] at hz7
              have hxl7 : x7.addr.length = 20 := by rw [hxa7]; exact hFR.sb.1
              have hsz7 : (encYA x7).toArray.size = 24 := by simpa using encYA_len hxl7
              have hone7 := one_YA2 x7
              have hsz8 : (encYA { x7 with code := (p, sn, sc) }).toArray.size = 24 := by simpa using encYA_len (x := { x7 with code := (p, sn, sc) }) hxl7
              refine WH_nil ?_
              refine F_fork1B (i := 7) (by kernel_rfl) rfl ?_
              · refine WH_allocG Hvac.zeroValue104 ?_
                intro b9 v9 hg9 hE9 hH9 hl9
                try simp only [size_alloc, size_setB, size_drew] at hg9
                have hzz9 := hE9.1
                try simp only [size_alloc, size_setB, size_drew] at hzz9
                replace hH9 : Hb v9 b9 (.cells ((encYA (ac0 (List.replicate 20 0))).toArray) 104 (0, 0)) := hH9
                refine ⟨fun _ => (by repeat (first | assumption | exact Ext.refl _ | refine Ext.alloc ?_ _ | refine Ext.drew ?_ | refine Ext.setB ?_ (by first | omega | (simp only [size_alloc, size_setB, size_drew]; omega)) _ | exact Ext.trans (by assumption) (by assumption) | refine Ext.trans ?_ (by assumption))), ?_⟩
                refine WH_nil ?_
                refine F_q (i := 7) rfl (by kernel_rfl) ?_
                first | refine WH_storeW Hvac.sizeOf104 rfl (v := .agg _) rfl (Hb.h (by repeat (first | assumption | exact Hb.newY _ _ | refine Hb.alloc ?_ | refine Hb.drew ?_ | refine Hb.ext (by assumption) ?_ | exact Hb.setSameL (by first | omega | (simp only [size_alloc, size_setB, size_drew]; omega)) | exact Hb.setSame (by assumption) | refine Hb.set (by first | omega | (simp only [size_alloc, size_setB, size_drew]; omega)) ?_ ))) rfl (by first | omega | assumption | rfl | decide | exact Nat.le_refl _ | (simp only [size_ic, Value.cells]; omega) | (simp [encWs]; done) | (simp; omega) | simp | exact encYA_sz (by assumption) | exact encYT_sz (by assumption) | exact encYM_sz (by assumption)) (by first | omega | assumption | rfl | decide | exact Nat.le_refl _ | (simp only [size_ic, Value.cells]; omega) | (simp [encWs]; done) | (simp; omega) | simp | exact encYA_sz (by assumption) | exact encYT_sz (by assumption) | exact encYM_sz (by assumption)) (by first | exact oneCell_ic | assumption | exact one_Ws2 _ | exact one_YA2 _ | exact one_YSl2 _ | exact one_YM2 _ | exact one_YT2 _ | exact one_L2 _) (fun h => by cases h) ?_ | refine WH_store Hvac.sizeOf104 rfl (v := .agg _) rfl (Hb.h (by repeat (first | assumption | exact Hb.newY _ _ | refine Hb.alloc ?_ | refine Hb.drew ?_ | refine Hb.ext (by assumption) ?_ | exact Hb.setSameL (by first | omega | (simp only [size_alloc, size_setB, size_drew]; omega)) | exact Hb.setSame (by assumption) | refine Hb.set (by first | omega | (simp only [size_alloc, size_setB, size_drew]; omega)) ?_ ))) (by first | omega | assumption | rfl | decide | exact Nat.le_refl _ | (simp only [size_ic, Value.cells]; omega) | (simp [encWs]; done) | (simp; omega) | simp | exact encYA_sz (by assumption) | exact encYT_sz (by assumption) | exact encYM_sz (by assumption)) (by first | omega | assumption | rfl | decide | exact Nat.le_refl _ | (simp only [size_ic, Value.cells]; omega) | (simp [encWs]; done) | (simp; omega) | simp | exact encYA_sz (by assumption) | exact encYT_sz (by assumption) | exact encYM_sz (by assumption)) (by first | exact oneCell_ic | assumption | exact one_Ws2 _ | exact one_YA2 _ | exact one_YSl2 _ | exact one_YM2 _ | exact one_YT2 _ | exact one_L2 _) (fun h => by cases h) ?_
                refine WH_nil ?_
                refine F_end ?_
                refine thn_normal ?_
                refine W_seq ?_
                refine W_region rfl ?_
                refine WO_p (PS_move_slice rfl) ?_
                refine WO_p (PS_fieldAddr 22 Hvac.runUnderlying104 rfl Hvac.sizeOf32 rfl rfl) ?_
                refine WO_store1 Hvac.sizeOf32 rfl (v := (.slice _ _ _)) rfl (Hb.h (by repeat (first | assumption | exact Hb.newY _ _ | refine Hb.alloc ?_ | refine Hb.drew ?_ | refine Hb.ext (by assumption) ?_ | exact Hb.setSameL (by first | omega | (simp only [size_alloc, size_setB, size_drew]; omega)) | exact Hb.setSame (by assumption) | refine Hb.set (by first | omega | (simp only [size_alloc, size_setB, size_drew]; omega)) ?_ ))) rfl (by first | omega | assumption | rfl | decide | exact Nat.le_refl _ | (simp only [size_ic, Value.cells]; omega) | (simp [encWs]; done) | (simp; omega) | simp | exact encYA_sz (by assumption) | exact encYT_sz (by assumption) | exact encYM_sz (by assumption)) rfl ?_
                refine WO_nil ?_
                refine thn_normal ?_
                rw [show (Value.agg (encYA x7).toArray).cells = (encYA x7).toArray from rfl, encYA_set3 hxl7 p sn sc]
                refine W_drawE [false, false, false, false, false] hmix (by kernel_rfl) rfl ?_
                refine WH_p (PS_move_ptr rfl) rfl ?_
                refine WH_p (PS_nilCheck rfl) rfl ?_
                refine WH_p (PS_fieldAddr 0 Hvac.runUnderlying99 rfl Hvac.sizeOf95 rfl rfl) rfl ?_
                refine WH_loadA _ Hvac.isAgg104 Hvac.sizeOf104 rfl (Hb.h (by repeat (first | assumption | exact Hb.newY _ _ | refine Hb.alloc ?_ | refine Hb.drew ?_ | refine Hb.ext (by assumption) ?_ | exact Hb.setSameL (by first | omega | (simp only [size_alloc, size_setB, size_drew]; omega)) | exact Hb.setSame (by assumption) | refine Hb.set (by first | omega | (simp only [size_alloc, size_setB, size_drew]; omega)) ?_ ))) (by first | omega | assumption | rfl | decide | exact Nat.le_refl _ | (simp only [size_ic, Value.cells]; omega) | (simp [encWs]; done) | (simp; omega) | simp | exact encYA_sz (by assumption) | exact encYT_sz (by assumption) | exact encYM_sz (by assumption)) (Xt.h (by first | assumption | exact Xt.whole rfl rfl | exact Xt.whole rfl (by assumption) | exact Xt.whole rfl (by simp only [size_ic, Value.cells]; omega) | exact ⟨rfl⟩)) ?_
                refine WH_call Hvac.call85 (by rfl) (Ret.mono (putS (xa := { x7 with code := (p, sn, sc) }) (a := { yacct y.now.accts f.self with code := L }) (OmB.ext hO (by repeat (first | assumption | exact Ext.refl _ | refine Ext.alloc ?_ _ | refine Ext.drew ?_ | refine Ext.setB ?_ (by first | omega | (simp only [size_alloc, size_setB, size_drew]; omega)) _ | exact Ext.trans (by assumption) (by assumption) | refine Ext.trans ?_ (by assumption)))) (by first | assumption | exact YSS.ext (by assumption) (by repeat (first | assumption | exact Ext.refl _ | refine Ext.alloc ?_ _ | refine Ext.drew ?_ | refine Ext.setB ?_ (by first | omega | (simp only [size_alloc, size_setB, size_drew]; omega)) _ | exact Ext.trans (by assumption) (by assumption) | refine Ext.trans ?_ (by assumption)))) hB (by omega) (AcR.setCode (by first | (refine AcR.ext hxr7 ?_; (repeat (first | assumption | exact Ext.refl _ | refine Ext.alloc ?_ _ | refine Ext.drew ?_ | refine Ext.setB ?_ (by first | omega | (simp only [size_alloc, size_setB, size_drew]; omega)) _ | refine Ext.trans ?_ (by assumption))); done) | exact AcR.box0 (AcR.box0 hxr7 (Hb.mk (Hb.h (by repeat (first | assumption | exact Hb.newY _ _ | refine Hb.alloc ?_ | refine Hb.drew ?_ | refine Hb.ext (by assumption) ?_ | exact Hb.setSameL (by first | omega | (simp only [size_alloc, size_setB, size_drew]; omega)) | exact Hb.setSame (by assumption) | refine Hb.set (by first | omega | (simp only [size_alloc, size_setB, size_drew]; omega)) ?_ ))))) (Hb.mk (Hb.h (by repeat (first | assumption | exact Hb.newY _ _ | refine Hb.alloc ?_ | refine Hb.drew ?_ | refine Hb.ext (by assumption) ?_ | exact Hb.setSameL (by first | omega | (simp only [size_alloc, size_setB, size_drew]; omega)) | exact Hb.setSame (by assumption) | refine Hb.set (by first | omega | (simp only [size_alloc, size_setB, size_drew]; omega)) ?_ )))) | exact AcR.box (AcR.box0 hxr7 (Hb.mk (Hb.h (by repeat (first | assumption | exact Hb.newY _ _ | refine Hb.alloc ?_ | refine Hb.drew ?_ | refine Hb.ext (by assumption) ?_ | exact Hb.setSameL (by first | omega | (simp only [size_alloc, size_setB, size_drew]; omega)) | exact Hb.setSame (by assumption) | refine Hb.set (by first | omega | (simp only [size_alloc, size_setB, size_drew]; omega)) ?_ ))))) (Hb.mk (Hb.h (by repeat (first | assumption | exact Hb.newY _ _ | refine Hb.alloc ?_ | refine Hb.drew ?_ | refine Hb.ext (by assumption) ?_ | exact Hb.setSameL (by first | omega | (simp only [size_alloc, size_setB, size_drew]; omega)) | exact Hb.setSame (by assumption) | refine Hb.set (by first | omega | (simp only [size_alloc, size_setB, size_drew]; omega)) ?_ ))))) (by first | exact PB.nil _ | assumption | exact PB.ext (by assumption) (by repeat (first | assumption | exact Ext.refl _ | refine Ext.alloc ?_ _ | refine Ext.drew ?_ | refine Ext.setB ?_ (by first | omega | (simp only [size_alloc, size_setB, size_drew]; omega)) _ | exact Ext.trans (by assumption) (by assumption) | refine Ext.trans ?_ (by assumption))))) (by show L.length ≤ _; omega)) ?_)
                rintro _ w9 ⟨rfl, s9, hT9⟩
                refine ⟨(fun h => by cases h), ?_⟩
                refine WH_nil ?_
                refine thn_normal ?_
                refine W_region rfl ?_
                refine WO_p (PS_assign_slice rfl) ?_
                refine WO_nil ?_
                refine thn_normal ?_
                rw [ylvA_a hmk hs0 hd0 hl0]; exact ⟨(_, _, _), (none, 0, 0), _, ⟨rfl, rfl, rfl, rfl, rfl, rfl, trivial⟩, SStep.pre (by repeat (first | assumption | exact Ext.refl _ | refine Ext.alloc ?_ _ | refine Ext.drew ?_ | refine Ext.setB ?_ (by first | omega | (simp only [size_alloc, size_setB, size_drew]; omega)) _ | exact Ext.trans (by assumption) (by assumption) | refine Ext.trans ?_ (by assumption))) hT9, rfl, hX.yl, NN.keep (NN.ext hN4 (by repeat (first | assumption | exact Ext.refl _ | refine Ext.alloc ?_ _ | refine Ext.drew ?_ | refine Ext.setB ?_ (by first | omega | (simp only [size_alloc, size_setB, size_drew]; omega)) _ | exact Ext.trans (by assumption) (by assumption) | refine Ext.trans ?_ (by assumption)))) hT9.ko, PB.nil _, Hb.keepO hT9.keep (fun e => absurd e (by omega)) (Hb.mk (Hb.h (by repeat (first | assumption | exact Hb.newY _ _ | refine Hb.alloc ?_ | refine Hb.drew ?_ | refine Hb.ext (by assumption) ?_ | exact Hb.setSameL (by first | omega | (simp only [size_alloc, size_setB, size_drew]; omega)) | exact Hb.setSame (by assumption) | refine Hb.set (by first | omega | (simp only [size_alloc, size_setB, size_drew]; omega)) ?_ ))))⟩
            · refine WH_allocG Hvac.zeroValue104 ?_
              intro b9 v9 hg9 hE9 hH9 hl9
              try simp only [size_alloc, size_setB, size_drew] at hg9
              have hzz9 := hE9.1
              try simp only [size_alloc, size_setB, size_drew] at hzz9
              replace hH9 : Hb v9 b9 (.cells ((encYA (ac0 (List.replicate 20 0))).toArray) 104 (0, 0)) := hH9
              refine ⟨fun _ => (by repeat (first | assumption | exact Ext.refl _ | refine Ext.alloc ?_ _ | refine Ext.drew ?_ | refine Ext.setB ?_ (by first | omega | (simp only [size_alloc, size_setB, size_drew]; omega)) _ | exact Ext.trans (by assumption) (by assumption) | refine Ext.trans ?_ (by assumption))), ?_⟩
              refine WH_nil ?_
              refine F_q (i := 5) rfl (by kernel_rfl) ?_
              refine WH_call Hvac.call17 (by rfl) (Ret.mono (acctS (OmB.ext hO (by repeat (first | assumption | exact Ext.refl _ | refine Ext.alloc ?_ _ | refine Ext.drew ?_ | refine Ext.setB ?_ (by first | omega | (simp only [size_alloc, size_setB, size_drew]; omega)) _ | exact Ext.trans (by assumption) (by assumption) | refine Ext.trans ?_ (by assumption)))) (by first | assumption | exact YSS.ext (by assumption) (by repeat (first | assumption | exact Ext.refl _ | refine Ext.alloc ?_ _ | refine Ext.drew ?_ | refine Ext.setB ?_ (by first | omega | (simp only [size_alloc, size_setB, size_drew]; omega)) _ | exact Ext.trans (by assumption) (by assumption) | refine Ext.trans ?_ (by assumption)))) hB (by omega) hFR.sb) ?_)
              rintro _ w7 ⟨hE7, x7, rfl, hxa7, hxr7⟩
              refine ⟨(fun h => by cases h), ?_⟩
              have hz7 := hE7.1
              try simp only [size_alloc, size_setB, size_drew] at hz7
              have hxl7 : x7.addr.length = 20 := by rw [hxa7]; exact hFR.sb.1
              have hsz7 : (encYA x7).toArray.size = 24 := by simpa using encYA_len hxl7
              have hone7 := one_YA2 x7
              have hsz8 : (encYA { x7 with code := (p, sn, sc) }).toArray.size = 24 := by simpa using encYA_len (x := { x7 with code := (p, sn, sc) }) hxl7
              refine WH_nil ?_
              refine F_q (i := 7) rfl (by kernel_rfl) ?_
              first | refine WH_storeW Hvac.sizeOf104 rfl (v := .agg _) rfl (Hb.h (by repeat (first | assumption | exact Hb.newY _ _ | refine Hb.alloc ?_ | refine Hb.drew ?_ | refine Hb.ext (by assumption) ?_ | exact Hb.setSameL (by first | omega | (simp only [size_alloc, size_setB, size_drew]; omega)) | exact Hb.setSame (by assumption) | refine Hb.set (by first | omega | (simp only [size_alloc, size_setB, size_drew]; omega)) ?_ ))) rfl (by first | omega | assumption | rfl | decide | exact Nat.le_refl _ | (simp only [size_ic, Value.cells]; omega) | (simp [encWs]; done) | (simp; omega) | simp | exact encYA_sz (by assumption) | exact encYT_sz (by assumption) | exact encYM_sz (by assumption)) (by first | omega | assumption | rfl | decide | exact Nat.le_refl _ | (simp only [size_ic, Value.cells]; omega) | (simp [encWs]; done) | (simp; omega) | simp | exact encYA_sz (by assumption) | exact encYT_sz (by assumption) | exact encYM_sz (by assumption)) (by first | exact oneCell_ic | assumption | exact one_Ws2 _ | exact one_YA2 _ | exact one_YSl2 _ | exact one_YM2 _ | exact one_YT2 _ | exact one_L2 _) (fun h => by cases h) ?_ | refine WH_store Hvac.sizeOf104 rfl (v := .agg _) rfl (Hb.h (by repeat (first | assumption | exact Hb.newY _ _ | refine Hb.alloc ?_ | refine Hb.drew ?_ | refine Hb.ext (by assumption) ?_ | exact Hb.setSameL (by first | omega | (simp only [size_alloc, size_setB, size_drew]; omega)) | exact Hb.setSame (by assumption) | refine Hb.set (by first | omega | (simp only [size_alloc, size_setB, size_drew]; omega)) ?_ ))) (by first | omega | assumption | rfl | decide | exact Nat.le_refl _ | (simp only [size_ic, Value.cells]; omega) | (simp [encWs]; done) | (simp; omega) | simp | exact encYA_sz (by assumption) | exact encYT_sz (by assumption) | exact encYM_sz (by assumption)) (by first | omega | assumption | rfl | decide | exact Nat.le_refl _ | (simp only [size_ic, Value.cells]; omega) | (simp [encWs]; done) | (simp; omega) | simp | exact encYA_sz (by assumption) | exact encYT_sz (by assumption) | exact encYM_sz (by assumption)) (by first | exact oneCell_ic | assumption | exact one_Ws2 _ | exact one_YA2 _ | exact one_YSl2 _ | exact one_YM2 _ | exact one_YT2 _ | exact one_L2 _) (fun h => by cases h) ?_
              refine WH_nil ?_
              refine F_end ?_
              refine thn_normal ?_
              refine W_seq ?_
              refine W_region rfl ?_
              refine WO_p (PS_move_slice rfl) ?_
              refine WO_p (PS_fieldAddr 22 Hvac.runUnderlying104 rfl Hvac.sizeOf32 rfl rfl) ?_
              refine WO_store1 Hvac.sizeOf32 rfl (v := (.slice _ _ _)) rfl (Hb.h (by repeat (first | assumption | exact Hb.newY _ _ | refine Hb.alloc ?_ | refine Hb.drew ?_ | refine Hb.ext (by assumption) ?_ | exact Hb.setSameL (by first | omega | (simp only [size_alloc, size_setB, size_drew]; omega)) | exact Hb.setSame (by assumption) | refine Hb.set (by first | omega | (simp only [size_alloc, size_setB, size_drew]; omega)) ?_ ))) rfl (by first | omega | assumption | rfl | decide | exact Nat.le_refl _ | (simp only [size_ic, Value.cells]; omega) | (simp [encWs]; done) | (simp; omega) | simp | exact encYA_sz (by assumption) | exact encYT_sz (by assumption) | exact encYM_sz (by assumption)) rfl ?_
              refine WO_nil ?_
              refine thn_normal ?_
              rw [show (Value.agg (encYA x7).toArray).cells = (encYA x7).toArray from rfl, encYA_set3 hxl7 p sn sc]
              refine W_drawE [false, false, false, false, false] hmix (by kernel_rfl) rfl ?_
              refine WH_p (PS_move_ptr rfl) rfl ?_
              refine WH_p (PS_nilCheck rfl) rfl ?_
              refine WH_p (PS_fieldAddr 0 Hvac.runUnderlying99 rfl Hvac.sizeOf95 rfl rfl) rfl ?_
              refine WH_loadA _ Hvac.isAgg104 Hvac.sizeOf104 rfl (Hb.h (by repeat (first | assumption | exact Hb.newY _ _ | refine Hb.alloc ?_ | refine Hb.drew ?_ | refine Hb.ext (by assumption) ?_ | exact Hb.setSameL (by first | omega | (simp only [size_alloc, size_setB, size_drew]; omega)) | exact Hb.setSame (by assumption) | refine Hb.set (by first | omega | (simp only [size_alloc, size_setB, size_drew]; omega)) ?_ ))) (by first | omega | assumption | rfl | decide | exact Nat.le_refl _ | (simp only [size_ic, Value.cells]; omega) | (simp [encWs]; done) | (simp; omega) | simp | exact encYA_sz (by assumption) | exact encYT_sz (by assumption) | exact encYM_sz (by assumption)) (Xt.h (by first | assumption | exact Xt.whole rfl rfl | exact Xt.whole rfl (by assumption) | exact Xt.whole rfl (by simp only [size_ic, Value.cells]; omega) | exact ⟨rfl⟩)) ?_
              refine WH_call Hvac.call85 (by rfl) (Ret.mono (putS (xa := { x7 with code := (p, sn, sc) }) (a := { yacct y.now.accts f.self with code := L }) (OmB.ext hO (by repeat (first | assumption | exact Ext.refl _ | refine Ext.alloc ?_ _ | refine Ext.drew ?_ | refine Ext.setB ?_ (by first | omega | (simp only [size_alloc, size_setB, size_drew]; omega)) _ | exact Ext.trans (by assumption) (by assumption) | refine Ext.trans ?_ (by assumption)))) (by first | assumption | exact YSS.ext (by assumption) (by repeat (first | assumption | exact Ext.refl _ | refine Ext.alloc ?_ _ | refine Ext.drew ?_ | refine Ext.setB ?_ (by first | omega | (simp only [size_alloc, size_setB, size_drew]; omega)) _ | exact Ext.trans (by assumption) (by assumption) | refine Ext.trans ?_ (by assumption)))) hB (by omega) (AcR.setCode (by first | (refine AcR.ext hxr7 ?_; (repeat (first | assumption | exact Ext.refl _ | refine Ext.alloc ?_ _ | refine Ext.drew ?_ | refine Ext.setB ?_ (by first | omega | (simp only [size_alloc, size_setB, size_drew]; omega)) _ | refine Ext.trans ?_ (by assumption))); done) | exact AcR.box0 (AcR.box0 hxr7 (Hb.mk (Hb.h (by repeat (first | assumption | exact Hb.newY _ _ | refine Hb.alloc ?_ | refine Hb.drew ?_ | refine Hb.ext (by assumption) ?_ | exact Hb.setSameL (by first | omega | (simp only [size_alloc, size_setB, size_drew]; omega)) | exact Hb.setSame (by assumption) | refine Hb.set (by first | omega | (simp only [size_alloc, size_setB, size_drew]; omega)) ?_ ))))) (Hb.mk (Hb.h (by repeat (first | assumption | exact Hb.newY _ _ | refine Hb.alloc ?_ | refine Hb.drew ?_ | refine Hb.ext (by assumption) ?_ | exact Hb.setSameL (by first | omega | (simp only [size_alloc, size_setB, size_drew]; omega)) | exact Hb.setSame (by assumption) | refine Hb.set (by first | omega | (simp only [size_alloc, size_setB, size_drew]; omega)) ?_ )))) | exact AcR.box (AcR.box0 hxr7 (Hb.mk (Hb.h (by repeat (first | assumption | exact Hb.newY _ _ | refine Hb.alloc ?_ | refine Hb.drew ?_ | refine Hb.ext (by assumption) ?_ | exact Hb.setSameL (by first | omega | (simp only [size_alloc, size_setB, size_drew]; omega)) | exact Hb.setSame (by assumption) | refine Hb.set (by first | omega | (simp only [size_alloc, size_setB, size_drew]; omega)) ?_ ))))) (Hb.mk (Hb.h (by repeat (first | assumption | exact Hb.newY _ _ | refine Hb.alloc ?_ | refine Hb.drew ?_ | refine Hb.ext (by assumption) ?_ | exact Hb.setSameL (by first | omega | (simp only [size_alloc, size_setB, size_drew]; omega)) | exact Hb.setSame (by assumption) | refine Hb.set (by first | omega | (simp only [size_alloc, size_setB, size_drew]; omega)) ?_ ))))) (by first | exact PB.nil _ | assumption | exact PB.ext (by assumption) (by repeat (first | assumption | exact Ext.refl _ | refine Ext.alloc ?_ _ | refine Ext.drew ?_ | refine Ext.setB ?_ (by first | omega | (simp only [size_alloc, size_setB, size_drew]; omega)) _ | exact Ext.trans (by assumption) (by assumption) | refine Ext.trans ?_ (by assumption))))) (by show L.length ≤ _; omega)) ?_)
              rintro _ w9 ⟨rfl, s9, hT9⟩
              refine ⟨(fun h => by cases h), ?_⟩
              refine WH_nil ?_
              refine thn_normal ?_
              refine W_region rfl ?_
              refine WO_p (PS_assign_slice rfl) ?_
              refine WO_nil ?_
              refine thn_normal ?_
              rw [ylvA_a hmk hs0 hd0 hl0]; exact ⟨(_, _, _), (none, 0, 0), _, ⟨rfl, rfl, rfl, rfl, rfl, rfl, trivial⟩, SStep.pre (by repeat (first | assumption | exact Ext.refl _ | refine Ext.alloc ?_ _ | refine Ext.drew ?_ | refine Ext.setB ?_ (by first | omega | (simp only [size_alloc, size_setB, size_drew]; omega)) _ | exact Ext.trans (by assumption) (by assumption) | refine Ext.trans ?_ (by assumption))) hT9, rfl, hX.yl, NN.keep (NN.ext hN4 (by repeat (first | assumption | exact Ext.refl _ | refine Ext.alloc ?_ _ | refine Ext.drew ?_ | refine Ext.setB ?_ (by first | omega | (simp only [size_alloc, size_setB, size_drew]; omega)) _ | exact Ext.trans (by assumption) (by assumption) | refine Ext.trans ?_ (by assumption)))) hT9.ko, PB.nil _, Hb.keepO hT9.keep (fun e => absurd e (by omega)) (Hb.mk (Hb.h (by repeat (first | assumption | exact Hb.newY _ _ | refine Hb.alloc ?_ | refine Hb.drew ?_ | refine Hb.ext (by assumption) ?_ | exact Hb.setSameL (by first | omega | (simp only [size_alloc, size_setB, size_drew]; omega)) | exact Hb.setSame (by assumption) | refine Hb.set (by first | omega | (simp only [size_alloc, size_setB, size_drew]; omega)) ?_ ))))⟩
          · have hb10p := hb10.h; try simp only [al_ete, al_dfn, Bool.not_eq_true', Bool.not_eq_false', al_ne, Bool.not_not, al_nn] at hb10p
            have hl0 : ¬ 0 < L.length := by omega
            refine W_skip ?_
            refine thn_normal ?_
            refine W_region rfl ?_
            refine WO_p (PS_assign_slice rfl) ?_
            refine WO_nil ?_
            refine thn_normal ?_
            rw [ylvA_b hmk hs0 hd0 hl0]; exact ⟨(_, _, _), (none, 0, 0), _, ⟨rfl, rfl, rfl, rfl, rfl, rfl, trivial⟩, (SStep.refl hX.ss).extR (by repeat (first | assumption | exact Ext.refl _ | refine Ext.alloc ?_ _ | refine Ext.drew ?_ | refine Ext.setB ?_ (by first | omega | (simp only [size_alloc, size_setB, size_drew]; omega)) _ | exact Ext.trans (by assumption) (by assumption) | refine Ext.trans ?_ (by assumption))), rfl, hX.yl, (by first | exact NN.nil _ | assumption | exact NN.ext (by assumption) (by repeat (first | assumption | exact Ext.refl _ | refine Ext.alloc ?_ _ | refine Ext.drew ?_ | refine Ext.setB ?_ (by first | omega | (simp only [size_alloc, size_setB, size_drew]; omega)) _ | exact Ext.trans (by assumption) (by assumption) | refine Ext.trans ?_ (by assumption)))), PB.nil _, Hb.mk (Hb.h (by repeat (first | assumption | exact Hb.newY _ _ | refine Hb.alloc ?_ | refine Hb.drew ?_ | refine Hb.ext (by assumption) ?_ | exact Hb.setSameL (by first | omega | (simp only [size_alloc, size_setB, size_drew]; omega)) | exact Hb.setSame (by assumption) | refine Hb.set (by first | omega | (simp only [size_alloc, size_setB, size_drew]; omega)) ?_ )))⟩
        · have hb8p := hb8.h; try simp only [al_ete, al_dfn, Bool.not_eq_true', Bool.not_eq_false', al_ne, Bool.not_not, al_nn] at hb8p
          have hd0 : ¬ (ydep f L).2 = 0 := by omega
          refine W_skip ?_
          refine thn_normal ?_
          rw [ylvA_c hmk hs0 hd0]; exact ⟨(_, _, _), (_, _, _), _, ⟨rfl, rfl, rfl, rfl, rfl, rfl, trivial⟩, (SStep.refl hX.ss).extR (by repeat (first | assumption | exact Ext.refl _ | refine Ext.alloc ?_ _ | refine Ext.drew ?_ | refine Ext.setB ?_ (by first | omega | (simp only [size_alloc, size_setB, size_drew]; omega)) _ | exact Ext.trans (by assumption) (by assumption) | refine Ext.trans ?_ (by assumption))), rfl, hX.yl, (by first | exact NN.nil _ | assumption | exact NN.ext (by assumption) (by repeat (first | assumption | exact Ext.refl _ | refine Ext.alloc ?_ _ | refine Ext.drew ?_ | refine Ext.setB ?_ (by first | omega | (simp only [size_alloc, size_setB, size_drew]; omega)) _ | exact Ext.trans (by assumption) (by assumption) | refine Ext.trans ?_ (by assumption)))), (by first | exact PB.nil _ | assumption | exact PB.ext (by assumption) (by repeat (first | assumption | exact Ext.refl _ | refine Ext.alloc ?_ _ | refine Ext.drew ?_ | refine Ext.setB ?_ (by first | omega | (simp only [size_alloc, size_setB, size_drew]; omega)) _ | exact Ext.trans (by assumption) (by assumption) | refine Ext.trans ?_ (by assumption)))), Hb.mk (Hb.h (by repeat (first | assumption | exact Hb.newY _ _ | refine Hb.alloc ?_ | refine Hb.drew ?_ | refine Hb.ext (by assumption) ?_ | exact Hb.setSameL (by first | omega | (simp only [size_alloc, size_setB, size_drew]; omega)) | exact Hb.setSame (by assumption) | refine Hb.set (by first | omega | (simp only [size_alloc, size_setB, size_drew]; omega)) ?_ )))⟩
      · have hb5p := hb5.h; try simp only [al_ete, al_dfn, Bool.not_eq_true', Bool.not_eq_false', al_ne, Bool.not_not, al_nn] at hb5p
        have hd9 : ¬ (ycreates f.kind = true ∧ sv = 0) := fun h9 => by omega
        refine W_skip ?_
        refine thn_normal ?_
        rw [ylvA_d hd9]; exact ⟨(_, _, _), (_, _, _), _, ⟨rfl, rfl, rfl, rfl, rfl, rfl, trivial⟩, (SStep.refl hX.ss).extR (by repeat (first | assumption | exact Ext.refl _ | refine Ext.alloc ?_ _ | refine Ext.drew ?_ | refine Ext.setB ?_ (by first | omega | (simp only [size_alloc, size_setB, size_drew]; omega)) _ | exact Ext.trans (by assumption) (by assumption) | refine Ext.trans ?_ (by assumption))), rfl, hX.yl, (by first | exact NN.nil _ | assumption | exact NN.ext (by assumption) (by repeat (first | assumption | exact Ext.refl _ | refine Ext.alloc ?_ _ | refine Ext.drew ?_ | refine Ext.setB ?_ (by first | omega | (simp only [size_alloc, size_setB, size_drew]; omega)) _ | exact Ext.trans (by assumption) (by assumption) | refine Ext.trans ?_ (by assumption)))), (by first | exact PB.nil _ | assumption | exact PB.ext (by assumption) (by repeat (first | assumption | exact Ext.refl _ | refine Ext.alloc ?_ _ | refine Ext.drew ?_ | refine Ext.setB ?_ (by first | omega | (simp only [size_alloc, size_setB, size_drew]; omega)) _ | exact Ext.trans (by assumption) (by assumption) | refine Ext.trans ?_ (by assumption)))), Hb.mk (Hb.h (by repeat (first | assumption | exact Hb.newY _ _ | refine Hb.alloc ?_ | refine Hb.drew ?_ | refine Hb.ext (by assumption) ?_ | exact Hb.setSameL (by first | omega | (simp only [size_alloc, size_setB, size_drew]; omega)) | exact Hb.setSame (by assumption) | refine Hb.set (by first | omega | (simp only [size_alloc, size_setB, size_drew]; omega)) ?_ )))⟩
    · have hb3p := hb3.h; try simp only [al_ete, al_dfn, Bool.not_eq_true', Bool.not_eq_false', al_ne, Bool.not_not, al_nn] at hb3p
      have hd9 : ¬ (ycreates f.kind = true ∧ sv = 0) := fun h9 => by rw [h9.1] at hb3p; cases hb3p
      refine WO_guardF rfl rfl hb3.h ?_
      refine WO_guardF rfl rfl hb3.h ?_
      refine WO_p (PS_pickF rfl hb3.h rfl) ?_
      refine WO_nil ?_
      refine thn_normal ?_
      refine W_condF rfl rfl ?_
      refine W_skip ?_
      refine thn_normal ?_
      rw [ylvA_d hd9]; exact ⟨(_, _, _), (_, _, _), _, ⟨rfl, rfl, rfl, rfl, rfl, rfl, trivial⟩, (SStep.refl hX.ss).extR (by repeat (first | assumption | exact Ext.refl _ | refine Ext.alloc ?_ _ | refine Ext.drew ?_ | refine Ext.setB ?_ (by first | omega | (simp only [size_alloc, size_setB, size_drew]; omega)) _ | exact Ext.trans (by assumption) (by assumption) | refine Ext.trans ?_ (by assumption))), rfl, hX.yl, (by first | exact NN.nil _ | assumption | exact NN.ext (by assumption) (by repeat (first | assumption | exact Ext.refl _ | refine Ext.alloc ?_ _ | refine Ext.drew ?_ | refine Ext.setB ?_ (by first | omega | (simp only [size_alloc, size_setB, size_drew]; omega)) _ | exact Ext.trans (by assumption) (by assumption) | refine Ext.trans ?_ (by assumption)))), (by first | exact PB.nil _ | assumption | exact PB.ext (by assumption) (by repeat (first | assumption | exact Ext.refl _ | refine Ext.alloc ?_ _ | refine Ext.drew ?_ | refine Ext.setB ?_ (by first | omega | (simp only [size_alloc, size_setB, size_drew]; omega)) _ | exact Ext.trans (by assumption) (by assumption) | refine Ext.trans ?_ (by assumption)))), Hb.mk (Hb.h (by repeat (first | assumption | exact Hb.newY _ _ | refine Hb.alloc ?_ | refine Hb.drew ?_ | refine Hb.ext (by assumption) ?_ | exact Hb.setSameL (by first | omega | (simp only [size_alloc, size_setB, size_drew]; omega)) | exact Hb.setSame (by assumption) | refine Hb.set (by first | omega | (simp only [size_alloc, size_setB, size_drew]; omega)) ?_ )))⟩
  · rintro ρ11 w11 ⟨s7, s2, x1, hFr11, hT11, hxf11, hyl11, hg11, ho11, hb611⟩
    refine W_env _ hFr11 ?_
    have hK11 := hT11.keep
    have hKO11 := hT11.ko
    replace hO := hO0.keep hKO11
    have hSS11 := hT11.ss
    have hSb11 := hSS11.blk
    have hSl11 := hSb11.lt
    have hb6l11 := hb611.lt
    have hk911 := hk9g x1 hxf11
    have hz11 := hK11.sz
    have hzs11 := encYS_size x1
    refine W_seqJ (fun ρ w' => ∃ (s7 s2 : SV) (x1 : YSt), Fr [(0, .pointer (some ⟨C, 0, none⟩)), (1, .int .u8 ((ylvA y f sv L).2.1)), (2, .slice s2.1 s2.2.1 s2.2.2), (6, .pointer (some ⟨b6, 0, none⟩)), (7, .slice s7.1 s7.2.1 s7.2.2), (8, .bool (ycreates f.kind))] ρ ∧ SStep w w' C x1 (ylvB f (ylvA y f sv L)).2.2.2 ∧ x1.frames = x.frames ∧ (∀ b, sblk x1.now.logs b → Om.p b → Y b) ∧ NN w' s7 (ylvA y f sv L).1 ∧ PB w' s2 (ylvA y f sv L).2.2.1 ∧ Hb w' b6 (.cells (encYF xf).toArray 121 (0, 0))) ?_ ?_
    · skip
      refine W_seq ?_
      refine W_region rfl ?_
      refine WO_p (PS_move_int rfl) ?_
      refine WO_p (PS_neq rfl rfl) ?_
      refine WO_nil ?_
      refine thn_normal ?_
      refine W_if rfl (fun hb16 => ?_) (fun hb16 => ?_)
      · have hb16p := hb16.h; try simp only [al_ete, al_dfn, Bool.not_eq_true', Bool.not_eq_false', al_ne, Bool.not_not, al_nn] at hb16p
        have hst9 : (ylvA y f sv L).2.1 ≠ 0 := by omega
        refine W_region rfl ?_
        refine WO_p (PS_move_ptr rfl) ?_
        refine WO_p (PS_fieldAddr 52 Hvac.runUnderlying121 rfl Hvac.sizeOf95 rfl rfl) ?_
        refine WO_loadA _ Hvac.isAgg95 Hvac.sizeOf95 rfl (Hb.h (by repeat (first | assumption | exact Hb.newY _ _ | refine Hb.alloc ?_ | refine Hb.drew ?_ | refine Hb.ext (by assumption) ?_ | exact Hb.setSameL (by first | omega | (simp only [size_alloc, size_setB, size_drew]; omega)) | exact Hb.setSame (by assumption) | refine Hb.set (by first | omega | (simp only [size_alloc, size_setB, size_drew]; omega)) ?_ ))) (by first | omega | assumption | rfl | decide | exact Nat.le_refl _ | (simp only [size_ic, Value.cells]; omega) | (simp [encWs]; done) | (simp; omega) | simp | exact encYA_sz (by assumption) | exact encYT_sz (by assumption) | exact encYM_sz (by assumption)) (Xt.h (by first | assumption | exact Xt.whole rfl rfl | exact Xt.whole rfl (by assumption) | exact Xt.whole rfl (by simp only [size_ic, Value.cells]; omega) | exact ⟨rfl⟩)) ?_
        refine WO_p (PS_nilCheck rfl) ?_
        refine WO_p (PS_fieldAddr 0 Hvac.runUnderlying99 rfl Hvac.sizeOf95 rfl rfl) ?_
        refine WO_store Hvac.sizeOf95 rfl (v := .agg _) rfl (Hb.h (by repeat (first | assumption | exact Hb.newY _ _ | refine Hb.alloc ?_ | refine Hb.drew ?_ | refine Hb.ext (by assumption) ?_ | exact Hb.setSameL (by first | omega | (simp only [size_alloc, size_setB, size_drew]; omega)) | exact Hb.setSame (by assumption) | refine Hb.set (by first | omega | (simp only [size_alloc, size_setB, size_drew]; omega)) ?_ ))) rfl (by omega) hones ?_
        refine WO_nil ?_
        refine thn_normal ?_
        rw [ylvB_1 hst9]; exact ⟨_, _, _, ⟨rfl, rfl, rfl, rfl, rfl, rfl, trivial⟩, hT11.trans (SStep.put2 (x' := { x1 with now := xf.saved }) rfl hSS11 (by repeat (first | assumption | exact Ext.refl _ | refine Ext.alloc ?_ _ | refine Ext.drew ?_ | refine Ext.setB ?_ (by first | omega | (simp only [size_alloc, size_setB, size_drew]; omega)) _ | exact Ext.trans (by assumption) (by assumption) | refine Ext.trans ?_ (by assumption))) (encYS_now x1 xf.saved) { StRel.ext hSS11.rel (by repeat (first | assumption | exact Ext.refl _ | refine Ext.alloc ?_ _ | refine Ext.drew ?_ | refine Ext.setB ?_ (by first | omega | (simp only [size_alloc, size_setB, size_drew]; omega)) _ | exact Ext.trans (by assumption) (by assumption) | refine Ext.trans ?_ (by assumption))) with now := (PWR.ext (PWR.keep hFR.saved hKO11) (by repeat (first | assumption | exact Ext.refl _ | refine Ext.alloc ?_ _ | refine Ext.drew ?_ | refine Ext.setB ?_ (by first | omega | (simp only [size_alloc, size_setB, size_drew]; omega)) _ | exact Ext.trans (by assumption) (by assumption) | refine Ext.trans ?_ (by assumption)))).n }), hxf11, hylS, NN.keep (NN.ext hg11 (by repeat (first | assumption | exact Ext.refl _ | refine Ext.alloc ?_ _ | refine Ext.drew ?_ | refine Ext.setB ?_ (by first | omega | (simp only [size_alloc, size_setB, size_drew]; omega)) _ | exact Ext.trans (by assumption) (by assumption) | refine Ext.trans ?_ (by assumption)))) (keepSO (Ext.refl _) hSo _), PB.keep (PB.ext ho11 (by repeat (first | assumption | exact Ext.refl _ | refine Ext.alloc ?_ _ | refine Ext.drew ?_ | refine Ext.setB ?_ (by first | omega | (simp only [size_alloc, size_setB, size_drew]; omega)) _ | exact Ext.trans (by assumption) (by assumption) | refine Ext.trans ?_ (by assumption)))) (keepSO (Ext.refl _) hSo _), Hb.mk (Hb.h (by repeat (first | assumption | exact Hb.newY _ _ | refine Hb.alloc ?_ | refine Hb.drew ?_ | refine Hb.ext (by assumption) ?_ | exact Hb.setSameL (by first | omega | (simp only [size_alloc, size_setB, size_drew]; omega)) | exact Hb.setSame (by assumption) | refine Hb.set (by first | omega | (simp only [size_alloc, size_setB, size_drew]; omega)) ?_ )))⟩
      · have hb16p := hb16.h; try simp only [al_ete, al_dfn, Bool.not_eq_true', Bool.not_eq_false', al_ne, Bool.not_not, al_nn] at hb16p
        have hst9 : ¬ (ylvA y f sv L).2.1 ≠ 0 := by omega
        refine W_skip ?_
        refine thn_normal ?_
        rw [ylvB_2 hst9]; exact ⟨_, _, _, ⟨rfl, rfl, rfl, rfl, rfl, rfl, trivial⟩, hT11.extR (by repeat (first | assumption | exact Ext.refl _ | refine Ext.alloc ?_ _ | refine Ext.drew ?_ | refine Ext.setB ?_ (by first | omega | (simp only [size_alloc, size_setB, size_drew]; omega)) _ | exact Ext.trans (by assumption) (by assumption) | refine Ext.trans ?_ (by assumption))), hxf11, hyl11, NN.ext hg11 (by repeat (first | assumption | exact Ext.refl _ | refine Ext.alloc ?_ _ | refine Ext.drew ?_ | refine Ext.setB ?_ (by first | omega | (simp only [size_alloc, size_setB, size_drew]; omega)) _ | exact Ext.trans (by assumption) (by assumption) | refine Ext.trans ?_ (by assumption))), PB.ext ho11 (by repeat (first | assumption | exact Ext.refl _ | refine Ext.alloc ?_ _ | refine Ext.drew ?_ | refine Ext.setB ?_ (by first | omega | (simp only [size_alloc, size_setB, size_drew]; omega)) _ | exact Ext.trans (by assumption) (by assumption) | refine Ext.trans ?_ (by assumption))), Hb.mk (Hb.h (by repeat (first | assumption | exact Hb.newY _ _ | refine Hb.alloc ?_ | refine Hb.drew ?_ | refine Hb.ext (by assumption) ?_ | exact Hb.setSameL (by first | omega | (simp only [size_alloc, size_setB, size_drew]; omega)) | exact Hb.setSame (by assumption) | refine Hb.set (by first | omega | (simp only [size_alloc, size_setB, size_drew]; omega)) ?_ )))⟩
    · rintro ρ13 w13 ⟨s7, s2, x1, hFr13, hT13, hxf13, hyl13, hg13, ho13, hb613⟩
      refine W_env _ hFr13 ?_
      have hK13 := hT13.keep
      have hKO13 := hT13.ko
      replace hO := hO0.keep hKO13
      have hSS13 := hT13.ss
      have hSb13 := hSS13.blk
      have hSl13 := hSb13.lt
      have hb6l13 := hb613.lt
      have hk913 := hk9g x1 hxf13
      have hz13 := hK13.sz
      have hzs13 := encYS_size x1
      refine W_seqJ (fun ρ w' => ∃ (s7 s2 : SV) (x1 : YSt), Fr [(0, .pointer (some ⟨C, 0, none⟩)), (1, .int .u8 ((ylvA y f sv L).2.1)), (2, .slice s2.1 s2.2.1 s2.2.2), (6, .pointer (some ⟨b6, 0, none⟩)), (7, .slice s7.1 s7.2.1 s7.2.2), (8, .bool (ycreates f.kind))] ρ ∧ SStep w w' C x1 (ylvB f (ylvA y f sv L)).2.2.2 ∧ x1.frames = x.frames ∧ (∀ b, sblk x1.now.logs b → Om.p b → Y b) ∧ NN w' s7 (ylvB f (ylvA y f sv L)).1 ∧ PB w' s2 (ylvB f (ylvA y f sv L)).2.2.1 ∧ Hb w' b6 (.cells (encYF xf).toArray 121 (0, 0))) ?_ ?_
      · skip
        refine W_seq ?_
        refine W_region rfl ?_
        refine WO_p (PS_move_int rfl) ?_
        refine WO_p (PS_gtr rfl rfl) ?_
        refine WO_nil ?_
        refine thn_normal ?_
        refine W_if rfl (fun hb18 => ?_) (fun hb18 => ?_)
        · have hb18p := hb18.h; try simp only [al_ete, al_dfn, Bool.not_eq_true', Bool.not_eq_false', al_ne, Bool.not_not, al_nn] at hb18p
          have hst8 : 1 < (ylvA y f sv L).2.1 := by omega
          refine W_seq ?_
          refine W_region rfl ?_
          refine WO_p (PS_assign_slice rfl) ?_
          refine WO_nil ?_
          refine thn_normal ?_
          refine W_region rfl ?_
          refine WO_p (PS_assign_slice rfl) ?_
          refine WO_nil ?_
          refine thn_normal ?_
          rw [(ylvB_3 hst8).1, (ylvB_3 hst8).2]; exact ⟨(none, 0, 0), (none, 0, 0), _, ⟨rfl, rfl, rfl, rfl, rfl, rfl, trivial⟩, hT13.extR (by repeat (first | assumption | exact Ext.refl _ | refine Ext.alloc ?_ _ | refine Ext.drew ?_ | refine Ext.setB ?_ (by first | omega | (simp only [size_alloc, size_setB, size_drew]; omega)) _ | exact Ext.trans (by assumption) (by assumption) | refine Ext.trans ?_ (by assumption))), hxf13, hyl13, NN.nil _, PB.nil _, Hb.mk (Hb.h (by repeat (first | assumption | exact Hb.newY _ _ | refine Hb.alloc ?_ | refine Hb.drew ?_ | refine Hb.ext (by assumption) ?_ | exact Hb.setSameL (by first | omega | (simp only [size_alloc, size_setB, size_drew]; omega)) | exact Hb.setSame (by assumption) | refine Hb.set (by first | omega | (simp only [size_alloc, size_setB, size_drew]; omega)) ?_ )))⟩
        · have hb18p := hb18.h; try simp only [al_ete, al_dfn, Bool.not_eq_true', Bool.not_eq_false', al_ne, Bool.not_not, al_nn] at hb18p
          have hst8 : ¬ 1 < (ylvA y f sv L).2.1 := by omega
          refine W_skip ?_
          refine thn_normal ?_
          rw [(ylvB_4 hst8).1, (ylvB_4 hst8).2]; exact ⟨_, _, _, ⟨rfl, rfl, rfl, rfl, rfl, rfl, trivial⟩, hT13.extR (by repeat (first | assumption | exact Ext.refl _ | refine Ext.alloc ?_ _ | refine Ext.drew ?_ | refine Ext.setB ?_ (by first | omega | (simp only [size_alloc, size_setB, size_drew]; omega)) _ | exact Ext.trans (by assumption) (by assumption) | refine Ext.trans ?_ (by assumption))), hxf13, hyl13, NN.ext hg13 (by repeat (first | assumption | exact Ext.refl _ | refine Ext.alloc ?_ _ | refine Ext.drew ?_ | refine Ext.setB ?_ (by first | omega | (simp only [size_alloc, size_setB, size_drew]; omega)) _ | exact Ext.trans (by assumption) (by assumption) | refine Ext.trans ?_ (by assumption))), PB.ext ho13 (by repeat (first | assumption | exact Ext.refl _ | refine Ext.alloc ?_ _ | refine Ext.drew ?_ | refine Ext.setB ?_ (by first | omega | (simp only [size_alloc, size_setB, size_drew]; omega)) _ | exact Ext.trans (by assumption) (by assumption) | refine Ext.trans ?_ (by assumption))), Hb.mk (Hb.h (by repeat (first | assumption | exact Hb.newY _ _ | refine Hb.alloc ?_ | refine Hb.drew ?_ | refine Hb.ext (by assumption) ?_ | exact Hb.setSameL (by first | omega | (simp only [size_alloc, size_setB, size_drew]; omega)) | exact Hb.setSame (by assumption) | refine Hb.set (by first | omega | (simp only [size_alloc, size_setB, size_drew]; omega)) ?_ )))⟩
      · rintro ρ16 w16 ⟨s7, s2, x1, hFr16, hT16, hxf16, hyl16, hg16, ho16, hb616⟩
        refine W_env _ hFr16 ?_
        have hK16 := hT16.keep
        have hKO16 := hT16.ko
        replace hO := hO0.keep hKO16
        have hSS16 := hT16.ss
        have hSb16 := hSS16.blk
        have hSl16 := hSb16.lt
        have hb6l16 := hb616.lt
        have hk916 := hk9g x1 hxf16
        have hz16 := hK16.sz
        have hzs16 := encYS_size x1
        refine W_seq ?_
        refine W_region rfl ?_
        refine WO_p (PS_move_ptr rfl) ?_
        refine WO_p (PS_move_slice rfl) ?_
        refine WO_p (PS_nilCheck rfl) ?_
        refine WO_p (PS_fieldAddr 10 Hvac.runUnderlying99 rfl Hvac.sizeOf32 rfl rfl) ?_
        refine WO_store1 Hvac.sizeOf32 rfl (v := (.slice _ _ _)) rfl (Hb.h (by repeat (first | assumption | exact Hb.newY _ _ | refine Hb.alloc ?_ | refine Hb.drew ?_ | refine Hb.ext (by assumption) ?_ | exact Hb.setSameL (by first | omega | (simp only [size_alloc, size_setB, size_drew]; omega)) | exact Hb.setSame (by assumption) | refine Hb.set (by first | omega | (simp only [size_alloc, size_setB, size_drew]; omega)) ?_ ))) rfl (by first | omega | assumption | rfl | decide | exact Nat.le_refl _ | (simp only [size_ic, Value.cells]; omega) | (simp [encWs]; done) | (simp; omega) | simp | exact encYA_sz (by assumption) | exact encYT_sz (by assumption) | exact encYM_sz (by assumption)) rfl ?_
        refine WO_nil ?_
        refine thn_normal ?_
        refine W_seq ?_
        refine W_gen fun w17 hw17 => ?_
        have hT17 : SStep w16 w17 C ({ x1 with ret := s2 }) ({ (ylvB f (ylvA y f sv L)).2.2.2 with ret := (ylvB f (ylvA y f sv L)).2.2.1 }) := SStep.put2 hw17 hSS16 (by repeat (first | assumption | exact Ext.refl _ | refine Ext.alloc ?_ _ | refine Ext.drew ?_ | refine Ext.setB ?_ (by first | omega | (simp only [size_alloc, size_setB, size_drew]; omega)) _ | refine Ext.trans ?_ (by assumption))) (encYS_10 x1 s2) ({ StRel.ext hSS16.rel (by repeat (first | assumption | exact Ext.refl _ | refine Ext.alloc ?_ _ | refine Ext.drew ?_ | refine Ext.setB ?_ (by first | omega | (simp only [size_alloc, size_setB, size_drew]; omega)) _ | refine Ext.trans ?_ (by assumption))) with ret := PB.ext ho16 (by repeat (first | assumption | exact Ext.refl _ | refine Ext.alloc ?_ _ | refine Ext.drew ?_ | refine Ext.setB ?_ (by first | omega | (simp only [size_alloc, size_setB, size_drew]; omega)) _ | refine Ext.trans ?_ (by assumption))) })
        have hK17 := hT17.keep
        have hKO17 := hT17.ko
        replace hO := hO.keep hKO17
        have hSS17 := hT17.ss
        have hSb17 := hSS17.blk
        have hSl17 := hSb17.lt
        have hz17 := hK17.sz
        have hzs17 := encYS_size ({ x1 with ret := s2 })
        replace hg16 := hg16.keep hKO17
        replace ho16 := ho16.keep hKO17
        clear hw17
        have hk9_17 := hk9g ({ x1 with ret := s2 }) hxf16
        refine W_drawE [false, false, false, false, false, false, false, false, false, false, false, false, false, false, false, false, false, false, false, false, false] hmix (by kernel_rfl) rfl ?_
        refine WH_p (PS_move_ptr rfl) rfl ?_
        refine WH_p (PS_move_ptr rfl) rfl ?_
        refine WH_p (PS_nilCheck rfl) rfl ?_
        refine WH_p (PS_fieldAddr 9 Hvac.runUnderlying99 rfl Hvac.sizeOf97 rfl rfl) rfl ?_
        refine WH_load (.slice _ _ _) Hvac.isAgg97 rfl (Hb.h (by repeat (first | assumption | exact Hb.newY _ _ | refine Hb.alloc ?_ | refine Hb.drew ?_ | refine Hb.ext (by assumption) ?_ | exact Hb.setSameL (by first | omega | (simp only [size_alloc, size_setB, size_drew]; omega)) | exact Hb.setSame (by assumption) | refine Hb.set (by first | omega | (simp only [size_alloc, size_setB, size_drew]; omega)) ?_ ))) (Ce.h (by first | assumption | exact ⟨rfl⟩)) ?_
        refine WH_p (PS_move_ptr rfl) rfl ?_
        refine WH_p (PS_nilCheck rfl) rfl ?_
        refine WH_p (PS_fieldAddr 9 Hvac.runUnderlying99 rfl Hvac.sizeOf97 rfl rfl) rfl ?_
        refine WH_load (.slice _ _ _) Hvac.isAgg97 rfl (Hb.h (by repeat (first | assumption | exact Hb.newY _ _ | refine Hb.alloc ?_ | refine Hb.drew ?_ | refine Hb.ext (by assumption) ?_ | exact Hb.setSameL (by first | omega | (simp only [size_alloc, size_setB, size_drew]; omega)) | exact Hb.setSame (by assumption) | refine Hb.set (by first | omega | (simp only [size_alloc, size_setB, size_drew]; omega)) ?_ ))) (Ce.h (by first | assumption | exact ⟨rfl⟩)) ?_
        refine WH_p (PS_lenS Hvac.runUnderlying97 rfl) rfl ?_
        refine WH_p (PS_sub_i64n rfl rfl (by omega) (by omega)) rfl ?_
        refine WH_p (PS_move_ptr rfl) rfl ?_
        refine WH_p (PS_nilCheck rfl) rfl ?_
        refine WH_p (PS_fieldAddr 9 Hvac.runUnderlying99 rfl Hvac.sizeOf97 rfl rfl) rfl ?_
        refine WH_load (.slice _ _ _) Hvac.isAgg97 rfl (Hb.h (by repeat (first | assumption | exact Hb.newY _ _ | refine Hb.alloc ?_ | refine Hb.drew ?_ | refine Hb.ext (by assumption) ?_ | exact Hb.setSameL (by first | omega | (simp only [size_alloc, size_setB, size_drew]; omega)) | exact Hb.setSame (by assumption) | refine Hb.set (by first | omega | (simp only [size_alloc, size_setB, size_drew]; omega)) ?_ ))) (Ce.h (by first | assumption | exact ⟨rfl⟩)) ?_
        refine WH_p (PS_lenS Hvac.runUnderlying97 rfl) rfl ?_
        refine WH_p (PS_sub_i64n rfl rfl (by omega) (by omega)) rfl ?_
        refine WH_p (PS_slS_hmA Hvac.runUnderlying97 Hvac.sizeOf121 rfl rfl rfl (by omega) (by omega) (by omega) (by omega)) rfl ?_
        rw [show (((rest.length + 1 : Nat) : Int) - 1).toNat = rest.length by omega]
        refine WH_p (PS_nilCheck rfl) rfl ?_
        refine WH_p (PS_fieldAddr 9 Hvac.runUnderlying99 rfl Hvac.sizeOf97 rfl rfl) rfl ?_
        refine WH_store1 Hvac.sizeOf97 rfl (v := (.slice _ _ _)) rfl (Hb.h (by repeat (first | assumption | exact Hb.newY _ _ | refine Hb.alloc ?_ | refine Hb.drew ?_ | refine Hb.ext (by assumption) ?_ | exact Hb.setSameL (by first | omega | (simp only [size_alloc, size_setB, size_drew]; omega)) | exact Hb.setSame (by assumption) | refine Hb.set (by first | omega | (simp only [size_alloc, size_setB, size_drew]; omega)) ?_ ))) rfl (by first | omega | assumption | rfl | decide | exact Nat.le_refl _ | (simp only [size_ic, Value.cells]; omega) | (simp [encWs]; done) | (simp; omega) | simp | exact encYA_sz (by assumption) | exact encYT_sz (by assumption) | exact encYM_sz (by assumption)) rfl (fun h => by cases h) ?_
        refine WH_nil ?_
        refine thn_normal ?_
        refine W_seq ?_
        refine W_seq ?_
        refine W_gen fun w18 hw18 => ?_
        have hT18 : SStep w17 w18 C ({ x1 with ret := s2, frames := (some ⟨F, 0, none⟩, rest.length, rest.length) }) ({ (ylvB f (ylvA y f sv L)).2.2.2 with ret := (ylvB f (ylvA y f sv L)).2.2.1 }) := SStep.put2 hw18 hSS17 (by repeat (first | assumption | exact Ext.refl _ | refine Ext.alloc ?_ _ | refine Ext.drew ?_ | refine Ext.setB ?_ (by first | omega | (simp only [size_alloc, size_setB, size_drew]; omega)) _ | refine Ext.trans ?_ (by assumption))) (encYS_9 _ (some ⟨F, 0, none⟩, rest.length, rest.length)) ({ StRel.ext hSS17.rel (by repeat (first | assumption | exact Ext.refl _ | refine Ext.alloc ?_ _ | refine Ext.drew ?_ | refine Ext.setB ?_ (by first | omega | (simp only [size_alloc, size_setB, size_drew]; omega)) _ | refine Ext.trans ?_ (by assumption))) with now := (StRel.ext hSS17.rel (by repeat (first | assumption | exact Ext.refl _ | refine Ext.alloc ?_ _ | refine Ext.drew ?_ | refine Ext.setB ?_ (by first | omega | (simp only [size_alloc, size_setB, size_drew]; omega)) _ | refine Ext.trans ?_ (by assumption)))).now })
        have hK18 := hT18.keep
        have hKO18 := hT18.ko
        replace hO := hO.keep hKO18
        have hSS18 := hT18.ss
        have hSb18 := hSS18.blk
        have hSl18 := hSb18.lt
        have hz18 := hK18.sz
        have hzs18 := encYS_size ({ x1 with ret := s2, frames := (some ⟨F, 0, none⟩, rest.length, rest.length) })
        replace hg16 := hg16.keep hKO18
        replace ho16 := ho16.keep hKO18
        clear hw18
        have hk9_18 : Ce (encYS ({ x1 with ret := s2, frames := (some ⟨F, 0, none⟩, rest.length, rest.length) })).toArray (0 + 9) (.slice (some ⟨F, 0, none⟩) rest.length rest.length) := ⟨rfl⟩
        refine W_region rfl ?_
        refine WO_p (PS_move_ptr rfl) ?_
        refine WO_p (PS_nilCheck rfl) ?_
        refine WO_p (PS_fieldAddr 9 Hvac.runUnderlying99 rfl Hvac.sizeOf97 rfl rfl) ?_
        refine WO_load (.slice _ _ _) Hvac.isAgg97 rfl (Hb.h (by repeat (first | assumption | exact Hb.newY _ _ | refine Hb.alloc ?_ | refine Hb.drew ?_ | refine Hb.ext (by assumption) ?_ | exact Hb.setSameL (by first | omega | (simp only [size_alloc, size_setB, size_drew]; omega)) | exact Hb.setSame (by assumption) | refine Hb.set (by first | omega | (simp only [size_alloc, size_setB, size_drew]; omega)) ?_ ))) (Ce.h (by first | assumption | exact ⟨rfl⟩)) ?_
        refine WO_p (PS_lenS Hvac.runUnderlying97 rfl) ?_
        refine WO_p (PS_eql rfl rfl) ?_
        refine WO_nil ?_
        refine thn_normal ?_
        refine W_if rfl (fun hb20 => ?_) (fun hb20 => ?_)
        · have hb20p := hb20.h; try simp only [al_ete, al_dfn, Bool.not_eq_true', Bool.not_eq_false', al_ne, Bool.not_not, al_nn] at hb20p
          have hr0 : rest.length = 0 := by omega
          refine W_seq ?_
          refine W_region rfl ?_
          refine WO_p (PS_move_ptr rfl) ?_
          refine WO_p (PS_nilCheck rfl) ?_
          refine WO_p (PS_fieldAddr 9 Hvac.runUnderlying99 rfl Hvac.sizeOf97 rfl rfl) ?_
          refine WO_store1 Hvac.sizeOf97 rfl (v := (.slice _ _ _)) rfl (Hb.h (by repeat (first | assumption | exact Hb.newY _ _ | refine Hb.alloc ?_ | refine Hb.drew ?_ | refine Hb.ext (by assumption) ?_ | exact Hb.setSameL (by first | omega | (simp only [size_alloc, size_setB, size_drew]; omega)) | exact Hb.setSame (by assumption) | refine Hb.set (by first | omega | (simp only [size_alloc, size_setB, size_drew]; omega)) ?_ ))) rfl (by first | omega | assumption | rfl | decide | exact Nat.le_refl _ | (simp only [size_ic, Value.cells]; omega) | (simp [encWs]; done) | (simp; omega) | simp | exact encYA_sz (by assumption) | exact encYT_sz (by assumption) | exact encYM_sz (by assumption)) rfl ?_
          refine WO_nil ?_
          refine thn_normal ?_
          refine W_seq ?_
          refine W_gen fun w19 hw19 => ?_
          have hT19 : SStep w18 w19 C ({ x1 with ret := s2, frames := (none, 0, 0) }) ({ (ylvB f (ylvA y f sv L)).2.2.2 with ret := (ylvB f (ylvA y f sv L)).2.2.1 }) := SStep.put2 hw19 hSS18 (by repeat (first | assumption | exact Ext.refl _ | refine Ext.alloc ?_ _ | refine Ext.drew ?_ | refine Ext.setB ?_ (by first | omega | (simp only [size_alloc, size_setB, size_drew]; omega)) _ | refine Ext.trans ?_ (by assumption))) (encYS_9 _ (none, 0, 0)) ({ StRel.ext hSS18.rel (by repeat (first | assumption | exact Ext.refl _ | refine Ext.alloc ?_ _ | refine Ext.drew ?_ | refine Ext.setB ?_ (by first | omega | (simp only [size_alloc, size_setB, size_drew]; omega)) _ | refine Ext.trans ?_ (by assumption))) with now := (StRel.ext hSS18.rel (by repeat (first | assumption | exact Ext.refl _ | refine Ext.alloc ?_ _ | refine Ext.drew ?_ | refine Ext.setB ?_ (by first | omega | (simp only [size_alloc, size_setB, size_drew]; omega)) _ | refine Ext.trans ?_ (by assumption)))).now })
          have hK19 := hT19.keep
          have hKO19 := hT19.ko
          replace hO := hO.keep hKO19
          have hSS19 := hT19.ss
          have hSb19 := hSS19.blk
          have hSl19 := hSb19.lt
          have hz19 := hK19.sz
          have hzs19 := encYS_size ({ x1 with ret := s2, frames := (none, 0, 0) })
          replace hg16 := hg16.keep hKO19
          replace ho16 := ho16.keep hKO19
          clear hw19
          refine W_region rfl ?_
          refine WO_p (PS_move_ptr rfl) ?_
          refine WO_p (PS_nilCheck rfl) ?_
          refine WO_p (PS_fieldAddr 11 Hvac.runUnderlying99 rfl Hvac.sizeOf5 rfl rfl) ?_
          refine WO_store1 Hvac.sizeOf5 rfl (v := (.int _ _)) rfl (Hb.h (by repeat (first | assumption | exact Hb.newY _ _ | refine Hb.alloc ?_ | refine Hb.drew ?_ | refine Hb.ext (by assumption) ?_ | exact Hb.setSameL (by first | omega | (simp only [size_alloc, size_setB, size_drew]; omega)) | exact Hb.setSame (by assumption) | refine Hb.set (by first | omega | (simp only [size_alloc, size_setB, size_drew]; omega)) ?_ ))) rfl (by first | omega | assumption | rfl | decide | exact Nat.le_refl _ | (simp only [size_ic, Value.cells]; omega) | (simp [encWs]; done) | (simp; omega) | simp | exact encYA_sz (by assumption) | exact encYT_sz (by assumption) | exact encYM_sz (by assumption)) rfl ?_
          refine WO_nil ?_
          refine thn_normal ?_
          refine W_seq ?_
          refine W_gen fun w20 hw20 => ?_
          have hT20 : SStep w19 w20 C ({ x1 with ret := s2, frames := (none, 0, 0), phase := 2 }) ({ (ylvB f (ylvA y f sv L)).2.2.2 with ret := (ylvB f (ylvA y f sv L)).2.2.1, phase := 2 }) := SStep.put2 hw20 hSS19 (by repeat (first | assumption | exact Ext.refl _ | refine Ext.alloc ?_ _ | refine Ext.drew ?_ | refine Ext.setB ?_ (by first | omega | (simp only [size_alloc, size_setB, size_drew]; omega)) _ | refine Ext.trans ?_ (by assumption))) (encYS_11 _ 2) ({ StRel.ext hSS19.rel (by repeat (first | assumption | exact Ext.refl _ | refine Ext.alloc ?_ _ | refine Ext.drew ?_ | refine Ext.setB ?_ (by first | omega | (simp only [size_alloc, size_setB, size_drew]; omega)) _ | refine Ext.trans ?_ (by assumption))) with phase := rfl })
          have hK20 := hT20.keep
          have hKO20 := hT20.ko
          replace hO := hO.keep hKO20
          have hSS20 := hT20.ss
          have hSb20 := hSS20.blk
          have hSl20 := hSb20.lt
          have hz20 := hK20.sz
          have hzs20 := encYS_size ({ x1 with ret := s2, frames := (none, 0, 0), phase := 2 })
          replace hg16 := hg16.keep hKO20
          replace ho16 := ho16.keep hKO20
          clear hw20
          refine W_region rfl ?_
          refine WO_p (PS_move_ptr rfl) ?_
          refine WO_p (PS_move_int rfl) ?_
          refine WO_p (PS_nilCheck rfl) ?_
          refine WO_p (PS_fieldAddr 12 Hvac.runUnderlying99 rfl Hvac.sizeOf5 rfl rfl) ?_
          refine WO_store1 Hvac.sizeOf5 rfl (v := (.int _ _)) rfl (Hb.h (by repeat (first | assumption | exact Hb.newY _ _ | refine Hb.alloc ?_ | refine Hb.drew ?_ | refine Hb.ext (by assumption) ?_ | exact Hb.setSameL (by first | omega | (simp only [size_alloc, size_setB, size_drew]; omega)) | exact Hb.setSame (by assumption) | refine Hb.set (by first | omega | (simp only [size_alloc, size_setB, size_drew]; omega)) ?_ ))) rfl (by first | omega | assumption | rfl | decide | exact Nat.le_refl _ | (simp only [size_ic, Value.cells]; omega) | (simp [encWs]; done) | (simp; omega) | simp | exact encYA_sz (by assumption) | exact encYT_sz (by assumption) | exact encYM_sz (by assumption)) rfl ?_
          refine WO_nil ?_
          refine thn_normal ?_
          refine W_seq ?_
          refine W_gen fun w21 hw21 => ?_
          have hT21 : SStep w20 w21 C ({ x1 with ret := s2, frames := (none, 0, 0), phase := 2, status := (ylvA y f sv L).2.1 }) ({ (ylvB f (ylvA y f sv L)).2.2.2 with ret := (ylvB f (ylvA y f sv L)).2.2.1, phase := 2, status := (ylvB f (ylvA y f sv L)).2.1 }) := SStep.put2 hw21 hSS20 (by repeat (first | assumption | exact Ext.refl _ | refine Ext.alloc ?_ _ | refine Ext.drew ?_ | refine Ext.setB ?_ (by first | omega | (simp only [size_alloc, size_setB, size_drew]; omega)) _ | refine Ext.trans ?_ (by assumption))) (encYS_12 _ _) ({ StRel.ext hSS20.rel (by repeat (first | assumption | exact Ext.refl _ | refine Ext.alloc ?_ _ | refine Ext.drew ?_ | refine Ext.setB ?_ (by first | omega | (simp only [size_alloc, size_setB, size_drew]; omega)) _ | refine Ext.trans ?_ (by assumption))) with status := rfl })
          have hK21 := hT21.keep
          have hKO21 := hT21.ko
          replace hO := hO.keep hKO21
          have hSS21 := hT21.ss
          have hSb21 := hSS21.blk
          have hSl21 := hSb21.lt
          have hz21 := hK21.sz
          have hzs21 := encYS_size ({ x1 with ret := s2, frames := (none, 0, 0), phase := 2, status := (ylvA y f sv L).2.1 })
          replace hg16 := hg16.keep hKO21
          replace ho16 := ho16.keep hKO21
          clear hw21
          refine W_region rfl ?_
          refine WO_p (PS_move_ptr rfl) ?_
          refine WO_p (PS_move_slice rfl) ?_
          refine WO_p (PS_nilCheck rfl) ?_
          refine WO_p (PS_fieldAddr 16 Hvac.runUnderlying99 rfl Hvac.sizeOf92 rfl rfl) ?_
          refine WO_store1 Hvac.sizeOf92 rfl (v := (.slice _ _ _)) rfl (Hb.h (by repeat (first | assumption | exact Hb.newY _ _ | refine Hb.alloc ?_ | refine Hb.drew ?_ | refine Hb.ext (by assumption) ?_ | exact Hb.setSameL (by first | omega | (simp only [size_alloc, size_setB, size_drew]; omega)) | exact Hb.setSame (by assumption) | refine Hb.set (by first | omega | (simp only [size_alloc, size_setB, size_drew]; omega)) ?_ ))) rfl (by first | omega | assumption | rfl | decide | exact Nat.le_refl _ | (simp only [size_ic, Value.cells]; omega) | (simp [encWs]; done) | (simp; omega) | simp | exact encYA_sz (by assumption) | exact encYT_sz (by assumption) | exact encYM_sz (by assumption)) rfl ?_
          refine WO_nil ?_
          refine thn_normal ?_
          refine W_ret ?_
          refine thn_ret ?_
          first | refine bodyQ_ret0 Hvac.results43 ?_ | refine bodyQ_end0 Hvac.results43 ?_
          have hr9 : rest = [] := List.length_eq_zero_iff.1 hr0; have e9 : yleave y rest f sv L = ({ (ylvB f (ylvA y f sv L)).2.2.2 with ret := (ylvB f (ylvA y f sv L)).2.2.1, phase := 2, status := (ylvB f (ylvA y f sv L)).2.1, left := (ylvB f (ylvA y f sv L)).1 }, []) := (by unfold yleave; rw [hr9]; first | done | rfl); rw [e9]; have hall := ((((hT16.trans hT17).trans hT18).trans hT19).trans hT20).trans hT21; refine (fun (hfin : SStep w _ C ({ x1 with ret := s2, frames := (none, 0, 0), phase := 2, status := (ylvA y f sv L).2.1, left := s7 }) ({ (ylvB f (ylvA y f sv L)).2.2.2 with ret := (ylvB f (ylvA y f sv L)).2.2.1, phase := 2, status := (ylvB f (ylvA y f sv L)).2.1, left := (ylvB f (ylvA y f sv L)).1 })) => ⟨rfl, _, Y, _, [], YG.refl w _ Y, KeepO.mono hfin.keep (fun b e => e ▸ hX.yc), ⟨hO0.keep hfin.keep, hX.sub, hX.yc, hfin.ss, FRS.nil Y _ _ rfl rfl, hyl16⟩⟩) (hall.trans (SStep.put2 rfl hSS21 (by repeat (first | assumption | exact Ext.refl _ | refine Ext.alloc ?_ _ | refine Ext.drew ?_ | refine Ext.setB ?_ (by first | omega | (simp only [size_alloc, size_setB, size_drew]; omega)) _ | refine Ext.trans ?_ (by assumption))) (encYS_16 ({ x1 with ret := s2, frames := (none, 0, 0), phase := 2, status := (ylvA y f sv L).2.1 }) s7) { StRel.ext hSS21.rel (by repeat (first | assumption | exact Ext.refl _ | refine Ext.alloc ?_ _ | refine Ext.drew ?_ | refine Ext.setB ?_ (by first | omega | (simp only [size_alloc, size_setB, size_drew]; omega)) _ | refine Ext.trans ?_ (by assumption))) with left := NN.ext hg16 (by repeat (first | assumption | exact Ext.refl _ | refine Ext.alloc ?_ _ | refine Ext.drew ?_ | refine Ext.setB ?_ (by first | omega | (simp only [size_alloc, size_setB, size_drew]; omega)) _ | refine Ext.trans ?_ (by assumption))) }))
        · have hb20p := hb20.h; try simp only [al_ete, al_dfn, Bool.not_eq_true', Bool.not_eq_false', al_ne, Bool.not_not, al_nn] at hb20p
          refine W_skip ?_
          refine thn_normal ?_
          refine W_seq ?_
          have hr1 : 0 < rest.length := by omega
          have hT18a := (hT16.trans hT17).trans hT18
          have hfrs18 : FRS Y w18 (some ⟨F, 0, none⟩, rest.length, rest.length) (xs.take rest.length) rest := by
            have h9 := hX.frs.cs hX.ss.blk hX.ss.om hT18a.keep
            have h8 : x.frames = (some ⟨F, 0, none⟩, rest.length + 1, x.frames.2.2) := by rw [← hFp, hlf]
            rw [h8] at h9
            have h7 := h9.cut (k := rest.length) (Nat.le_succ _)
            rw [List.take_left] at h7
            exact h7
          have hX18 : YX Y w18 C ({ x1 with ret := s2, frames := (some ⟨F, 0, none⟩, rest.length, rest.length) }) ({ (ylvB f (ylvA y f sv L)).2.2.2 with ret := (ylvB f (ylvA y f sv L)).2.2.1 }) (xs.take rest.length) rest := ⟨hO, hX.sub, hX.yc, hSS18, hfrs18, hyl16⟩
          obtain ⟨F2, rp, xp, pf, hFp2, _, hxp, hpf, hF18, hrsp, hFp1⟩ := hfrs18.at_ (i := rest.length - 1) (by show rest.length - 1 < rest.length; omega)
          have hF2 : F = F2 := by injection hFp2 with hFp2; injection hFp2
          subst hF2
          have hFo := hF18.om
          have hFC18 := hF18.fc
          have hFR18 := hF18.rel
          have hFb18 := hF18.blk
          have hFl18 := hFb18.lt
          have hFsz18 := hFC18.size
          have hidx : 0 + ((rest.length : Int) - 1).toNat * 60 = (rest.length - 1) * 60 := by omega
          have hPp := hPr pf (List.mem_of_getElem? hpf)
          have hk4p := hFC18.gas
          have hN4p := hFR18.gas
          have hz4p := hPp.1.gas
          have hgz : sz (ylvB f (ylvA y f sv L)).1 ≤ 30 := by
            unfold ylvB; dsimp only; split
            · exact sz_le (by decide)
            · exact hAz
          have hgl : (ylvB f (ylvA y f sv L)).2.2.1.length ≤ L.length := by
            unfold ylvB; dsimp only; split
            · exact Nat.zero_le _
            · exact hAl
          have hb6_18 : Hb w18 b6 (.cells (encYF xf).toArray 121 (0, 0)) := ((hb616.keepO hT17.keep (fun e => absurd e (by omega))).keepO hT18.keep (fun e => absurd e (by omega)))
          refine W_drawE [false, false, false, false, false, false, false, false, false, false, false, false] hmix (by kernel_rfl) rfl ?_
          refine WH_p (PS_move_ptr rfl) rfl ?_
          refine WH_p (PS_nilCheck rfl) rfl ?_
          refine WH_p (PS_fieldAddr 9 Hvac.runUnderlying99 rfl Hvac.sizeOf97 rfl rfl) rfl ?_
          refine WH_load (.slice _ _ _) Hvac.isAgg97 rfl (Hb.h (by repeat (first | assumption | exact Hb.newY _ _ | refine Hb.alloc ?_ | refine Hb.drew ?_ | refine Hb.ext (by assumption) ?_ | exact Hb.setSameL (by first | omega | (simp only [size_alloc, size_setB, size_drew]; omega)) | exact Hb.setSame (by assumption) | refine Hb.set (by first | omega | (simp only [size_alloc, size_setB, size_drew]; omega)) ?_ ))) (Ce.h (by first | assumption | exact ⟨rfl⟩)) ?_
          refine WH_p (PS_move_ptr rfl) rfl ?_
          refine WH_p (PS_nilCheck rfl) rfl ?_
          refine WH_p (PS_fieldAddr 9 Hvac.runUnderlying99 rfl Hvac.sizeOf97 rfl rfl) rfl ?_
          refine WH_load (.slice _ _ _) Hvac.isAgg97 rfl (Hb.h (by repeat (first | assumption | exact Hb.newY _ _ | refine Hb.alloc ?_ | refine Hb.drew ?_ | refine Hb.ext (by assumption) ?_ | exact Hb.setSameL (by first | omega | (simp only [size_alloc, size_setB, size_drew]; omega)) | exact Hb.setSame (by assumption) | refine Hb.set (by first | omega | (simp only [size_alloc, size_setB, size_drew]; omega)) ?_ ))) (Ce.h (by first | assumption | exact ⟨rfl⟩)) ?_
          refine WH_p (PS_lenS Hvac.runUnderlying97 rfl) rfl ?_
          refine WH_p (PS_sub_i64n rfl rfl (by omega) (by omega)) rfl ?_
          refine WH_p (PS_indexS Hvac.runUnderlying97 Hvac.sizeOf121 rfl rfl (by omega) (by omega)) rfl ?_
          refine WH_p (PS_assign_ptr rfl) rfl ?_
          refine WH_nil ?_
          refine thn_normal ?_
          refine W_seq ?_
          rw [hidx]
          refine W_region rfl ?_
          refine WO_p (PS_move_ptr rfl) ?_
          refine WO_p (PS_move_ptr rfl) ?_
          refine WO_p (PS_nilCheck rfl) ?_
          refine WO_p (PS_fieldAddr 4 Hvac.runUnderlying121 rfl Hvac.sizeOf92 rfl rfl) ?_
          refine WO_load (.slice _ _ _) Hvac.isAgg92 rfl (Hb.h (by repeat (first | assumption | exact Hb.newY _ _ | refine Hb.alloc ?_ | refine Hb.drew ?_ | refine Hb.ext (by assumption) ?_ | exact Hb.setSameL (by first | omega | (simp only [size_alloc, size_setB, size_drew]; omega)) | exact Hb.setSame (by assumption) | refine Hb.set (by first | omega | (simp only [size_alloc, size_setB, size_drew]; omega)) ?_ ))) (Ce.h (by first | assumption | exact ⟨rfl⟩)) ?_
          refine WO_p (PS_move_slice rfl) ?_
          refine WO_call Hvac.call24 (by rfl) (Ret.mono (nAdd_spec (OmB.ext hO (by repeat (first | assumption | exact Ext.refl _ | refine Ext.alloc ?_ _ | refine Ext.drew ?_ | refine Ext.setB ?_ (by first | omega | (simp only [size_alloc, size_setB, size_drew]; omega)) _ | exact Ext.trans (by assumption) (by assumption) | refine Ext.trans ?_ (by assumption)))) (by first | exact NN.nil _ | assumption | exact NN.ext (by assumption) (by repeat (first | assumption | exact Ext.refl _ | refine Ext.alloc ?_ _ | refine Ext.drew ?_ | refine Ext.setB ?_ (by first | omega | (simp only [size_alloc, size_setB, size_drew]; omega)) _ | exact Ext.trans (by assumption) (by assumption) | refine Ext.trans ?_ (by assumption)))) (by first | exact NN.nil _ | assumption | exact NN.ext (by assumption) (by repeat (first | assumption | exact Ext.refl _ | refine Ext.alloc ?_ _ | refine Ext.drew ?_ | refine Ext.setB ?_ (by first | omega | (simp only [size_alloc, size_setB, size_drew]; omega)) _ | exact Ext.trans (by assumption) (by assumption) | refine Ext.trans ?_ (by assumption)))) (by first | assumption | omega | (rw [sz_zero]; omega)) (by first | assumption | omega | (rw [sz_zero]; omega))) ?_)
          rintro _ w24 ⟨hE24, s24, rfl, hN24⟩
          have hz24 := hE24.1
          try simp only [size_alloc, size_setB, size_drew] at hz24
          have hs24 := hN24.z_add
          refine WO_p (PS_nilCheck rfl) ?_
          refine WO_p (PS_fieldAddr 4 Hvac.runUnderlying121 rfl Hvac.sizeOf92 rfl rfl) ?_
          refine WO_store1 Hvac.sizeOf92 rfl (v := (.slice _ _ _)) rfl (Hb.h (by repeat (first | assumption | exact Hb.newY _ _ | refine Hb.alloc ?_ | refine Hb.drew ?_ | refine Hb.ext (by assumption) ?_ | exact Hb.setSameL (by first | omega | (simp only [size_alloc, size_setB, size_drew]; omega)) | exact Hb.setSame (by assumption) | refine Hb.set (by first | omega | (simp only [size_alloc, size_setB, size_drew]; omega)) ?_ ))) rfl (by first | omega | assumption | rfl | decide | exact Nat.le_refl _ | (simp only [size_ic, Value.cells]; omega) | (simp [encWs]; done) | (simp; omega) | simp | exact encYA_sz (by assumption) | exact encYT_sz (by assumption) | exact encYM_sz (by assumption)) rfl ?_
          refine WO_nil ?_
          refine thn_normal ?_
          refine W_seq ?_
          refine W_gen fun w24 hw24 => ?_
          have hS24 := FStep.put (f' := { pf with gas := pf.gas + (ylvB f (ylvA y f sv L)).1 }) hw24 hF18 (by repeat (first | assumption | exact Ext.refl _ | refine Ext.alloc ?_ _ | refine Ext.drew ?_ | refine Ext.setB ?_ (by first | omega | (simp only [size_alloc, size_setB, size_drew]; omega)) _ | refine Ext.trans ?_ (by assumption))) (hFC18.gas_ s24) ({ FrR.ext hF18.rel (by repeat (first | assumption | exact Ext.refl _ | refine Ext.alloc ?_ _ | refine Ext.drew ?_ | refine Ext.setB ?_ (by first | omega | (simp only [size_alloc, size_setB, size_drew]; omega)) _ | refine Ext.trans ?_ (by assumption))) with gas := (by first | exact NN.nil _ | assumption | exact NN.ext (by assumption) (by repeat (first | assumption | exact Ext.refl _ | refine Ext.alloc ?_ _ | refine Ext.drew ?_ | refine Ext.setB ?_ (by first | omega | (simp only [size_alloc, size_setB, size_drew]; omega)) _ | refine Ext.trans ?_ (by assumption)))) })
          have hF24 := hS24.m hFo
          have hKO24 := hS24.ko hFo
          replace hO := hO.keep hKO24
          have hFb24 := hF24.blk
          have hFC24 := hF24.fc
          have hFR24 := hF24.rel
          have hFl24 := hFb24.lt
          have hFsz24 := hFC24.size
          replace hg16 := hg16.keep hKO24
          replace ho16 := ho16.keep hKO24
          clear hw24
          have hMW18 := hFp1.mw
          have hMW24 : MW w24 xp.mem pf.mem := hMW18.fs hF18.blk hS24.keep
          have hX24 := hX18.fstep (o := 0) rfl hxp hpf hF18 hS24 hMW24 (fun b hb => Or.inl hb)
          have hP24 : PFB ({ pf with gas := pf.gas + (ylvB f (ylvA y f sv L)).1 }) := PFB.back hPp.1 hPp.2 hgz
          have hk6 : Ce _ ((rest.length - 1) * 60 + 6) (.slice xp.outOff.1 xp.outOff.2.1 xp.outOff.2.2) := hFC24.outOff
          have hk7 : Ce _ ((rest.length - 1) * 60 + 7) (.slice xp.outLen.1 xp.outLen.2.1 xp.outLen.2.2) := hFC24.outLen
          have hN6 : NN w24 xp.outOff pf.outOff := hFR24.outOff
          have hN7 : NN w24 xp.outLen pf.outLen := hFR24.outLen
          have hz6 := hPp.1.oo
          have hz7 := hPp.1.ol
          have hb6_24 : Hb w24 b6 (.cells (encYF xf).toArray 121 (0, 0)) := hb6_18.keepO hS24.keep (fun e => by
            have h9 := hb616.lt
            have h8 : b6 ≠ F := by omega
            exact h8 e)
          have hABs : AB w24 (some ⟨b6, 0 + 12, none⟩, 20, 20) f.self := AB.xt hb6_24 hk12 (by omega) hsbl hFR.sb.2
          have hzbv : sz (bvY f.self) ≤ 1000 := by have h9 := sz_bv hFR.sb.2; rw [hsbl] at h9; omega
          have hsn2 := PB.len ho16
          have hsc2 := PB.cap ho16
          have hpl : rest.length - 1 < (xs.take rest.length).length := lt_of_getElem? hxp
          have hpl2 : rest.length - 1 < rest.length := by omega
          have hsb0 := ysmall_bd pf.outLen
          refine W_region rfl ?_
          refine WO_p (PS_assign_slice rfl) ?_
          refine WO_nil ?_
          refine thn_normal ?_
          refine W_seqJ (fun ρ w' => ∃ s11 : SV, Fr [(2, .slice s2.1 s2.2.1 s2.2.2), (10, .pointer (some ⟨F, (rest.length - 1) * 60, none⟩)), (11, .slice s11.1 s11.2.1 s11.2.2)] ρ ∧ Ext w24 w' ∧ NN w' s11 (if (ylvB f (ylvA y f sv L)).2.1 = 0 then (if ycreates f.kind = true then bvY f.self else 1) else 0)) ?_ ?_
          · skip
            refine W_seq ?_
            refine W_region rfl ?_
            refine WO_p (PS_move_int rfl) ?_
            refine WO_p (PS_eql rfl rfl) ?_
            refine WO_nil ?_
            refine thn_normal ?_
            refine W_if rfl (fun hb23 => ?_) (fun hb23 => ?_)
            · have hb23p := hb23.h; try simp only [al_ete, al_dfn, Bool.not_eq_true', Bool.not_eq_false', al_ne, Bool.not_not, al_nn] at hb23p
              have hs9 : (ylvB f (ylvA y f sv L)).2.1 = 0 := by show (ylvA y f sv L).2.1 = 0; omega
              refine W_seq ?_
              refine W_region rfl ?_
              refine WO_call Hvac.call19 (by rfl) (Ret.mono (nNum_spec (OmB.ext hO (by repeat (first | assumption | exact Ext.refl _ | refine Ext.alloc ?_ _ | refine Ext.drew ?_ | refine Ext.setB ?_ (by first | omega | (simp only [size_alloc, size_setB, size_drew]; omega)) _ | exact Ext.trans (by assumption) (by assumption) | refine Ext.trans ?_ (by assumption)))) ⟨by omega, by omega⟩) ?_)
              rintro _ w19_23 ⟨hE19_23, s19_23, rfl, hN19_23, hs19_23⟩
              have hz19_23 := hE19_23.1
              try simp only [size_alloc, size_setB, size_drew] at hz19_23
              try simp only [Int.toNat_natCast, toNat_lit] at hN19_23 hs19_23
              try simp only [show Int.toNat 1 = 1 from rfl] at hN19_23 hs19_23
              refine WO_p (PS_assign_slice rfl) ?_
              refine WO_nil ?_
              refine thn_normal ?_
              refine W_seq ?_
              refine W_region rfl ?_
              refine WO_p (PS_move_bool rfl) ?_
              refine WO_nil ?_
              refine thn_normal ?_
              refine W_if rfl (fun hb26 => ?_) (fun hb26 => ?_)
              · have hb26p := hb26.h; try simp only [al_ete, al_dfn, Bool.not_eq_true', Bool.not_eq_false', al_ne, Bool.not_not, al_nn] at hb26p
                have hm9 : ycreates f.kind = true := hb26p
                refine W_region rfl ?_
                refine WO_p (PS_fieldAddr 12 Hvac.runUnderlying121 rfl Hvac.sizeOf25 rfl rfl) ?_
                refine WO_p (PS_slA Hvac.runUnderlying25 Hvac.sizeOf5 rfl (by omega)) ?_
                refine WO_call Hvac.call29 (by rfl) (Ret.mono (nBE_spec (OmB.ext hO (by repeat (first | assumption | exact Ext.refl _ | refine Ext.alloc ?_ _ | refine Ext.drew ?_ | refine Ext.setB ?_ (by first | omega | (simp only [size_alloc, size_setB, size_drew]; omega)) _ | exact Ext.trans (by assumption) (by assumption) | refine Ext.trans ?_ (by assumption)))) (by first | assumption | exact AB.ext (by assumption) (by repeat (first | assumption | exact Ext.refl _ | refine Ext.alloc ?_ _ | refine Ext.drew ?_ | refine Ext.setB ?_ (by first | omega | (simp only [size_alloc, size_setB, size_drew]; omega)) _ | exact Ext.trans (by assumption) (by assumption) | refine Ext.trans ?_ (by assumption))) | exact PB.ab (by assumption) | exact PB.ab (PB.ext (by assumption) (by repeat (first | assumption | exact Ext.refl _ | refine Ext.alloc ?_ _ | refine Ext.drew ?_ | refine Ext.setB ?_ (by first | omega | (simp only [size_alloc, size_setB, size_drew]; omega)) _ | exact Ext.trans (by assumption) (by assumption) | refine Ext.trans ?_ (by assumption))))) (by omega)) ?_)
                rintro _ w29_26 ⟨hE29_26, s29_26, rfl, hN29_26⟩
                have hz29_26 := hE29_26.1
                try simp only [size_alloc, size_setB, size_drew] at hz29_26
                have hs29_26 := hN29_26.z_bv
                refine WO_p (PS_assign_slice rfl) ?_
                refine WO_nil ?_
                refine thn_normal ?_
                rw [if_pos hs9, if_pos hm9]; exact ⟨(_, _, _), ⟨rfl, rfl, rfl, trivial⟩, (by repeat (first | assumption | exact Ext.refl _ | refine Ext.alloc ?_ _ | refine Ext.drew ?_ | refine Ext.setB ?_ (by first | omega | (simp only [size_alloc, size_setB, size_drew]; omega)) _ | exact Ext.trans (by assumption) (by assumption) | refine Ext.trans ?_ (by assumption))), (by first | exact NN.nil _ | assumption | exact NN.ext (by assumption) (by repeat (first | assumption | exact Ext.refl _ | refine Ext.alloc ?_ _ | refine Ext.drew ?_ | refine Ext.setB ?_ (by first | omega | (simp only [size_alloc, size_setB, size_drew]; omega)) _ | exact Ext.trans (by assumption) (by assumption) | refine Ext.trans ?_ (by assumption))))⟩
              · have hb26p := hb26.h; try simp only [al_ete, al_dfn, Bool.not_eq_true', Bool.not_eq_false', al_ne, Bool.not_not, al_nn] at hb26p
                have hm9 : ¬ ycreates f.kind = true := by simp [hb26p]
                refine W_skip ?_
                refine thn_normal ?_
                rw [if_pos hs9, if_neg hm9]; exact ⟨(_, _, _), ⟨rfl, rfl, rfl, trivial⟩, (by repeat (first | assumption | exact Ext.refl _ | refine Ext.alloc ?_ _ | refine Ext.drew ?_ | refine Ext.setB ?_ (by first | omega | (simp only [size_alloc, size_setB, size_drew]; omega)) _ | exact Ext.trans (by assumption) (by assumption) | refine Ext.trans ?_ (by assumption))), (by first | exact NN.nil _ | assumption | exact NN.ext (by assumption) (by repeat (first | assumption | exact Ext.refl _ | refine Ext.alloc ?_ _ | refine Ext.drew ?_ | refine Ext.setB ?_ (by first | omega | (simp only [size_alloc, size_setB, size_drew]; omega)) _ | exact Ext.trans (by assumption) (by assumption) | refine Ext.trans ?_ (by assumption))))⟩
            · have hb23p := hb23.h; try simp only [al_ete, al_dfn, Bool.not_eq_true', Bool.not_eq_false', al_ne, Bool.not_not, al_nn] at hb23p
              have hs9 : ¬ (ylvB f (ylvA y f sv L)).2.1 = 0 := by show ¬ (ylvA y f sv L).2.1 = 0; omega
              refine W_skip ?_
              refine thn_normal ?_
              rw [if_neg hs9]; exact ⟨(_, _, _), ⟨rfl, rfl, rfl, trivial⟩, (by repeat (first | assumption | exact Ext.refl _ | refine Ext.alloc ?_ _ | refine Ext.drew ?_ | refine Ext.setB ?_ (by first | omega | (simp only [size_alloc, size_setB, size_drew]; omega)) _ | exact Ext.trans (by assumption) (by assumption) | refine Ext.trans ?_ (by assumption))), (by first | exact NN.nil _ | assumption | exact NN.ext (by assumption) (by repeat (first | assumption | exact Ext.refl _ | refine Ext.alloc ?_ _ | refine Ext.drew ?_ | refine Ext.setB ?_ (by first | omega | (simp only [size_alloc, size_setB, size_drew]; omega)) _ | exact Ext.trans (by assumption) (by assumption) | refine Ext.trans ?_ (by assumption))))⟩
          · rintro ρ30 w30 ⟨s11, hFr30, hE30, hN11⟩
            refine W_env _ hFr30 ?_
            have hz30 := hE30.1
            have hmin : (if ((s2.2.1 : Nat) : Int) < ysmall pf.outLen then ((s2.2.1 : Nat) : Int) else ysmall pf.outLen) = (((min (ysmall pf.outLen).toNat (ylvB f (ylvA y f sv L)).2.2.1.length) : Nat) : Int) := by
              rw [← hsn2]; split <;> omega
            have hnk9 : (min (ysmall pf.outLen).toNat (ylvB f (ylvA y f sv L)).2.2.1.length) ≤ s2.2.1 := by rw [← hsn2]; exact Nat.min_le_right _ _
            have hABo : AB w24 (s2.1, (min (ysmall pf.outLen).toNat (ylvB f (ylvA y f sv L)).2.2.1.length), s2.2.2) ((ylvB f (ylvA y f sv L)).2.2.1.take (min (ysmall pf.outLen).toNat (ylvB f (ylvA y f sv L)).2.2.1.length)) := AB.take (PB.ab ho16) (by rw [← hsn2]; exact Nat.min_le_right _ _)
            refine W_seqJ (fun ρ w' => ∃ (xs3 : List YFr) (x3 : YFr) (r3 : Array Value) (s11 : SV), Fr [(10, .pointer (some ⟨F, (rest.length - 1) * 60, none⟩)), (11, .slice s11.1 s11.2.1 s11.2.2)] ρ ∧ YX Y w' C ({ x1 with ret := s2, frames := (some ⟨F, 0, none⟩, rest.length, rest.length) }) ({ (ylvB f (ylvA y f sv L)).2.2.2 with ret := (ylvB f (ylvA y f sv L)).2.2.1 }) xs3 (rest.set (rest.length - 1) (if 0 < (min (ysmall pf.outLen).toNat (ylvB f (ylvA y f sv L)).2.2.1.length) then ywrite ({ pf with gas := pf.gas + (ylvB f (ylvA y f sv L)).1 }) pf.outOff ((ylvB f (ylvA y f sv L)).2.2.1.take (min (ysmall pf.outLen).toNat (ylvB f (ylvA y f sv L)).2.2.1.length)) else { pf with gas := pf.gas + (ylvB f (ylvA y f sv L)).1 })) ∧ xs3[(rest.length - 1)]? = some x3 ∧ FrM w' F ((rest.length - 1) * 60) r3 x3 (if 0 < (min (ysmall pf.outLen).toNat (ylvB f (ylvA y f sv L)).2.2.1.length) then ywrite ({ pf with gas := pf.gas + (ylvB f (ylvA y f sv L)).1 }) pf.outOff ((ylvB f (ylvA y f sv L)).2.2.1.take (min (ysmall pf.outLen).toNat (ylvB f (ylvA y f sv L)).2.2.1.length)) else { pf with gas := pf.gas + (ylvB f (ylvA y f sv L)).1 }) ∧ NN w' s11 (if (ylvB f (ylvA y f sv L)).2.1 = 0 then (if ycreates f.kind = true then bvY f.self else 1) else 0) ∧ KeepO Y w24 w') ?_ ?_
            · skip
              refine W_seq ?_
              refine W_region rfl ?_
              refine WO_p (PS_move_ptr rfl) ?_
              refine WO_p (PS_nilCheck rfl) ?_
              refine WO_p (PS_fieldAddr 7 Hvac.runUnderlying121 rfl Hvac.sizeOf92 rfl rfl) ?_
              refine WO_load (.slice _ _ _) Hvac.isAgg92 rfl (Hb.h (by repeat (first | assumption | exact Hb.newY _ _ | refine Hb.alloc ?_ | refine Hb.drew ?_ | refine Hb.ext (by assumption) ?_ | exact Hb.setSameL (by first | omega | (simp only [size_alloc, size_setB, size_drew]; omega)) | exact Hb.setSame (by assumption) | refine Hb.set (by first | omega | (simp only [size_alloc, size_setB, size_drew]; omega)) ?_ ))) (Ce.h (by first | assumption | exact ⟨rfl⟩)) ?_
              refine WO_call Hvac.call37 (by rfl) (Ret.mono (small_spec2 _ (OmB.ext hO (by repeat (first | assumption | exact Ext.refl _ | refine Ext.alloc ?_ _ | refine Ext.drew ?_ | refine Ext.setB ?_ (by first | omega | (simp only [size_alloc, size_setB, size_drew]; omega)) _ | exact Ext.trans (by assumption) (by assumption) | refine Ext.trans ?_ (by assumption)))) _ _ _ _ (by first | exact NN.nil _ | assumption | exact NN.ext (by assumption) (by repeat (first | assumption | exact Ext.refl _ | refine Ext.alloc ?_ _ | refine Ext.drew ?_ | refine Ext.setB ?_ (by first | omega | (simp only [size_alloc, size_setB, size_drew]; omega)) _ | exact Ext.trans (by assumption) (by assumption) | refine Ext.trans ?_ (by assumption)))) (by first | assumption | omega | (rw [sz_zero]; omega))) ?_)
              rintro _ w37_27 ⟨hE37_27, rfl⟩
              have hz37_27 := hE37_27.1
              try simp only [size_alloc, size_setB, size_drew] at hz37_27
              refine WO_p (PS_move_slice rfl) ?_
              refine WO_p (PS_lenS Hvac.runUnderlying32 rfl) ?_
              refine WO_p (PS_conv_u64n Hvac.runUnderlying3 Hvac.runUnderlying26 rfl (by omega) (by omega)) ?_
              refine WO_p (PS_min rfl rfl) ?_
              refine WO_p (PS_assign_int rfl) ?_
              refine WO_nil ?_
              refine thn_normal ?_
              refine W_seq ?_
              rw [hmin]
              refine W_region rfl ?_
              refine WO_p (PS_move_int rfl) ?_
              refine WO_p (PS_gtr rfl rfl) ?_
              refine WO_nil ?_
              refine thn_normal ?_
              refine W_if rfl (fun hb30 => ?_) (fun hb30 => ?_)
              · have hb30p := hb30.h; try simp only [al_ete, al_dfn, Bool.not_eq_true', Bool.not_eq_false', al_ne, Bool.not_not, al_nn] at hb30p
                have hn9 : 0 < (min (ysmall pf.outLen).toNat (ylvB f (ylvA y f sv L)).2.2.1.length) := by omega
                refine W_drawE [false, false, false, false, false, false, false, false, false] hmix (by kernel_rfl) rfl ?_
                refine WH_p (PS_move_ptr rfl) rfl ?_
                refine WH_p (PS_move_ptr rfl) rfl ?_
                refine WH_p (PS_nilCheck rfl) rfl ?_
                refine WH_p (PS_fieldAddr 6 Hvac.runUnderlying121 rfl Hvac.sizeOf92 rfl rfl) rfl ?_
                refine WH_load (.slice _ _ _) Hvac.isAgg92 rfl (Hb.h (by repeat (first | assumption | exact Hb.newY _ _ | refine Hb.alloc ?_ | refine Hb.drew ?_ | refine Hb.ext (by assumption) ?_ | exact Hb.setSameL (by first | omega | (simp only [size_alloc, size_setB, size_drew]; omega)) | exact Hb.setSame (by assumption) | refine Hb.set (by first | omega | (simp only [size_alloc, size_setB, size_drew]; omega)) ?_ ))) (Ce.h (by first | assumption | exact ⟨rfl⟩)) ?_
                refine WH_p (PS_move_slice rfl) rfl ?_
                refine WH_p (PS_move_int rfl) rfl ?_
                refine WH_p (PS_slS_hA Hvac.runUnderlying32 Hvac.sizeOf5 rfl rfl (by omega) (by omega)) rfl ?_
                rw [Int.toNat_natCast]
                refine WH_call Hvac.call116 (by rfl) (Ret.mono (yWrite_spec _ (OmB.ext hO (by repeat (first | assumption | exact Ext.refl _ | refine Ext.alloc ?_ _ | refine Ext.drew ?_ | refine Ext.setB ?_ (by first | omega | (simp only [size_alloc, size_setB, size_drew]; omega)) _ | exact Ext.trans (by assumption) (by assumption) | refine Ext.trans ?_ (by assumption)))) _ _ _ _ _ (FrM.ext hF24 (by repeat (first | assumption | exact Ext.refl _ | refine Ext.alloc ?_ _ | refine Ext.drew ?_ | refine Ext.setB ?_ (by first | omega | (simp only [size_alloc, size_setB, size_drew]; omega)) _ | exact Ext.trans (by assumption) (by assumption) | refine Ext.trans ?_ (by assumption)))) hP24 (MW.ext hMW24 (by repeat (first | assumption | exact Ext.refl _ | refine Ext.alloc ?_ _ | refine Ext.drew ?_ | refine Ext.setB ?_ (by first | omega | (simp only [size_alloc, size_setB, size_drew]; omega)) _ | exact Ext.trans (by assumption) (by assumption) | refine Ext.trans ?_ (by assumption)))) _ _ _ _ (by first | exact NN.nil _ | assumption | exact NN.ext (by assumption) (by repeat (first | assumption | exact Ext.refl _ | refine Ext.alloc ?_ _ | refine Ext.drew ?_ | refine Ext.setB ?_ (by first | omega | (simp only [size_alloc, size_setB, size_drew]; omega)) _ | exact Ext.trans (by assumption) (by assumption) | refine Ext.trans ?_ (by assumption)))) (by first | assumption | omega | (rw [sz_zero]; omega)) _ _ _ _ (AB.ext hABo (by repeat (first | assumption | exact Ext.refl _ | refine Ext.alloc ?_ _ | refine Ext.drew ?_ | refine Ext.setB ?_ (by first | omega | (simp only [size_alloc, size_setB, size_drew]; omega)) _ | exact Ext.trans (by assumption) (by assumption) | refine Ext.trans ?_ (by assumption)))) (by omega)) ?_)
                rintro _ w32 ⟨rfl, hW32⟩
                refine ⟨(fun h => by cases h), ?_⟩
                refine WH_nil ?_
                refine thn_normal ?_
                rw [if_pos hn9]; have hWp := WStep.pre (hE30.trans (by repeat (first | assumption | exact Ext.refl _ | refine Ext.alloc ?_ _ | refine Ext.drew ?_ | refine Ext.setB ?_ (by first | omega | (simp only [size_alloc, size_setB, size_drew]; omega)) _ | exact Ext.trans (by assumption) (by assumption) | refine Ext.trans ?_ (by assumption)))) hW32; have hX32 := hX24.wstep (o := 0) rfl (List.getElem?_set_self hpl) (List.getElem?_set_self hpl2) hF24 hWp; rw [List.set_set] at hX32; exact ⟨_, _, _, s11, ⟨rfl, rfl, trivial⟩, hX32, List.getElem?_set_self hpl, hW32.m, NN.keep (NN.ext hN11 (by repeat (first | assumption | exact Ext.refl _ | refine Ext.alloc ?_ _ | refine Ext.drew ?_ | refine Ext.setB ?_ (by first | omega | (simp only [size_alloc, size_setB, size_drew]; omega)) _ | exact Ext.trans (by assumption) (by assumption) | refine Ext.trans ?_ (by assumption)))) (hW32.keep.om fun b _ hb => hX24.sub b ((hX24.frs.rel _ _ _ (List.getElem?_set_self hpl) (List.getElem?_set_self hpl2)).ym b hb)), KeepO.mono hWp.keep (fun b hb => (hX24.frs.rel _ _ _ (List.getElem?_set_self hpl) (List.getElem?_set_self hpl2)).ym b hb)⟩
              · have hb30p := hb30.h; try simp only [al_ete, al_dfn, Bool.not_eq_true', Bool.not_eq_false', al_ne, Bool.not_not, al_nn] at hb30p
                have hn9 : ¬ 0 < (min (ysmall pf.outLen).toNat (ylvB f (ylvA y f sv L)).2.2.1.length) := by omega
                refine W_skip ?_
                refine thn_normal ?_
                rw [if_neg hn9]; exact ⟨_, _, _, s11, ⟨rfl, rfl, trivial⟩, hX24.ext (hE30.trans (by repeat (first | assumption | exact Ext.refl _ | refine Ext.alloc ?_ _ | refine Ext.drew ?_ | refine Ext.setB ?_ (by first | omega | (simp only [size_alloc, size_setB, size_drew]; omega)) _ | exact Ext.trans (by assumption) (by assumption) | refine Ext.trans ?_ (by assumption)))), List.getElem?_set_self hpl, hF24.ext (hE30.trans (by repeat (first | assumption | exact Ext.refl _ | refine Ext.alloc ?_ _ | refine Ext.drew ?_ | refine Ext.setB ?_ (by first | omega | (simp only [size_alloc, size_setB, size_drew]; omega)) _ | exact Ext.trans (by assumption) (by assumption) | refine Ext.trans ?_ (by assumption)))), NN.ext hN11 (by repeat (first | assumption | exact Ext.refl _ | refine Ext.alloc ?_ _ | refine Ext.drew ?_ | refine Ext.setB ?_ (by first | omega | (simp only [size_alloc, size_setB, size_drew]; omega)) _ | exact Ext.trans (by assumption) (by assumption) | refine Ext.trans ?_ (by assumption))), Ext.keepO (hE30.trans (by repeat (first | assumption | exact Ext.refl _ | refine Ext.alloc ?_ _ | refine Ext.drew ?_ | refine Ext.setB ?_ (by first | omega | (simp only [size_alloc, size_setB, size_drew]; omega)) _ | exact Ext.trans (by assumption) (by assumption) | refine Ext.trans ?_ (by assumption)))) _⟩
            · rintro ρ33 w33 ⟨xs3, x3, r3, s11, hFr33, hX33, hx33, hF33, hN11, hK33⟩
              refine W_env _ hFr33 ?_
              replace hO := hX33.omb
              have hP33 : PFB (if 0 < (min (ysmall pf.outLen).toNat (ylvB f (ylvA y f sv L)).2.2.1.length) then ywrite ({ pf with gas := pf.gas + (ylvB f (ylvA y f sv L)).1 }) pf.outOff ((ylvB f (ylvA y f sv L)).2.2.1.take (min (ysmall pf.outLen).toNat (ylvB f (ylvA y f sv L)).2.2.1.length)) else { pf with gas := pf.gas + (ylvB f (ylvA y f sv L)).1 }) := by split; exact hP24.wr; exact hP24
              have hz11 : sz (if (ylvB f (ylvA y f sv L)).2.1 = 0 then (if ycreates f.kind = true then bvY f.self else 1) else 0) ≤ 1000 := by
                split
                · split
                  · exact hzbv
                  · exact Nat.le_trans (show sz 1 ≤ 8 from sz_le (by decide)) (by decide)
                · rw [sz_zero]; decide
              refine W_region rfl ?_
              refine WO_p (PS_move_ptr rfl) ?_
              refine WO_p (PS_move_slice rfl) ?_
              refine WO_call Hvac.call117 (by rfl) (Ret.mono (yAnswer_spec _ (OmB.ext hO (by repeat (first | assumption | exact Ext.refl _ | refine Ext.alloc ?_ _ | refine Ext.drew ?_ | refine Ext.setB ?_ (by first | omega | (simp only [size_alloc, size_setB, size_drew]; omega)) _ | exact Ext.trans (by assumption) (by assumption) | refine Ext.trans ?_ (by assumption)))) _ _ _ _ _ (FrM.ext hF33 (by repeat (first | assumption | exact Ext.refl _ | refine Ext.alloc ?_ _ | refine Ext.drew ?_ | refine Ext.setB ?_ (by first | omega | (simp only [size_alloc, size_setB, size_drew]; omega)) _ | exact Ext.trans (by assumption) (by assumption) | refine Ext.trans ?_ (by assumption)))) hP33 0 (Nat.zero_le _) _ _ _ _ (by first | exact NN.nil _ | assumption | exact NN.ext (by assumption) (by repeat (first | assumption | exact Ext.refl _ | refine Ext.alloc ?_ _ | refine Ext.drew ?_ | refine Ext.setB ?_ (by first | omega | (simp only [size_alloc, size_setB, size_drew]; omega)) _ | exact Ext.trans (by assumption) (by assumption) | refine Ext.trans ?_ (by assumption)))) (by first | assumption | omega | (rw [sz_zero]; omega))) ?_)
              rintro _ w34 ⟨rfl, r34, x34, hS34, hm34⟩
              refine WO_nil ?_
              first | refine bodyQ_ret0 Hvac.results43 ?_ | refine bodyQ_end0 Hvac.results43 ?_
              have hpf9 : (rest.set (rest.length - 1) (if 0 < (min (ysmall pf.outLen).toNat (ylvB f (ylvA y f sv L)).2.2.1.length) then ywrite ({ pf with gas := pf.gas + (ylvB f (ylvA y f sv L)).1 }) pf.outOff ((ylvB f (ylvA y f sv L)).2.2.1.take (min (ysmall pf.outLen).toNat (ylvB f (ylvA y f sv L)).2.2.1.length)) else { pf with gas := pf.gas + (ylvB f (ylvA y f sv L)).1 }))[(rest.length - 1)]? = some (if 0 < (min (ysmall pf.outLen).toNat (ylvB f (ylvA y f sv L)).2.2.1.length) then ywrite ({ pf with gas := pf.gas + (ylvB f (ylvA y f sv L)).1 }) pf.outOff ((ylvB f (ylvA y f sv L)).2.2.1.take (min (ysmall pf.outLen).toNat (ylvB f (ylvA y f sv L)).2.2.1.length)) else { pf with gas := pf.gas + (ylvB f (ylvA y f sv L)).1 }) := List.getElem?_set_self (by omega); have hMW33 := (hX33.frs.rel _ _ _ hx33 hpf9).mw; have hX34 := hX33.fstep (o := 0) rfl hx33 hpf9 hF33 hS34 (by rw [hm34]; exact hMW33.fs hF33.blk hS34.keep) (fun b hb => Or.inl (hm34 ▸ hb)); have e9 : yleave y rest f sv L = ({ (ylvB f (ylvA y f sv L)).2.2.2 with ret := (ylvB f (ylvA y f sv L)).2.2.1 }, rest.set (rest.length - 1) (yanswer (if 0 < (min (ysmall pf.outLen).toNat (ylvB f (ylvA y f sv L)).2.2.1.length) then ywrite ({ pf with gas := pf.gas + (ylvB f (ylvA y f sv L)).1 }) pf.outOff ((ylvB f (ylvA y f sv L)).2.2.1.take (min (ysmall pf.outLen).toNat (ylvB f (ylvA y f sv L)).2.2.1.length)) else { pf with gas := pf.gas + (ylvB f (ylvA y f sv L)).1 }) 0 (if (ylvB f (ylvA y f sv L)).2.1 = 0 then (if ycreates f.kind = true then bvY f.self else 1) else 0))) := (by unfold yleave; rw [hpf]; first | done | rfl); rw [e9]; rw [List.set_set] at hX34; exact ⟨rfl, hX34.ret ((((KeepO.mono hT18a.keep (fun b e => e ▸ hX.yc)).trans (KeepO.mono hS24.keep (fun b e => e ▸ hYF)) (fun _ _ e => e)).trans hK33 (fun _ _ e => e)).trans (KeepO.mono hS34.keep (fun b e => e ▸ hYF)) (fun _ _ e => e))⟩

end Go.Proofs.YgvacwGreat
