import Derived.Test.YgvacwGreatGv
namespace Go.Proofs.YgvacwGreat
set_option linter.unusedSimpArgs false
set_option linter.unusedVariables false
theorem FStep.ko [Om] {w w' : World} {F fo : Nat} {r r' : Array Value} {x' : YFr} {f' : PF} (h : FStep w w' F fo r f' r' x') (ho : Om.p F) : KeepO Om.p w w' := h.keep.om fun b _ e => e ▸ ho
theorem FStep.put [Om] {w w1 w2 : World} {F fo : Nat} {r r' : Array Value} {x x' : YFr} {f f' : PF} (h2 : w2 = setB w1 F (.cells r' 121 (0, 0))) (hM : FrM w F fo r x f) (hE : Ext w w1) (ht : FT r fo r' x') (hr : FrR w1 x' f') : FStep w w2 F fo r f' r' x' := by
  subst h2
  have hb := hM.blk.ext hE
  exact ⟨keepS hE _ _, Hb.setSame hb, ht, hr.setF hb hM.om⟩
theorem FStep.trans [Om] {w w1 w2 : World} {F fo : Nat} {r r1 r2 : Array Value} {x1 x2 : YFr} {f1 f2 : PF} (h : FStep w w1 F fo r f1 r1 x1) (h2 : FStep w1 w2 F fo r1 f2 r2 x2) : FStep w w2 F fo r f2 r2 x2 :=
  ⟨h.keep.trans h2.keep (fun _ _ e => e), h2.blk, h.ft.trans h2.ft, h2.rel⟩
theorem FStep.extR [Om] {w w1 w2 : World} {F fo : Nat} {r r1 : Array Value} {x1 : YFr} {f1 : PF} (h : FStep w w1 F fo r f1 r1 x1) (he : Ext w1 w2) : FStep w w2 F fo r f1 r1 x1 :=
  ⟨h.keep.extR he, h.blk.ext he, h.ft, h.rel.ext he⟩
theorem FStep.castY [Om] {w w1 : World} {F fo : Nat} {r r1 : Array Value} {x1 : YFr} {f1 f2 : PF} (h : FStep w w1 F fo r f1 r1 x1) (e : f1 = f2) : FStep w w1 F fo r f2 r1 x1 := e ▸ h
theorem one_YN (x : SV) : ∀ v ∈ encYN x, v.oneCell' = true := by intro v hv; simp [encYN] at hv; subst hv; rfl
theorem info92 : Hvac.prog.info? 92 = some Hvac.t92 := by kernel_rfl
theorem ap_YN : AppI encYN 1 92 119 24 := ⟨Hvac.underlying119, ⟨Hvac.t92, _, info92, rfl, rfl, rfl, rfl⟩, one_YN, by decide⟩
theorem R2.cons1 {α β : Type} {R : α → β → Prop} {L : List α} {l : List β} {a : α} {b : β} (h : R2 R L l) (hab : R a b) : R2 R (L ++ [a]) (l ++ [b]) := h.snoc hab
def yanswer (f : PF) (k n : Nat) : PF := { f with stack := f.stack.take (f.stack.length - k) ++ [n], pc := f.pc + 1 }
def ywait (f : PF) (k a n : Nat) : PF := { f with stack := f.stack.take (f.stack.length - k), outOff := if n = 0 then 0 else a, outLen := n }

set_option maxRecDepth 10000 in
set_option maxHeartbeats 4000000 in
theorem yWait_spec [Om] (w : World) (hO : OmB w) (F fo : Nat) (r : Array Value) (x : YFr) (f : PF) (hF : FrM w F fo r x f) (hP : PFB f) (k : Nat) (hk : k ≤ f.stack.length) (ap : Option Addr) (an acY a : Nat) (ha : NN w (ap, an, acY) a) (za : sz a ≤ 1000) (np : Option Addr) (nn nc n : Nat) (hn : NN w (np, nn, nc) n) (zn : sz n ≤ 1000): Ret Hvac.prog 201 #[.pointer (some ⟨F, fo, none⟩), .int .i64 k, .slice ap an acY, .slice np nn nc] w fun u w' => u = .tuple #[] ∧ ∃ r' x', FStep w w' F fo r (ywait f k a n) r' x' ∧ x'.mem = x.mem := by
  have hFR := hF.rel
  have hFb := hF.blk
  have hFC := hF.fc
  have hFo := hF.om
  have hFl := hFb.lt
  have hFsz := hFC.size
  have hk8 := hFC.stack
  have hslen := hFR.stack.len
  have hst := hFR.stack
  have hsl := hP.sl
  have hscap : x.stack.2.1 ≤ x.stack.2.2 := by obtain ⟨Ls, hsP, _⟩ := hFR.stack; exact hsP.cap
  have hnk : (x.stack.2.1 : Int) - (k : Int) = ((x.stack.2.1 - k : Nat) : Int) := by omega
  obtain ⟨Ls, hsP, hsR⟩ := hFR.stack
  refine Ret_of_W Hvac.func201 rfl rfl ?_
  refine W_seq ?_
  refine W_region rfl ?_
  refine WO_p (PS_move_ptr rfl) ?_
  refine WO_p (PS_nilCheck rfl) ?_
  refine WO_p (PS_fieldAddr 8 Hvac.runUnderlying121 rfl Hvac.sizeOf119 rfl rfl) ?_
  refine WO_load (.slice _ _ _) Hvac.isAgg119 rfl (Hb.h (by repeat (first | assumption | exact Hb.newY _ _ | refine Hb.alloc ?_ | refine Hb.drew ?_ | refine Hb.ext (by assumption) ?_ | exact Hb.setSameL (by first | omega | (simp only [size_alloc, size_setB, size_drew]; omega)) | exact Hb.setSame (by assumption) | refine Hb.set (by first | omega | (simp only [size_alloc, size_setB, size_drew]; omega)) ?_ ))) (Ce.h (by first | assumption | exact ⟨rfl⟩)) ?_
  refine WO_p (PS_lenS Hvac.runUnderlying119 rfl) ?_
  refine WO_p (PS_move_int rfl) ?_
  refine WO_p (PS_sub_i64n rfl rfl (by omega) (by omega)) ?_
  refine WO_p (PS_assign_int rfl) ?_
  refine WO_nil ?_
  refine thn_normal ?_
  refine W_seq ?_
  rw [hnk]
  refine W_region rfl ?_
  refine WO_p (PS_move_ptr rfl) ?_
  refine WO_p (PS_move_ptr rfl) ?_
  refine WO_p (PS_nilCheck rfl) ?_
  refine WO_p (PS_fieldAddr 8 Hvac.runUnderlying121 rfl Hvac.sizeOf119 rfl rfl) ?_
  refine WO_load (.slice _ _ _) Hvac.isAgg119 rfl (Hb.h (by repeat (first | assumption | exact Hb.newY _ _ | refine Hb.alloc ?_ | refine Hb.drew ?_ | refine Hb.ext (by assumption) ?_ | exact Hb.setSameL (by first | omega | (simp only [size_alloc, size_setB, size_drew]; omega)) | exact Hb.setSame (by assumption) | refine Hb.set (by first | omega | (simp only [size_alloc, size_setB, size_drew]; omega)) ?_ ))) (Ce.h (by first | assumption | exact ⟨rfl⟩)) ?_
  refine WO_p (PS_move_int rfl) ?_
  refine WO_p (PS_move_int rfl) ?_
  refine WO_p (PS_slS_hmA Hvac.runUnderlying119 Hvac.sizeOf92 rfl rfl rfl (by omega) (by omega) (by omega) (by omega)) ?_
  rw [Int.toNat_natCast]
  refine WO_p (PS_nilCheck rfl) ?_
  refine WO_p (PS_fieldAddr 8 Hvac.runUnderlying121 rfl Hvac.sizeOf119 rfl rfl) ?_
  refine WO_store1 Hvac.sizeOf119 rfl (v := (.slice _ _ _)) rfl (Hb.h (by repeat (first | assumption | exact Hb.newY _ _ | refine Hb.alloc ?_ | refine Hb.drew ?_ | refine Hb.ext (by assumption) ?_ | exact Hb.setSameL (by first | omega | (simp only [size_alloc, size_setB, size_drew]; omega)) | exact Hb.setSame (by assumption) | refine Hb.set (by first | omega | (simp only [size_alloc, size_setB, size_drew]; omega)) ?_ ))) rfl (by first | omega | assumption | rfl | decide | exact Nat.le_refl _ | (simp only [size_ic, Value.cells]; omega) | (simp [encWs]; done) | (simp; omega) | simp | exact encYA_sz (by assumption) | exact encYT_sz (by assumption) | exact encYM_sz (by assumption)) rfl ?_
  refine WO_nil ?_
  refine thn_normal ?_
  refine W_seq ?_
  refine W_gen fun w1 hw1 => ?_
  have hS1 := FStep.put (f' := { f with stack := f.stack.take (x.stack.2.1 - k) }) hw1 hF (by repeat (first | assumption | exact Ext.refl _ | refine Ext.alloc ?_ _ | refine Ext.drew ?_ | refine Ext.setB ?_ (by first | omega | (simp only [size_alloc, size_setB, size_drew]; omega)) _ | refine Ext.trans ?_ (by assumption))) (hFC.stack_ (x.stack.1, x.stack.2.1 - k, x.stack.2.1 - k)) ({ FrR.ext hF.rel (by repeat (first | assumption | exact Ext.refl _ | refine Ext.alloc ?_ _ | refine Ext.drew ?_ | refine Ext.setB ?_ (by first | omega | (simp only [size_alloc, size_setB, size_drew]; omega)) _ | refine Ext.trans ?_ (by assumption))) with stack := StR.cut (k := x.stack.2.1 - k) (FrR.ext hF.rel (by repeat (first | assumption | exact Ext.refl _ | refine Ext.alloc ?_ _ | refine Ext.drew ?_ | refine Ext.setB ?_ (by first | omega | (simp only [size_alloc, size_setB, size_drew]; omega)) _ | refine Ext.trans ?_ (by assumption)))).stack (Nat.sub_le _ _) })
  have hF1 := hS1.m hFo
  have hKO1 := hS1.ko hFo
  replace hO := hO.keep hKO1
  have hFb1 := hF1.blk
  have hFC1 := hF1.fc
  have hFR1 := hF1.rel
  have hFl1 := hFb1.lt
  have hFsz1 := hFC1.size
  replace ha := ha.keep hKO1
  replace hn := hn.keep hKO1
  clear hw1
  refine W_region rfl ?_
  refine WO_p (PS_move_ptr rfl) ?_
  refine WO_p (PS_move_slice rfl) ?_
  refine WO_call Hvac.call79 (by rfl) (Ret.mono (nNorm_spec (OmB.ext hO (by repeat (first | assumption | exact Ext.refl _ | refine Ext.alloc ?_ _ | refine Ext.drew ?_ | refine Ext.setB ?_ (by first | omega | (simp only [size_alloc, size_setB, size_drew]; omega)) _ | exact Ext.trans (by assumption) (by assumption) | refine Ext.trans ?_ (by assumption)))) (by first | exact NN.nil _ | assumption | exact NN.ext (by assumption) (by repeat (first | assumption | exact Ext.refl _ | refine Ext.alloc ?_ _ | refine Ext.drew ?_ | refine Ext.setB ?_ (by first | omega | (simp only [size_alloc, size_setB, size_drew]; omega)) _ | exact Ext.trans (by assumption) (by assumption) | refine Ext.trans ?_ (by assumption)))) (by first | assumption | omega | (rw [sz_zero]; omega))) ?_)
  rintro _ w79_0 ⟨hE79_0, s79_0, rfl, hN79_0⟩
  have hz79_0 := hE79_0.1
  try simp only [size_alloc, size_setB, size_drew] at hz79_0
  refine WO_p (PS_nilCheck rfl) ?_
  refine WO_p (PS_fieldAddr 6 Hvac.runUnderlying121 rfl Hvac.sizeOf92 rfl rfl) ?_
  refine WO_store1 Hvac.sizeOf92 rfl (v := (.slice _ _ _)) rfl (Hb.h (by repeat (first | assumption | exact Hb.newY _ _ | refine Hb.alloc ?_ | refine Hb.drew ?_ | refine Hb.ext (by assumption) ?_ | exact Hb.setSameL (by first | omega | (simp only [size_alloc, size_setB, size_drew]; omega)) | exact Hb.setSame (by assumption) | refine Hb.set (by first | omega | (simp only [size_alloc, size_setB, size_drew]; omega)) ?_ ))) rfl (by first | omega | assumption | rfl | decide | exact Nat.le_refl _ | (simp only [size_ic, Value.cells]; omega) | (simp [encWs]; done) | (simp; omega) | simp | exact encYA_sz (by assumption) | exact encYT_sz (by assumption) | exact encYM_sz (by assumption)) rfl ?_
  refine WO_nil ?_
  refine thn_normal ?_
  refine W_seq ?_
  refine W_gen fun w2 hw2 => ?_
  have hS2 := FStep.put (f' := { f with stack := f.stack.take (x.stack.2.1 - k), outOff := a }) hw2 hF1 (by repeat (first | assumption | exact Ext.refl _ | refine Ext.alloc ?_ _ | refine Ext.drew ?_ | refine Ext.setB ?_ (by first | omega | (simp only [size_alloc, size_setB, size_drew]; omega)) _ | refine Ext.trans ?_ (by assumption))) (hFC1.outOff_ s79_0) ({ FrR.ext hF1.rel (by repeat (first | assumption | exact Ext.refl _ | refine Ext.alloc ?_ _ | refine Ext.drew ?_ | refine Ext.setB ?_ (by first | omega | (simp only [size_alloc, size_setB, size_drew]; omega)) _ | refine Ext.trans ?_ (by assumption))) with outOff := (by first | exact NN.nil _ | assumption | exact NN.ext (by assumption) (by repeat (first | assumption | exact Ext.refl _ | refine Ext.alloc ?_ _ | refine Ext.drew ?_ | refine Ext.setB ?_ (by first | omega | (simp only [size_alloc, size_setB, size_drew]; omega)) _ | refine Ext.trans ?_ (by assumption)))) })
  have hF2 := hS2.m hFo
  have hKO2 := hS2.ko hFo
  replace hO := hO.keep hKO2
  have hFb2 := hF2.blk
  have hFC2 := hF2.fc
  have hFR2 := hF2.rel
  have hFl2 := hFb2.lt
  have hFsz2 := hFC2.size
  replace ha := ha.keep hKO2
  replace hn := hn.keep hKO2
  clear hw2
  refine W_region rfl ?_
  refine WO_p (PS_move_ptr rfl) ?_
  refine WO_p (PS_move_slice rfl) ?_
  refine WO_call Hvac.call79 (by rfl) (Ret.mono (nNorm_spec (OmB.ext hO (by repeat (first | assumption | exact Ext.refl _ | refine Ext.alloc ?_ _ | refine Ext.drew ?_ | refine Ext.setB ?_ (by first | omega | (simp only [size_alloc, size_setB, size_drew]; omega)) _ | exact Ext.trans (by assumption) (by assumption) | refine Ext.trans ?_ (by assumption)))) (by first | exact NN.nil _ | assumption | exact NN.ext (by assumption) (by repeat (first | assumption | exact Ext.refl _ | refine Ext.alloc ?_ _ | refine Ext.drew ?_ | refine Ext.setB ?_ (by first | omega | (simp only [size_alloc, size_setB, size_drew]; omega)) _ | exact Ext.trans (by assumption) (by assumption) | refine Ext.trans ?_ (by assumption)))) (by first | assumption | omega | (rw [sz_zero]; omega))) ?_)
  rintro _ w79_1 ⟨hE79_1, s79_1, rfl, hN79_1⟩
  have hz79_1 := hE79_1.1
  try simp only [size_alloc, size_setB, size_drew] at hz79_1
  refine WO_p (PS_nilCheck rfl) ?_
  refine WO_p (PS_fieldAddr 7 Hvac.runUnderlying121 rfl Hvac.sizeOf92 rfl rfl) ?_
  refine WO_store1 Hvac.sizeOf92 rfl (v := (.slice _ _ _)) rfl (Hb.h (by repeat (first | assumption | exact Hb.newY _ _ | refine Hb.alloc ?_ | refine Hb.drew ?_ | refine Hb.ext (by assumption) ?_ | exact Hb.setSameL (by first | omega | (simp only [size_alloc, size_setB, size_drew]; omega)) | exact Hb.setSame (by assumption) | refine Hb.set (by first | omega | (simp only [size_alloc, size_setB, size_drew]; omega)) ?_ ))) rfl (by first | omega | assumption | rfl | decide | exact Nat.le_refl _ | (simp only [size_ic, Value.cells]; omega) | (simp [encWs]; done) | (simp; omega) | simp | exact encYA_sz (by assumption) | exact encYT_sz (by assumption) | exact encYM_sz (by assumption)) rfl ?_
  refine WO_nil ?_
  refine thn_normal ?_
  refine W_seq ?_
  refine W_gen fun w3 hw3 => ?_
  have hS3 := FStep.put (f' := { f with stack := f.stack.take (x.stack.2.1 - k), outOff := a, outLen := n }) hw3 hF2 (by repeat (first | assumption | exact Ext.refl _ | refine Ext.alloc ?_ _ | refine Ext.drew ?_ | refine Ext.setB ?_ (by first | omega | (simp only [size_alloc, size_setB, size_drew]; omega)) _ | refine Ext.trans ?_ (by assumption))) (hFC2.outLen_ s79_1) ({ FrR.ext hF2.rel (by repeat (first | assumption | exact Ext.refl _ | refine Ext.alloc ?_ _ | refine Ext.drew ?_ | refine Ext.setB ?_ (by first | omega | (simp only [size_alloc, size_setB, size_drew]; omega)) _ | refine Ext.trans ?_ (by assumption))) with outLen := (by first | exact NN.nil _ | assumption | exact NN.ext (by assumption) (by repeat (first | assumption | exact Ext.refl _ | refine Ext.alloc ?_ _ | refine Ext.drew ?_ | refine Ext.setB ?_ (by first | omega | (simp only [size_alloc, size_setB, size_drew]; omega)) _ | refine Ext.trans ?_ (by assumption)))) })
  have hF3 := hS3.m hFo
  have hKO3 := hS3.ko hFo
  replace hO := hO.keep hKO3
  have hFb3 := hF3.blk
  have hFC3 := hF3.fc
  have hFR3 := hF3.rel
  have hFl3 := hFb3.lt
  have hFsz3 := hFC3.size
  replace ha := ha.keep hKO3
  replace hn := hn.keep hKO3
  clear hw3
  refine W_region rfl ?_
  refine WO_p (PS_move_slice rfl) ?_
  refine WO_call Hvac.call91 (by rfl) (Ret.mono (yIsZero_spec _ (OmB.ext hO (by repeat (first | assumption | exact Ext.refl _ | refine Ext.alloc ?_ _ | refine Ext.drew ?_ | refine Ext.setB ?_ (by first | omega | (simp only [size_alloc, size_setB, size_drew]; omega)) _ | exact Ext.trans (by assumption) (by assumption) | refine Ext.trans ?_ (by assumption)))) _ _ _ _ (by first | exact NN.nil _ | assumption | exact NN.ext (by assumption) (by repeat (first | assumption | exact Ext.refl _ | refine Ext.alloc ?_ _ | refine Ext.drew ?_ | refine Ext.setB ?_ (by first | omega | (simp only [size_alloc, size_setB, size_drew]; omega)) _ | exact Ext.trans (by assumption) (by assumption) | refine Ext.trans ?_ (by assumption)))) (by first | assumption | omega | (rw [sz_zero]; omega))) ?_)
  rintro _ w91_2 ⟨hE91_2, rfl⟩
  have hz91_2 := hE91_2.1
  try simp only [size_alloc, size_setB, size_drew] at hz91_2
  refine WO_nil ?_
  refine thn_normal ?_
  refine W_if rfl (fun hb4 => ?_) (fun hb4 => ?_)
  · have hb4p := hb4.h; try simp only [al_ete, al_dfn, Bool.not_eq_true', Bool.not_eq_false', al_ne, Bool.not_not, al_nn] at hb4p
    have hn0 : n = 0 := by simpa using hb4p
    refine W_region rfl ?_
    refine WO_p (PS_move_ptr rfl) ?_
    refine WO_p (PS_nilCheck rfl) ?_
    refine WO_p (PS_fieldAddr 6 Hvac.runUnderlying121 rfl Hvac.sizeOf92 rfl rfl) ?_
    refine WO_store1 Hvac.sizeOf92 rfl (v := (.slice _ _ _)) rfl (Hb.h (by repeat (first | assumption | exact Hb.newY _ _ | refine Hb.alloc ?_ | refine Hb.drew ?_ | refine Hb.ext (by assumption) ?_ | exact Hb.setSameL (by first | omega | (simp only [size_alloc, size_setB, size_drew]; omega)) | exact Hb.setSame (by assumption) | refine Hb.set (by first | omega | (simp only [size_alloc, size_setB, size_drew]; omega)) ?_ ))) rfl (by first | omega | assumption | rfl | decide | exact Nat.le_refl _ | (simp only [size_ic, Value.cells]; omega) | (simp [encWs]; done) | (simp; omega) | simp | exact encYA_sz (by assumption) | exact encYT_sz (by assumption) | exact encYM_sz (by assumption)) rfl ?_
    refine WO_nil ?_
    first | refine bodyQ_ret0 Hvac.results201 ?_ | refine bodyQ_end0 Hvac.results201 ?_
    have hlen9 : x.stack.2.1 - k = f.stack.length - k := by omega
    have hS9 := (hS1.trans hS2).trans hS3
    first
    | (have hn1 : n ≠ 0 := hn0
       refine ⟨rfl, _, _, (hS9.extR (by repeat (first | assumption | exact Ext.refl _ | refine Ext.alloc ?_ _ | refine Ext.drew ?_ | refine Ext.setB ?_ (by first | omega | (simp only [size_alloc, size_setB, size_drew]; omega)) _ | refine Ext.trans ?_ (by assumption)))).castY ?_, rfl⟩
       unfold ywait; rw [if_neg hn1, hlen9])
    | (refine ⟨rfl, _, _, FStep.castY (hS9.trans (FStep.put (f' := { f with stack := f.stack.take (x.stack.2.1 - k), outOff := 0, outLen := n }) rfl hF3 (by repeat (first | assumption | exact Ext.refl _ | refine Ext.alloc ?_ _ | refine Ext.drew ?_ | refine Ext.setB ?_ (by first | omega | (simp only [size_alloc, size_setB, size_drew]; omega)) _ | refine Ext.trans ?_ (by assumption))) (hFC3.outOff_ (none, 0, 0)) ({ FrR.ext hF3.rel (by repeat (first | assumption | exact Ext.refl _ | refine Ext.alloc ?_ _ | refine Ext.drew ?_ | refine Ext.setB ?_ (by first | omega | (simp only [size_alloc, size_setB, size_drew]; omega)) _ | refine Ext.trans ?_ (by assumption))) with outOff := NN.nil _ }))) ?_, rfl⟩
       unfold ywait; rw [if_pos hn0, hlen9])
  · have hb4p := hb4.h; try simp only [al_ete, al_dfn, Bool.not_eq_true', Bool.not_eq_false', al_ne, Bool.not_not, al_nn] at hb4p
    have hn0 : n ≠ 0 := by simpa using hb4p
    refine W_skip ?_
    first | refine bodyQ_ret0 Hvac.results201 ?_ | refine bodyQ_end0 Hvac.results201 ?_
    have hlen9 : x.stack.2.1 - k = f.stack.length - k := by omega
    have hS9 := (hS1.trans hS2).trans hS3
    first
    | (have hn1 : n ≠ 0 := hn0
       refine ⟨rfl, _, _, (hS9.extR (by repeat (first | assumption | exact Ext.refl _ | refine Ext.alloc ?_ _ | refine Ext.drew ?_ | refine Ext.setB ?_ (by first | omega | (simp only [size_alloc, size_setB, size_drew]; omega)) _ | refine Ext.trans ?_ (by assumption)))).castY ?_, rfl⟩
       unfold ywait; rw [if_neg hn1, hlen9])
    | (refine ⟨rfl, _, _, FStep.castY (hS9.trans (FStep.put (f' := { f with stack := f.stack.take (x.stack.2.1 - k), outOff := 0, outLen := n }) rfl hF3 (by repeat (first | assumption | exact Ext.refl _ | refine Ext.alloc ?_ _ | refine Ext.drew ?_ | refine Ext.setB ?_ (by first | omega | (simp only [size_alloc, size_setB, size_drew]; omega)) _ | refine Ext.trans ?_ (by assumption))) (hFC3.outOff_ (none, 0, 0)) ({ FrR.ext hF3.rel (by repeat (first | assumption | exact Ext.refl _ | refine Ext.alloc ?_ _ | refine Ext.drew ?_ | refine Ext.setB ?_ (by first | omega | (simp only [size_alloc, size_setB, size_drew]; omega)) _ | refine Ext.trans ?_ (by assumption))) with outOff := NN.nil _ }))) ?_, rfl⟩
       unfold ywait; rw [if_pos hn0, hlen9])

set_option maxRecDepth 10000 in
set_option maxHeartbeats 4000000 in
theorem yAnswer_spec [Om] (w : World) (hO : OmB w) (F fo : Nat) (r : Array Value) (x : YFr) (f : PF) (hF : FrM w F fo r x f) (hP : PFB f) (k : Nat) (hk : k ≤ f.stack.length) (np : Option Addr) (nn nc n : Nat) (hn : NN w (np, nn, nc) n) (zn : sz n ≤ 1000): Ret Hvac.prog 117 #[.pointer (some ⟨F, fo, none⟩), .int .i64 k, .slice np nn nc] w fun u w' => u = .tuple #[] ∧ ∃ r' x', FStep w w' F fo r (yanswer f k n) r' x' ∧ x'.mem = x.mem := by
  have hFR := hF.rel
  have hFb := hF.blk
  have hFC := hF.fc
  have hFo := hF.om
  have hFl := hFb.lt
  have hFsz := hFC.size
  have hk8 := hFC.stack
  have hslen := hFR.stack.len
  have hst := hFR.stack
  have hsl := hP.sl
  have hscap : x.stack.2.1 ≤ x.stack.2.2 := by obtain ⟨Ls, hsP, _⟩ := hFR.stack; exact hsP.cap
  have hnk : (x.stack.2.1 : Int) - (k : Int) = ((x.stack.2.1 - k : Nat) : Int) := by omega
  obtain ⟨Ls, hsP, hsR⟩ := hFR.stack
  have hpz := hP.pc
  refine Ret_of_W Hvac.func117 rfl rfl ?_
  refine W_seq ?_
  refine W_region rfl ?_
  refine WO_p (PS_move_ptr rfl) ?_
  refine WO_p (PS_nilCheck rfl) ?_
  refine WO_p (PS_fieldAddr 8 Hvac.runUnderlying121 rfl Hvac.sizeOf119 rfl rfl) ?_
  refine WO_load (.slice _ _ _) Hvac.isAgg119 rfl (Hb.h (by repeat (first | assumption | exact Hb.newY _ _ | refine Hb.alloc ?_ | refine Hb.drew ?_ | refine Hb.ext (by assumption) ?_ | exact Hb.setSameL (by first | omega | (simp only [size_alloc, size_setB, size_drew]; omega)) | exact Hb.setSame (by assumption) | refine Hb.set (by first | omega | (simp only [size_alloc, size_setB, size_drew]; omega)) ?_ ))) (Ce.h (by first | assumption | exact ⟨rfl⟩)) ?_
  refine WO_p (PS_lenS Hvac.runUnderlying119 rfl) ?_
  refine WO_p (PS_move_int rfl) ?_
  refine WO_p (PS_sub_i64n rfl rfl (by omega) (by omega)) ?_
  refine WO_p (PS_assign_int rfl) ?_
  refine WO_nil ?_
  refine thn_normal ?_
  refine W_seq ?_
  rw [hnk]
  refine W_region rfl ?_
  refine WO_p (PS_move_ptr rfl) ?_
  refine WO_p (PS_move_ptr rfl) ?_
  refine WO_p (PS_nilCheck rfl) ?_
  refine WO_p (PS_fieldAddr 8 Hvac.runUnderlying121 rfl Hvac.sizeOf119 rfl rfl) ?_
  refine WO_load (.slice _ _ _) Hvac.isAgg119 rfl (Hb.h (by repeat (first | assumption | exact Hb.newY _ _ | refine Hb.alloc ?_ | refine Hb.drew ?_ | refine Hb.ext (by assumption) ?_ | exact Hb.setSameL (by first | omega | (simp only [size_alloc, size_setB, size_drew]; omega)) | exact Hb.setSame (by assumption) | refine Hb.set (by first | omega | (simp only [size_alloc, size_setB, size_drew]; omega)) ?_ ))) (Ce.h (by first | assumption | exact ⟨rfl⟩)) ?_
  refine WO_p (PS_move_int rfl) ?_
  refine WO_p (PS_move_int rfl) ?_
  refine WO_p (PS_slS_hmA Hvac.runUnderlying119 Hvac.sizeOf92 rfl rfl rfl (by omega) (by omega) (by omega) (by omega)) ?_
  rw [Int.toNat_natCast]
  refine WO_p (PS_move_slice rfl) ?_
  refine WO_buildSliceV (.slice _ _ _) Hvac.runUnderlying119 Hvac.sizeOf92 Hvac.zeroValue92 rfl rfl (by decide) (by decide) ?_
  refine WO_appC (np, nn, nc) ap_YN (PL.ext (PL.cut (k := x.stack.2.1 - k) hsP (Nat.sub_le _ _)) (by repeat (first | assumption | exact Ext.refl _ | refine Ext.alloc ?_ _ | refine Ext.drew ?_ | refine Ext.setB ?_ (by first | omega | (simp only [size_alloc, size_setB, size_drew]; omega)) _ | exact Ext.trans (by assumption) (by assumption) | refine Ext.trans ?_ (by assumption)))) (by omega) rfl (Hb.mk (Hb.h (by repeat (first | assumption | exact Hb.newY _ _ | refine Hb.alloc ?_ | refine Hb.drew ?_ | refine Hb.ext (by assumption) ?_ | exact Hb.setSameL (by first | omega | (simp only [size_alloc, size_setB, size_drew]; omega)) | exact Hb.setSame (by assumption) | refine Hb.set (by first | omega | (simp only [size_alloc, size_setB, size_drew]; omega)) ?_ )))) rfl rfl ?_
  intro so1 wA hBL1 hEA hzA
  try simp only [size_alloc, size_setB, size_drew] at hzA
  refine WO_p (PS_nilCheck rfl) ?_
  refine WO_p (PS_fieldAddr 8 Hvac.runUnderlying121 rfl Hvac.sizeOf119 rfl rfl) ?_
  refine WO_store1 Hvac.sizeOf119 rfl (v := (.slice _ _ _)) rfl (Hb.h (by repeat (first | assumption | exact Hb.newY _ _ | refine Hb.alloc ?_ | refine Hb.drew ?_ | refine Hb.ext (by assumption) ?_ | exact Hb.setSameL (by first | omega | (simp only [size_alloc, size_setB, size_drew]; omega)) | exact Hb.setSame (by assumption) | refine Hb.set (by first | omega | (simp only [size_alloc, size_setB, size_drew]; omega)) ?_ ))) rfl (by first | omega | assumption | rfl | decide | exact Nat.le_refl _ | (simp only [size_ic, Value.cells]; omega) | (simp [encWs]; done) | (simp; omega) | simp | exact encYA_sz (by assumption) | exact encYT_sz (by assumption) | exact encYM_sz (by assumption)) rfl ?_
  refine WO_nil ?_
  refine thn_normal ?_
  refine W_gen fun w1 hw1 => ?_
  have hS1 := FStep.put (f' := { f with stack := f.stack.take (x.stack.2.1 - k) ++ [n] }) hw1 hF (by repeat (first | assumption | exact Ext.refl _ | refine Ext.alloc ?_ _ | refine Ext.drew ?_ | refine Ext.setB ?_ (by first | omega | (simp only [size_alloc, size_setB, size_drew]; omega)) _ | refine Ext.trans ?_ (by assumption))) (hFC.stack_ (slp so1, x.stack.2.1 - k + 1, slc so1)) ({ FrR.ext hF.rel (by repeat (first | assumption | exact Ext.refl _ | refine Ext.alloc ?_ _ | refine Ext.drew ?_ | refine Ext.setB ?_ (by first | omega | (simp only [size_alloc, size_setB, size_drew]; omega)) _ | refine Ext.trans ?_ (by assumption))) with stack := ⟨_, (by have h9 := hBL1.pl (OmB.ext hO (by repeat (first | assumption | exact Ext.refl _ | refine Ext.alloc ?_ _ | refine Ext.drew ?_ | refine Ext.setB ?_ (by first | omega | (simp only [size_alloc, size_setB, size_drew]; omega)) _ | refine Ext.trans ?_ (by assumption)))); rw [List.length_append, List.length_take, hsP.len, Nat.min_eq_left (by show x.stack.2.1 - k ≤ x.stack.2.1; omega)] at h9; exact h9), ((hsR.take (x.stack.2.1 - k)).mono fun _ _ h => NN.ext h (by repeat (first | assumption | exact Ext.refl _ | refine Ext.alloc ?_ _ | refine Ext.drew ?_ | refine Ext.setB ?_ (by first | omega | (simp only [size_alloc, size_setB, size_drew]; omega)) _ | refine Ext.trans ?_ (by assumption)))).snoc (by first | exact NN.nil _ | assumption | exact NN.ext (by assumption) (by repeat (first | assumption | exact Ext.refl _ | refine Ext.alloc ?_ _ | refine Ext.drew ?_ | refine Ext.setB ?_ (by first | omega | (simp only [size_alloc, size_setB, size_drew]; omega)) _ | refine Ext.trans ?_ (by assumption))))⟩ })
  have hF1 := hS1.m hFo
  have hKO1 := hS1.ko hFo
  replace hO := hO.keep hKO1
  have hFb1 := hF1.blk
  have hFC1 := hF1.fc
  have hFR1 := hF1.rel
  have hFl1 := hFb1.lt
  have hFsz1 := hFC1.size
  replace hn := hn.keep hKO1
  clear hw1
  have hk3 : Ce _ (fo + 3) (.slice x.pc.1 x.pc.2.1 x.pc.2.2) := hFC1.pc
  have hN3 : NN w1 x.pc f.pc := hFR1.pc
  refine W_drawE [false, false, false, false, false, true, false, false, false, false] hmix (by kernel_rfl) rfl ?_
  refine WH_p (PS_move_ptr rfl) rfl ?_
  refine WH_p (PS_move_ptr rfl) rfl ?_
  refine WH_p (PS_nilCheck rfl) rfl ?_
  refine WH_p (PS_fieldAddr 3 Hvac.runUnderlying121 rfl Hvac.sizeOf92 rfl rfl) rfl ?_
  refine WH_load (.slice _ _ _) Hvac.isAgg92 rfl (Hb.h (by repeat (first | assumption | exact Hb.newY _ _ | refine Hb.alloc ?_ | refine Hb.drew ?_ | refine Hb.ext (by assumption) ?_ | exact Hb.setSameL (by first | omega | (simp only [size_alloc, size_setB, size_drew]; omega)) | exact Hb.setSame (by assumption) | refine Hb.set (by first | omega | (simp only [size_alloc, size_setB, size_drew]; omega)) ?_ ))) (Ce.h (by first | assumption | exact ⟨rfl⟩)) ?_
  refine WH_call Hvac.call19 (by rfl) (Ret.mono (nNum_spec (OmB.ext hO (by repeat (first | assumption | exact Ext.refl _ | refine Ext.alloc ?_ _ | refine Ext.drew ?_ | refine Ext.setB ?_ (by first | omega | (simp only [size_alloc, size_setB, size_drew]; omega)) _ | exact Ext.trans (by assumption) (by assumption) | refine Ext.trans ?_ (by assumption)))) ⟨by omega, by omega⟩) ?_)
  rintro _ w19_0 ⟨hE19_0, s19_0, rfl, hN19_0, hs19_0⟩
  refine ⟨fun _ => (by repeat (first | assumption | exact Ext.refl _ | refine Ext.alloc ?_ _ | refine Ext.drew ?_ | refine Ext.setB ?_ (by first | omega | (simp only [size_alloc, size_setB, size_drew]; omega)) _ | exact Ext.trans (by assumption) (by assumption) | refine Ext.trans ?_ (by assumption))), ?_⟩
  have hz19_0 := hE19_0.1
  try simp only [size_alloc, size_setB, size_drew] at hz19_0
  try simp only [Int.toNat_natCast, toNat_lit] at hN19_0 hs19_0
  refine WH_call Hvac.call24 (by rfl) (Ret.mono (nAdd_spec (OmB.ext hO (by repeat (first | assumption | exact Ext.refl _ | refine Ext.alloc ?_ _ | refine Ext.drew ?_ | refine Ext.setB ?_ (by first | omega | (simp only [size_alloc, size_setB, size_drew]; omega)) _ | exact Ext.trans (by assumption) (by assumption) | refine Ext.trans ?_ (by assumption)))) (by first | exact NN.nil _ | assumption | exact NN.ext (by assumption) (by repeat (first | assumption | exact Ext.refl _ | refine Ext.alloc ?_ _ | refine Ext.drew ?_ | refine Ext.setB ?_ (by first | omega | (simp only [size_alloc, size_setB, size_drew]; omega)) _ | exact Ext.trans (by assumption) (by assumption) | refine Ext.trans ?_ (by assumption)))) (by first | exact NN.nil _ | assumption | exact NN.ext (by assumption) (by repeat (first | assumption | exact Ext.refl _ | refine Ext.alloc ?_ _ | refine Ext.drew ?_ | refine Ext.setB ?_ (by first | omega | (simp only [size_alloc, size_setB, size_drew]; omega)) _ | exact Ext.trans (by assumption) (by assumption) | refine Ext.trans ?_ (by assumption)))) (by first | assumption | omega | (rw [sz_zero]; omega)) (by first | assumption | omega | (rw [sz_zero]; omega))) ?_)
  rintro _ w24_1 ⟨hE24_1, s24_1, rfl, hN24_1⟩
  refine ⟨(fun h => by cases h), ?_⟩
  have hz24_1 := hE24_1.1
  try simp only [size_alloc, size_setB, size_drew] at hz24_1
  have hs24_1 := hN24_1.z_add
  refine WH_p (PS_nilCheck rfl) rfl ?_
  refine WH_p (PS_fieldAddr 3 Hvac.runUnderlying121 rfl Hvac.sizeOf92 rfl rfl) rfl ?_
  refine WH_store1 Hvac.sizeOf92 rfl (v := (.slice _ _ _)) rfl (Hb.h (by repeat (first | assumption | exact Hb.newY _ _ | refine Hb.alloc ?_ | refine Hb.drew ?_ | refine Hb.ext (by assumption) ?_ | exact Hb.setSameL (by first | omega | (simp only [size_alloc, size_setB, size_drew]; omega)) | exact Hb.setSame (by assumption) | refine Hb.set (by first | omega | (simp only [size_alloc, size_setB, size_drew]; omega)) ?_ ))) rfl (by first | omega | assumption | rfl | decide | exact Nat.le_refl _ | (simp only [size_ic, Value.cells]; omega) | (simp [encWs]; done) | (simp; omega) | simp | exact encYA_sz (by assumption) | exact encYT_sz (by assumption) | exact encYM_sz (by assumption)) rfl (fun h => by cases h) ?_
  refine WH_nil ?_
  first | refine bodyQ_ret0 Hvac.results117 ?_ | refine bodyQ_end0 Hvac.results117 ?_
  refine ⟨rfl, _, _, FStep.castY (hS1.trans (FStep.put (f' := { f with stack := f.stack.take (x.stack.2.1 - k) ++ [n], pc := f.pc + 1 }) rfl hF1 (by repeat (first | assumption | exact Ext.refl _ | refine Ext.alloc ?_ _ | refine Ext.drew ?_ | refine Ext.setB ?_ (by first | omega | (simp only [size_alloc, size_setB, size_drew]; omega)) _ | refine Ext.trans ?_ (by assumption))) (hFC1.pc_ _) ({ FrR.ext hF1.rel (by repeat (first | assumption | exact Ext.refl _ | refine Ext.alloc ?_ _ | refine Ext.drew ?_ | refine Ext.setB ?_ (by first | omega | (simp only [size_alloc, size_setB, size_drew]; omega)) _ | refine Ext.trans ?_ (by assumption))) with pc := (by first | exact NN.nil _ | assumption | exact NN.ext (by assumption) (by repeat (first | assumption | exact Ext.refl _ | refine Ext.alloc ?_ _ | refine Ext.drew ?_ | refine Ext.setB ?_ (by first | omega | (simp only [size_alloc, size_setB, size_drew]; omega)) _ | refine Ext.trans ?_ (by assumption)))) }))) ?_, rfl⟩
  unfold yanswer
  rw [show x.stack.2.1 - k = f.stack.length - k by omega]

end Go.Proofs.YgvacwGreat
