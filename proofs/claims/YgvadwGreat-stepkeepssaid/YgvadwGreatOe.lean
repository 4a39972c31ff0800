import Derived.Test.YgvadwGreatOd
namespace Go.Proofs.YgvadwGreat
set_option linter.unusedSimpArgs false
set_option linter.unusedVariables false
theorem MS.no59 {w : World} {C : Nat} {c : Array Value} {v : V} {B : VB} {m : Mc} (h : MS w C c v B m) {b : Nat} {x : Array Value} {fz : Nat × Nat} (hb : Hb w b (.cells x 59 fz)) : ¬ MOwn C B m b := by
  intro ho
  rcases ho with ho | ho
  · exact h.vs.not_own hb (by decide) ho
  · rcases h.buf with h1 | ⟨b', L, h1, h2, _⟩
    · unfold bb at ho; rw [h1] at ho; cases ho
    · unfold bb at ho; rw [h1] at ho
      injection ho with ho
      subst ho
      have e := h2.h
      rw [hb.h] at e
      injection e with e
      injection e with _ e
      exact absurd e (by decide)
/-- what the loads of a write to the storage need -/
structure StS (C t : Nat) (f : Fm) (b3 b4 b7 : Nat) (K y n : List Int) (w : World) : Prop where
  ch : ∃ c, Hb w C (.cells c 86 (0, 0)) ∧ c.size = 27024 ∧ Ce c 0 (.pointer (some ⟨C, 2435, none⟩)) ∧ Xt c (1803 + t * 65 + 9) (1803 + t * 65 + 9 + 20) (ic .u8 f.self)
  h3 : Hb w b3 (.cells (ic .u64 K) 59 (0, 0))
  h4 : Hb w b4 (.cells (ic .u64 y) 59 (0, 0))
  h7 : Hb w b7 (.cells (ic .u64 n) 59 (0, 0))
theorem StS.of {w : World} {C : Nat} {c : Array Value} {v : V} {B : VB} {m : Mc} {t : Nat} {f : Fm} {b3 b4 b7 : Nat} {K y n : List Int} (hM : MS w C c v B m) (hf : m.frames[t]? = some f)
    (h3 : Hb w b3 (.cells (ic .u64 K) 59 (0, 0))) (h4 : Hb w b4 (.cells (ic .u64 y) 59 (0, 0))) (h7 : Hb w b7 (.cells (ic .u64 n) 59 (0, 0))) : StS C t f b3 b4 b7 K y n w :=
  ⟨⟨c, hM.vs.blk, hM.sz, hM.rep.s, (hM.openF hf).2.2.self⟩, h3, h4, h7⟩
theorem W_drawT2 {P : Program} {n id : Nat} {Q : Post} {ops : List Oper} (tags : List Bool) {ρ : Nat → Value} {w : World} (S : World → Prop) (hm : P.follows .mixedOrders = true) (hchk : chk (tz ops tags) = true) (hd : dstsOK n ops = true)
    (hS : S w.drew) (h : S w.drew → WH P ops.toArray S Q (tz ops tags) ρ w.drew) : W P n (.region id ops.toArray true) Q ρ w := W_drawT tags S hm hchk hd hS (h hS)
theorem word_at {w : World} {b : Nat} {W : List Int} (hb : Hb w b (.cells (ic .u64 W) 59 (0, 0))) (hW : W.length = 4) : ∃ c T fz, hp w b = some (.cells c T fz) ∧ 0 + 4 ≤ c.size ∧ c.extract 0 (0 + 4) = ic .u64 W :=
  ⟨_, _, _, hb.h, by rw [size_ic]; omega, (Xt.whole (k := 4) rfl (by rw [size_ic]; omega)).h⟩
theorem sstoreW_bds (o v n : List Int) (cold : Bool) : (0 ≤ (sstoreW o v n cold).2.1 ∧ (sstoreW o v n cold).2.1 ≤ 100000) ∧ (0 ≤ (sstoreW o v n cold).2.2 ∧ (sstoreW o v n cold).2.2 ≤ 100000) ∧ (0 ≤ (sstoreW o v n cold).1 ∧ (sstoreW o v n cold).1 ≤ 100000) := by
  unfold sstoreW
  repeat' split
  all_goals (dsimp only; omega)

set_option maxRecDepth 10000 in
set_option maxHeartbeats 4000000 in
theorem opStorage_spec (scan : List Int → List Int) (C : Nat) (c : Array Value) (v : V) (B : VB) (m : Mc) (t : Nat) (f : Fm) (o c' S : Int) (w : World) (hM : MS w C c v B m) (hop : Mc.opc f = o) (hAd : Adm scan v m t f o (infoW o).2.2.1 c' S) (hk : (infoW o).1 ≤ f.sp ∧ f.sp - (infoW o).1 + (infoW o).2.1 ≤ 64) (hc : 0 < c') (ho : o = 84 ∨ o = 85) : Ret Hvad.prog 106 #[.pointer (some ⟨C, 0, none⟩)] w fun _ w' => ∃ v' m', MRet w C B m w' v' m' ∧ OpP scan m t c' S v' m' := by
  have hI := hAd.ri
  have hf := hAd.fr
  have hR := hI.run hf
  have hA := hR.fa
  have hblk := hM.vs.blk
  have hCl := hblk.lt
  have hcs := hM.sz
  have hc_s := hM.rep.s
  obtain ⟨ht7, hfty, hF⟩ := hM.openF hf
  have hFk := hI.fr t f (Nat.le_refl _) hf
  have hvi := hI.ti.vi
  have hcbl := (hM.code f (List.mem_of_getElem? hf)).1.len
  have hcb5 := hFk.cl
  have hcl : f.code.2.1 ≤ 100000 := by omega
  have hpct := hfty.pc
  have hspt := hfty.sp
  have hwdA := fun i => argW_wd hM.ty f i
  have hpcl : f.pc < (f.cb.length : Int) := opc_pc (by rw [hop]; omega)
  have hl0 := (hwdA 0).1
  have hl1 := (hwdA 1).1
  have hfl : isFlat o = false := by rcases ho with h | h <;> (rw [h]; rfl)
  have hst0 : (infoW o).2.2.1 = 0 := by rcases ho with h | h <;> (rw [h]; rfl)
  obtain ⟨xd, hdr, hxd⟩ := hAd.dy hfl
  have hroom := hI.room hM.ty
  have hf_self := hF.self
  have hby := hfty.self
  have hbyl := hby.1
  have hvw := sval_wd hM.vs.ty f.self (m.argW f 0)
  have how := sorig_wd hM.vs.ty f.self (m.argW f 0)
  have hvwl := hvw.1
  have howl := how.1
  obtain ⟨y1, y2, y3, y4, hP⟩ := stor_plan hI.rw_ hvi hroom (A := f.self) (K := m.argW f 0) (n := m.argW f 1) hFk.en hM.vs.ty (hwdA 1) (m.txgas - gasTo m.frames (t + 1)) (m.txgas - gasTo m.frames (t + 1))
  have hsld := hdr.sload
  have hsst := hdr.sst
  have hrwL : o = 84 → RW y1 m S (m.txgas - gasTo m.frames (t + 1)) := fun h => hP.rl (by have := hsld h; omega)
  have hrwS : o = 85 → RW y4 m S (m.txgas - gasTo m.frames (t + 1)) := fun h => hP.rs (by have := hsst h; omega)
  have hbd := sstoreW_bds (v.sorig f.self (m.argW f 0)) (v.sval f.self (m.argW f 0)) (m.argW f 1) (!v.isWarmS f.self (m.argW f 0))
  generalize hrr : sstoreW (v.sorig f.self (m.argW f 0)) (v.sval f.self (m.argW f 0)) (m.argW f 1) (!v.isWarmS f.self (m.argW f 0)) = rr at *
  obtain ⟨rc, ru, rd⟩ := rr
  
  refine Ret_of_W Hvad.func106 rfl rfl ?_
  refine W_seq ?_
  refine W_region rfl ?_
  refine WO_p (PS_move_ptr rfl) ?_
  refine WO_call Hvad.call91 (by rfl) (Ret.mono (running_spec C c v B m t f _ (MS.ext hM (by repeat (first | assumption | exact Ext.refl _ | refine Ext.alloc ?_ _ | refine Ext.drew ?_ | refine Ext.setB ?_ (by first | omega | (simp only [size_alloc, size_setB, size_drew]; omega)) _ | exact Ext.trans (by assumption) (by assumption) | refine Ext.trans ?_ (by assumption)))) hR) ?_)
  rintro _ w91_0 ⟨hE91_0, rfl⟩
  have hz91_0 := hE91_0.1
  try simp only [size_alloc, size_setB, size_drew] at hz91_0
  refine WO_p (PS_assign_ptr rfl) ?_
  refine WO_nil ?_
  refine thn_normal ?_
  refine W_seq ?_
  refine W_seq ?_
  refine W_region rfl ?_
  refine WO_p (PS_move_ptr rfl) ?_
  refine WO_p (PS_eqlnil Hvad.underlying182 rfl) ?_
  refine WO_nil ?_
  refine thn_normal ?_
  refine W_if rfl (fun hb3 => ?_) (fun hb3 => ?_)
  · have hb3p := hb3.h; try simp only [al_ete, al_dfn, Bool.not_eq_true', Bool.not_eq_false', al_ne, Bool.not_not, al_nn] at hb3p
    simp at hb3p --END
  · have hb3p := hb3.h; try simp only [al_ete, al_dfn, Bool.not_eq_true', Bool.not_eq_false', al_ne, Bool.not_not, al_nn] at hb3p
    refine W_skip ?_
    refine thn_normal ?_
    refine W_seq ?_
    refine W_region rfl ?_
    refine WO_p (PS_move_ptr rfl) ?_
    refine WO_p (PS_move_ptr rfl) ?_
    refine WO_call Hvad.call160 (by rfl) (Ret.mono (arg_spec C c v B m t f _ _ (MS.ext hM (by repeat (first | assumption | exact Ext.refl _ | refine Ext.alloc ?_ _ | refine Ext.drew ?_ | refine Ext.setB ?_ (by first | omega | (simp only [size_alloc, size_setB, size_drew]; omega)) _ | exact Ext.trans (by assumption) (by assumption) | refine Ext.trans ?_ (by assumption)))) hA (by omega)) ?_)
    rintro _ w160_3 ⟨hE160_3, rfl⟩
    have hz160_3 := hE160_3.1
    try simp only [size_alloc, size_setB, size_drew] at hz160_3
    refine WO_allocG Hvad.zeroValue59 ?_
    intro b3 v3 hg3 hE3 hH3 hl3
    try simp only [size_alloc, size_setB, size_drew] at hg3
    have hzz3 := hE3.1
    try simp only [size_alloc, size_setB, size_drew] at hzz3
    replace hH3 : Hb v3 b3 (.cells (ic .u64 [0, 0, 0, 0]) 59 (0, 0)) := hH3
    first | refine WO_storeW Hvad.sizeOf59 rfl (v := .agg _) rfl (Hb.h (by repeat (first | assumption | exact Hb.newY _ _ | refine Hb.alloc ?_ | refine Hb.drew ?_ | refine Hb.ext (by assumption) ?_ | exact Hb.setSameL (by first | omega | (simp only [size_alloc, size_setB, size_drew]; omega)) | exact Hb.setSame (by assumption) | refine Hb.set (by first | omega | (simp only [size_alloc, size_setB, size_drew]; omega)) ?_ ))) rfl (by first | omega | assumption | rfl | decide | exact Nat.le_refl _ | (simp only [size_ic, Value.cells]; omega) | simp) (by first | omega | assumption | rfl | decide | exact Nat.le_refl _ | (simp only [size_ic, Value.cells]; omega) | simp) (by first | exact oneCell_ic | assumption) ?_ | refine WO_store Hvad.sizeOf59 rfl (v := .agg _) rfl (Hb.h (by repeat (first | assumption | exact Hb.newY _ _ | refine Hb.alloc ?_ | refine Hb.drew ?_ | refine Hb.ext (by assumption) ?_ | exact Hb.setSameL (by first | omega | (simp only [size_alloc, size_setB, size_drew]; omega)) | exact Hb.setSame (by assumption) | refine Hb.set (by first | omega | (simp only [size_alloc, size_setB, size_drew]; omega)) ?_ ))) (by first | omega | assumption | rfl | decide | exact Nat.le_refl _ | (simp only [size_ic, Value.cells]; omega) | simp) (by first | omega | assumption | rfl | decide | exact Nat.le_refl _ | (simp only [size_ic, Value.cells]; omega) | simp) (by first | exact oneCell_ic | assumption) ?_
    refine WO_nil ?_
    refine thn_normal ?_
    refine W_seqJ (fun ρ w' => ∃ b3 b4 b5, Fr [(0, .pointer (some ⟨C, 0, none⟩)), (2, .pointer (some ⟨C, 1803 + t * 65, none⟩)), (3, .pointer (some ⟨b3, 0, none⟩)), (4, .pointer (some ⟨b4, 0, none⟩)), (5, .pointer (some ⟨b5, 0, none⟩)), (6, .bool (v.isWarmS f.self (m.argW f 0)))] ρ ∧ Ext w w' ∧ (w.heap.size ≤ b3 ∧ b3 < b4 ∧ b4 < w'.heap.size ∧ w.heap.size ≤ b5 ∧ b5 < w'.heap.size ∧ b3 < b5 ∧ b4 ≠ b5) ∧ Hb w' b3 (.cells (Value.agg (ic .u64 (m.argW f 0))).cells 59 (0, 0)) ∧ Hb w' b4 (.cells (Value.agg (ic .u64 (v.sval f.self (m.argW f 0)))).cells 59 (0, 0)) ∧ Hb w' b5 (.cells (Value.agg (ic .u64 (v.sorig f.self (m.argW f 0)))).cells 59 (0, 0))) ?_ ?_
    · skip
      refine W_drawF [false, false, false, false, false, false, false, false, false, false, false, false, false, false, true, true, false, false, false] [14, 15] [0, 1, 2, 3, 4, 5, 6, 7, 8, 9, 10, 11, 12, 13, 16, 17, 18] hmix (by kernel_rfl) rfl rfl rfl ?_
      refine F_q (i := 0) rfl (by kernel_rfl) ?_
      refine WH_p (PS_move_ptr rfl) rfl ?_
      refine WH_nil ?_
      refine F_q (i := 1) rfl (by kernel_rfl) ?_
      refine WH_p (PS_nilCheck rfl) rfl ?_
      refine WH_nil ?_
      refine F_q (i := 2) rfl (by kernel_rfl) ?_
      refine WH_p (PS_fieldAddr 0 Hvad.runUnderlying69 rfl Hvad.sizeOf53 rfl rfl) rfl ?_
      refine WH_nil ?_
      refine F_q (i := 3) rfl (by kernel_rfl) ?_
      refine WH_load (.pointer _) Hvad.isAgg53 rfl (Hb.h (by repeat (first | assumption | exact Hb.newY _ _ | refine Hb.alloc ?_ | refine Hb.drew ?_ | refine Hb.ext (by assumption) ?_ | exact Hb.setSameL (by first | omega | (simp only [size_alloc, size_setB, size_drew]; omega)) | exact Hb.setSame (by assumption) | refine Hb.set (by first | omega | (simp only [size_alloc, size_setB, size_drew]; omega)) ?_ ))) (Ce.h (by first | assumption | exact ⟨rfl⟩)) ?_
      refine WH_nil ?_
      refine F_q (i := 4) rfl (by kernel_rfl) ?_
      refine WH_p (PS_move_ptr rfl) rfl ?_
      refine WH_nil ?_
      refine F_q (i := 5) rfl (by kernel_rfl) ?_
      refine WH_p (PS_nilCheck rfl) rfl ?_
      refine WH_nil ?_
      refine F_q (i := 6) rfl (by kernel_rfl) ?_
      refine WH_p (PS_fieldAddr 9 Hvad.runUnderlying65 rfl Hvad.sizeOf25 rfl rfl) rfl ?_
      refine WH_nil ?_
      refine F_q (i := 7) rfl (by kernel_rfl) ?_
      refine WH_loadA _ Hvad.isAgg25 Hvad.sizeOf25 rfl (Hb.h (by repeat (first | assumption | exact Hb.newY _ _ | refine Hb.alloc ?_ | refine Hb.drew ?_ | refine Hb.ext (by assumption) ?_ | exact Hb.setSameL (by first | omega | (simp only [size_alloc, size_setB, size_drew]; omega)) | exact Hb.setSame (by assumption) | refine Hb.set (by first | omega | (simp only [size_alloc, size_setB, size_drew]; omega)) ?_ ))) (by first | omega | assumption | rfl | decide | exact Nat.le_refl _ | (simp only [size_ic, Value.cells]; omega) | simp) (Xt.h (by first | assumption | exact Xt.whole rfl rfl | exact Xt.whole rfl (by simp only [size_ic, Value.cells]; omega) | exact ⟨rfl⟩)) ?_
      refine WH_nil ?_
      refine F_q (i := 8) rfl (by kernel_rfl) ?_
      refine WH_loadA _ Hvad.isAgg59 Hvad.sizeOf59 rfl (Hb.h (by repeat (first | assumption | exact Hb.newY _ _ | refine Hb.alloc ?_ | refine Hb.drew ?_ | refine Hb.ext (by assumption) ?_ | exact Hb.setSameL (by first | omega | (simp only [size_alloc, size_setB, size_drew]; omega)) | exact Hb.setSame (by assumption) | refine Hb.set (by first | omega | (simp only [size_alloc, size_setB, size_drew]; omega)) ?_ ))) (by first | omega | assumption | rfl | decide | exact Nat.le_refl _ | (simp only [size_ic, Value.cells]; omega) | simp) (Xt.h (by first | assumption | exact Xt.whole rfl rfl | exact Xt.whole rfl (by simp only [size_ic, Value.cells]; omega) | exact ⟨rfl⟩)) ?_
      refine WH_nil ?_
      refine F_fork2 (i := 9) rfl rfl rfl rfl ?_ ?_ ?_
      · refine WH_call Hvad.call201 (by rfl) (Ret.mono (peek_spec C c v B (bb m) _ _ _ (VS.ext hM.vs (by repeat (first | assumption | exact Ext.refl _ | refine Ext.alloc ?_ _ | refine Ext.drew ?_ | refine Ext.setB ?_ (by first | omega | (simp only [size_alloc, size_setB, size_drew]; omega)) _ | exact Ext.trans (by assumption) (by assumption) | refine Ext.trans ?_ (by assumption)))) (by first | assumption | exact addrW_by _) (by first | assumption | exact argW_wd hM.ty _ _ | exact Wd0)) ?_)
        rintro _ w201_4 ⟨rfl, hE201_4⟩
        refine ⟨(fun h => by cases h), ?_⟩
        have hz201_4 := hE201_4.1
        try simp only [size_alloc, size_setB, size_drew] at hz201_4
        refine WH_nil ?_
        refine F_q (i := 10) rfl (by kernel_rfl) ?_
        refine WH_p (PS_move_tuple rfl) rfl ?_
        refine WH_nil ?_
        refine F_q (i := 11) rfl (by kernel_rfl) ?_
        refine WH_p (PS_extract_agg rfl rfl) rfl ?_
        refine WH_nil ?_
        refine F_q (i := 12) rfl (by kernel_rfl) ?_
        refine WH_p (PS_extract_agg rfl rfl) rfl ?_
        refine WH_nil ?_
        refine F_q (i := 13) rfl (by kernel_rfl) ?_
        refine WH_p (PS_extract_bool rfl rfl) rfl ?_
        refine WH_nil ?_
        refine F_fork2B (i := 16) (by kernel_rfl) rfl rfl rfl ?_ ?_
        · refine WH_allocG Hvad.zeroValue59 ?_
          intro b4 v4 hg4 hE4 hH4 hl4
          try simp only [size_alloc, size_setB, size_drew] at hg4
          have hzz4 := hE4.1
          try simp only [size_alloc, size_setB, size_drew] at hzz4
          replace hH4 : Hb v4 b4 (.cells (ic .u64 [0, 0, 0, 0]) 59 (0, 0)) := hH4
          refine ⟨fun _ => (by repeat (first | assumption | exact Ext.refl _ | refine Ext.alloc ?_ _ | refine Ext.drew ?_ | refine Ext.setB ?_ (by first | omega | (simp only [size_alloc, size_setB, size_drew]; omega)) _ | exact Ext.trans (by assumption) (by assumption) | refine Ext.trans ?_ (by assumption))), ?_⟩
          refine WH_nil ?_
          refine F_fork1B (i := 16) (by kernel_rfl) rfl ?_
          · refine WH_allocG Hvad.zeroValue59 ?_
            intro b5 v5 hg5 hE5 hH5 hl5
            try simp only [size_alloc, size_setB, size_drew] at hg5
            have hzz5 := hE5.1
            try simp only [size_alloc, size_setB, size_drew] at hzz5
            replace hH5 : Hb v5 b5 (.cells (ic .u64 [0, 0, 0, 0]) 59 (0, 0)) := hH5
            refine ⟨fun _ => (by repeat (first | assumption | exact Ext.refl _ | refine Ext.alloc ?_ _ | refine Ext.drew ?_ | refine Ext.setB ?_ (by first | omega | (simp only [size_alloc, size_setB, size_drew]; omega)) _ | exact Ext.trans (by assumption) (by assumption) | refine Ext.trans ?_ (by assumption))), ?_⟩
            refine WH_nil ?_
            refine F_q (i := 16) rfl (by kernel_rfl) ?_
            first | refine WH_storeW Hvad.sizeOf59 rfl (v := .agg _) rfl (Hb.h (by repeat (first | assumption | exact Hb.newY _ _ | refine Hb.alloc ?_ | refine Hb.drew ?_ | refine Hb.ext (by assumption) ?_ | exact Hb.setSameL (by first | omega | (simp only [size_alloc, size_setB, size_drew]; omega)) | exact Hb.setSame (by assumption) | refine Hb.set (by first | omega | (simp only [size_alloc, size_setB, size_drew]; omega)) ?_ ))) rfl (by first | omega | assumption | rfl | decide | exact Nat.le_refl _ | (simp only [size_ic, Value.cells]; omega) | simp) (by first | omega | assumption | rfl | decide | exact Nat.le_refl _ | (simp only [size_ic, Value.cells]; omega) | simp) (by first | exact oneCell_ic | assumption) (fun h => by cases h) ?_ | refine WH_store Hvad.sizeOf59 rfl (v := .agg _) rfl (Hb.h (by repeat (first | assumption | exact Hb.newY _ _ | refine Hb.alloc ?_ | refine Hb.drew ?_ | refine Hb.ext (by assumption) ?_ | exact Hb.setSameL (by first | omega | (simp only [size_alloc, size_setB, size_drew]; omega)) | exact Hb.setSame (by assumption) | refine Hb.set (by first | omega | (simp only [size_alloc, size_setB, size_drew]; omega)) ?_ ))) (by first | omega | assumption | rfl | decide | exact Nat.le_refl _ | (simp only [size_ic, Value.cells]; omega) | simp) (by first | omega | assumption | rfl | decide | exact Nat.le_refl _ | (simp only [size_ic, Value.cells]; omega) | simp) (by first | exact oneCell_ic | assumption) (fun h => by cases h) ?_
            refine WH_nil ?_
            refine F_q (i := 17) rfl (by kernel_rfl) ?_
            first | refine WH_storeW Hvad.sizeOf59 rfl (v := .agg _) rfl (Hb.h (by repeat (first | assumption | exact Hb.newY _ _ | refine Hb.alloc ?_ | refine Hb.drew ?_ | refine Hb.ext (by assumption) ?_ | exact Hb.setSameL (by first | omega | (simp only [size_alloc, size_setB, size_drew]; omega)) | exact Hb.setSame (by assumption) | refine Hb.set (by first | omega | (simp only [size_alloc, size_setB, size_drew]; omega)) ?_ ))) rfl (by first | omega | assumption | rfl | decide | exact Nat.le_refl _ | (simp only [size_ic, Value.cells]; omega) | simp) (by first | omega | assumption | rfl | decide | exact Nat.le_refl _ | (simp only [size_ic, Value.cells]; omega) | simp) (by first | exact oneCell_ic | assumption) (fun h => by cases h) ?_ | refine WH_store Hvad.sizeOf59 rfl (v := .agg _) rfl (Hb.h (by repeat (first | assumption | exact Hb.newY _ _ | refine Hb.alloc ?_ | refine Hb.drew ?_ | refine Hb.ext (by assumption) ?_ | exact Hb.setSameL (by first | omega | (simp only [size_alloc, size_setB, size_drew]; omega)) | exact Hb.setSame (by assumption) | refine Hb.set (by first | omega | (simp only [size_alloc, size_setB, size_drew]; omega)) ?_ ))) (by first | omega | assumption | rfl | decide | exact Nat.le_refl _ | (simp only [size_ic, Value.cells]; omega) | simp) (by first | omega | assumption | rfl | decide | exact Nat.le_refl _ | (simp only [size_ic, Value.cells]; omega) | simp) (by first | exact oneCell_ic | assumption) (fun h => by cases h) ?_
            refine WH_nil ?_
            refine F_q (i := 18) rfl (by kernel_rfl) ?_
            refine WH_p (PS_assign_bool rfl) rfl ?_
            refine WH_nil ?_
            refine F_end ?_
            refine thn_normal ?_
            refine ⟨b3, b4, b5, ⟨rfl, rfl, rfl, rfl, rfl, rfl, trivial⟩, (by repeat (first | assumption | exact Ext.refl _ | refine Ext.alloc ?_ _ | refine Ext.drew ?_ | refine Ext.setB ?_ (by first | omega | (simp only [size_alloc, size_setB, size_drew]; omega)) _ | exact Ext.trans (by assumption) (by assumption) | refine Ext.trans ?_ (by assumption))), (by first | omega | (simp only [size_alloc, size_setB, size_drew]; omega)), Hb.mk (Hb.h (by repeat (first | assumption | exact Hb.newY _ _ | refine Hb.alloc ?_ | refine Hb.drew ?_ | refine Hb.ext (by assumption) ?_ | exact Hb.setSameL (by first | omega | (simp only [size_alloc, size_setB, size_drew]; omega)) | exact Hb.setSame (by assumption) | refine Hb.set (by first | omega | (simp only [size_alloc, size_setB, size_drew]; omega)) ?_ ))), Hb.mk (Hb.h (by repeat (first | assumption | exact Hb.newY _ _ | refine Hb.alloc ?_ | refine Hb.drew ?_ | refine Hb.ext (by assumption) ?_ | exact Hb.setSameL (by first | omega | (simp only [size_alloc, size_setB, size_drew]; omega)) | exact Hb.setSame (by assumption) | refine Hb.set (by first | omega | (simp only [size_alloc, size_setB, size_drew]; omega)) ?_ ))), Hb.mk (Hb.h (by repeat (first | assumption | exact Hb.newY _ _ | refine Hb.alloc ?_ | refine Hb.drew ?_ | refine Hb.ext (by assumption) ?_ | exact Hb.setSameL (by first | omega | (simp only [size_alloc, size_setB, size_drew]; omega)) | exact Hb.setSame (by assumption) | refine Hb.set (by first | omega | (simp only [size_alloc, size_setB, size_drew]; omega)) ?_ )))⟩
        · refine WH_allocG Hvad.zeroValue59 ?_
          intro b5 v5 hg5 hE5 hH5 hl5
          try simp only [size_alloc, size_setB, size_drew] at hg5
          have hzz5 := hE5.1
          try simp only [size_alloc, size_setB, size_drew] at hzz5
          replace hH5 : Hb v5 b5 (.cells (ic .u64 [0, 0, 0, 0]) 59 (0, 0)) := hH5
          refine ⟨fun _ => (by repeat (first | assumption | exact Ext.refl _ | refine Ext.alloc ?_ _ | refine Ext.drew ?_ | refine Ext.setB ?_ (by first | omega | (simp only [size_alloc, size_setB, size_drew]; omega)) _ | exact Ext.trans (by assumption) (by assumption) | refine Ext.trans ?_ (by assumption))), ?_⟩
          refine WH_nil ?_
          refine F_fork1B (i := 16) (by kernel_rfl) rfl ?_
          · refine WH_allocG Hvad.zeroValue59 ?_
            intro b4 v4 hg4 hE4 hH4 hl4
            try simp only [size_alloc, size_setB, size_drew] at hg4
            have hzz4 := hE4.1
            try simp only [size_alloc, size_setB, size_drew] at hzz4
            replace hH4 : Hb v4 b4 (.cells (ic .u64 [0, 0, 0, 0]) 59 (0, 0)) := hH4
            refine ⟨fun _ => (by repeat (first | assumption | exact Ext.refl _ | refine Ext.alloc ?_ _ | refine Ext.drew ?_ | refine Ext.setB ?_ (by first | omega | (simp only [size_alloc, size_setB, size_drew]; omega)) _ | exact Ext.trans (by assumption) (by assumption) | refine Ext.trans ?_ (by assumption))), ?_⟩
            refine WH_nil ?_
            refine F_q (i := 16) rfl (by kernel_rfl) ?_
            first | refine WH_storeW Hvad.sizeOf59 rfl (v := .agg _) rfl (Hb.h (by repeat (first | assumption | exact Hb.newY _ _ | refine Hb.alloc ?_ | refine Hb.drew ?_ | refine Hb.ext (by assumption) ?_ | exact Hb.setSameL (by first | omega | (simp only [size_alloc, size_setB, size_drew]; omega)) | exact Hb.setSame (by assumption) | refine Hb.set (by first | omega | (simp only [size_alloc, size_setB, size_drew]; omega)) ?_ ))) rfl (by first | omega | assumption | rfl | decide | exact Nat.le_refl _ | (simp only [size_ic, Value.cells]; omega) | simp) (by first | omega | assumption | rfl | decide | exact Nat.le_refl _ | (simp only [size_ic, Value.cells]; omega) | simp) (by first | exact oneCell_ic | assumption) (fun h => by cases h) ?_ | refine WH_store Hvad.sizeOf59 rfl (v := .agg _) rfl (Hb.h (by repeat (first | assumption | exact Hb.newY _ _ | refine Hb.alloc ?_ | refine Hb.drew ?_ | refine Hb.ext (by assumption) ?_ | exact Hb.setSameL (by first | omega | (simp only [size_alloc, size_setB, size_drew]; omega)) | exact Hb.setSame (by assumption) | refine Hb.set (by first | omega | (simp only [size_alloc, size_setB, size_drew]; omega)) ?_ ))) (by first | omega | assumption | rfl | decide | exact Nat.le_refl _ | (simp only [size_ic, Value.cells]; omega) | simp) (by first | omega | assumption | rfl | decide | exact Nat.le_refl _ | (simp only [size_ic, Value.cells]; omega) | simp) (by first | exact oneCell_ic | assumption) (fun h => by cases h) ?_
            refine WH_nil ?_
            refine F_q (i := 17) rfl (by kernel_rfl) ?_
            first | refine WH_storeW Hvad.sizeOf59 rfl (v := .agg _) rfl (Hb.h (by repeat (first | assumption | exact Hb.newY _ _ | refine Hb.alloc ?_ | refine Hb.drew ?_ | refine Hb.ext (by assumption) ?_ | exact Hb.setSameL (by first | omega | (simp only [size_alloc, size_setB, size_drew]; omega)) | exact Hb.setSame (by assumption) | refine Hb.set (by first | omega | (simp only [size_alloc, size_setB, size_drew]; omega)) ?_ ))) rfl (by first | omega | assumption | rfl | decide | exact Nat.le_refl _ | (simp only [size_ic, Value.cells]; omega) | simp) (by first | omega | assumption | rfl | decide | exact Nat.le_refl _ | (simp only [size_ic, Value.cells]; omega) | simp) (by first | exact oneCell_ic | assumption) (fun h => by cases h) ?_ | refine WH_store Hvad.sizeOf59 rfl (v := .agg _) rfl (Hb.h (by repeat (first | assumption | exact Hb.newY _ _ | refine Hb.alloc ?_ | refine Hb.drew ?_ | refine Hb.ext (by assumption) ?_ | exact Hb.setSameL (by first | omega | (simp only [size_alloc, size_setB, size_drew]; omega)) | exact Hb.setSame (by assumption) | refine Hb.set (by first | omega | (simp only [size_alloc, size_setB, size_drew]; omega)) ?_ ))) (by first | omega | assumption | rfl | decide | exact Nat.le_refl _ | (simp only [size_ic, Value.cells]; omega) | simp) (by first | omega | assumption | rfl | decide | exact Nat.le_refl _ | (simp only [size_ic, Value.cells]; omega) | simp) (by first | exact oneCell_ic | assumption) (fun h => by cases h) ?_
            refine WH_nil ?_
            refine F_q (i := 18) rfl (by kernel_rfl) ?_
            refine WH_p (PS_assign_bool rfl) rfl ?_
            refine WH_nil ?_
            refine F_end ?_
            refine thn_normal ?_
            refine ⟨b3, b4, b5, ⟨rfl, rfl, rfl, rfl, rfl, rfl, trivial⟩, (by repeat (first | assumption | exact Ext.refl _ | refine Ext.alloc ?_ _ | refine Ext.drew ?_ | refine Ext.setB ?_ (by first | omega | (simp only [size_alloc, size_setB, size_drew]; omega)) _ | exact Ext.trans (by assumption) (by assumption) | refine Ext.trans ?_ (by assumption))), (by first | omega | (simp only [size_alloc, size_setB, size_drew]; omega)), Hb.mk (Hb.h (by repeat (first | assumption | exact Hb.newY _ _ | refine Hb.alloc ?_ | refine Hb.drew ?_ | refine Hb.ext (by assumption) ?_ | exact Hb.setSameL (by first | omega | (simp only [size_alloc, size_setB, size_drew]; omega)) | exact Hb.setSame (by assumption) | refine Hb.set (by first | omega | (simp only [size_alloc, size_setB, size_drew]; omega)) ?_ ))), Hb.mk (Hb.h (by repeat (first | assumption | exact Hb.newY _ _ | refine Hb.alloc ?_ | refine Hb.drew ?_ | refine Hb.ext (by assumption) ?_ | exact Hb.setSameL (by first | omega | (simp only [size_alloc, size_setB, size_drew]; omega)) | exact Hb.setSame (by assumption) | refine Hb.set (by first | omega | (simp only [size_alloc, size_setB, size_drew]; omega)) ?_ ))), Hb.mk (Hb.h (by repeat (first | assumption | exact Hb.newY _ _ | refine Hb.alloc ?_ | refine Hb.drew ?_ | refine Hb.ext (by assumption) ?_ | exact Hb.setSameL (by first | omega | (simp only [size_alloc, size_setB, size_drew]; omega)) | exact Hb.setSame (by assumption) | refine Hb.set (by first | omega | (simp only [size_alloc, size_setB, size_drew]; omega)) ?_ )))⟩
      · refine WH_allocG Hvad.zeroValue59 ?_
        intro b4 v4 hg4 hE4 hH4 hl4
        try simp only [size_alloc, size_setB, size_drew] at hg4
        have hzz4 := hE4.1
        try simp only [size_alloc, size_setB, size_drew] at hzz4
        replace hH4 : Hb v4 b4 (.cells (ic .u64 [0, 0, 0, 0]) 59 (0, 0)) := hH4
        refine ⟨fun _ => (by repeat (first | assumption | exact Ext.refl _ | refine Ext.alloc ?_ _ | refine Ext.drew ?_ | refine Ext.setB ?_ (by first | omega | (simp only [size_alloc, size_setB, size_drew]; omega)) _ | exact Ext.trans (by assumption) (by assumption) | refine Ext.trans ?_ (by assumption))), ?_⟩
        refine WH_nil ?_
        refine F_fork1 (i := 9) rfl rfl ?_ ?_
        · refine WH_call Hvad.call201 (by rfl) (Ret.mono (peek_spec C c v B (bb m) _ _ _ (VS.ext hM.vs (by repeat (first | assumption | exact Ext.refl _ | refine Ext.alloc ?_ _ | refine Ext.drew ?_ | refine Ext.setB ?_ (by first | omega | (simp only [size_alloc, size_setB, size_drew]; omega)) _ | exact Ext.trans (by assumption) (by assumption) | refine Ext.trans ?_ (by assumption)))) (by first | assumption | exact addrW_by _) (by first | assumption | exact argW_wd hM.ty _ _ | exact Wd0)) ?_)
          rintro _ w201_7 ⟨rfl, hE201_7⟩
          refine ⟨(fun h => by cases h), ?_⟩
          have hz201_7 := hE201_7.1
          try simp only [size_alloc, size_setB, size_drew] at hz201_7
          refine WH_nil ?_
          refine F_q (i := 10) rfl (by kernel_rfl) ?_
          refine WH_p (PS_move_tuple rfl) rfl ?_
          refine WH_nil ?_
          refine F_q (i := 11) rfl (by kernel_rfl) ?_
          refine WH_p (PS_extract_agg rfl rfl) rfl ?_
          refine WH_nil ?_
          refine F_q (i := 12) rfl (by kernel_rfl) ?_
          refine WH_p (PS_extract_agg rfl rfl) rfl ?_
          refine WH_nil ?_
          refine F_q (i := 13) rfl (by kernel_rfl) ?_
          refine WH_p (PS_extract_bool rfl rfl) rfl ?_
          refine WH_nil ?_
          refine F_fork1B (i := 16) (by kernel_rfl) rfl ?_
          · refine WH_allocG Hvad.zeroValue59 ?_
            intro b5 v5 hg5 hE5 hH5 hl5
            try simp only [size_alloc, size_setB, size_drew] at hg5
            have hzz5 := hE5.1
            try simp only [size_alloc, size_setB, size_drew] at hzz5
            replace hH5 : Hb v5 b5 (.cells (ic .u64 [0, 0, 0, 0]) 59 (0, 0)) := hH5
            refine ⟨fun _ => (by repeat (first | assumption | exact Ext.refl _ | refine Ext.alloc ?_ _ | refine Ext.drew ?_ | refine Ext.setB ?_ (by first | omega | (simp only [size_alloc, size_setB, size_drew]; omega)) _ | exact Ext.trans (by assumption) (by assumption) | refine Ext.trans ?_ (by assumption))), ?_⟩
            refine WH_nil ?_
            refine F_q (i := 16) rfl (by kernel_rfl) ?_
            first | refine WH_storeW Hvad.sizeOf59 rfl (v := .agg _) rfl (Hb.h (by repeat (first | assumption | exact Hb.newY _ _ | refine Hb.alloc ?_ | refine Hb.drew ?_ | refine Hb.ext (by assumption) ?_ | exact Hb.setSameL (by first | omega | (simp only [size_alloc, size_setB, size_drew]; omega)) | exact Hb.setSame (by assumption) | refine Hb.set (by first | omega | (simp only [size_alloc, size_setB, size_drew]; omega)) ?_ ))) rfl (by first | omega | assumption | rfl | decide | exact Nat.le_refl _ | (simp only [size_ic, Value.cells]; omega) | simp) (by first | omega | assumption | rfl | decide | exact Nat.le_refl _ | (simp only [size_ic, Value.cells]; omega) | simp) (by first | exact oneCell_ic | assumption) (fun h => by cases h) ?_ | refine WH_store Hvad.sizeOf59 rfl (v := .agg _) rfl (Hb.h (by repeat (first | assumption | exact Hb.newY _ _ | refine Hb.alloc ?_ | refine Hb.drew ?_ | refine Hb.ext (by assumption) ?_ | exact Hb.setSameL (by first | omega | (simp only [size_alloc, size_setB, size_drew]; omega)) | exact Hb.setSame (by assumption) | refine Hb.set (by first | omega | (simp only [size_alloc, size_setB, size_drew]; omega)) ?_ ))) (by first | omega | assumption | rfl | decide | exact Nat.le_refl _ | (simp only [size_ic, Value.cells]; omega) | simp) (by first | omega | assumption | rfl | decide | exact Nat.le_refl _ | (simp only [size_ic, Value.cells]; omega) | simp) (by first | exact oneCell_ic | assumption) (fun h => by cases h) ?_
            refine WH_nil ?_
            refine F_q (i := 17) rfl (by kernel_rfl) ?_
            first | refine WH_storeW Hvad.sizeOf59 rfl (v := .agg _) rfl (Hb.h (by repeat (first | assumption | exact Hb.newY _ _ | refine Hb.alloc ?_ | refine Hb.drew ?_ | refine Hb.ext (by assumption) ?_ | exact Hb.setSameL (by first | omega | (simp only [size_alloc, size_setB, size_drew]; omega)) | exact Hb.setSame (by assumption) | refine Hb.set (by first | omega | (simp only [size_alloc, size_setB, size_drew]; omega)) ?_ ))) rfl (by first | omega | assumption | rfl | decide | exact Nat.le_refl _ | (simp only [size_ic, Value.cells]; omega) | simp) (by first | omega | assumption | rfl | decide | exact Nat.le_refl _ | (simp only [size_ic, Value.cells]; omega) | simp) (by first | exact oneCell_ic | assumption) (fun h => by cases h) ?_ | refine WH_store Hvad.sizeOf59 rfl (v := .agg _) rfl (Hb.h (by repeat (first | assumption | exact Hb.newY _ _ | refine Hb.alloc ?_ | refine Hb.drew ?_ | refine Hb.ext (by assumption) ?_ | exact Hb.setSameL (by first | omega | (simp only [size_alloc, size_setB, size_drew]; omega)) | exact Hb.setSame (by assumption) | refine Hb.set (by first | omega | (simp only [size_alloc, size_setB, size_drew]; omega)) ?_ ))) (by first | omega | assumption | rfl | decide | exact Nat.le_refl _ | (simp only [size_ic, Value.cells]; omega) | simp) (by first | omega | assumption | rfl | decide | exact Nat.le_refl _ | (simp only [size_ic, Value.cells]; omega) | simp) (by first | exact oneCell_ic | assumption) (fun h => by cases h) ?_
            refine WH_nil ?_
            refine F_q (i := 18) rfl (by kernel_rfl) ?_
            refine WH_p (PS_assign_bool rfl) rfl ?_
            refine WH_nil ?_
            refine F_end ?_
            refine thn_normal ?_
            refine ⟨b3, b4, b5, ⟨rfl, rfl, rfl, rfl, rfl, rfl, trivial⟩, (by repeat (first | assumption | exact Ext.refl _ | refine Ext.alloc ?_ _ | refine Ext.drew ?_ | refine Ext.setB ?_ (by first | omega | (simp only [size_alloc, size_setB, size_drew]; omega)) _ | exact Ext.trans (by assumption) (by assumption) | refine Ext.trans ?_ (by assumption))), (by first | omega | (simp only [size_alloc, size_setB, size_drew]; omega)), Hb.mk (Hb.h (by repeat (first | assumption | exact Hb.newY _ _ | refine Hb.alloc ?_ | refine Hb.drew ?_ | refine Hb.ext (by assumption) ?_ | exact Hb.setSameL (by first | omega | (simp only [size_alloc, size_setB, size_drew]; omega)) | exact Hb.setSame (by assumption) | refine Hb.set (by first | omega | (simp only [size_alloc, size_setB, size_drew]; omega)) ?_ ))), Hb.mk (Hb.h (by repeat (first | assumption | exact Hb.newY _ _ | refine Hb.alloc ?_ | refine Hb.drew ?_ | refine Hb.ext (by assumption) ?_ | exact Hb.setSameL (by first | omega | (simp only [size_alloc, size_setB, size_drew]; omega)) | exact Hb.setSame (by assumption) | refine Hb.set (by first | omega | (simp only [size_alloc, size_setB, size_drew]; omega)) ?_ ))), Hb.mk (Hb.h (by repeat (first | assumption | exact Hb.newY _ _ | refine Hb.alloc ?_ | refine Hb.drew ?_ | refine Hb.ext (by assumption) ?_ | exact Hb.setSameL (by first | omega | (simp only [size_alloc, size_setB, size_drew]; omega)) | exact Hb.setSame (by assumption) | refine Hb.set (by first | omega | (simp only [size_alloc, size_setB, size_drew]; omega)) ?_ )))⟩
        · refine WH_allocG Hvad.zeroValue59 ?_
          intro b5 v5 hg5 hE5 hH5 hl5
          try simp only [size_alloc, size_setB, size_drew] at hg5
          have hzz5 := hE5.1
          try simp only [size_alloc, size_setB, size_drew] at hzz5
          replace hH5 : Hb v5 b5 (.cells (ic .u64 [0, 0, 0, 0]) 59 (0, 0)) := hH5
          refine ⟨fun _ => (by repeat (first | assumption | exact Ext.refl _ | refine Ext.alloc ?_ _ | refine Ext.drew ?_ | refine Ext.setB ?_ (by first | omega | (simp only [size_alloc, size_setB, size_drew]; omega)) _ | exact Ext.trans (by assumption) (by assumption) | refine Ext.trans ?_ (by assumption))), ?_⟩
          refine WH_nil ?_
          refine F_q (i := 9) rfl (by kernel_rfl) ?_
          refine WH_call Hvad.call201 (by rfl) (Ret.mono (peek_spec C c v B (bb m) _ _ _ (VS.ext hM.vs (by repeat (first | assumption | exact Ext.refl _ | refine Ext.alloc ?_ _ | refine Ext.drew ?_ | refine Ext.setB ?_ (by first | omega | (simp only [size_alloc, size_setB, size_drew]; omega)) _ | exact Ext.trans (by assumption) (by assumption) | refine Ext.trans ?_ (by assumption)))) (by first | assumption | exact addrW_by _) (by first | assumption | exact argW_wd hM.ty _ _ | exact Wd0)) ?_)
          rintro _ w201_9 ⟨rfl, hE201_9⟩
          refine ⟨(fun h => by cases h), ?_⟩
          have hz201_9 := hE201_9.1
          try simp only [size_alloc, size_setB, size_drew] at hz201_9
          refine WH_nil ?_
          refine F_q (i := 10) rfl (by kernel_rfl) ?_
          refine WH_p (PS_move_tuple rfl) rfl ?_
          refine WH_nil ?_
          refine F_q (i := 11) rfl (by kernel_rfl) ?_
          refine WH_p (PS_extract_agg rfl rfl) rfl ?_
          refine WH_nil ?_
          refine F_q (i := 12) rfl (by kernel_rfl) ?_
          refine WH_p (PS_extract_agg rfl rfl) rfl ?_
          refine WH_nil ?_
          refine F_q (i := 13) rfl (by kernel_rfl) ?_
          refine WH_p (PS_extract_bool rfl rfl) rfl ?_
          refine WH_nil ?_
          refine F_q (i := 16) rfl (by kernel_rfl) ?_
          first | refine WH_storeW Hvad.sizeOf59 rfl (v := .agg _) rfl (Hb.h (by repeat (first | assumption | exact Hb.newY _ _ | refine Hb.alloc ?_ | refine Hb.drew ?_ | refine Hb.ext (by assumption) ?_ | exact Hb.setSameL (by first | omega | (simp only [size_alloc, size_setB, size_drew]; omega)) | exact Hb.setSame (by assumption) | refine Hb.set (by first | omega | (simp only [size_alloc, size_setB, size_drew]; omega)) ?_ ))) rfl (by first | omega | assumption | rfl | decide | exact Nat.le_refl _ | (simp only [size_ic, Value.cells]; omega) | simp) (by first | omega | assumption | rfl | decide | exact Nat.le_refl _ | (simp only [size_ic, Value.cells]; omega) | simp) (by first | exact oneCell_ic | assumption) (fun h => by cases h) ?_ | refine WH_store Hvad.sizeOf59 rfl (v := .agg _) rfl (Hb.h (by repeat (first | assumption | exact Hb.newY _ _ | refine Hb.alloc ?_ | refine Hb.drew ?_ | refine Hb.ext (by assumption) ?_ | exact Hb.setSameL (by first | omega | (simp only [size_alloc, size_setB, size_drew]; omega)) | exact Hb.setSame (by assumption) | refine Hb.set (by first | omega | (simp only [size_alloc, size_setB, size_drew]; omega)) ?_ ))) (by first | omega | assumption | rfl | decide | exact Nat.le_refl _ | (simp only [size_ic, Value.cells]; omega) | simp) (by first | omega | assumption | rfl | decide | exact Nat.le_refl _ | (simp only [size_ic, Value.cells]; omega) | simp) (by first | exact oneCell_ic | assumption) (fun h => by cases h) ?_
          refine WH_nil ?_
          refine F_q (i := 17) rfl (by kernel_rfl) ?_
          first | refine WH_storeW Hvad.sizeOf59 rfl (v := .agg _) rfl (Hb.h (by repeat (first | assumption | exact Hb.newY _ _ | refine Hb.alloc ?_ | refine Hb.drew ?_ | refine Hb.ext (by assumption) ?_ | exact Hb.setSameL (by first | omega | (simp only [size_alloc, size_setB, size_drew]; omega)) | exact Hb.setSame (by assumption) | refine Hb.set (by first | omega | (simp only [size_alloc, size_setB, size_drew]; omega)) ?_ ))) rfl (by first | omega | assumption | rfl | decide | exact Nat.le_refl _ | (simp only [size_ic, Value.cells]; omega) | simp) (by first | omega | assumption | rfl | decide | exact Nat.le_refl _ | (simp only [size_ic, Value.cells]; omega) | simp) (by first | exact oneCell_ic | assumption) (fun h => by cases h) ?_ | refine WH_store Hvad.sizeOf59 rfl (v := .agg _) rfl (Hb.h (by repeat (first | assumption | exact Hb.newY _ _ | refine Hb.alloc ?_ | refine Hb.drew ?_ | refine Hb.ext (by assumption) ?_ | exact Hb.setSameL (by first | omega | (simp only [size_alloc, size_setB, size_drew]; omega)) | exact Hb.setSame (by assumption) | refine Hb.set (by first | omega | (simp only [size_alloc, size_setB, size_drew]; omega)) ?_ ))) (by first | omega | assumption | rfl | decide | exact Nat.le_refl _ | (simp only [size_ic, Value.cells]; omega) | simp) (by first | omega | assumption | rfl | decide | exact Nat.le_refl _ | (simp only [size_ic, Value.cells]; omega) | simp) (by first | exact oneCell_ic | assumption) (fun h => by cases h) ?_
          refine WH_nil ?_
          refine F_q (i := 18) rfl (by kernel_rfl) ?_
          refine WH_p (PS_assign_bool rfl) rfl ?_
          refine WH_nil ?_
          refine F_end ?_
          refine thn_normal ?_
          refine ⟨b3, b4, b5, ⟨rfl, rfl, rfl, rfl, rfl, rfl, trivial⟩, (by repeat (first | assumption | exact Ext.refl _ | refine Ext.alloc ?_ _ | refine Ext.drew ?_ | refine Ext.setB ?_ (by first | omega | (simp only [size_alloc, size_setB, size_drew]; omega)) _ | exact Ext.trans (by assumption) (by assumption) | refine Ext.trans ?_ (by assumption))), (by first | omega | (simp only [size_alloc, size_setB, size_drew]; omega)), Hb.mk (Hb.h (by repeat (first | assumption | exact Hb.newY _ _ | refine Hb.alloc ?_ | refine Hb.drew ?_ | refine Hb.ext (by assumption) ?_ | exact Hb.setSameL (by first | omega | (simp only [size_alloc, size_setB, size_drew]; omega)) | exact Hb.setSame (by assumption) | refine Hb.set (by first | omega | (simp only [size_alloc, size_setB, size_drew]; omega)) ?_ ))), Hb.mk (Hb.h (by repeat (first | assumption | exact Hb.newY _ _ | refine Hb.alloc ?_ | refine Hb.drew ?_ | refine Hb.ext (by assumption) ?_ | exact Hb.setSameL (by first | omega | (simp only [size_alloc, size_setB, size_drew]; omega)) | exact Hb.setSame (by assumption) | refine Hb.set (by first | omega | (simp only [size_alloc, size_setB, size_drew]; omega)) ?_ ))), Hb.mk (Hb.h (by repeat (first | assumption | exact Hb.newY _ _ | refine Hb.alloc ?_ | refine Hb.drew ?_ | refine Hb.ext (by assumption) ?_ | exact Hb.setSameL (by first | omega | (simp only [size_alloc, size_setB, size_drew]; omega)) | exact Hb.setSame (by assumption) | refine Hb.set (by first | omega | (simp only [size_alloc, size_setB, size_drew]; omega)) ?_ )))⟩
      · refine WH_allocG Hvad.zeroValue59 ?_
        intro b5 v5 hg5 hE5 hH5 hl5
        try simp only [size_alloc, size_setB, size_drew] at hg5
        have hzz5 := hE5.1
        try simp only [size_alloc, size_setB, size_drew] at hzz5
        replace hH5 : Hb v5 b5 (.cells (ic .u64 [0, 0, 0, 0]) 59 (0, 0)) := hH5
        refine ⟨fun _ => (by repeat (first | assumption | exact Ext.refl _ | refine Ext.alloc ?_ _ | refine Ext.drew ?_ | refine Ext.setB ?_ (by first | omega | (simp only [size_alloc, size_setB, size_drew]; omega)) _ | exact Ext.trans (by assumption) (by assumption) | refine Ext.trans ?_ (by assumption))), ?_⟩
        refine WH_nil ?_
        refine F_fork1 (i := 9) rfl rfl ?_ ?_
        · refine WH_call Hvad.call201 (by rfl) (Ret.mono (peek_spec C c v B (bb m) _ _ _ (VS.ext hM.vs (by repeat (first | assumption | exact Ext.refl _ | refine Ext.alloc ?_ _ | refine Ext.drew ?_ | refine Ext.setB ?_ (by first | omega | (simp only [size_alloc, size_setB, size_drew]; omega)) _ | exact Ext.trans (by assumption) (by assumption) | refine Ext.trans ?_ (by assumption)))) (by first | assumption | exact addrW_by _) (by first | assumption | exact argW_wd hM.ty _ _ | exact Wd0)) ?_)
          rintro _ w201_11 ⟨rfl, hE201_11⟩
          refine ⟨(fun h => by cases h), ?_⟩
          have hz201_11 := hE201_11.1
          try simp only [size_alloc, size_setB, size_drew] at hz201_11
          refine WH_nil ?_
          refine F_q (i := 10) rfl (by kernel_rfl) ?_
          refine WH_p (PS_move_tuple rfl) rfl ?_
          refine WH_nil ?_
          refine F_q (i := 11) rfl (by kernel_rfl) ?_
          refine WH_p (PS_extract_agg rfl rfl) rfl ?_
          refine WH_nil ?_
          refine F_q (i := 12) rfl (by kernel_rfl) ?_
          refine WH_p (PS_extract_agg rfl rfl) rfl ?_
          refine WH_nil ?_
          refine F_q (i := 13) rfl (by kernel_rfl) ?_
          refine WH_p (PS_extract_bool rfl rfl) rfl ?_
          refine WH_nil ?_
          refine F_fork1B (i := 16) (by kernel_rfl) rfl ?_
          · refine WH_allocG Hvad.zeroValue59 ?_
            intro b4 v4 hg4 hE4 hH4 hl4
            try simp only [size_alloc, size_setB, size_drew] at hg4
            have hzz4 := hE4.1
            try simp only [size_alloc, size_setB, size_drew] at hzz4
            replace hH4 : Hb v4 b4 (.cells (ic .u64 [0, 0, 0, 0]) 59 (0, 0)) := hH4
            refine ⟨fun _ => (by repeat (first | assumption | exact Ext.refl _ | refine Ext.alloc ?_ _ | refine Ext.drew ?_ | refine Ext.setB ?_ (by first | omega | (simp only [size_alloc, size_setB, size_drew]; omega)) _ | exact Ext.trans (by assumption) (by assumption) | refine Ext.trans ?_ (by assumption))), ?_⟩
            refine WH_nil ?_
            refine F_q (i := 16) rfl (by kernel_rfl) ?_
            first | refine WH_storeW Hvad.sizeOf59 rfl (v := .agg _) rfl (Hb.h (by repeat (first | assumption | exact Hb.newY _ _ | refine Hb.alloc ?_ | refine Hb.drew ?_ | refine Hb.ext (by assumption) ?_ | exact Hb.setSameL (by first | omega | (simp only [size_alloc, size_setB, size_drew]; omega)) | exact Hb.setSame (by assumption) | refine Hb.set (by first | omega | (simp only [size_alloc, size_setB, size_drew]; omega)) ?_ ))) rfl (by first | omega | assumption | rfl | decide | exact Nat.le_refl _ | (simp only [size_ic, Value.cells]; omega) | simp) (by first | omega | assumption | rfl | decide | exact Nat.le_refl _ | (simp only [size_ic, Value.cells]; omega) | simp) (by first | exact oneCell_ic | assumption) (fun h => by cases h) ?_ | refine WH_store Hvad.sizeOf59 rfl (v := .agg _) rfl (Hb.h (by repeat (first | assumption | exact Hb.newY _ _ | refine Hb.alloc ?_ | refine Hb.drew ?_ | refine Hb.ext (by assumption) ?_ | exact Hb.setSameL (by first | omega | (simp only [size_alloc, size_setB, size_drew]; omega)) | exact Hb.setSame (by assumption) | refine Hb.set (by first | omega | (simp only [size_alloc, size_setB, size_drew]; omega)) ?_ ))) (by first | omega | assumption | rfl | decide | exact Nat.le_refl _ | (simp only [size_ic, Value.cells]; omega) | simp) (by first | omega | assumption | rfl | decide | exact Nat.le_refl _ | (simp only [size_ic, Value.cells]; omega) | simp) (by first | exact oneCell_ic | assumption) (fun h => by cases h) ?_
            refine WH_nil ?_
            refine F_q (i := 17) rfl (by kernel_rfl) ?_
            first | refine WH_storeW Hvad.sizeOf59 rfl (v := .agg _) rfl (Hb.h (by repeat (first | assumption | exact Hb.newY _ _ | refine Hb.alloc ?_ | refine Hb.drew ?_ | refine Hb.ext (by assumption) ?_ | exact Hb.setSameL (by first | omega | (simp only [size_alloc, size_setB, size_drew]; omega)) | exact Hb.setSame (by assumption) | refine Hb.set (by first | omega | (simp only [size_alloc, size_setB, size_drew]; omega)) ?_ ))) rfl (by first | omega | assumption | rfl | decide | exact Nat.le_refl _ | (simp only [size_ic, Value.cells]; omega) | simp) (by first | omega | assumption | rfl | decide | exact Nat.le_refl _ | (simp only [size_ic, Value.cells]; omega) | simp) (by first | exact oneCell_ic | assumption) (fun h => by cases h) ?_ | refine WH_store Hvad.sizeOf59 rfl (v := .agg _) rfl (Hb.h (by repeat (first | assumption | exact Hb.newY _ _ | refine Hb.alloc ?_ | refine Hb.drew ?_ | refine Hb.ext (by assumption) ?_ | exact Hb.setSameL (by first | omega | (simp only [size_alloc, size_setB, size_drew]; omega)) | exact Hb.setSame (by assumption) | refine Hb.set (by first | omega | (simp only [size_alloc, size_setB, size_drew]; omega)) ?_ ))) (by first | omega | assumption | rfl | decide | exact Nat.le_refl _ | (simp only [size_ic, Value.cells]; omega) | simp) (by first | omega | assumption | rfl | decide | exact Nat.le_refl _ | (simp only [size_ic, Value.cells]; omega) | simp) (by first | exact oneCell_ic | assumption) (fun h => by cases h) ?_
            refine WH_nil ?_
            refine F_q (i := 18) rfl (by kernel_rfl) ?_
            refine WH_p (PS_assign_bool rfl) rfl ?_
            refine WH_nil ?_
            refine F_end ?_
            refine thn_normal ?_
            refine ⟨b3, b4, b5, ⟨rfl, rfl, rfl, rfl, rfl, rfl, trivial⟩, (by repeat (first | assumption | exact Ext.refl _ | refine Ext.alloc ?_ _ | refine Ext.drew ?_ | refine Ext.setB ?_ (by first | omega | (simp only [size_alloc, size_setB, size_drew]; omega)) _ | exact Ext.trans (by assumption) (by assumption) | refine Ext.trans ?_ (by assumption))), (by first | omega | (simp only [size_alloc, size_setB, size_drew]; omega)), Hb.mk (Hb.h (by repeat (first | assumption | exact Hb.newY _ _ | refine Hb.alloc ?_ | refine Hb.drew ?_ | refine Hb.ext (by assumption) ?_ | exact Hb.setSameL (by first | omega | (simp only [size_alloc, size_setB, size_drew]; omega)) | exact Hb.setSame (by assumption) | refine Hb.set (by first | omega | (simp only [size_alloc, size_setB, size_drew]; omega)) ?_ ))), Hb.mk (Hb.h (by repeat (first | assumption | exact Hb.newY _ _ | refine Hb.alloc ?_ | refine Hb.drew ?_ | refine Hb.ext (by assumption) ?_ | exact Hb.setSameL (by first | omega | (simp only [size_alloc, size_setB, size_drew]; omega)) | exact Hb.setSame (by assumption) | refine Hb.set (by first | omega | (simp only [size_alloc, size_setB, size_drew]; omega)) ?_ ))), Hb.mk (Hb.h (by repeat (first | assumption | exact Hb.newY _ _ | refine Hb.alloc ?_ | refine Hb.drew ?_ | refine Hb.ext (by assumption) ?_ | exact Hb.setSameL (by first | omega | (simp only [size_alloc, size_setB, size_drew]; omega)) | exact Hb.setSame (by assumption) | refine Hb.set (by first | omega | (simp only [size_alloc, size_setB, size_drew]; omega)) ?_ )))⟩
        · refine WH_allocG Hvad.zeroValue59 ?_
          intro b4 v4 hg4 hE4 hH4 hl4
          try simp only [size_alloc, size_setB, size_drew] at hg4
          have hzz4 := hE4.1
          try simp only [size_alloc, size_setB, size_drew] at hzz4
          replace hH4 : Hb v4 b4 (.cells (ic .u64 [0, 0, 0, 0]) 59 (0, 0)) := hH4
          refine ⟨fun _ => (by repeat (first | assumption | exact Ext.refl _ | refine Ext.alloc ?_ _ | refine Ext.drew ?_ | refine Ext.setB ?_ (by first | omega | (simp only [size_alloc, size_setB, size_drew]; omega)) _ | exact Ext.trans (by assumption) (by assumption) | refine Ext.trans ?_ (by assumption))), ?_⟩
          refine WH_nil ?_
          refine F_q (i := 9) rfl (by kernel_rfl) ?_
          refine WH_call Hvad.call201 (by rfl) (Ret.mono (peek_spec C c v B (bb m) _ _ _ (VS.ext hM.vs (by repeat (first | assumption | exact Ext.refl _ | refine Ext.alloc ?_ _ | refine Ext.drew ?_ | refine Ext.setB ?_ (by first | omega | (simp only [size_alloc, size_setB, size_drew]; omega)) _ | exact Ext.trans (by assumption) (by assumption) | refine Ext.trans ?_ (by assumption)))) (by first | assumption | exact addrW_by _) (by first | assumption | exact argW_wd hM.ty _ _ | exact Wd0)) ?_)
          rintro _ w201_13 ⟨rfl, hE201_13⟩
          refine ⟨(fun h => by cases h), ?_⟩
          have hz201_13 := hE201_13.1
          try simp only [size_alloc, size_setB, size_drew] at hz201_13
          refine WH_nil ?_
          refine F_q (i := 10) rfl (by kernel_rfl) ?_
          refine WH_p (PS_move_tuple rfl) rfl ?_
          refine WH_nil ?_
          refine F_q (i := 11) rfl (by kernel_rfl) ?_
          refine WH_p (PS_extract_agg rfl rfl) rfl ?_
          refine WH_nil ?_
          refine F_q (i := 12) rfl (by kernel_rfl) ?_
          refine WH_p (PS_extract_agg rfl rfl) rfl ?_
          refine WH_nil ?_
          refine F_q (i := 13) rfl (by kernel_rfl) ?_
          refine WH_p (PS_extract_bool rfl rfl) rfl ?_
          refine WH_nil ?_
          refine F_q (i := 16) rfl (by kernel_rfl) ?_
          first | refine WH_storeW Hvad.sizeOf59 rfl (v := .agg _) rfl (Hb.h (by repeat (first | assumption | exact Hb.newY _ _ | refine Hb.alloc ?_ | refine Hb.drew ?_ | refine Hb.ext (by assumption) ?_ | exact Hb.setSameL (by first | omega | (simp only [size_alloc, size_setB, size_drew]; omega)) | exact Hb.setSame (by assumption) | refine Hb.set (by first | omega | (simp only [size_alloc, size_setB, size_drew]; omega)) ?_ ))) rfl (by first | omega | assumption | rfl | decide | exact Nat.le_refl _ | (simp only [size_ic, Value.cells]; omega) | simp) (by first | omega | assumption | rfl | decide | exact Nat.le_refl _ | (simp only [size_ic, Value.cells]; omega) | simp) (by first | exact oneCell_ic | assumption) (fun h => by cases h) ?_ | refine WH_store Hvad.sizeOf59 rfl (v := .agg _) rfl (Hb.h (by repeat (first | assumption | exact Hb.newY _ _ | refine Hb.alloc ?_ | refine Hb.drew ?_ | refine Hb.ext (by assumption) ?_ | exact Hb.setSameL (by first | omega | (simp only [size_alloc, size_setB, size_drew]; omega)) | exact Hb.setSame (by assumption) | refine Hb.set (by first | omega | (simp only [size_alloc, size_setB, size_drew]; omega)) ?_ ))) (by first | omega | assumption | rfl | decide | exact Nat.le_refl _ | (simp only [size_ic, Value.cells]; omega) | simp) (by first | omega | assumption | rfl | decide | exact Nat.le_refl _ | (simp only [size_ic, Value.cells]; omega) | simp) (by first | exact oneCell_ic | assumption) (fun h => by cases h) ?_
          refine WH_nil ?_
          refine F_q (i := 17) rfl (by kernel_rfl) ?_
          first | refine WH_storeW Hvad.sizeOf59 rfl (v := .agg _) rfl (Hb.h (by repeat (first | assumption | exact Hb.newY _ _ | refine Hb.alloc ?_ | refine Hb.drew ?_ | refine Hb.ext (by assumption) ?_ | exact Hb.setSameL (by first | omega | (simp only [size_alloc, size_setB, size_drew]; omega)) | exact Hb.setSame (by assumption) | refine Hb.set (by first | omega | (simp only [size_alloc, size_setB, size_drew]; omega)) ?_ ))) rfl (by first | omega | assumption | rfl | decide | exact Nat.le_refl _ | (simp only [size_ic, Value.cells]; omega) | simp) (by first | omega | assumption | rfl | decide | exact Nat.le_refl _ | (simp only [size_ic, Value.cells]; omega) | simp) (by first | exact oneCell_ic | assumption) (fun h => by cases h) ?_ | refine WH_store Hvad.sizeOf59 rfl (v := .agg _) rfl (Hb.h (by repeat (first | assumption | exact Hb.newY _ _ | refine Hb.alloc ?_ | refine Hb.drew ?_ | refine Hb.ext (by assumption) ?_ | exact Hb.setSameL (by first | omega | (simp only [size_alloc, size_setB, size_drew]; omega)) | exact Hb.setSame (by assumption) | refine Hb.set (by first | omega | (simp only [size_alloc, size_setB, size_drew]; omega)) ?_ ))) (by first | omega | assumption | rfl | decide | exact Nat.le_refl _ | (simp only [size_ic, Value.cells]; omega) | simp) (by first | omega | assumption | rfl | decide | exact Nat.le_refl _ | (simp only [size_ic, Value.cells]; omega) | simp) (by first | exact oneCell_ic | assumption) (fun h => by cases h) ?_
          refine WH_nil ?_
          refine F_q (i := 18) rfl (by kernel_rfl) ?_
          refine WH_p (PS_assign_bool rfl) rfl ?_
          refine WH_nil ?_
          refine F_end ?_
          refine thn_normal ?_
          refine ⟨b3, b4, b5, ⟨rfl, rfl, rfl, rfl, rfl, rfl, trivial⟩, (by repeat (first | assumption | exact Ext.refl _ | refine Ext.alloc ?_ _ | refine Ext.drew ?_ | refine Ext.setB ?_ (by first | omega | (simp only [size_alloc, size_setB, size_drew]; omega)) _ | exact Ext.trans (by assumption) (by assumption) | refine Ext.trans ?_ (by assumption))), (by first | omega | (simp only [size_alloc, size_setB, size_drew]; omega)), Hb.mk (Hb.h (by repeat (first | assumption | exact Hb.newY _ _ | refine Hb.alloc ?_ | refine Hb.drew ?_ | refine Hb.ext (by assumption) ?_ | exact Hb.setSameL (by first | omega | (simp only [size_alloc, size_setB, size_drew]; omega)) | exact Hb.setSame (by assumption) | refine Hb.set (by first | omega | (simp only [size_alloc, size_setB, size_drew]; omega)) ?_ ))), Hb.mk (Hb.h (by repeat (first | assumption | exact Hb.newY _ _ | refine Hb.alloc ?_ | refine Hb.drew ?_ | refine Hb.ext (by assumption) ?_ | exact Hb.setSameL (by first | omega | (simp only [size_alloc, size_setB, size_drew]; omega)) | exact Hb.setSame (by assumption) | refine Hb.set (by first | omega | (simp only [size_alloc, size_setB, size_drew]; omega)) ?_ ))), Hb.mk (Hb.h (by repeat (first | assumption | exact Hb.newY _ _ | refine Hb.alloc ?_ | refine Hb.drew ?_ | refine Hb.ext (by assumption) ?_ | exact Hb.setSameL (by first | omega | (simp only [size_alloc, size_setB, size_drew]; omega)) | exact Hb.setSame (by assumption) | refine Hb.set (by first | omega | (simp only [size_alloc, size_setB, size_drew]; omega)) ?_ )))⟩
    · rintro ρ w0 ⟨b3, b4, b5, hFr, hE0, hsz0, hb30, hb40, hb50⟩
      refine W_env _ hFr ?_
      have hz0 := hE0.1
      refine W_seqJ (fun ρ w' => ∃ c1 B1 b3 b4 b5, Fr [(0, .pointer (some ⟨C, 0, none⟩)), (2, .pointer (some ⟨C, 1803 + t * 65, none⟩)), (3, .pointer (some ⟨b3, 0, none⟩)), (4, .pointer (some ⟨b4, 0, none⟩)), (5, .pointer (some ⟨b5, 0, none⟩)), (6, .bool (v.isWarmS f.self (m.argW f 0)))] ρ ∧ MS w' C c1 y1 B1 m ∧ MStep w w' C B m B1 m ∧ (w.heap.size ≤ b3 ∧ b3 < b4 ∧ b4 < w'.heap.size ∧ w.heap.size ≤ b5 ∧ b5 < w'.heap.size ∧ b3 < b5 ∧ b4 ≠ b5) ∧ Hb w' b3 (.cells (Value.agg (ic .u64 (m.argW f 0))).cells 59 (0, 0)) ∧ Hb w' b4 (.cells (Value.agg (ic .u64 (v.sval f.self (m.argW f 0)))).cells 59 (0, 0)) ∧ Hb w' b5 (.cells (Value.agg (ic .u64 (v.sorig f.self (m.argW f 0)))).cells 59 (0, 0))) ?_ ?_
      · skip
        refine W_seq ?_
        refine W_drawE [false, false, false, false, false, false, false, false, false, false, false, false, false, false, false] hmix (by kernel_rfl) rfl ?_
        refine WH_p (PS_move_bool rfl) rfl ?_
        refine WH_p (PS_not rfl) rfl ?_
        refine WH_p (PS_move_bool rfl) rfl ?_
        refine WH_if (t := 34) rfl (fun hb18 => ?_) (fun hb18 => ?_)
        · have hb18p := hb18.h; try simp only [al_ete, al_dfn, Bool.not_eq_true', Bool.not_eq_false', al_ne, Bool.not_not, al_nn] at hb18p
          have hcold : ¬ v.isWarmS f.self (m.argW f 0) = true := by simpa using hb18p
          refine WH_guardT rfl rfl hb18.h ?_
          refine WH_p (PS_move_ptr rfl) rfl ?_
          refine WH_guardT rfl rfl hb18.h ?_
          refine WH_p (PS_nilCheck rfl) rfl ?_
          refine WH_guardT rfl rfl hb18.h ?_
          refine WH_p (PS_fieldAddr 0 Hvad.runUnderlying69 rfl Hvad.sizeOf53 rfl rfl) rfl ?_
          refine WH_guardT rfl rfl hb18.h ?_
          refine WH_load (.pointer _) Hvad.isAgg53 rfl (Hb.h (by repeat (first | assumption | exact Hb.newY _ _ | refine Hb.alloc ?_ | refine Hb.drew ?_ | refine Hb.ext (by assumption) ?_ | exact Hb.setSameL (by first | omega | (simp only [size_alloc, size_setB, size_drew]; omega)) | exact Hb.setSame (by assumption) | refine Hb.set (by first | omega | (simp only [size_alloc, size_setB, size_drew]; omega)) ?_ ))) (Ce.h (by first | assumption | exact ⟨rfl⟩)) ?_
          refine WH_guardT rfl rfl hb18.h ?_
          refine WH_p (PS_move_ptr rfl) rfl ?_
          refine WH_guardT rfl rfl hb18.h ?_
          refine WH_p (PS_nilCheck rfl) rfl ?_
          refine WH_guardT rfl rfl hb18.h ?_
          refine WH_p (PS_fieldAddr 9 Hvad.runUnderlying65 rfl Hvad.sizeOf25 rfl rfl) rfl ?_
          refine WH_guardT rfl rfl hb18.h ?_
          refine WH_loadA _ Hvad.isAgg25 Hvad.sizeOf25 rfl (Hb.h (by repeat (first | assumption | exact Hb.newY _ _ | refine Hb.alloc ?_ | refine Hb.drew ?_ | refine Hb.ext (by assumption) ?_ | exact Hb.setSameL (by first | omega | (simp only [size_alloc, size_setB, size_drew]; omega)) | exact Hb.setSame (by assumption) | refine Hb.set (by first | omega | (simp only [size_alloc, size_setB, size_drew]; omega)) ?_ ))) (by first | omega | assumption | rfl | decide | exact Nat.le_refl _ | (simp only [size_ic, Value.cells]; omega) | simp) (Xt.h (by first | assumption | exact Xt.whole rfl rfl | exact Xt.whole rfl (by simp only [size_ic, Value.cells]; omega) | exact ⟨rfl⟩)) ?_
          refine WH_guardT rfl rfl hb18.h ?_
          refine WH_loadA _ Hvad.isAgg59 Hvad.sizeOf59 rfl (Hb.h (by repeat (first | assumption | exact Hb.newY _ _ | refine Hb.alloc ?_ | refine Hb.drew ?_ | refine Hb.ext (by assumption) ?_ | exact Hb.setSameL (by first | omega | (simp only [size_alloc, size_setB, size_drew]; omega)) | exact Hb.setSame (by assumption) | refine Hb.set (by first | omega | (simp only [size_alloc, size_setB, size_drew]; omega)) ?_ ))) (by first | omega | assumption | rfl | decide | exact Nat.le_refl _ | (simp only [size_ic, Value.cells]; omega) | simp) (Xt.h (by first | assumption | exact Xt.whole rfl rfl | exact Xt.whole rfl (by simp only [size_ic, Value.cells]; omega) | exact ⟨rfl⟩)) ?_
          refine WH_guardT rfl rfl hb18.h ?_
          refine WH_call Hvad.call79 (by rfl) (Ret.mono (warmS_spec C c v B (bb m) _ _ _ (VS.ext hM.vs (by repeat (first | assumption | exact Ext.refl _ | refine Ext.alloc ?_ _ | refine Ext.drew ?_ | refine Ext.setB ?_ (by first | omega | (simp only [size_alloc, size_setB, size_drew]; omega)) _ | exact Ext.trans (by assumption) (by assumption) | refine Ext.trans ?_ (by assumption)))) hby (hwdA 0)) ?_)
          rintro _ w1 ⟨rfl, hR1⟩
          refine ⟨(fun h => by cases h), ?_⟩
          rw [hP.cold hcold] at hR1 ⊢
          replace hR1 : VRet _ _ _ _ _ w1 y1 := hR1
          obtain ⟨c1, B1, hM1, hS1⟩ := MS.vret (MS.ext hM (by repeat (first | assumption | exact Ext.refl _ | refine Ext.alloc ?_ _ | refine Ext.drew ?_ | refine Ext.setB ?_ (by first | omega | (simp only [size_alloc, size_setB, size_drew]; omega)) _ | exact Ext.trans (by assumption) (by assumption) | refine Ext.trans ?_ (by assumption)))) hR1
          have hz1 := hS1.keep.sz
          try simp only [size_alloc, size_setB, size_drew] at hz1
          have hS1w := MStep.trans (MStep.ext (Ext.refl w)) ((MStep.ext (by repeat (first | assumption | exact Ext.refl _ | refine Ext.alloc ?_ _ | refine Ext.drew ?_ | refine Ext.setB ?_ (by first | omega | (simp only [size_alloc, size_setB, size_drew]; omega)) _ | exact Ext.trans (by assumption) (by assumption) | refine Ext.trans ?_ (by assumption)))).trans hS1)
          have hb31 := hS1.hb (b := b3) (o := .cells (Value.agg (ic .u64 (m.argW f 0))).cells 59 (0, 0)) (Hb.mk (Hb.h (by repeat (first | assumption | exact Hb.newY _ _ | refine Hb.alloc ?_ | refine Hb.drew ?_ | refine Hb.ext (by assumption) ?_ | exact Hb.setSameL (by first | omega | (simp only [size_alloc, size_setB, size_drew]; omega)) | exact Hb.setSame (by assumption) | refine Hb.set (by first | omega | (simp only [size_alloc, size_setB, size_drew]; omega)) ?_ )))) (hM.fresh (by omega))
          have hb41 := hS1.hb (b := b4) (o := .cells (Value.agg (ic .u64 (v.sval f.self (m.argW f 0)))).cells 59 (0, 0)) (Hb.mk (Hb.h (by repeat (first | assumption | exact Hb.newY _ _ | refine Hb.alloc ?_ | refine Hb.drew ?_ | refine Hb.ext (by assumption) ?_ | exact Hb.setSameL (by first | omega | (simp only [size_alloc, size_setB, size_drew]; omega)) | exact Hb.setSame (by assumption) | refine Hb.set (by first | omega | (simp only [size_alloc, size_setB, size_drew]; omega)) ?_ )))) (hM.fresh (by omega))
          have hb51 := hS1.hb (b := b5) (o := .cells (Value.agg (ic .u64 (v.sorig f.self (m.argW f 0)))).cells 59 (0, 0)) (Hb.mk (Hb.h (by repeat (first | assumption | exact Hb.newY _ _ | refine Hb.alloc ?_ | refine Hb.drew ?_ | refine Hb.ext (by assumption) ?_ | exact Hb.setSameL (by first | omega | (simp only [size_alloc, size_setB, size_drew]; omega)) | exact Hb.setSame (by assumption) | refine Hb.set (by first | omega | (simp only [size_alloc, size_setB, size_drew]; omega)) ?_ )))) (hM.fresh (by omega))
          have hblk1 := hM1.vs.blk
          have hcs1 := hM1.sz
          have hc_s1 := hM1.rep.s
          obtain ⟨_, _, hF1⟩ := hM1.openF hf
          have hf_self1 := hF1.self
          refine WH_guardT rfl rfl hb18.h ?_
          refine WH_p (PS_not rfl) rfl ?_
          refine WH_p (PS_pickT rfl hb18.h rfl) rfl ?_
          refine WH_nil ?_
          refine thn_normal ?_
          refine W_if rfl (fun hb22 => ?_) (fun hb22 => ?_)
          · have hb22p := hb22.h; try simp only [al_ete, al_dfn, Bool.not_eq_true', Bool.not_eq_false', al_ne, Bool.not_not, al_nn] at hb22p
            simp at hb22p --END
          · have hb22p := hb22.h; try simp only [al_ete, al_dfn, Bool.not_eq_true', Bool.not_eq_false', al_ne, Bool.not_not, al_nn] at hb22p
            refine W_skip ?_
            refine thn_normal ?_
            refine ⟨c1, B1, b3, b4, b5, ⟨rfl, rfl, rfl, rfl, rfl, rfl, trivial⟩, (MS.ext hM1 (by repeat (first | assumption | exact Ext.refl _ | refine Ext.alloc ?_ _ | refine Ext.drew ?_ | refine Ext.setB ?_ (by first | omega | (simp only [size_alloc, size_setB, size_drew]; omega)) _ | exact Ext.trans (by assumption) (by assumption) | refine Ext.trans ?_ (by assumption)))), MStep.trans hS1w (MStep.ext (by repeat (first | assumption | exact Ext.refl _ | refine Ext.alloc ?_ _ | refine Ext.drew ?_ | refine Ext.setB ?_ (by first | omega | (simp only [size_alloc, size_setB, size_drew]; omega)) _ | exact Ext.trans (by assumption) (by assumption) | refine Ext.trans ?_ (by assumption)))), (by first | omega | (simp only [size_alloc, size_setB, size_drew]; omega)), Hb.mk (Hb.h (by repeat (first | assumption | exact Hb.newY _ _ | refine Hb.alloc ?_ | refine Hb.drew ?_ | refine Hb.ext (by assumption) ?_ | exact Hb.setSameL (by first | omega | (simp only [size_alloc, size_setB, size_drew]; omega)) | exact Hb.setSame (by assumption) | refine Hb.set (by first | omega | (simp only [size_alloc, size_setB, size_drew]; omega)) ?_ ))), Hb.mk (Hb.h (by repeat (first | assumption | exact Hb.newY _ _ | refine Hb.alloc ?_ | refine Hb.drew ?_ | refine Hb.ext (by assumption) ?_ | exact Hb.setSameL (by first | omega | (simp only [size_alloc, size_setB, size_drew]; omega)) | exact Hb.setSame (by assumption) | refine Hb.set (by first | omega | (simp only [size_alloc, size_setB, size_drew]; omega)) ?_ ))), Hb.mk (Hb.h (by repeat (first | assumption | exact Hb.newY _ _ | refine Hb.alloc ?_ | refine Hb.drew ?_ | refine Hb.ext (by assumption) ?_ | exact Hb.setSameL (by first | omega | (simp only [size_alloc, size_setB, size_drew]; omega)) | exact Hb.setSame (by assumption) | refine Hb.set (by first | omega | (simp only [size_alloc, size_setB, size_drew]; omega)) ?_ )))⟩
        · have hb18p := hb18.h; try simp only [al_ete, al_dfn, Bool.not_eq_true', Bool.not_eq_false', al_ne, Bool.not_not, al_nn] at hb18p
          have hwarm : v.isWarmS f.self (m.argW f 0) = true := by simpa using hb18p
          have hM1 := hM
          rw [← hP.warm hwarm] at hM1
          refine WH_guardF rfl rfl hb18.h ?_
          refine WH_guardF rfl rfl hb18.h ?_
          refine WH_guardF rfl rfl hb18.h ?_
          refine WH_guardF rfl rfl hb18.h ?_
          refine WH_guardF rfl rfl hb18.h ?_
          refine WH_guardF rfl rfl hb18.h ?_
          refine WH_guardF rfl rfl hb18.h ?_
          refine WH_guardF rfl rfl hb18.h ?_
          refine WH_guardF rfl rfl hb18.h ?_
          refine WH_guardF rfl rfl hb18.h ?_
          refine WH_guardF rfl rfl hb18.h ?_
          refine WH_p (PS_pickF rfl hb18.h rfl) rfl ?_
          refine WH_nil ?_
          refine thn_normal ?_
          refine W_condF rfl rfl ?_
          refine W_skip ?_
          refine thn_normal ?_
          refine ⟨c, B, b3, b4, b5, ⟨rfl, rfl, rfl, rfl, rfl, rfl, trivial⟩, (MS.ext hM1 (by repeat (first | assumption | exact Ext.refl _ | refine Ext.alloc ?_ _ | refine Ext.drew ?_ | refine Ext.setB ?_ (by first | omega | (simp only [size_alloc, size_setB, size_drew]; omega)) _ | exact Ext.trans (by assumption) (by assumption) | refine Ext.trans ?_ (by assumption)))), MStep.trans (MStep.ext (Ext.refl w)) (MStep.ext (by repeat (first | assumption | exact Ext.refl _ | refine Ext.alloc ?_ _ | refine Ext.drew ?_ | refine Ext.setB ?_ (by first | omega | (simp only [size_alloc, size_setB, size_drew]; omega)) _ | exact Ext.trans (by assumption) (by assumption) | refine Ext.trans ?_ (by assumption)))), (by first | omega | (simp only [size_alloc, size_setB, size_drew]; omega)), Hb.mk (Hb.h (by repeat (first | assumption | exact Hb.newY _ _ | refine Hb.alloc ?_ | refine Hb.drew ?_ | refine Hb.ext (by assumption) ?_ | exact Hb.setSameL (by first | omega | (simp only [size_alloc, size_setB, size_drew]; omega)) | exact Hb.setSame (by assumption) | refine Hb.set (by first | omega | (simp only [size_alloc, size_setB, size_drew]; omega)) ?_ ))), Hb.mk (Hb.h (by repeat (first | assumption | exact Hb.newY _ _ | refine Hb.alloc ?_ | refine Hb.drew ?_ | refine Hb.ext (by assumption) ?_ | exact Hb.setSameL (by first | omega | (simp only [size_alloc, size_setB, size_drew]; omega)) | exact Hb.setSame (by assumption) | refine Hb.set (by first | omega | (simp only [size_alloc, size_setB, size_drew]; omega)) ?_ ))), Hb.mk (Hb.h (by repeat (first | assumption | exact Hb.newY _ _ | refine Hb.alloc ?_ | refine Hb.drew ?_ | refine Hb.ext (by assumption) ?_ | exact Hb.setSameL (by first | omega | (simp only [size_alloc, size_setB, size_drew]; omega)) | exact Hb.setSame (by assumption) | refine Hb.set (by first | omega | (simp only [size_alloc, size_setB, size_drew]; omega)) ?_ )))⟩
      · rintro ρ w1 ⟨c1, B1, b3, b4, b5, hFr, hM1, hS1w, hsz1, hb31, hb41, hb51⟩
        refine W_env _ hFr ?_
        have hz1 := hS1w.keep.sz
        have hblk1 := hM1.vs.blk
        have hcs1 := hM1.sz
        have hc_s1 := hM1.rep.s
        obtain ⟨_, _, hF1⟩ := hM1.openF hf
        have hf_self1 := hF1.self
        refine W_seq ?_
        refine W_seq ?_
        refine W_region rfl ?_
        refine WO_p (PS_move_ptr rfl) ?_
        refine WO_call Hvad.call49 (by rfl) (Ret.mono (opcode_spec C c1 y1 B1 m t f _ (MS.ext hM1 (by repeat (first | assumption | exact Ext.refl _ | refine Ext.alloc ?_ _ | refine Ext.drew ?_ | refine Ext.setB ?_ (by first | omega | (simp only [size_alloc, size_setB, size_drew]; omega)) _ | exact Ext.trans (by assumption) (by assumption) | refine Ext.trans ?_ (by assumption)))) hR hcl) ?_)
        rintro _ w49_22 ⟨hE49_22, rfl⟩
        have hz49_22 := hE49_22.1
        try simp only [size_alloc, size_setB, size_drew] at hz49_22
        try rw [hop]
        refine WO_p (PS_eql rfl rfl) ?_
        refine WO_nil ?_
        refine thn_normal ?_
        refine W_if rfl (fun hb25 => ?_) (fun hb25 => ?_)
        · have hb25p := hb25.h; try simp only [al_ete, al_dfn, Bool.not_eq_true', Bool.not_eq_false', al_ne, Bool.not_not, al_nn] at hb25p
          have hin : (1 : Int) ≤ f.sp ∧ f.sp - 1 + 1 ≤ 64 := by have h := hk; rw [show o = 84 from by omega] at h; exact h
          refine W_seq ?_
          refine W_region rfl ?_
          refine WO_p (PS_move_ptr rfl) ?_
          refine WO_p (PS_move_ptr rfl) ?_
          refine WO_loadA _ Hvad.isAgg59 Hvad.sizeOf59 rfl (Hb.h (by repeat (first | assumption | exact Hb.newY _ _ | refine Hb.alloc ?_ | refine Hb.drew ?_ | refine Hb.ext (by assumption) ?_ | exact Hb.setSameL (by first | omega | (simp only [size_alloc, size_setB, size_drew]; omega)) | exact Hb.setSame (by assumption) | refine Hb.set (by first | omega | (simp only [size_alloc, size_setB, size_drew]; omega)) ?_ ))) (by first | omega | assumption | rfl | decide | exact Nat.le_refl _ | (simp only [size_ic, Value.cells]; omega) | simp) (Xt.h (by first | assumption | exact Xt.whole rfl rfl | exact Xt.whole rfl (by simp only [size_ic, Value.cells]; omega) | exact ⟨rfl⟩)) ?_
          refine WO_call Hvad.call155 (by rfl) (Ret.mono (settle_spec C c1 y1 B1 m t f _ _ _ _ _ (MS.ext hM1 (by repeat (first | assumption | exact Ext.refl _ | refine Ext.alloc ?_ _ | refine Ext.drew ?_ | refine Ext.setB ?_ (by first | omega | (simp only [size_alloc, size_setB, size_drew]; omega)) _ | exact Ext.trans (by assumption) (by assumption) | refine Ext.trans ?_ (by assumption)))) hA (by omega) (by first | (intro _; omega) | (intro h; cases h)) hvw (by omega)) ?_)
          rintro _ wS hRS
          have hRS2 : MRet w C B m wS y1 _ := MRet.trans hS1w (MRet.pre (by repeat (first | assumption | exact Ext.refl _ | refine Ext.alloc ?_ _ | refine Ext.drew ?_ | refine Ext.setB ?_ (by first | omega | (simp only [size_alloc, size_setB, size_drew]; omega)) _ | exact Ext.trans (by assumption) (by assumption) | refine Ext.trans ?_ (by assumption))) hRS)
          refine WO_nil ?_
          refine thn_normal ?_
          refine W_ret ?_
          refine thn_ret ?_
          first | refine bodyQ_ret0 Hvad.results106 ?_ | refine bodyQ_end0 Hvad.results106 ?_
          exact ⟨y1, _, hRS2, (hI.settle hf (hrwL (by omega)) hP.gl.1 hP.gl.2.1 (Int.le_of_eq hP.gl.2.2.symm) (by omega) (by first | (intro _; omega) | (intro h; cases h)) (by omega) hc).2⟩
        · have hb25p := hb25.h; try simp only [al_ete, al_dfn, Bool.not_eq_true', Bool.not_eq_false', al_ne, Bool.not_not, al_nn] at hb25p
          have hin : (2 : Int) ≤ f.sp ∧ f.sp - 2 + 0 ≤ 64 := by have h := hk; rw [show o = 85 from by omega] at h; exact h
          refine W_skip ?_
          refine thn_normal ?_
          refine W_seq ?_
          refine W_region rfl ?_
          refine WO_p (PS_move_ptr rfl) ?_
          refine WO_p (PS_move_ptr rfl) ?_
          refine WO_call Hvad.call160 (by rfl) (Ret.mono (arg_spec C c1 y1 B1 m t f _ _ (MS.ext hM1 (by repeat (first | assumption | exact Ext.refl _ | refine Ext.alloc ?_ _ | refine Ext.drew ?_ | refine Ext.setB ?_ (by first | omega | (simp only [size_alloc, size_setB, size_drew]; omega)) _ | exact Ext.trans (by assumption) (by assumption) | refine Ext.trans ?_ (by assumption)))) hA (by omega)) ?_)
          rintro _ w160_26 ⟨hE160_26, rfl⟩
          have hz160_26 := hE160_26.1
          try simp only [size_alloc, size_setB, size_drew] at hz160_26
          refine WO_allocG Hvad.zeroValue59 ?_
          intro b7 v7 hg7 hE7 hH7 hl7
          try simp only [size_alloc, size_setB, size_drew] at hg7
          have hzz7 := hE7.1
          try simp only [size_alloc, size_setB, size_drew] at hzz7
          replace hH7 : Hb v7 b7 (.cells (ic .u64 [0, 0, 0, 0]) 59 (0, 0)) := hH7
          first | refine WO_storeW Hvad.sizeOf59 rfl (v := .agg _) rfl (Hb.h (by repeat (first | assumption | exact Hb.newY _ _ | refine Hb.alloc ?_ | refine Hb.drew ?_ | refine Hb.ext (by assumption) ?_ | exact Hb.setSameL (by first | omega | (simp only [size_alloc, size_setB, size_drew]; omega)) | exact Hb.setSame (by assumption) | refine Hb.set (by first | omega | (simp only [size_alloc, size_setB, size_drew]; omega)) ?_ ))) rfl (by first | omega | assumption | rfl | decide | exact Nat.le_refl _ | (simp only [size_ic, Value.cells]; omega) | simp) (by first | omega | assumption | rfl | decide | exact Nat.le_refl _ | (simp only [size_ic, Value.cells]; omega) | simp) (by first | exact oneCell_ic | assumption) ?_ | refine WO_store Hvad.sizeOf59 rfl (v := .agg _) rfl (Hb.h (by repeat (first | assumption | exact Hb.newY _ _ | refine Hb.alloc ?_ | refine Hb.drew ?_ | refine Hb.ext (by assumption) ?_ | exact Hb.setSameL (by first | omega | (simp only [size_alloc, size_setB, size_drew]; omega)) | exact Hb.setSame (by assumption) | refine Hb.set (by first | omega | (simp only [size_alloc, size_setB, size_drew]; omega)) ?_ ))) (by first | omega | assumption | rfl | decide | exact Nat.le_refl _ | (simp only [size_ic, Value.cells]; omega) | simp) (by first | omega | assumption | rfl | decide | exact Nat.le_refl _ | (simp only [size_ic, Value.cells]; omega) | simp) (by first | exact oneCell_ic | assumption) ?_
          refine WO_nil ?_
          refine thn_normal ?_
          refine W_seq ?_
          refine W_region rfl ?_
          refine WO_loadA _ Hvad.isAgg59 Hvad.sizeOf59 rfl (Hb.h (by repeat (first | assumption | exact Hb.newY _ _ | refine Hb.alloc ?_ | refine Hb.drew ?_ | refine Hb.ext (by assumption) ?_ | exact Hb.setSameL (by first | omega | (simp only [size_alloc, size_setB, size_drew]; omega)) | exact Hb.setSame (by assumption) | refine Hb.set (by first | omega | (simp only [size_alloc, size_setB, size_drew]; omega)) ?_ ))) (by first | omega | assumption | rfl | decide | exact Nat.le_refl _ | (simp only [size_ic, Value.cells]; omega) | simp) (Xt.h (by first | assumption | exact Xt.whole rfl rfl | exact Xt.whole rfl (by simp only [size_ic, Value.cells]; omega) | exact ⟨rfl⟩)) ?_
          refine WO_loadA _ Hvad.isAgg59 Hvad.sizeOf59 rfl (Hb.h (by repeat (first | assumption | exact Hb.newY _ _ | refine Hb.alloc ?_ | refine Hb.drew ?_ | refine Hb.ext (by assumption) ?_ | exact Hb.setSameL (by first | omega | (simp only [size_alloc, size_setB, size_drew]; omega)) | exact Hb.setSame (by assumption) | refine Hb.set (by first | omega | (simp only [size_alloc, size_setB, size_drew]; omega)) ?_ ))) (by first | omega | assumption | rfl | decide | exact Nat.le_refl _ | (simp only [size_ic, Value.cells]; omega) | simp) (Xt.h (by first | assumption | exact Xt.whole rfl rfl | exact Xt.whole rfl (by simp only [size_ic, Value.cells]; omega) | exact ⟨rfl⟩)) ?_
          refine WO_loadA _ Hvad.isAgg59 Hvad.sizeOf59 rfl (Hb.h (by repeat (first | assumption | exact Hb.newY _ _ | refine Hb.alloc ?_ | refine Hb.drew ?_ | refine Hb.ext (by assumption) ?_ | exact Hb.setSameL (by first | omega | (simp only [size_alloc, size_setB, size_drew]; omega)) | exact Hb.setSame (by assumption) | refine Hb.set (by first | omega | (simp only [size_alloc, size_setB, size_drew]; omega)) ?_ ))) (by first | omega | assumption | rfl | decide | exact Nat.le_refl _ | (simp only [size_ic, Value.cells]; omega) | simp) (Xt.h (by first | assumption | exact Xt.whole rfl rfl | exact Xt.whole rfl (by simp only [size_ic, Value.cells]; omega) | exact ⟨rfl⟩)) ?_
          refine WO_p (PS_move_bool rfl) ?_
          refine WO_p (PS_not rfl) ?_
          refine WO_call Hvad.call202 (by rfl) (Ret.mono (sstoreR_spec _ _ _ _ _ how hvw (hwdA 1)) ?_)
          rintro _ w202_29 ⟨hE202_29, rfl⟩
          have hz202_29 := hE202_29.1
          try simp only [size_alloc, size_setB, size_drew] at hz202_29
          rw [hrr]
          refine WO_p (PS_move_tuple rfl) ?_
          refine WO_p (PS_extract_int rfl rfl) ?_
          refine WO_p (PS_extract_int rfl rfl) ?_
          refine WO_p (PS_extract_int rfl rfl) ?_
          refine WO_p (PS_assign_int rfl) ?_
          refine WO_p (PS_assign_int rfl) ?_
          refine WO_p (PS_assign_int rfl) ?_
          refine WO_nil ?_
          refine thn_normal ?_
          refine W_seq ?_
          refine W_seq ?_
          refine W_drawT2 [false, false, false, false, false, false, false, false, false, false, false, false, false, false, true, false, false, false, false, false, false, false, false, false, false, false, true, false, false, false, false, false, false, false, false, false, false, false, false, false, false, false, false] (StS C t f b3 b4 b7 (m.argW f 0) (v.sval f.self (m.argW f 0)) (m.argW f 1)) hmix (by kernel_rfl) rfl (StS.of (MS.ext hM1 (by repeat (first | assumption | exact Ext.refl _ | refine Ext.alloc ?_ _ | refine Ext.drew ?_ | refine Ext.setB ?_ (by first | omega | (simp only [size_alloc, size_setB, size_drew]; omega)) _ | exact Ext.trans (by assumption) (by assumption) | refine Ext.trans ?_ (by assumption)))) hf (Hb.mk (Hb.h (by repeat (first | assumption | exact Hb.newY _ _ | refine Hb.alloc ?_ | refine Hb.drew ?_ | refine Hb.ext (by assumption) ?_ | exact Hb.setSameL (by first | omega | (simp only [size_alloc, size_setB, size_drew]; omega)) | exact Hb.setSame (by assumption) | refine Hb.set (by first | omega | (simp only [size_alloc, size_setB, size_drew]; omega)) ?_ )))) (Hb.mk (Hb.h (by repeat (first | assumption | exact Hb.newY _ _ | refine Hb.alloc ?_ | refine Hb.drew ?_ | refine Hb.ext (by assumption) ?_ | exact Hb.setSameL (by first | omega | (simp only [size_alloc, size_setB, size_drew]; omega)) | exact Hb.setSame (by assumption) | refine Hb.set (by first | omega | (simp only [size_alloc, size_setB, size_drew]; omega)) ?_ )))) (Hb.mk (Hb.h (by repeat (first | assumption | exact Hb.newY _ _ | refine Hb.alloc ?_ | refine Hb.drew ?_ | refine Hb.ext (by assumption) ?_ | exact Hb.setSameL (by first | omega | (simp only [size_alloc, size_setB, size_drew]; omega)) | exact Hb.setSame (by assumption) | refine Hb.set (by first | omega | (simp only [size_alloc, size_setB, size_drew]; omega)) ?_ ))))) ?_
          intro hSt1
          refine WH_loadA0 (ic .u64 (m.argW f 1)) Hvad.isAgg59 Hvad.sizeOf59 rfl (fun w' hS => word_at hS.h7 hl1) ?_
          refine WH_loadA0 (ic .u64 (v.sval f.self (m.argW f 0))) Hvad.isAgg59 Hvad.sizeOf59 rfl (fun w' hS => word_at hS.h4 hvwl) ?_
          refine WH_p (PS_neqA Hvad.underlying59 Hvad.underlying26 Hvad.sizeOf26 Hvad.eqGuardType59 rfl rfl (by first | omega | assumption | rfl | decide | exact Nat.le_refl _ | (simp only [size_ic, Value.cells]; omega) | simp) (by first | omega | assumption | rfl | decide | exact Nat.le_refl _ | (simp only [size_ic, Value.cells]; omega) | simp)) rfl ?_
          refine WH_p (PS_move_bool rfl) rfl ?_
          refine WH_if (t := 72) rfl (fun hb32 => ?_) (fun hb32 => ?_)
          · have hb32p := hb32.h; try simp only [al_ete, al_dfn, Bool.not_eq_true', Bool.not_eq_false', al_ne, Bool.not_not, al_nn] at hb32p
            have hne : ¬ m.argW f 1 = v.sval f.self (m.argW f 0) := by simpa using hb32p
            refine WH_guardT rfl rfl hb32.h ?_
            refine WH_p (PS_move_ptr rfl) rfl ?_
            refine WH_guardT rfl rfl hb32.h ?_
            refine WH_p (PS_nilCheck rfl) rfl ?_
            refine WH_guardT rfl rfl hb32.h ?_
            refine WH_p (PS_fieldAddr 0 Hvad.runUnderlying69 rfl Hvad.sizeOf53 rfl rfl) rfl ?_
            refine WH_guardT rfl rfl hb32.h ?_
            refine WH_load0 (.pointer (some ⟨C, 2435, none⟩)) Hvad.isAgg53 rfl (fun w' hS => by obtain ⟨c', k1, k2, k3, k4⟩ := hS.ch; exact ⟨_, _, _, k1.h, k3.h⟩) ?_
            refine WH_guardT rfl rfl hb32.h ?_
            refine WH_p (PS_move_ptr rfl) rfl ?_
            refine WH_guardT rfl rfl hb32.h ?_
            refine WH_p (PS_nilCheck rfl) rfl ?_
            refine WH_guardT rfl rfl hb32.h ?_
            refine WH_p (PS_fieldAddr 9 Hvad.runUnderlying65 rfl Hvad.sizeOf25 rfl rfl) rfl ?_
            refine WH_guardT rfl rfl hb32.h ?_
            refine WH_loadA0 (ic .u8 f.self) Hvad.isAgg25 Hvad.sizeOf25 rfl (fun w' hS => by obtain ⟨c', k1, k2, k3, k4⟩ := hS.ch; exact ⟨_, _, _, k1.h, by omega, k4.h⟩) ?_
            refine WH_guardT rfl rfl hb32.h ?_
            refine WH_loadA0 (ic .u64 (m.argW f 0)) Hvad.isAgg59 Hvad.sizeOf59 rfl (fun w' hS => word_at hS.h3 hl0) ?_
            refine WH_guardT rfl rfl hb32.h ?_
            refine WH_loadA0 (ic .u64 (m.argW f 1)) Hvad.isAgg59 Hvad.sizeOf59 rfl (fun w' hS => word_at hS.h7 hl1) ?_
            refine WH_guardT rfl rfl hb32.h ?_
            refine WH_call Hvad.call203 (by rfl) (Ret.mono (store_spec C c1 y1 B1 (bb m) _ _ _ _ (VS.ext (hM1).vs (by repeat (first | assumption | exact Ext.refl _ | refine Ext.alloc ?_ _ | refine Ext.drew ?_ | refine Ext.setB ?_ (by first | omega | (simp only [size_alloc, size_setB, size_drew]; omega)) _ | exact Ext.trans (by assumption) (by assumption) | refine Ext.trans ?_ (by assumption)))) hby (hwdA _) (hwdA _)) ?_)
            rintro _ w2 ⟨rfl, hR2⟩
            rw [hP.ne hne] at hR2 ⊢
            replace hR2 : VRet _ _ _ _ _ w2 y2 := hR2
            obtain ⟨c2, B2, hM2, hS2⟩ := MS.vret (MS.ext hM1 (by repeat (first | assumption | exact Ext.refl _ | refine Ext.alloc ?_ _ | refine Ext.drew ?_ | refine Ext.setB ?_ (by first | omega | (simp only [size_alloc, size_setB, size_drew]; omega)) _ | exact Ext.trans (by assumption) (by assumption) | refine Ext.trans ?_ (by assumption)))) hR2
            have hz2 := hS2.keep.sz
            try simp only [size_alloc, size_setB, size_drew] at hz2
            have hS2w := MStep.trans hS1w ((MStep.ext (by repeat (first | assumption | exact Ext.refl _ | refine Ext.alloc ?_ _ | refine Ext.drew ?_ | refine Ext.setB ?_ (by first | omega | (simp only [size_alloc, size_setB, size_drew]; omega)) _ | exact Ext.trans (by assumption) (by assumption) | refine Ext.trans ?_ (by assumption)))).trans hS2)
            have hSt2 : StS C t f b3 b4 b7 (m.argW f 0) (v.sval f.self (m.argW f 0)) (m.argW f 1) w2 := StS.of hM2 hf (hS2.hb hSt1.h3 (MS.no59 (MS.ext hM1 (by repeat (first | assumption | exact Ext.refl _ | refine Ext.alloc ?_ _ | refine Ext.drew ?_ | refine Ext.setB ?_ (by first | omega | (simp only [size_alloc, size_setB, size_drew]; omega)) _ | exact Ext.trans (by assumption) (by assumption) | refine Ext.trans ?_ (by assumption)))) hSt1.h3)) (hS2.hb hSt1.h4 (MS.no59 (MS.ext hM1 (by repeat (first | assumption | exact Ext.refl _ | refine Ext.alloc ?_ _ | refine Ext.drew ?_ | refine Ext.setB ?_ (by first | omega | (simp only [size_alloc, size_setB, size_drew]; omega)) _ | exact Ext.trans (by assumption) (by assumption) | refine Ext.trans ?_ (by assumption)))) hSt1.h4)) (hS2.hb hSt1.h7 (MS.no59 (MS.ext hM1 (by repeat (first | assumption | exact Ext.refl _ | refine Ext.alloc ?_ _ | refine Ext.drew ?_ | refine Ext.setB ?_ (by first | omega | (simp only [size_alloc, size_setB, size_drew]; omega)) _ | exact Ext.trans (by assumption) (by assumption) | refine Ext.trans ?_ (by assumption)))) hSt1.h7))
            refine ⟨fun _ => hSt2, ?_⟩
            refine WH_guardT rfl rfl hb32.h ?_
            refine WH_p (PS_not rfl) rfl ?_
            refine WH_p (PS_pickT rfl hb32.h rfl) rfl ?_
            refine WH_p (PS_move_bool rfl) rfl ?_
            refine WH_if (t := 86) rfl (fun hb36 => ?_) (fun hb36 => ?_)
            · have hb36p := hb36.h; try simp only [al_ete, al_dfn, Bool.not_eq_true', Bool.not_eq_false', al_ne, Bool.not_not, al_nn] at hb36p
              simp at hb36p --END
            · have hb36p := hb36.h; try simp only [al_ete, al_dfn, Bool.not_eq_true', Bool.not_eq_false', al_ne, Bool.not_not, al_nn] at hb36p
              refine WH_guardT rfl rfl hb36.h ?_
              refine WH_p (PS_move_int rfl) rfl ?_
              refine WH_guardT rfl rfl hb36.h ?_
              refine WH_p (PS_gtr rfl rfl) rfl ?_
              refine WH_guardT rfl rfl hb36.h ?_
              refine WH_p (PS_move_bool rfl) rfl ?_
              refine WH_if (t := 89) rfl (fun hb38 => ?_) (fun hb38 => ?_)
              · have hb38p := hb38.h; try simp only [al_ete, al_dfn, Bool.not_eq_true', Bool.not_eq_false', al_ne, Bool.not_not, al_nn] at hb38p
                have hdp : 0 < (rc, ru, rd).2.2 := by simpa using hb38p
                refine WH_guardT rfl rfl hb38.h ?_
                refine WH_p (PS_move_ptr rfl) rfl ?_
                refine WH_guardT rfl rfl hb38.h ?_
                refine WH_p (PS_nilCheck rfl) rfl ?_
                refine WH_guardT rfl rfl hb38.h ?_
                refine WH_p (PS_fieldAddr 0 Hvad.runUnderlying69 rfl Hvad.sizeOf53 rfl rfl) rfl ?_
                refine WH_guardT rfl rfl hb38.h ?_
                refine WH_load0 (.pointer (some ⟨C, 2435, none⟩)) Hvad.isAgg53 rfl (fun w' hS => by obtain ⟨c', k1, k2, k3, k4⟩ := hS.ch; exact ⟨_, _, _, k1.h, k3.h⟩) ?_
                refine WH_guardT rfl rfl hb38.h ?_
                refine WH_p (PS_move_int rfl) rfl ?_
                refine WH_guardT rfl rfl hb38.h ?_
                refine WH_call Hvad.call204 (by rfl) (Ret.mono (refDown_spec C c2 y2 B2 (bb m) _ _ (VS.ext (hM2).vs (by repeat (first | assumption | exact Ext.refl _ | refine Ext.alloc ?_ _ | refine Ext.drew ?_ | refine Ext.setB ?_ (by first | omega | (simp only [size_alloc, size_setB, size_drew]; omega)) _ | exact Ext.trans (by assumption) (by assumption) | refine Ext.trans ?_ (by assumption)))) ⟨by have := hbd.2.1.1; omega, by have := hbd.2.1.2; omega⟩) ?_)
                rintro _ w3 ⟨rfl, hR3⟩
                rw [hP.dp hdp] at hR3 ⊢
                replace hR3 : VRet _ _ _ _ _ w3 y3 := hR3
                obtain ⟨c3, B3, hM3, hS3⟩ := MS.vret (MS.ext hM2 (by repeat (first | assumption | exact Ext.refl _ | refine Ext.alloc ?_ _ | refine Ext.drew ?_ | refine Ext.setB ?_ (by first | omega | (simp only [size_alloc, size_setB, size_drew]; omega)) _ | exact Ext.trans (by assumption) (by assumption) | refine Ext.trans ?_ (by assumption)))) hR3
                have hz3 := hS3.keep.sz
                try simp only [size_alloc, size_setB, size_drew] at hz3
                have hS3w := MStep.trans hS2w ((MStep.ext (by repeat (first | assumption | exact Ext.refl _ | refine Ext.alloc ?_ _ | refine Ext.drew ?_ | refine Ext.setB ?_ (by first | omega | (simp only [size_alloc, size_setB, size_drew]; omega)) _ | exact Ext.trans (by assumption) (by assumption) | refine Ext.trans ?_ (by assumption)))).trans hS3)
                have hSt3 : StS C t f b3 b4 b7 (m.argW f 0) (v.sval f.self (m.argW f 0)) (m.argW f 1) w3 := StS.of hM3 hf (hS3.hb hSt2.h3 (MS.no59 (MS.ext hM2 (by repeat (first | assumption | exact Ext.refl _ | refine Ext.alloc ?_ _ | refine Ext.drew ?_ | refine Ext.setB ?_ (by first | omega | (simp only [size_alloc, size_setB, size_drew]; omega)) _ | exact Ext.trans (by assumption) (by assumption) | refine Ext.trans ?_ (by assumption)))) hSt2.h3)) (hS3.hb hSt2.h4 (MS.no59 (MS.ext hM2 (by repeat (first | assumption | exact Ext.refl _ | refine Ext.alloc ?_ _ | refine Ext.drew ?_ | refine Ext.setB ?_ (by first | omega | (simp only [size_alloc, size_setB, size_drew]; omega)) _ | exact Ext.trans (by assumption) (by assumption) | refine Ext.trans ?_ (by assumption)))) hSt2.h4)) (hS3.hb hSt2.h7 (MS.no59 (MS.ext hM2 (by repeat (first | assumption | exact Ext.refl _ | refine Ext.alloc ?_ _ | refine Ext.drew ?_ | refine Ext.setB ?_ (by first | omega | (simp only [size_alloc, size_setB, size_drew]; omega)) _ | exact Ext.trans (by assumption) (by assumption) | refine Ext.trans ?_ (by assumption)))) hSt2.h7))
                refine ⟨fun _ => hSt3, ?_⟩
                refine WH_guardT rfl rfl hb38.h ?_
                refine WH_p (PS_not rfl) rfl ?_
                refine WH_guardT rfl rfl hb36.h ?_
                refine WH_p (PS_pickT rfl hb38.h rfl) rfl ?_
                refine WH_p (PS_pickF rfl hb36.h rfl) rfl ?_
                refine WH_p (PS_move_bool rfl) rfl ?_
                refine WH_if (t := 99) rfl (fun hb42 => ?_) (fun hb42 => ?_)
                · have hb42p := hb42.h; try simp only [al_ete, al_dfn, Bool.not_eq_true', Bool.not_eq_false', al_ne, Bool.not_not, al_nn] at hb42p
                  simp at hb42p --END
                · have hb42p := hb42.h; try simp only [al_ete, al_dfn, Bool.not_eq_true', Bool.not_eq_false', al_ne, Bool.not_not, al_nn] at hb42p
                  refine WH_guardT rfl rfl hb42.h ?_
                  refine WH_p (PS_move_int rfl) rfl ?_
                  refine WH_guardT rfl rfl hb42.h ?_
                  refine WH_p (PS_gtr rfl rfl) rfl ?_
                  refine WH_guardT rfl rfl hb42.h ?_
                  refine WH_p (PS_move_bool rfl) rfl ?_
                  refine WH_if (t := 102) rfl (fun hb44 => ?_) (fun hb44 => ?_)
                  · have hb44p := hb44.h; try simp only [al_ete, al_dfn, Bool.not_eq_true', Bool.not_eq_false', al_ne, Bool.not_not, al_nn] at hb44p
                    have hup : 0 < (rc, ru, rd).2.1 := by simpa using hb44p
                    refine WH_guardT rfl rfl hb44.h ?_
                    refine WH_p (PS_move_ptr rfl) rfl ?_
                    refine WH_guardT rfl rfl hb44.h ?_
                    refine WH_p (PS_nilCheck rfl) rfl ?_
                    refine WH_guardT rfl rfl hb44.h ?_
                    refine WH_p (PS_fieldAddr 0 Hvad.runUnderlying69 rfl Hvad.sizeOf53 rfl rfl) rfl ?_
                    refine WH_guardT rfl rfl hb44.h ?_
                    refine WH_load0 (.pointer (some ⟨C, 2435, none⟩)) Hvad.isAgg53 rfl (fun w' hS => by obtain ⟨c', k1, k2, k3, k4⟩ := hS.ch; exact ⟨_, _, _, k1.h, k3.h⟩) ?_
                    refine WH_guardT rfl rfl hb44.h ?_
                    refine WH_p (PS_move_int rfl) rfl ?_
                    refine WH_guardT rfl rfl hb44.h ?_
                    refine WH_call Hvad.call205 (by rfl) (Ret.mono (refUp_spec C c3 y3 B3 (bb m) _ _ (VS.ext (hM3).vs (by repeat (first | assumption | exact Ext.refl _ | refine Ext.alloc ?_ _ | refine Ext.drew ?_ | refine Ext.setB ?_ (by first | omega | (simp only [size_alloc, size_setB, size_drew]; omega)) _ | exact Ext.trans (by assumption) (by assumption) | refine Ext.trans ?_ (by assumption)))) ⟨by have := hbd.1.1; omega, by have := hbd.1.2; omega⟩) ?_)
                    rintro _ w4 ⟨rfl, hR4⟩
                    rw [hP.up hup] at hR4 ⊢
                    replace hR4 : VRet _ _ _ _ _ w4 y4 := hR4
                    obtain ⟨c4, B4, hM4, hS4⟩ := MS.vret (MS.ext hM3 (by repeat (first | assumption | exact Ext.refl _ | refine Ext.alloc ?_ _ | refine Ext.drew ?_ | refine Ext.setB ?_ (by first | omega | (simp only [size_alloc, size_setB, size_drew]; omega)) _ | exact Ext.trans (by assumption) (by assumption) | refine Ext.trans ?_ (by assumption)))) hR4
                    have hz4 := hS4.keep.sz
                    try simp only [size_alloc, size_setB, size_drew] at hz4
                    have hS4w := MStep.trans hS3w ((MStep.ext (by repeat (first | assumption | exact Ext.refl _ | refine Ext.alloc ?_ _ | refine Ext.drew ?_ | refine Ext.setB ?_ (by first | omega | (simp only [size_alloc, size_setB, size_drew]; omega)) _ | exact Ext.trans (by assumption) (by assumption) | refine Ext.trans ?_ (by assumption)))).trans hS4)
                    have hSt4 : StS C t f b3 b4 b7 (m.argW f 0) (v.sval f.self (m.argW f 0)) (m.argW f 1) w4 := StS.of hM4 hf (hS4.hb hSt3.h3 (MS.no59 (MS.ext hM3 (by repeat (first | assumption | exact Ext.refl _ | refine Ext.alloc ?_ _ | refine Ext.drew ?_ | refine Ext.setB ?_ (by first | omega | (simp only [size_alloc, size_setB, size_drew]; omega)) _ | exact Ext.trans (by assumption) (by assumption) | refine Ext.trans ?_ (by assumption)))) hSt3.h3)) (hS4.hb hSt3.h4 (MS.no59 (MS.ext hM3 (by repeat (first | assumption | exact Ext.refl _ | refine Ext.alloc ?_ _ | refine Ext.drew ?_ | refine Ext.setB ?_ (by first | omega | (simp only [size_alloc, size_setB, size_drew]; omega)) _ | exact Ext.trans (by assumption) (by assumption) | refine Ext.trans ?_ (by assumption)))) hSt3.h4)) (hS4.hb hSt3.h7 (MS.no59 (MS.ext hM3 (by repeat (first | assumption | exact Ext.refl _ | refine Ext.alloc ?_ _ | refine Ext.drew ?_ | refine Ext.setB ?_ (by first | omega | (simp only [size_alloc, size_setB, size_drew]; omega)) _ | exact Ext.trans (by assumption) (by assumption) | refine Ext.trans ?_ (by assumption)))) hSt3.h7))
                    refine ⟨(fun h => by cases h), ?_⟩
                    refine WH_guardT rfl rfl hb44.h ?_
                    refine WH_p (PS_not rfl) rfl ?_
                    refine WH_guardT rfl rfl hb42.h ?_
                    refine WH_p (PS_pickT rfl hb44.h rfl) rfl ?_
                    refine WH_p (PS_pickF rfl hb42.h rfl) rfl ?_
                    refine WH_nil ?_
                    refine thn_normal ?_
                    refine W_if rfl (fun hb48 => ?_) (fun hb48 => ?_)
                    · have hb48p := hb48.h; try simp only [al_ete, al_dfn, Bool.not_eq_true', Bool.not_eq_false', al_ne, Bool.not_not, al_nn] at hb48p
                      simp at hb48p --END
                    · have hb48p := hb48.h; try simp only [al_ete, al_dfn, Bool.not_eq_true', Bool.not_eq_false', al_ne, Bool.not_not, al_nn] at hb48p
                      refine W_skip ?_
                      refine thn_normal ?_
                      refine W_region rfl ?_
                      refine WO_p (PS_move_ptr rfl) ?_
                      refine WO_p (PS_move_ptr rfl) ?_
                      refine WO_p (PS_buildI (k := .u64) (zs := [0, 0, 0, 0]) (ps := []) (L := [0, 0, 0, 0]) Hvad.zeroValue59 Hvad.runUnderlying59 Hvad.sizeOf26 rfl rfl rfl rfl) ?_
                      refine WO_call Hvad.call155 (by rfl) (Ret.mono (settle_spec C c4 y4 B4 m t f _ _ _ _ _ (MS.ext hM4 (by repeat (first | assumption | exact Ext.refl _ | refine Ext.alloc ?_ _ | refine Ext.drew ?_ | refine Ext.setB ?_ (by first | omega | (simp only [size_alloc, size_setB, size_drew]; omega)) _ | exact Ext.trans (by assumption) (by assumption) | refine Ext.trans ?_ (by assumption)))) hA (by omega) (by first | (intro _; omega) | (intro h; cases h)) Wd0 (by omega)) ?_)
                      rintro _ wS hRS
                      have hRS2 : MRet w C B m wS y4 _ := MRet.trans hS4w (MRet.pre (by repeat (first | assumption | exact Ext.refl _ | refine Ext.alloc ?_ _ | refine Ext.drew ?_ | refine Ext.setB ?_ (by first | omega | (simp only [size_alloc, size_setB, size_drew]; omega)) _ | exact Ext.trans (by assumption) (by assumption) | refine Ext.trans ?_ (by assumption))) hRS)
                      refine WO_nil ?_
                      first | refine bodyQ_ret0 Hvad.results106 ?_ | refine bodyQ_end0 Hvad.results106 ?_
                      exact ⟨y4, _, hRS2, (hI.settle hf (hrwS (by omega)) hP.g4.1 hP.g4.2.1 (Int.le_of_eq hP.g4.2.2.symm) (by omega) (by first | (intro _; omega) | (intro h; cases h)) (by omega) hc).2⟩
                  · have hb44p := hb44.h; try simp only [al_ete, al_dfn, Bool.not_eq_true', Bool.not_eq_false', al_ne, Bool.not_not, al_nn] at hb44p
                    have hu0 : ¬ 0 < (rc, ru, rd).2.1 := by simpa using hb44p
                    have hM4 := hM3
                    rw [← hP.u0 hu0] at hM4
                    refine WH_guardF rfl rfl hb44.h ?_
                    refine WH_guardF rfl rfl hb44.h ?_
                    refine WH_guardF rfl rfl hb44.h ?_
                    refine WH_guardF rfl rfl hb44.h ?_
                    refine WH_guardF rfl rfl hb44.h ?_
                    refine WH_guardF rfl rfl hb44.h ?_
                    refine WH_guardF rfl rfl hb44.h ?_
                    refine WH_guardT rfl rfl hb42.h ?_
                    refine WH_p (PS_pickF rfl hb44.h rfl) rfl ?_
                    refine WH_p (PS_pickF rfl hb42.h rfl) rfl ?_
                    refine WH_nil ?_
                    refine thn_normal ?_
                    refine W_condF rfl rfl ?_
                    refine W_skip ?_
                    refine thn_normal ?_
                    refine W_region rfl ?_
                    refine WO_p (PS_move_ptr rfl) ?_
                    refine WO_p (PS_move_ptr rfl) ?_
                    refine WO_p (PS_buildI (k := .u64) (zs := [0, 0, 0, 0]) (ps := []) (L := [0, 0, 0, 0]) Hvad.zeroValue59 Hvad.runUnderlying59 Hvad.sizeOf26 rfl rfl rfl rfl) ?_
                    refine WO_call Hvad.call155 (by rfl) (Ret.mono (settle_spec C c3 y4 B3 m t f _ _ _ _ _ (MS.ext hM4 (by repeat (first | assumption | exact Ext.refl _ | refine Ext.alloc ?_ _ | refine Ext.drew ?_ | refine Ext.setB ?_ (by first | omega | (simp only [size_alloc, size_setB, size_drew]; omega)) _ | exact Ext.trans (by assumption) (by assumption) | refine Ext.trans ?_ (by assumption)))) hA (by omega) (by first | (intro _; omega) | (intro h; cases h)) Wd0 (by omega)) ?_)
                    rintro _ wS hRS
                    have hRS2 : MRet w C B m wS y4 _ := MRet.trans hS3w (MRet.pre (by repeat (first | assumption | exact Ext.refl _ | refine Ext.alloc ?_ _ | refine Ext.drew ?_ | refine Ext.setB ?_ (by first | omega | (simp only [size_alloc, size_setB, size_drew]; omega)) _ | exact Ext.trans (by assumption) (by assumption) | refine Ext.trans ?_ (by assumption))) hRS)
                    refine WO_nil ?_
                    first | refine bodyQ_ret0 Hvad.results106 ?_ | refine bodyQ_end0 Hvad.results106 ?_
                    exact ⟨y4, _, hRS2, (hI.settle hf (hrwS (by omega)) hP.g4.1 hP.g4.2.1 (Int.le_of_eq hP.g4.2.2.symm) (by omega) (by first | (intro _; omega) | (intro h; cases h)) (by omega) hc).2⟩
              · have hb38p := hb38.h; try simp only [al_ete, al_dfn, Bool.not_eq_true', Bool.not_eq_false', al_ne, Bool.not_not, al_nn] at hb38p
                have hd0 : ¬ 0 < (rc, ru, rd).2.2 := by simpa using hb38p
                have hM3 := hM2
                rw [← hP.d0 hd0] at hM3
                refine WH_guardF rfl rfl hb38.h ?_
                refine WH_guardF rfl rfl hb38.h ?_
                refine WH_guardF rfl rfl hb38.h ?_
                refine WH_guardF rfl rfl hb38.h ?_
                refine WH_guardF rfl rfl hb38.h ?_
                refine WH_guardF rfl rfl hb38.h ?_
                refine WH_guardF rfl rfl hb38.h ?_
                refine WH_guardT rfl rfl hb36.h ?_
                refine WH_p (PS_pickF rfl hb38.h rfl) rfl ?_
                refine WH_p (PS_pickF rfl hb36.h rfl) rfl ?_
                refine WH_p (PS_move_bool rfl) rfl ?_
                refine WH_guardT rfl rfl rfl ?_
                refine WH_p (PS_move_int rfl) rfl ?_
                refine WH_guardT rfl rfl rfl ?_
                refine WH_p (PS_gtr rfl rfl) rfl ?_
                refine WH_guardT rfl rfl rfl ?_
                refine WH_p (PS_move_bool rfl) rfl ?_
                refine WH_if (t := 102) rfl (fun hb52 => ?_) (fun hb52 => ?_)
                · have hb52p := hb52.h; try simp only [al_ete, al_dfn, Bool.not_eq_true', Bool.not_eq_false', al_ne, Bool.not_not, al_nn] at hb52p
                  have hup : 0 < (rc, ru, rd).2.1 := by simpa using hb52p
                  refine WH_guardT rfl rfl hb52.h ?_
                  refine WH_p (PS_move_ptr rfl) rfl ?_
                  refine WH_guardT rfl rfl hb52.h ?_
                  refine WH_p (PS_nilCheck rfl) rfl ?_
                  refine WH_guardT rfl rfl hb52.h ?_
                  refine WH_p (PS_fieldAddr 0 Hvad.runUnderlying69 rfl Hvad.sizeOf53 rfl rfl) rfl ?_
                  refine WH_guardT rfl rfl hb52.h ?_
                  refine WH_load0 (.pointer (some ⟨C, 2435, none⟩)) Hvad.isAgg53 rfl (fun w' hS => by obtain ⟨c', k1, k2, k3, k4⟩ := hS.ch; exact ⟨_, _, _, k1.h, k3.h⟩) ?_
                  refine WH_guardT rfl rfl hb52.h ?_
                  refine WH_p (PS_move_int rfl) rfl ?_
                  refine WH_guardT rfl rfl hb52.h ?_
                  refine WH_call Hvad.call205 (by rfl) (Ret.mono (refUp_spec C c2 y3 B2 (bb m) _ _ (VS.ext (hM3).vs (by repeat (first | assumption | exact Ext.refl _ | refine Ext.alloc ?_ _ | refine Ext.drew ?_ | refine Ext.setB ?_ (by first | omega | (simp only [size_alloc, size_setB, size_drew]; omega)) _ | exact Ext.trans (by assumption) (by assumption) | refine Ext.trans ?_ (by assumption)))) ⟨by have := hbd.1.1; omega, by have := hbd.1.2; omega⟩) ?_)
                  rintro _ w4 ⟨rfl, hR4⟩
                  rw [hP.up hup] at hR4 ⊢
                  replace hR4 : VRet _ _ _ _ _ w4 y4 := hR4
                  obtain ⟨c4, B4, hM4, hS4⟩ := MS.vret (MS.ext hM3 (by repeat (first | assumption | exact Ext.refl _ | refine Ext.alloc ?_ _ | refine Ext.drew ?_ | refine Ext.setB ?_ (by first | omega | (simp only [size_alloc, size_setB, size_drew]; omega)) _ | exact Ext.trans (by assumption) (by assumption) | refine Ext.trans ?_ (by assumption)))) hR4
                  have hz4 := hS4.keep.sz
                  try simp only [size_alloc, size_setB, size_drew] at hz4
                  have hS4w := MStep.trans hS2w ((MStep.ext (by repeat (first | assumption | exact Ext.refl _ | refine Ext.alloc ?_ _ | refine Ext.drew ?_ | refine Ext.setB ?_ (by first | omega | (simp only [size_alloc, size_setB, size_drew]; omega)) _ | exact Ext.trans (by assumption) (by assumption) | refine Ext.trans ?_ (by assumption)))).trans hS4)
                  have hSt4 : StS C t f b3 b4 b7 (m.argW f 0) (v.sval f.self (m.argW f 0)) (m.argW f 1) w4 := StS.of hM4 hf (hS4.hb hSt2.h3 (MS.no59 (MS.ext hM3 (by repeat (first | assumption | exact Ext.refl _ | refine Ext.alloc ?_ _ | refine Ext.drew ?_ | refine Ext.setB ?_ (by first | omega | (simp only [size_alloc, size_setB, size_drew]; omega)) _ | exact Ext.trans (by assumption) (by assumption) | refine Ext.trans ?_ (by assumption)))) hSt2.h3)) (hS4.hb hSt2.h4 (MS.no59 (MS.ext hM3 (by repeat (first | assumption | exact Ext.refl _ | refine Ext.alloc ?_ _ | refine Ext.drew ?_ | refine Ext.setB ?_ (by first | omega | (simp only [size_alloc, size_setB, size_drew]; omega)) _ | exact Ext.trans (by assumption) (by assumption) | refine Ext.trans ?_ (by assumption)))) hSt2.h4)) (hS4.hb hSt2.h7 (MS.no59 (MS.ext hM3 (by repeat (first | assumption | exact Ext.refl _ | refine Ext.alloc ?_ _ | refine Ext.drew ?_ | refine Ext.setB ?_ (by first | omega | (simp only [size_alloc, size_setB, size_drew]; omega)) _ | exact Ext.trans (by assumption) (by assumption) | refine Ext.trans ?_ (by assumption)))) hSt2.h7))
                  refine ⟨(fun h => by cases h), ?_⟩
                  refine WH_guardT rfl rfl hb52.h ?_
                  refine WH_p (PS_not rfl) rfl ?_
                  refine WH_guardT rfl rfl rfl ?_
                  refine WH_p (PS_pickT rfl hb52.h rfl) rfl ?_
                  refine WH_p (PS_pickF rfl rfl rfl) rfl ?_
                  refine WH_nil ?_
                  refine thn_normal ?_
                  refine W_if rfl (fun hb56 => ?_) (fun hb56 => ?_)
                  · have hb56p := hb56.h; try simp only [al_ete, al_dfn, Bool.not_eq_true', Bool.not_eq_false', al_ne, Bool.not_not, al_nn] at hb56p
                    simp at hb56p --END
                  · have hb56p := hb56.h; try simp only [al_ete, al_dfn, Bool.not_eq_true', Bool.not_eq_false', al_ne, Bool.not_not, al_nn] at hb56p
                    refine W_skip ?_
                    refine thn_normal ?_
                    refine W_region rfl ?_
                    refine WO_p (PS_move_ptr rfl) ?_
                    refine WO_p (PS_move_ptr rfl) ?_
                    refine WO_p (PS_buildI (k := .u64) (zs := [0, 0, 0, 0]) (ps := []) (L := [0, 0, 0, 0]) Hvad.zeroValue59 Hvad.runUnderlying59 Hvad.sizeOf26 rfl rfl rfl rfl) ?_
                    refine WO_call Hvad.call155 (by rfl) (Ret.mono (settle_spec C c4 y4 B4 m t f _ _ _ _ _ (MS.ext hM4 (by repeat (first | assumption | exact Ext.refl _ | refine Ext.alloc ?_ _ | refine Ext.drew ?_ | refine Ext.setB ?_ (by first | omega | (simp only [size_alloc, size_setB, size_drew]; omega)) _ | exact Ext.trans (by assumption) (by assumption) | refine Ext.trans ?_ (by assumption)))) hA (by omega) (by first | (intro _; omega) | (intro h; cases h)) Wd0 (by omega)) ?_)
                    rintro _ wS hRS
                    have hRS2 : MRet w C B m wS y4 _ := MRet.trans hS4w (MRet.pre (by repeat (first | assumption | exact Ext.refl _ | refine Ext.alloc ?_ _ | refine Ext.drew ?_ | refine Ext.setB ?_ (by first | omega | (simp only [size_alloc, size_setB, size_drew]; omega)) _ | exact Ext.trans (by assumption) (by assumption) | refine Ext.trans ?_ (by assumption))) hRS)
                    refine WO_nil ?_
                    first | refine bodyQ_ret0 Hvad.results106 ?_ | refine bodyQ_end0 Hvad.results106 ?_
                    exact ⟨y4, _, hRS2, (hI.settle hf (hrwS (by omega)) hP.g4.1 hP.g4.2.1 (Int.le_of_eq hP.g4.2.2.symm) (by omega) (by first | (intro _; omega) | (intro h; cases h)) (by omega) hc).2⟩
                · have hb52p := hb52.h; try simp only [al_ete, al_dfn, Bool.not_eq_true', Bool.not_eq_false', al_ne, Bool.not_not, al_nn] at hb52p
                  have hu0 : ¬ 0 < (rc, ru, rd).2.1 := by simpa using hb52p
                  have hM4 := hM3
                  rw [← hP.u0 hu0] at hM4
                  refine WH_guardF rfl rfl hb52.h ?_
                  refine WH_guardF rfl rfl hb52.h ?_
                  refine WH_guardF rfl rfl hb52.h ?_
                  refine WH_guardF rfl rfl hb52.h ?_
                  refine WH_guardF rfl rfl hb52.h ?_
                  refine WH_guardF rfl rfl hb52.h ?_
                  refine WH_guardF rfl rfl hb52.h ?_
                  refine WH_guardT rfl rfl rfl ?_
                  refine WH_p (PS_pickF rfl hb52.h rfl) rfl ?_
                  refine WH_p (PS_pickF rfl rfl rfl) rfl ?_
                  refine WH_nil ?_
                  refine thn_normal ?_
                  refine W_condF rfl rfl ?_
                  refine W_skip ?_
                  refine thn_normal ?_
                  refine W_region rfl ?_
                  refine WO_p (PS_move_ptr rfl) ?_
                  refine WO_p (PS_move_ptr rfl) ?_
                  refine WO_p (PS_buildI (k := .u64) (zs := [0, 0, 0, 0]) (ps := []) (L := [0, 0, 0, 0]) Hvad.zeroValue59 Hvad.runUnderlying59 Hvad.sizeOf26 rfl rfl rfl rfl) ?_
                  refine WO_call Hvad.call155 (by rfl) (Ret.mono (settle_spec C c2 y4 B2 m t f _ _ _ _ _ (MS.ext hM4 (by repeat (first | assumption | exact Ext.refl _ | refine Ext.alloc ?_ _ | refine Ext.drew ?_ | refine Ext.setB ?_ (by first | omega | (simp only [size_alloc, size_setB, size_drew]; omega)) _ | exact Ext.trans (by assumption) (by assumption) | refine Ext.trans ?_ (by assumption)))) hA (by omega) (by first | (intro _; omega) | (intro h; cases h)) Wd0 (by omega)) ?_)
                  rintro _ wS hRS
                  have hRS2 : MRet w C B m wS y4 _ := MRet.trans hS2w (MRet.pre (by repeat (first | assumption | exact Ext.refl _ | refine Ext.alloc ?_ _ | refine Ext.drew ?_ | refine Ext.setB ?_ (by first | omega | (simp only [size_alloc, size_setB, size_drew]; omega)) _ | exact Ext.trans (by assumption) (by assumption) | refine Ext.trans ?_ (by assumption))) hRS)
                  refine WO_nil ?_
                  first | refine bodyQ_ret0 Hvad.results106 ?_ | refine bodyQ_end0 Hvad.results106 ?_
                  exact ⟨y4, _, hRS2, (hI.settle hf (hrwS (by omega)) hP.g4.1 hP.g4.2.1 (Int.le_of_eq hP.g4.2.2.symm) (by omega) (by first | (intro _; omega) | (intro h; cases h)) (by omega) hc).2⟩
          · have hb32p := hb32.h; try simp only [al_ete, al_dfn, Bool.not_eq_true', Bool.not_eq_false', al_ne, Bool.not_not, al_nn] at hb32p
            have heq : m.argW f 1 = v.sval f.self (m.argW f 0) := by simpa using hb32p
            have hM2 := hM1
            rw [← hP.eqY heq] at hM2
            refine WH_guardF rfl rfl hb32.h ?_
            refine WH_guardF rfl rfl hb32.h ?_
            refine WH_guardF rfl rfl hb32.h ?_
            refine WH_guardF rfl rfl hb32.h ?_
            refine WH_guardF rfl rfl hb32.h ?_
            refine WH_guardF rfl rfl hb32.h ?_
            refine WH_guardF rfl rfl hb32.h ?_
            refine WH_guardF rfl rfl hb32.h ?_
            refine WH_guardF rfl rfl hb32.h ?_
            refine WH_guardF rfl rfl hb32.h ?_
            refine WH_guardF rfl rfl hb32.h ?_
            refine WH_guardF rfl rfl hb32.h ?_
            refine WH_p (PS_pickF rfl hb32.h rfl) rfl ?_
            refine WH_p (PS_move_bool rfl) rfl ?_
            refine WH_guardT rfl rfl rfl ?_
            refine WH_p (PS_move_int rfl) rfl ?_
            refine WH_guardT rfl rfl rfl ?_
            refine WH_p (PS_gtr rfl rfl) rfl ?_
            refine WH_guardT rfl rfl rfl ?_
            refine WH_p (PS_move_bool rfl) rfl ?_
            refine WH_if (t := 89) rfl (fun hb60 => ?_) (fun hb60 => ?_)
            · have hb60p := hb60.h; try simp only [al_ete, al_dfn, Bool.not_eq_true', Bool.not_eq_false', al_ne, Bool.not_not, al_nn] at hb60p
              have hdp : 0 < (rc, ru, rd).2.2 := by simpa using hb60p
              refine WH_guardT rfl rfl hb60.h ?_
              refine WH_p (PS_move_ptr rfl) rfl ?_
              refine WH_guardT rfl rfl hb60.h ?_
              refine WH_p (PS_nilCheck rfl) rfl ?_
              refine WH_guardT rfl rfl hb60.h ?_
              refine WH_p (PS_fieldAddr 0 Hvad.runUnderlying69 rfl Hvad.sizeOf53 rfl rfl) rfl ?_
              refine WH_guardT rfl rfl hb60.h ?_
              refine WH_load0 (.pointer (some ⟨C, 2435, none⟩)) Hvad.isAgg53 rfl (fun w' hS => by obtain ⟨c', k1, k2, k3, k4⟩ := hS.ch; exact ⟨_, _, _, k1.h, k3.h⟩) ?_
              refine WH_guardT rfl rfl hb60.h ?_
              refine WH_p (PS_move_int rfl) rfl ?_
              refine WH_guardT rfl rfl hb60.h ?_
              refine WH_call Hvad.call204 (by rfl) (Ret.mono (refDown_spec C c1 y2 B1 (bb m) _ _ (VS.ext (hM2).vs (by repeat (first | assumption | exact Ext.refl _ | refine Ext.alloc ?_ _ | refine Ext.drew ?_ | refine Ext.setB ?_ (by first | omega | (simp only [size_alloc, size_setB, size_drew]; omega)) _ | exact Ext.trans (by assumption) (by assumption) | refine Ext.trans ?_ (by assumption)))) ⟨by have := hbd.2.1.1; omega, by have := hbd.2.1.2; omega⟩) ?_)
              rintro _ w3 ⟨rfl, hR3⟩
              rw [hP.dp hdp] at hR3 ⊢
              replace hR3 : VRet _ _ _ _ _ w3 y3 := hR3
              obtain ⟨c3, B3, hM3, hS3⟩ := MS.vret (MS.ext hM2 (by repeat (first | assumption | exact Ext.refl _ | refine Ext.alloc ?_ _ | refine Ext.drew ?_ | refine Ext.setB ?_ (by first | omega | (simp only [size_alloc, size_setB, size_drew]; omega)) _ | exact Ext.trans (by assumption) (by assumption) | refine Ext.trans ?_ (by assumption)))) hR3
              have hz3 := hS3.keep.sz
              try simp only [size_alloc, size_setB, size_drew] at hz3
              have hS3w := MStep.trans hS1w ((MStep.ext (by repeat (first | assumption | exact Ext.refl _ | refine Ext.alloc ?_ _ | refine Ext.drew ?_ | refine Ext.setB ?_ (by first | omega | (simp only [size_alloc, size_setB, size_drew]; omega)) _ | exact Ext.trans (by assumption) (by assumption) | refine Ext.trans ?_ (by assumption)))).trans hS3)
              have hSt3 : StS C t f b3 b4 b7 (m.argW f 0) (v.sval f.self (m.argW f 0)) (m.argW f 1) w3 := StS.of hM3 hf (hS3.hb hSt1.h3 (MS.no59 (MS.ext hM2 (by repeat (first | assumption | exact Ext.refl _ | refine Ext.alloc ?_ _ | refine Ext.drew ?_ | refine Ext.setB ?_ (by first | omega | (simp only [size_alloc, size_setB, size_drew]; omega)) _ | exact Ext.trans (by assumption) (by assumption) | refine Ext.trans ?_ (by assumption)))) hSt1.h3)) (hS3.hb hSt1.h4 (MS.no59 (MS.ext hM2 (by repeat (first | assumption | exact Ext.refl _ | refine Ext.alloc ?_ _ | refine Ext.drew ?_ | refine Ext.setB ?_ (by first | omega | (simp only [size_alloc, size_setB, size_drew]; omega)) _ | exact Ext.trans (by assumption) (by assumption) | refine Ext.trans ?_ (by assumption)))) hSt1.h4)) (hS3.hb hSt1.h7 (MS.no59 (MS.ext hM2 (by repeat (first | assumption | exact Ext.refl _ | refine Ext.alloc ?_ _ | refine Ext.drew ?_ | refine Ext.setB ?_ (by first | omega | (simp only [size_alloc, size_setB, size_drew]; omega)) _ | exact Ext.trans (by assumption) (by assumption) | refine Ext.trans ?_ (by assumption)))) hSt1.h7))
              refine ⟨fun _ => hSt3, ?_⟩
              refine WH_guardT rfl rfl hb60.h ?_
              refine WH_p (PS_not rfl) rfl ?_
              refine WH_guardT rfl rfl rfl ?_
              refine WH_p (PS_pickT rfl hb60.h rfl) rfl ?_
              refine WH_p (PS_pickF rfl rfl rfl) rfl ?_
              refine WH_p (PS_move_bool rfl) rfl ?_
              refine WH_if (t := 99) rfl (fun hb64 => ?_) (fun hb64 => ?_)
              · have hb64p := hb64.h; try simp only [al_ete, al_dfn, Bool.not_eq_true', Bool.not_eq_false', al_ne, Bool.not_not, al_nn] at hb64p
                simp at hb64p --END
              · have hb64p := hb64.h; try simp only [al_ete, al_dfn, Bool.not_eq_true', Bool.not_eq_false', al_ne, Bool.not_not, al_nn] at hb64p
                refine WH_guardT rfl rfl hb64.h ?_
                refine WH_p (PS_move_int rfl) rfl ?_
                refine WH_guardT rfl rfl hb64.h ?_
                refine WH_p (PS_gtr rfl rfl) rfl ?_
                refine WH_guardT rfl rfl hb64.h ?_
                refine WH_p (PS_move_bool rfl) rfl ?_
                refine WH_if (t := 102) rfl (fun hb66 => ?_) (fun hb66 => ?_)
                · have hb66p := hb66.h; try simp only [al_ete, al_dfn, Bool.not_eq_true', Bool.not_eq_false', al_ne, Bool.not_not, al_nn] at hb66p
                  have hup : 0 < (rc, ru, rd).2.1 := by simpa using hb66p
                  refine WH_guardT rfl rfl hb66.h ?_
                  refine WH_p (PS_move_ptr rfl) rfl ?_
                  refine WH_guardT rfl rfl hb66.h ?_
                  refine WH_p (PS_nilCheck rfl) rfl ?_
                  refine WH_guardT rfl rfl hb66.h ?_
                  refine WH_p (PS_fieldAddr 0 Hvad.runUnderlying69 rfl Hvad.sizeOf53 rfl rfl) rfl ?_
                  refine WH_guardT rfl rfl hb66.h ?_
                  refine WH_load0 (.pointer (some ⟨C, 2435, none⟩)) Hvad.isAgg53 rfl (fun w' hS => by obtain ⟨c', k1, k2, k3, k4⟩ := hS.ch; exact ⟨_, _, _, k1.h, k3.h⟩) ?_
                  refine WH_guardT rfl rfl hb66.h ?_
                  refine WH_p (PS_move_int rfl) rfl ?_
                  refine WH_guardT rfl rfl hb66.h ?_
                  refine WH_call Hvad.call205 (by rfl) (Ret.mono (refUp_spec C c3 y3 B3 (bb m) _ _ (VS.ext (hM3).vs (by repeat (first | assumption | exact Ext.refl _ | refine Ext.alloc ?_ _ | refine Ext.drew ?_ | refine Ext.setB ?_ (by first | omega | (simp only [size_alloc, size_setB, size_drew]; omega)) _ | exact Ext.trans (by assumption) (by assumption) | refine Ext.trans ?_ (by assumption)))) ⟨by have := hbd.1.1; omega, by have := hbd.1.2; omega⟩) ?_)
                  rintro _ w4 ⟨rfl, hR4⟩
                  rw [hP.up hup] at hR4 ⊢
                  replace hR4 : VRet _ _ _ _ _ w4 y4 := hR4
                  obtain ⟨c4, B4, hM4, hS4⟩ := MS.vret (MS.ext hM3 (by repeat (first | assumption | exact Ext.refl _ | refine Ext.alloc ?_ _ | refine Ext.drew ?_ | refine Ext.setB ?_ (by first | omega | (simp only [size_alloc, size_setB, size_drew]; omega)) _ | exact Ext.trans (by assumption) (by assumption) | refine Ext.trans ?_ (by assumption)))) hR4
                  have hz4 := hS4.keep.sz
                  try simp only [size_alloc, size_setB, size_drew] at hz4
                  have hS4w := MStep.trans hS3w ((MStep.ext (by repeat (first | assumption | exact Ext.refl _ | refine Ext.alloc ?_ _ | refine Ext.drew ?_ | refine Ext.setB ?_ (by first | omega | (simp only [size_alloc, size_setB, size_drew]; omega)) _ | exact Ext.trans (by assumption) (by assumption) | refine Ext.trans ?_ (by assumption)))).trans hS4)
                  have hSt4 : StS C t f b3 b4 b7 (m.argW f 0) (v.sval f.self (m.argW f 0)) (m.argW f 1) w4 := StS.of hM4 hf (hS4.hb hSt3.h3 (MS.no59 (MS.ext hM3 (by repeat (first | assumption | exact Ext.refl _ | refine Ext.alloc ?_ _ | refine Ext.drew ?_ | refine Ext.setB ?_ (by first | omega | (simp only [size_alloc, size_setB, size_drew]; omega)) _ | exact Ext.trans (by assumption) (by assumption) | refine Ext.trans ?_ (by assumption)))) hSt3.h3)) (hS4.hb hSt3.h4 (MS.no59 (MS.ext hM3 (by repeat (first | assumption | exact Ext.refl _ | refine Ext.alloc ?_ _ | refine Ext.drew ?_ | refine Ext.setB ?_ (by first | omega | (simp only [size_alloc, size_setB, size_drew]; omega)) _ | exact Ext.trans (by assumption) (by assumption) | refine Ext.trans ?_ (by assumption)))) hSt3.h4)) (hS4.hb hSt3.h7 (MS.no59 (MS.ext hM3 (by repeat (first | assumption | exact Ext.refl _ | refine Ext.alloc ?_ _ | refine Ext.drew ?_ | refine Ext.setB ?_ (by first | omega | (simp only [size_alloc, size_setB, size_drew]; omega)) _ | exact Ext.trans (by assumption) (by assumption) | refine Ext.trans ?_ (by assumption)))) hSt3.h7))
                  refine ⟨(fun h => by cases h), ?_⟩
                  refine WH_guardT rfl rfl hb66.h ?_
                  refine WH_p (PS_not rfl) rfl ?_
                  refine WH_guardT rfl rfl hb64.h ?_
                  refine WH_p (PS_pickT rfl hb66.h rfl) rfl ?_
                  refine WH_p (PS_pickF rfl hb64.h rfl) rfl ?_
                  refine WH_nil ?_
                  refine thn_normal ?_
                  refine W_if rfl (fun hb70 => ?_) (fun hb70 => ?_)
                  · have hb70p := hb70.h; try simp only [al_ete, al_dfn, Bool.not_eq_true', Bool.not_eq_false', al_ne, Bool.not_not, al_nn] at hb70p
                    simp at hb70p --END
                  · have hb70p := hb70.h; try simp only [al_ete, al_dfn, Bool.not_eq_true', Bool.not_eq_false', al_ne, Bool.not_not, al_nn] at hb70p
                    refine W_skip ?_
                    refine thn_normal ?_
                    refine W_region rfl ?_
                    refine WO_p (PS_move_ptr rfl) ?_
                    refine WO_p (PS_move_ptr rfl) ?_
                    refine WO_p (PS_buildI (k := .u64) (zs := [0, 0, 0, 0]) (ps := []) (L := [0, 0, 0, 0]) Hvad.zeroValue59 Hvad.runUnderlying59 Hvad.sizeOf26 rfl rfl rfl rfl) ?_
                    refine WO_call Hvad.call155 (by rfl) (Ret.mono (settle_spec C c4 y4 B4 m t f _ _ _ _ _ (MS.ext hM4 (by repeat (first | assumption | exact Ext.refl _ | refine Ext.alloc ?_ _ | refine Ext.drew ?_ | refine Ext.setB ?_ (by first | omega | (simp only [size_alloc, size_setB, size_drew]; omega)) _ | exact Ext.trans (by assumption) (by assumption) | refine Ext.trans ?_ (by assumption)))) hA (by omega) (by first | (intro _; omega) | (intro h; cases h)) Wd0 (by omega)) ?_)
                    rintro _ wS hRS
                    have hRS2 : MRet w C B m wS y4 _ := MRet.trans hS4w (MRet.pre (by repeat (first | assumption | exact Ext.refl _ | refine Ext.alloc ?_ _ | refine Ext.drew ?_ | refine Ext.setB ?_ (by first | omega | (simp only [size_alloc, size_setB, size_drew]; omega)) _ | exact Ext.trans (by assumption) (by assumption) | refine Ext.trans ?_ (by assumption))) hRS)
                    refine WO_nil ?_
                    first | refine bodyQ_ret0 Hvad.results106 ?_ | refine bodyQ_end0 Hvad.results106 ?_
                    exact ⟨y4, _, hRS2, (hI.settle hf (hrwS (by omega)) hP.g4.1 hP.g4.2.1 (Int.le_of_eq hP.g4.2.2.symm) (by omega) (by first | (intro _; omega) | (intro h; cases h)) (by omega) hc).2⟩
                · have hb66p := hb66.h; try simp only [al_ete, al_dfn, Bool.not_eq_true', Bool.not_eq_false', al_ne, Bool.not_not, al_nn] at hb66p
                  have hu0 : ¬ 0 < (rc, ru, rd).2.1 := by simpa using hb66p
                  have hM4 := hM3
                  rw [← hP.u0 hu0] at hM4
                  refine WH_guardF rfl rfl hb66.h ?_
                  refine WH_guardF rfl rfl hb66.h ?_
                  refine WH_guardF rfl rfl hb66.h ?_
                  refine WH_guardF rfl rfl hb66.h ?_
                  refine WH_guardF rfl rfl hb66.h ?_
                  refine WH_guardF rfl rfl hb66.h ?_
                  refine WH_guardF rfl rfl hb66.h ?_
                  refine WH_guardT rfl rfl hb64.h ?_
                  refine WH_p (PS_pickF rfl hb66.h rfl) rfl ?_
                  refine WH_p (PS_pickF rfl hb64.h rfl) rfl ?_
                  refine WH_nil ?_
                  refine thn_normal ?_
                  refine W_condF rfl rfl ?_
                  refine W_skip ?_
                  refine thn_normal ?_
                  refine W_region rfl ?_
                  refine WO_p (PS_move_ptr rfl) ?_
                  refine WO_p (PS_move_ptr rfl) ?_
                  refine WO_p (PS_buildI (k := .u64) (zs := [0, 0, 0, 0]) (ps := []) (L := [0, 0, 0, 0]) Hvad.zeroValue59 Hvad.runUnderlying59 Hvad.sizeOf26 rfl rfl rfl rfl) ?_
                  refine WO_call Hvad.call155 (by rfl) (Ret.mono (settle_spec C c3 y4 B3 m t f _ _ _ _ _ (MS.ext hM4 (by repeat (first | assumption | exact Ext.refl _ | refine Ext.alloc ?_ _ | refine Ext.drew ?_ | refine Ext.setB ?_ (by first | omega | (simp only [size_alloc, size_setB, size_drew]; omega)) _ | exact Ext.trans (by assumption) (by assumption) | refine Ext.trans ?_ (by assumption)))) hA (by omega) (by first | (intro _; omega) | (intro h; cases h)) Wd0 (by omega)) ?_)
                  rintro _ wS hRS
                  have hRS2 : MRet w C B m wS y4 _ := MRet.trans hS3w (MRet.pre (by repeat (first | assumption | exact Ext.refl _ | refine Ext.alloc ?_ _ | refine Ext.drew ?_ | refine Ext.setB ?_ (by first | omega | (simp only [size_alloc, size_setB, size_drew]; omega)) _ | exact Ext.trans (by assumption) (by assumption) | refine Ext.trans ?_ (by assumption))) hRS)
                  refine WO_nil ?_
                  first | refine bodyQ_ret0 Hvad.results106 ?_ | refine bodyQ_end0 Hvad.results106 ?_
                  exact ⟨y4, _, hRS2, (hI.settle hf (hrwS (by omega)) hP.g4.1 hP.g4.2.1 (Int.le_of_eq hP.g4.2.2.symm) (by omega) (by first | (intro _; omega) | (intro h; cases h)) (by omega) hc).2⟩
            · have hb60p := hb60.h; try simp only [al_ete, al_dfn, Bool.not_eq_true', Bool.not_eq_false', al_ne, Bool.not_not, al_nn] at hb60p
              have hd0 : ¬ 0 < (rc, ru, rd).2.2 := by simpa using hb60p
              have hM3 := hM2
              rw [← hP.d0 hd0] at hM3
              refine WH_guardF rfl rfl hb60.h ?_
              refine WH_guardF rfl rfl hb60.h ?_
              refine WH_guardF rfl rfl hb60.h ?_
              refine WH_guardF rfl rfl hb60.h ?_
              refine WH_guardF rfl rfl hb60.h ?_
              refine WH_guardF rfl rfl hb60.h ?_
              refine WH_guardF rfl rfl hb60.h ?_
              refine WH_guardT rfl rfl rfl ?_
              refine WH_p (PS_pickF rfl hb60.h rfl) rfl ?_
              refine WH_p (PS_pickF rfl rfl rfl) rfl ?_
              refine WH_p (PS_move_bool rfl) rfl ?_
              refine WH_guardT rfl rfl rfl ?_
              refine WH_p (PS_move_int rfl) rfl ?_
              refine WH_guardT rfl rfl rfl ?_
              refine WH_p (PS_gtr rfl rfl) rfl ?_
              refine WH_guardT rfl rfl rfl ?_
              refine WH_p (PS_move_bool rfl) rfl ?_
              refine WH_if (t := 102) rfl (fun hb74 => ?_) (fun hb74 => ?_)
              · have hb74p := hb74.h; try simp only [al_ete, al_dfn, Bool.not_eq_true', Bool.not_eq_false', al_ne, Bool.not_not, al_nn] at hb74p
                have hup : 0 < (rc, ru, rd).2.1 := by simpa using hb74p
                refine WH_guardT rfl rfl hb74.h ?_
                refine WH_p (PS_move_ptr rfl) rfl ?_
                refine WH_guardT rfl rfl hb74.h ?_
                refine WH_p (PS_nilCheck rfl) rfl ?_
                refine WH_guardT rfl rfl hb74.h ?_
                refine WH_p (PS_fieldAddr 0 Hvad.runUnderlying69 rfl Hvad.sizeOf53 rfl rfl) rfl ?_
                refine WH_guardT rfl rfl hb74.h ?_
                refine WH_load0 (.pointer (some ⟨C, 2435, none⟩)) Hvad.isAgg53 rfl (fun w' hS => by obtain ⟨c', k1, k2, k3, k4⟩ := hS.ch; exact ⟨_, _, _, k1.h, k3.h⟩) ?_
                refine WH_guardT rfl rfl hb74.h ?_
                refine WH_p (PS_move_int rfl) rfl ?_
                refine WH_guardT rfl rfl hb74.h ?_
                refine WH_call Hvad.call205 (by rfl) (Ret.mono (refUp_spec C c1 y3 B1 (bb m) _ _ (VS.ext (hM3).vs (by repeat (first | assumption | exact Ext.refl _ | refine Ext.alloc ?_ _ | refine Ext.drew ?_ | refine Ext.setB ?_ (by first | omega | (simp only [size_alloc, size_setB, size_drew]; omega)) _ | exact Ext.trans (by assumption) (by assumption) | refine Ext.trans ?_ (by assumption)))) ⟨by have := hbd.1.1; omega, by have := hbd.1.2; omega⟩) ?_)
                rintro _ w4 ⟨rfl, hR4⟩
                rw [hP.up hup] at hR4 ⊢
                replace hR4 : VRet _ _ _ _ _ w4 y4 := hR4
                obtain ⟨c4, B4, hM4, hS4⟩ := MS.vret (MS.ext hM3 (by repeat (first | assumption | exact Ext.refl _ | refine Ext.alloc ?_ _ | refine Ext.drew ?_ | refine Ext.setB ?_ (by first | omega | (simp only [size_alloc, size_setB, size_drew]; omega)) _ | exact Ext.trans (by assumption) (by assumption) | refine Ext.trans ?_ (by assumption)))) hR4
                have hz4 := hS4.keep.sz
                try simp only [size_alloc, size_setB, size_drew] at hz4
                have hS4w := MStep.trans hS1w ((MStep.ext (by repeat (first | assumption | exact Ext.refl _ | refine Ext.alloc ?_ _ | refine Ext.drew ?_ | refine Ext.setB ?_ (by first | omega | (simp only [size_alloc, size_setB, size_drew]; omega)) _ | exact Ext.trans (by assumption) (by assumption) | refine Ext.trans ?_ (by assumption)))).trans hS4)
                have hSt4 : StS C t f b3 b4 b7 (m.argW f 0) (v.sval f.self (m.argW f 0)) (m.argW f 1) w4 := StS.of hM4 hf (hS4.hb hSt1.h3 (MS.no59 (MS.ext hM3 (by repeat (first | assumption | exact Ext.refl _ | refine Ext.alloc ?_ _ | refine Ext.drew ?_ | refine Ext.setB ?_ (by first | omega | (simp only [size_alloc, size_setB, size_drew]; omega)) _ | exact Ext.trans (by assumption) (by assumption) | refine Ext.trans ?_ (by assumption)))) hSt1.h3)) (hS4.hb hSt1.h4 (MS.no59 (MS.ext hM3 (by repeat (first | assumption | exact Ext.refl _ | refine Ext.alloc ?_ _ | refine Ext.drew ?_ | refine Ext.setB ?_ (by first | omega | (simp only [size_alloc, size_setB, size_drew]; omega)) _ | exact Ext.trans (by assumption) (by assumption) | refine Ext.trans ?_ (by assumption)))) hSt1.h4)) (hS4.hb hSt1.h7 (MS.no59 (MS.ext hM3 (by repeat (first | assumption | exact Ext.refl _ | refine Ext.alloc ?_ _ | refine Ext.drew ?_ | refine Ext.setB ?_ (by first | omega | (simp only [size_alloc, size_setB, size_drew]; omega)) _ | exact Ext.trans (by assumption) (by assumption) | refine Ext.trans ?_ (by assumption)))) hSt1.h7))
                refine ⟨(fun h => by cases h), ?_⟩
                refine WH_guardT rfl rfl hb74.h ?_
                refine WH_p (PS_not rfl) rfl ?_
                refine WH_guardT rfl rfl rfl ?_
                refine WH_p (PS_pickT rfl hb74.h rfl) rfl ?_
                refine WH_p (PS_pickF rfl rfl rfl) rfl ?_
                refine WH_nil ?_
                refine thn_normal ?_
                refine W_if rfl (fun hb78 => ?_) (fun hb78 => ?_)
                · have hb78p := hb78.h; try simp only [al_ete, al_dfn, Bool.not_eq_true', Bool.not_eq_false', al_ne, Bool.not_not, al_nn] at hb78p
                  simp at hb78p --END
                · have hb78p := hb78.h; try simp only [al_ete, al_dfn, Bool.not_eq_true', Bool.not_eq_false', al_ne, Bool.not_not, al_nn] at hb78p
                  refine W_skip ?_
                  refine thn_normal ?_
                  refine W_region rfl ?_
                  refine WO_p (PS_move_ptr rfl) ?_
                  refine WO_p (PS_move_ptr rfl) ?_
                  refine WO_p (PS_buildI (k := .u64) (zs := [0, 0, 0, 0]) (ps := []) (L := [0, 0, 0, 0]) Hvad.zeroValue59 Hvad.runUnderlying59 Hvad.sizeOf26 rfl rfl rfl rfl) ?_
                  refine WO_call Hvad.call155 (by rfl) (Ret.mono (settle_spec C c4 y4 B4 m t f _ _ _ _ _ (MS.ext hM4 (by repeat (first | assumption | exact Ext.refl _ | refine Ext.alloc ?_ _ | refine Ext.drew ?_ | refine Ext.setB ?_ (by first | omega | (simp only [size_alloc, size_setB, size_drew]; omega)) _ | exact Ext.trans (by assumption) (by assumption) | refine Ext.trans ?_ (by assumption)))) hA (by omega) (by first | (intro _; omega) | (intro h; cases h)) Wd0 (by omega)) ?_)
                  rintro _ wS hRS
                  have hRS2 : MRet w C B m wS y4 _ := MRet.trans hS4w (MRet.pre (by repeat (first | assumption | exact Ext.refl _ | refine Ext.alloc ?_ _ | refine Ext.drew ?_ | refine Ext.setB ?_ (by first | omega | (simp only [size_alloc, size_setB, size_drew]; omega)) _ | exact Ext.trans (by assumption) (by assumption) | refine Ext.trans ?_ (by assumption))) hRS)
                  refine WO_nil ?_
                  first | refine bodyQ_ret0 Hvad.results106 ?_ | refine bodyQ_end0 Hvad.results106 ?_
                  exact ⟨y4, _, hRS2, (hI.settle hf (hrwS (by omega)) hP.g4.1 hP.g4.2.1 (Int.le_of_eq hP.g4.2.2.symm) (by omega) (by first | (intro _; omega) | (intro h; cases h)) (by omega) hc).2⟩
              · have hb74p := hb74.h; try simp only [al_ete, al_dfn, Bool.not_eq_true', Bool.not_eq_false', al_ne, Bool.not_not, al_nn] at hb74p
                have hu0 : ¬ 0 < (rc, ru, rd).2.1 := by simpa using hb74p
                have hM4 := hM3
                rw [← hP.u0 hu0] at hM4
                refine WH_guardF rfl rfl hb74.h ?_
                refine WH_guardF rfl rfl hb74.h ?_
                refine WH_guardF rfl rfl hb74.h ?_
                refine WH_guardF rfl rfl hb74.h ?_
                refine WH_guardF rfl rfl hb74.h ?_
                refine WH_guardF rfl rfl hb74.h ?_
                refine WH_guardF rfl rfl hb74.h ?_
                refine WH_guardT rfl rfl rfl ?_
                refine WH_p (PS_pickF rfl hb74.h rfl) rfl ?_
                refine WH_p (PS_pickF rfl rfl rfl) rfl ?_
                refine WH_nil ?_
                refine thn_normal ?_
                refine W_condF rfl rfl ?_
                refine W_skip ?_
                refine thn_normal ?_
                refine W_region rfl ?_
                refine WO_p (PS_move_ptr rfl) ?_
                refine WO_p (PS_move_ptr rfl) ?_
                refine WO_p (PS_buildI (k := .u64) (zs := [0, 0, 0, 0]) (ps := []) (L := [0, 0, 0, 0]) Hvad.zeroValue59 Hvad.runUnderlying59 Hvad.sizeOf26 rfl rfl rfl rfl) ?_
                refine WO_call Hvad.call155 (by rfl) (Ret.mono (settle_spec C c1 y4 B1 m t f _ _ _ _ _ (MS.ext hM4 (by repeat (first | assumption | exact Ext.refl _ | refine Ext.alloc ?_ _ | refine Ext.drew ?_ | refine Ext.setB ?_ (by first | omega | (simp only [size_alloc, size_setB, size_drew]; omega)) _ | exact Ext.trans (by assumption) (by assumption) | refine Ext.trans ?_ (by assumption)))) hA (by omega) (by first | (intro _; omega) | (intro h; cases h)) Wd0 (by omega)) ?_)
                rintro _ wS hRS
                have hRS2 : MRet w C B m wS y4 _ := MRet.trans hS1w (MRet.pre (by repeat (first | assumption | exact Ext.refl _ | refine Ext.alloc ?_ _ | refine Ext.drew ?_ | refine Ext.setB ?_ (by first | omega | (simp only [size_alloc, size_setB, size_drew]; omega)) _ | exact Ext.trans (by assumption) (by assumption) | refine Ext.trans ?_ (by assumption))) hRS)
                refine WO_nil ?_
                first | refine bodyQ_ret0 Hvad.results106 ?_ | refine bodyQ_end0 Hvad.results106 ?_
                exact ⟨y4, _, hRS2, (hI.settle hf (hrwS (by omega)) hP.g4.1 hP.g4.2.1 (Int.le_of_eq hP.g4.2.2.symm) (by omega) (by first | (intro _; omega) | (intro h; cases h)) (by omega) hc).2⟩

end Go.Proofs.YgvadwGreat
