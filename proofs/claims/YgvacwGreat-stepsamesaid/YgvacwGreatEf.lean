import Derived.Test.YgvacwGreatMp
namespace Go.Proofs.YgvacwGreat
set_option linter.unusedSimpArgs false
set_option linter.unusedVariables false
/-! only the chain's own block is turned -/
theorem KC.alloc {O : Nat → Prop} {a b : World} (h : KeepO O a b) (o : Obj) : KeepO O a (b.alloc o) := h.trans ((Ext.alloc (Ext.refl b) o).keepO O) (fun _ _ h => h)
theorem KC.drew {O : Nat → Prop} {a b : World} (h : KeepO O a b) : KeepO O a b.drew := h.trans ((Ext.drew (Ext.refl b)).keepO O) (fun _ _ h => h)
theorem KC.ext {O : Nat → Prop} {a b c : World} (h : KeepO O a b) (hE : Ext b c) : KeepO O a c := h.trans (hE.keepO O) (fun _ _ h => h)
theorem KC.pre {O : Nat → Prop} {a b c : World} (hE : Ext a b) (h : KeepO O b c) : KeepO O a c := (hE.keepO O).trans h (fun _ _ h => h)
theorem KC.setC {a b : World} {C : Nat} (h : KeepO (fun b => b = C) a b) (o : Obj) : KeepO (fun b => b = C) a (setB b C o) := h.setB (fun _ => rfl) o
theorem KC.kt {w w' : World} {C : Nat} {c : Array Value} {Tc T : TypeId} {fc : Nat × Nat} (h : KeepO (fun b => b = C) w w') (hb : Hb w C (.cells c Tc fc)) (hT : Tc ≠ T) : KT T w w' :=
  fun b r fz hr => hr.keepO h (fun e => by subst e; exact hT (Hb.type_eq hb hr))

set_option maxRecDepth 10000 in
theorem settle_ex [Om] (C : Nat) (c : Array Value) (v : V) (B : VB) (m : Mc) (t : Nat) (f : Fm) (k st : Int) (g : Bool) (W : List Int) (w : World) (hM : MS w C c v B m) (hA : FrA m t f) (hk : 0 ≤ k ∧ k ≤ f.sp) (hg : g = true → f.sp - k < 64) (hW : Wd W) (hst : 0 ≤ st ∧ f.pc + st ≤ 65535) : Ret Hvac.prog 235 #[.pointer (some ⟨C, 0, none⟩), .pointer (some ⟨C, 1803 + t * 65, none⟩), .int .u16 k, .bool g, .agg (ic .u64 W), .int .u16 st] w fun u w' => MRet w C B m w' v (m.settle t f k g W st) ∧ KeepO (fun b => b = C) w w' := by
  have hblk := hM.vs.blk
  have hcs := hM.sz
  obtain ⟨ht6, hf, hsb, hsp⟩ := hA
  obtain ⟨ht7, hfty, hF⟩ := hM.openF hf
  have hf_sb := hF.sbase
  have hf_sp := hF.sp
  have hspt := hfty.sp
  rw [hsb] at hf_sb
  have hstl := hM.ty.stack.1
  have hWl := hW.1
  have hpct := hfty.pc
  refine Ret_of_W Hvac.func235 rfl rfl ?_
  refine W_seq ?_
  refine W_region rfl ?_
  refine WO_box (.agg _) rfl ?_
  refine WO_nil ?_
  refine thn_normal ?_
  refine W_seq ?_
  refine W_seq ?_
  refine W_region rfl ?_
  refine WO_p (PS_move_ptr rfl) ?_
  refine WO_p (PS_nilCheck rfl) ?_
  refine WO_p (PS_fieldAddr 6 Hvac.runUnderlying66 rfl Hvac.sizeOf42 rfl rfl) ?_
  refine WO_load (.int _ _) Hvac.isAgg42 rfl (Hb.h (by repeat (first | assumption | exact Hb.newY _ _ | refine Hb.alloc ?_ | refine Hb.drew ?_ | refine Hb.ext (by assumption) ?_ | exact Hb.setSameL (by first | omega | (simp only [size_alloc, size_setB, size_drew]; omega)) | exact Hb.setSame (by assumption) | refine Hb.set (by first | omega | (simp only [size_alloc, size_setB, size_drew]; omega)) ?_ ))) (Ce.h (by first | assumption | exact ⟨rfl⟩)) ?_
  refine WO_p (PS_move_int rfl) ?_
  refine WO_p (PS_lss rfl rfl) ?_
  refine WO_nil ?_
  refine thn_normal ?_
  refine W_if rfl (fun hb2 => ?_) (fun hb2 => ?_)
  · have hb2p := hb2.h; try simp only [al_ete, al_dfn, Bool.not_eq_true', Bool.not_eq_false', al_ne, Bool.not_not, al_nn] at hb2p
    omega --END
  · have hb2p := hb2.h; try simp only [al_ete, al_dfn, Bool.not_eq_true', Bool.not_eq_false', al_ne, Bool.not_not, al_nn] at hb2p
    refine W_skip ?_
    refine thn_normal ?_
    refine W_seq ?_
    refine W_region rfl ?_
    refine WO_p (PS_move_ptr rfl) ?_
    refine WO_p (PS_nilCheck rfl) ?_
    refine WO_p (PS_fieldAddr 6 Hvac.runUnderlying66 rfl Hvac.sizeOf42 rfl rfl) ?_
    refine WO_load (.int _ _) Hvac.isAgg42 rfl (Hb.h (by repeat (first | assumption | exact Hb.newY _ _ | refine Hb.alloc ?_ | refine Hb.drew ?_ | refine Hb.ext (by assumption) ?_ | exact Hb.setSameL (by first | omega | (simp only [size_alloc, size_setB, size_drew]; omega)) | exact Hb.setSame (by assumption) | refine Hb.set (by first | omega | (simp only [size_alloc, size_setB, size_drew]; omega)) ?_ ))) (Ce.h (by first | assumption | exact ⟨rfl⟩)) ?_
    refine WO_p (PS_move_int rfl) ?_
    refine WO_p (PS_sub_u16n rfl rfl (by omega) (by omega)) ?_
    refine WO_p (PS_assign_int rfl) ?_
    refine WO_nil ?_
    refine thn_normal ?_
    refine W_seq ?_
    refine W_seq ?_
    refine W_region rfl ?_
    refine WO_p (PS_move_bool rfl) ?_
    refine WO_nil ?_
    refine thn_normal ?_
    refine W_if rfl (fun hb4 => ?_) (fun hb4 => ?_)
    · have hb4p := hb4.h; try simp only [al_ete, al_dfn, Bool.not_eq_true', Bool.not_eq_false', al_ne, Bool.not_not, al_nn] at hb4p
      have hg0 : g = true := by simpa using hb4p
      have hg1 := hg hg0
      obtain ⟨x0, hx0⟩ : ∃ x, m.stack[(64 * (t : Int) + (f.sp - k)).toNat]? = some x := ⟨_, List.getElem?_eq_getElem (by omega)⟩
      refine W_seq ?_
      refine W_region rfl ?_
      refine WO_p (PS_move_ptr rfl) ?_
      refine WO_p (PS_nilCheck rfl) ?_
      refine WO_p (PS_fieldAddr 5 Hvac.runUnderlying66 rfl Hvac.sizeOf42 rfl rfl) ?_
      refine WO_load (.int _ _) Hvac.isAgg42 rfl (Hb.h (by repeat (first | assumption | exact Hb.newY _ _ | refine Hb.alloc ?_ | refine Hb.drew ?_ | refine Hb.ext (by assumption) ?_ | exact Hb.setSameL (by first | omega | (simp only [size_alloc, size_setB, size_drew]; omega)) | exact Hb.setSame (by assumption) | refine Hb.set (by first | omega | (simp only [size_alloc, size_setB, size_drew]; omega)) ?_ ))) (Ce.h (by first | assumption | exact ⟨rfl⟩)) ?_
      refine WO_p (PS_conv_i64n Hvac.runUnderlying42 Hvac.runUnderlying3 rfl (by omega) (by omega)) ?_
      refine WO_p (PS_move_int rfl) ?_
      refine WO_p (PS_conv_i64n Hvac.runUnderlying42 Hvac.runUnderlying3 rfl (by omega) (by omega)) ?_
      refine WO_p (PS_add_i64n rfl rfl (by omega) (by omega)) ?_
      refine WO_p (PS_assign_int rfl) ?_
      refine WO_nil ?_
      refine thn_normal ?_
      refine W_seq ?_
      refine W_seq ?_
      refine W_region rfl ?_
      refine WO_p (PS_move_int rfl) ?_
      refine WO_p (PS_geq rfl rfl) ?_
      refine WO_p (PS_move_bool rfl) ?_
      refine WO_if (t := 39) rfl (fun hb6 => ?_) (fun hb6 => ?_)
      · have hb6p := hb6.h; try simp only [al_ete, al_dfn, Bool.not_eq_true', Bool.not_eq_false', al_ne, Bool.not_not, al_nn] at hb6p
        omega --END
      · have hb6p := hb6.h; try simp only [al_ete, al_dfn, Bool.not_eq_true', Bool.not_eq_false', al_ne, Bool.not_not, al_nn] at hb6p
        refine WO_guardT rfl rfl hb6.h ?_
        refine WO_p (PS_move_int rfl) ?_
        refine WO_guardT rfl rfl hb6.h ?_
        refine WO_p (PS_geq rfl rfl) ?_
        refine WO_p (PS_pickF rfl hb6.h rfl) ?_
        refine WO_nil ?_
        refine thn_normal ?_
        refine W_if rfl (fun hb8 => ?_) (fun hb8 => ?_)
        · have hb8p := hb8.h; try simp only [al_ete, al_dfn, Bool.not_eq_true', Bool.not_eq_false', al_ne, Bool.not_not, al_nn] at hb8p
          omega --END
        · have hb8p := hb8.h; try simp only [al_ete, al_dfn, Bool.not_eq_true', Bool.not_eq_false', al_ne, Bool.not_not, al_nn] at hb8p
          refine W_skip ?_
          refine thn_normal ?_
          refine W_seq ?_
          refine W_drawE [false, false, false, false, false, false, false] hmix (by kernel_rfl) rfl ?_
          refine WH_p (PS_move_ptr rfl) rfl ?_
          refine WH_p (PS_move_int rfl) rfl ?_
          refine WH_loadA _ Hvac.isAgg61 Hvac.sizeOf61 rfl (Hb.h (by repeat (first | assumption | exact Hb.newY _ _ | refine Hb.alloc ?_ | refine Hb.drew ?_ | refine Hb.ext (by assumption) ?_ | exact Hb.setSameL (by first | omega | (simp only [size_alloc, size_setB, size_drew]; omega)) | exact Hb.setSame (by assumption) | refine Hb.set (by first | omega | (simp only [size_alloc, size_setB, size_drew]; omega)) ?_ ))) (by first | omega | assumption | rfl | decide | exact Nat.le_refl _ | (simp only [size_ic, Value.cells]; omega) | (simp; omega) | simp) (Xt.h (by first | assumption | exact Xt.whole rfl rfl | exact Xt.whole rfl (by assumption) | exact Xt.whole rfl (by simp only [size_ic, Value.cells]; omega) | exact ⟨rfl⟩)) ?_
          refine WH_p (PS_nilCheck rfl) rfl ?_
          refine WH_p (PS_fieldAddr 11 Hvac.runUnderlying70 rfl Hvac.sizeOf62 rfl rfl) rfl ?_
          refine WH_p (PS_indexA Hvac.runUnderlying62 Hvac.sizeOf61 rfl rfl (by omega) (by omega)) rfl ?_
          first | refine WH_storeW Hvac.sizeOf61 rfl (v := .agg _) rfl (Hb.h (by repeat (first | assumption | exact Hb.newY _ _ | refine Hb.alloc ?_ | refine Hb.drew ?_ | refine Hb.ext (by assumption) ?_ | exact Hb.setSameL (by first | omega | (simp only [size_alloc, size_setB, size_drew]; omega)) | exact Hb.setSame (by assumption) | refine Hb.set (by first | omega | (simp only [size_alloc, size_setB, size_drew]; omega)) ?_ ))) rfl (by first | omega | assumption | rfl | decide | exact Nat.le_refl _ | (simp only [size_ic, Value.cells]; omega) | (simp; omega) | simp) (by first | omega | assumption | rfl | decide | exact Nat.le_refl _ | (simp only [size_ic, Value.cells]; omega) | (simp; omega) | simp) (by first | exact oneCell_ic | assumption | exact one_Ws2 _ | exact one_YA2 _ | exact one_YSl2 _ | exact one_YM2 _ | exact one_YT2 _ | exact one_L2 _) (fun h => by cases h) ?_ | refine WH_store Hvac.sizeOf61 rfl (v := .agg _) rfl (Hb.h (by repeat (first | assumption | exact Hb.newY _ _ | refine Hb.alloc ?_ | refine Hb.drew ?_ | refine Hb.ext (by assumption) ?_ | exact Hb.setSameL (by first | omega | (simp only [size_alloc, size_setB, size_drew]; omega)) | exact Hb.setSame (by assumption) | refine Hb.set (by first | omega | (simp only [size_alloc, size_setB, size_drew]; omega)) ?_ ))) (by first | omega | assumption | rfl | decide | exact Nat.le_refl _ | (simp only [size_ic, Value.cells]; omega) | (simp; omega) | simp) (by first | omega | assumption | rfl | decide | exact Nat.le_refl _ | (simp only [size_ic, Value.cells]; omega) | (simp; omega) | simp) (by first | exact oneCell_ic | assumption | exact one_Ws2 _ | exact one_YA2 _ | exact one_YSl2 _ | exact one_YM2 _ | exact one_YT2 _ | exact one_L2 _) (fun h => by cases h) ?_
          refine WH_nil ?_
          refine thn_normal ?_
          obtain ⟨hM1, hS1⟩ := ((hM.ext (Ext.alloc (Ext.refl w) (.cells (Value.agg (ic .u64 W)).cells 61))).ext (Ext.drew (Ext.refl _))).put_stack hx0 W hW
          replace hS1 := ((MStep.ext (Ext.alloc (Ext.refl w) (.cells (Value.agg (ic .u64 W)).cells 61))).trans (MStep.ext (Ext.drew (Ext.refl _)))).trans hS1
          have hblk1 := hM1.vs.blk
          have hf1 : ({ m with stack := m.stack.set (64 * (t : Int) + (f.sp - k)).toNat W } : Mc).frames[t]? = some f := hf
          refine W_region rfl ?_
          refine WO_p (PS_move_int rfl) ?_
          refine WO_p (PS_add_u16n rfl rfl (by omega) (by omega)) ?_
          refine WO_p (PS_assign_int rfl) ?_
          refine WO_nil ?_
          refine thn_normal ?_
          refine W_seq ?_
          have hcs1 := hM1.sz
          refine W_region rfl ?_
          refine WO_p (PS_move_ptr rfl) ?_
          refine WO_p (PS_move_int rfl) ?_
          refine WO_p (PS_nilCheck rfl) ?_
          refine WO_p (PS_fieldAddr 6 Hvac.runUnderlying66 rfl Hvac.sizeOf42 rfl rfl) ?_
          refine WO_store1 Hvac.sizeOf42 rfl (v := (.int _ _)) rfl (Hb.h (by repeat (first | assumption | exact Hb.newY _ _ | refine Hb.alloc ?_ | refine Hb.drew ?_ | refine Hb.ext (by assumption) ?_ | exact Hb.setSameL (by first | omega | (simp only [size_alloc, size_setB, size_drew]; omega)) | exact Hb.setSame (by assumption) | refine Hb.set (by first | omega | (simp only [size_alloc, size_setB, size_drew]; omega)) ?_ ))) rfl (by first | omega | assumption | rfl | decide | exact Nat.le_refl _ | (simp only [size_ic, Value.cells]; omega) | (simp; omega) | simp) rfl ?_
          refine WO_nil ?_
          refine thn_normal ?_
          obtain ⟨hM2, hS2⟩ := hM1.putF_sp hf1 (f.sp - k + 1) (by omega)
          have hblk2 := hM2.vs.blk
          have hcs2 := hM2.sz
          have hf2 : (m.frames.set t { f with sp := f.sp - k + 1 })[t]? = some { f with sp := f.sp - k + 1 } := by rw [List.getElem?_set_self (lt_of_getElem? hf)]
          obtain ⟨_, hfty2, hF2⟩ := hM2.openF hf2
          have hf_pc2 : Ce _ (1803 + t * 65 + 4) (.int .u16 f.pc) := hF2.pc
          refine W_region rfl ?_
          refine WO_p (PS_move_ptr rfl) ?_
          refine WO_p (PS_nilCheck rfl) ?_
          refine WO_p (PS_fieldAddr 4 Hvac.runUnderlying66 rfl Hvac.sizeOf42 rfl rfl) ?_
          refine WO_load (.int _ _) Hvac.isAgg42 rfl (Hb.h (by repeat (first | assumption | exact Hb.newY _ _ | refine Hb.alloc ?_ | refine Hb.drew ?_ | refine Hb.ext (by assumption) ?_ | exact Hb.setSameL (by first | omega | (simp only [size_alloc, size_setB, size_drew]; omega)) | exact Hb.setSame (by assumption) | refine Hb.set (by first | omega | (simp only [size_alloc, size_setB, size_drew]; omega)) ?_ ))) (Ce.h (by first | assumption | exact ⟨rfl⟩)) ?_
          refine WO_p (PS_move_int rfl) ?_
          refine WO_p (PS_add_u16n rfl rfl (by omega) (by omega)) ?_
          refine WO_p (PS_nilCheck rfl) ?_
          refine WO_p (PS_fieldAddr 4 Hvac.runUnderlying66 rfl Hvac.sizeOf42 rfl rfl) ?_
          refine WO_store1 Hvac.sizeOf42 rfl (v := (.int _ _)) rfl (Hb.h (by repeat (first | assumption | exact Hb.newY _ _ | refine Hb.alloc ?_ | refine Hb.drew ?_ | refine Hb.ext (by assumption) ?_ | exact Hb.setSameL (by first | omega | (simp only [size_alloc, size_setB, size_drew]; omega)) | exact Hb.setSame (by assumption) | refine Hb.set (by first | omega | (simp only [size_alloc, size_setB, size_drew]; omega)) ?_ ))) rfl (by first | omega | assumption | rfl | decide | exact Nat.le_refl _ | (simp only [size_ic, Value.cells]; omega) | (simp; omega) | simp) rfl ?_
          refine WO_nil ?_
          first | refine bodyQ_ret0 Hvac.results235 ?_ | refine bodyQ_end0 Hvac.results235 ?_
          obtain ⟨hM3, hS3⟩ := hM2.putF_pc hf2 (f.pc + st) (by omega)
          have e : ({ m with stack := m.stack.set (64 * (t : Int) + (f.sp - k)).toNat W, frames := (m.frames.set t { f with sp := f.sp - k + 1 }).set t { f with sp := f.sp - k + 1, pc := f.pc + st } } : Mc) = m.settle t f k g W st := by
            unfold Mc.settle; rw [List.set_set, hg0, hsb]; simp <;> congr 2 <;> omega
          rw [← e]
          refine ⟨⟨_, _, hM3, (hS1.trans hS2).trans hS3⟩, (by repeat (first | exact KeepO.refl _ _ | refine KC.setC ?_ _ | refine KC.alloc ?_ _ | refine KC.drew ?_ | refine KC.ext ?_ (by assumption)))⟩
    · have hb4p := hb4.h; try simp only [al_ete, al_dfn, Bool.not_eq_true', Bool.not_eq_false', al_ne, Bool.not_not, al_nn] at hb4p
      have hg0 : g = false := by simpa using hb4p
      have hM1 := hM.ext (Ext.alloc (Ext.refl w) (.cells (Value.agg (ic .u64 W)).cells 61))
      have hS1 := MStep.ext (C := C) (B := B) (m := m) (Ext.alloc (Ext.refl w) (.cells (Value.agg (ic .u64 W)).cells 61))
      have hblk1 := hM1.vs.blk
      have hf1 := hf
      refine W_skip ?_
      refine thn_normal ?_
      refine W_seq ?_
      have hcs1 := hM1.sz
      refine W_region rfl ?_
      refine WO_p (PS_move_ptr rfl) ?_
      refine WO_p (PS_move_int rfl) ?_
      refine WO_p (PS_nilCheck rfl) ?_
      refine WO_p (PS_fieldAddr 6 Hvac.runUnderlying66 rfl Hvac.sizeOf42 rfl rfl) ?_
      refine WO_store1 Hvac.sizeOf42 rfl (v := (.int _ _)) rfl (Hb.h (by repeat (first | assumption | exact Hb.newY _ _ | refine Hb.alloc ?_ | refine Hb.drew ?_ | refine Hb.ext (by assumption) ?_ | exact Hb.setSameL (by first | omega | (simp only [size_alloc, size_setB, size_drew]; omega)) | exact Hb.setSame (by assumption) | refine Hb.set (by first | omega | (simp only [size_alloc, size_setB, size_drew]; omega)) ?_ ))) rfl (by first | omega | assumption | rfl | decide | exact Nat.le_refl _ | (simp only [size_ic, Value.cells]; omega) | (simp; omega) | simp) rfl ?_
      refine WO_nil ?_
      refine thn_normal ?_
      obtain ⟨hM2, hS2⟩ := hM1.putF_sp hf1 (f.sp - k) (by omega)
      have hblk2 := hM2.vs.blk
      have hcs2 := hM2.sz
      have hf2 : (m.frames.set t { f with sp := f.sp - k })[t]? = some { f with sp := f.sp - k } := by rw [List.getElem?_set_self (lt_of_getElem? hf)]
      obtain ⟨_, hfty2, hF2⟩ := hM2.openF hf2
      have hf_pc2 : Ce _ (1803 + t * 65 + 4) (.int .u16 f.pc) := hF2.pc
      refine W_region rfl ?_
      refine WO_p (PS_move_ptr rfl) ?_
      refine WO_p (PS_nilCheck rfl) ?_
      refine WO_p (PS_fieldAddr 4 Hvac.runUnderlying66 rfl Hvac.sizeOf42 rfl rfl) ?_
      refine WO_load (.int _ _) Hvac.isAgg42 rfl (Hb.h (by repeat (first | assumption | exact Hb.newY _ _ | refine Hb.alloc ?_ | refine Hb.drew ?_ | refine Hb.ext (by assumption) ?_ | exact Hb.setSameL (by first | omega | (simp only [size_alloc, size_setB, size_drew]; omega)) | exact Hb.setSame (by assumption) | refine Hb.set (by first | omega | (simp only [size_alloc, size_setB, size_drew]; omega)) ?_ ))) (Ce.h (by first | assumption | exact ⟨rfl⟩)) ?_
      refine WO_p (PS_move_int rfl) ?_
      refine WO_p (PS_add_u16n rfl rfl (by omega) (by omega)) ?_
      refine WO_p (PS_nilCheck rfl) ?_
      refine WO_p (PS_fieldAddr 4 Hvac.runUnderlying66 rfl Hvac.sizeOf42 rfl rfl) ?_
      refine WO_store1 Hvac.sizeOf42 rfl (v := (.int _ _)) rfl (Hb.h (by repeat (first | assumption | exact Hb.newY _ _ | refine Hb.alloc ?_ | refine Hb.drew ?_ | refine Hb.ext (by assumption) ?_ | exact Hb.setSameL (by first | omega | (simp only [size_alloc, size_setB, size_drew]; omega)) | exact Hb.setSame (by assumption) | refine Hb.set (by first | omega | (simp only [size_alloc, size_setB, size_drew]; omega)) ?_ ))) rfl (by first | omega | assumption | rfl | decide | exact Nat.le_refl _ | (simp only [size_ic, Value.cells]; omega) | (simp; omega) | simp) rfl ?_
      refine WO_nil ?_
      first | refine bodyQ_ret0 Hvac.results235 ?_ | refine bodyQ_end0 Hvac.results235 ?_
      obtain ⟨hM3, hS3⟩ := hM2.putF_pc hf2 (f.pc + st) (by omega)
      have e : ({ m with stack := m.stack, frames := (m.frames.set t { f with sp := f.sp - k }).set t { f with sp := f.sp - k, pc := f.pc + st } } : Mc) = m.settle t f k g W st := by
        unfold Mc.settle; rw [List.set_set, hg0, hsb]; simp <;> congr 2 <;> omega
      rw [← e]
      refine ⟨⟨_, _, hM3, (hS1.trans hS2).trans hS3⟩, (by repeat (first | exact KeepO.refl _ _ | refine KC.setC ?_ _ | refine KC.alloc ?_ _ | refine KC.drew ?_ | refine KC.ext ?_ (by assumption)))⟩

end Go.Proofs.YgvacwGreat
