import Derived.Test.YgvadwGreatTb
import Derived.Test.YgvadwGreatOs
import Derived.Test.YgvadwGreatOr
import Derived.Test.YgvadwGreatOg
namespace Go.Proofs.YgvadwGreat
set_option linter.unusedSimpArgs false
set_option linter.unusedVariables false
def IZ (o : Int) (x : Int × Int × Int × Bool) : Prop := x.2.2.1 ≤ 0 → x.2.2.2 = true → o = 0 ∨ o = 243 ∨ o = 253 ∨ o = 49 ∨ o = 59 ∨ o = 63 ∨ o = 60 ∨ o = 84 ∨ o = 85 ∨ o = 241 ∨ o = 242 ∨ o = 244 ∨ o = 250
theorem IZ.iteY {o : Int} {c : Prop} [Decidable c] {x y : Int × Int × Int × Bool} (h1 : c → IZ o x) (h2 : ¬ c → IZ o y) : IZ o (if c then x else y) := by
  split
  · exact h1 ‹_›
  · exact h2 ‹_›
theorem IZ.no {o a b c : Int} {d : Bool} (h : 0 < c) : IZ o (a, b, c, d) := fun h' => absurd h (by have : c ≤ 0 := h'; omega)
theorem IZ.yes {o a b c : Int} {d : Bool} (h : o = 0 ∨ o = 243 ∨ o = 253 ∨ o = 49 ∨ o = 59 ∨ o = 63 ∨ o = 60 ∨ o = 84 ∨ o = 85 ∨ o = 241 ∨ o = 242 ∨ o = 244 ∨ o = 250) : IZ o (a, b, c, d) := fun _ _ => h
theorem IZ.bad {o a b c : Int} : IZ o (a, b, c, false) := fun _ h => by cases h
theorem info_zero (o : Int) : IZ o (infoW o) := by
  unfold infoW
  repeat' (first | exact IZ.bad | exact IZ.no (by omega) | exact IZ.yes (by omega) | refine IZ.iteY (fun _ => ?_) (fun _ => ?_))
theorem sstore_pos (a b c : List Int) (d : Bool) : 0 < (sstoreW a b c d).1 := by
  unfold sstoreW
  repeat' split
  all_goals (first | omega | (dsimp only; omega))
theorem Adm.pos {scan : List Int → List Int} {v : V} {m : Mc} {t : Nat} {f : Fm} {o c S : Int} (h : Adm scan v m t f o (infoW o).2.2.1 c S) (hk : (infoW o).2.2.2 = true) (h1 : o ≠ 0) (h2 : o ≠ 243) (h3 : o ≠ 253) : 0 < c := by
  have hb := (info_bd o).2.2
  by_cases hs : 0 < (infoW o).2.2.1
  · have := h.cs; omega
  · have hz := info_zero o (by omega) hk
    have hfl : isFlat o = false := by
      unfold isFlat
      rw [al_dfn]
      omega
    obtain ⟨x, hd, hx⟩ := h.dy hfl
    have a0 := accW_bd v (addrW (m.argW f 0))
    have a1 := accW_bd v (addrW (m.argW f 1))
    rcases hz with e | e | e | e | e | e | e | e | e | e | e | e | e
    · omega
    · omega
    · omega
    · have := hd.acc0 (by omega); omega
    · have := hd.acc0 (by omega); omega
    · have := hd.acc0 (by omega); omega
    · have := hd.acc0 (by omega); omega
    · have := hd.sload e; split at this <;> omega
    · have := hd.sst e; have := sstore_pos (v.sorig f.self (m.argW f 0)) (v.sval f.self (m.argW f 0)) (m.argW f 1) (!v.isWarmS f.self (m.argW f 0)); omega
    · have := hd.acc1 (by omega); omega
    · have := hd.acc1 (by omega); omega
    · have := hd.acc1 (by omega); omega
    · have := hd.acc1 (by omega); omega
theorem EndP.of_pay {scan : List Int → List Int} {m : Mc} {t : Nat} {f : Fm} {c S : Int} {v' : V} {m' : Mc} (hc : 0 ≤ c) (hg : gasTo (m.frames.set t { f with gas := f.gas - c }) (t + 1) + c = gasTo m.frames (t + 1))
    (h : (t = 0 ∧ EI v' m' S ∧ gasOf m'.frames 0 ≤ f.gas - c) ∨ (∃ s, t = s + 1 ∧ RI scan v' m' s 0 S ∧ gasTo m'.frames (s + 1) ≤ gasTo (m.frames.set t { f with gas := f.gas - c }) (t + 1))) : EndP scan m t f S v' m' := by
  rcases h with ⟨h1, h2, h3⟩ | ⟨s, h1, h2, h3⟩
  · exact Or.inl ⟨h1, h2, by omega⟩
  · exact Or.inr ⟨s, h1, h2, by omega⟩

set_option maxRecDepth 10000 in
set_option maxHeartbeats 4000000 in
theorem runNative_spec (scan : List Int → List Int) (C : Nat) (c : Array Value) (v : V) (B : VB) (m : Mc) (t : Nat) (f : Fm) (S : Int) (w : World) (hM : MS w C c v B m) (hf : m.frames[t]? = some f) (hI : RI scan v m t 0 S) : Ret Hvad.prog 48 #[.pointer (some ⟨C, 0, none⟩)] w fun u w' => (u = .bool false ∧ f.ntv = 0 ∧ Ext w w') ∨ (u = .bool true ∧ ∃ v' m', MRet w C B m w' v' m' ∧ EndP scan m t f S v' m') := by
  have hR := hI.run hf
  have hblk := hM.vs.blk
  have hCl := hblk.lt
  have hcs := hM.sz
  obtain ⟨ht7, hfty, hF⟩ := hM.openF hf
  have hFk := hI.fr t f (Nat.le_refl _) hf
  have hf_ntv := hF.ntv
  have hf_input := hF.inputY
  have hf_gas := hF.gas
  have hgt := hfty.gas
  have hil := hFk.il
  obtain ⟨Li, hbxi⟩ := (hM.code f (List.mem_of_getElem? hf)).2.bx
  have hsci := hbxi.sc
  have hbyi : By8 Li := hbxi.by_
  refine Ret_of_W Hvad.func48 rfl rfl ?_
  refine W_seq ?_
  refine W_region rfl ?_
  refine WO_p (PS_assign_bool rfl) ?_
  refine WO_nil ?_
  refine thn_normal ?_
  refine W_seq ?_
  refine W_region rfl ?_
  refine WO_p (PS_move_ptr rfl) ?_
  refine WO_call Hvad.call91 (by rfl) (Ret.mono (running_spec C c v B m t f _ (MS.ext hM (by repeat (first | assumption | exact Ext.refl _ | refine Ext.alloc ?_ _ | refine Ext.drew ?_ | refine Ext.setB ?_ (by first | omega | (simp only [size_alloc, size_setB, size_drew]; omega)) _ | exact Ext.trans (by assumption) (by assumption) | refine Ext.trans ?_ (by assumption)))) hR) ?_)
  rintro _ w91_0 ⟨hE91_0, rfl⟩
  have hz91_0 := hE91_0.1
  try simp only [size_alloc, size_setB, size_drew] at hz91_0
  refine WO_p (PS_assign_ptr rfl) ?_
  refine WO_nil ?_
  refine thn_normal ?_
  refine W_seq ?_
  refine W_seq ?_
  refine W_region rfl ?_
  refine WO_p (PS_move_ptr rfl) ?_
  refine WO_p (PS_eqlnil Hvad.underlying182 rfl) ?_
  refine WO_p (PS_move_bool rfl) ?_
  refine WO_if (t := 10) rfl (fun hb3 => ?_) (fun hb3 => ?_)
  · have hb3p := hb3.h; try simp only [al_ete, al_dfn, Bool.not_eq_true', Bool.not_eq_false', al_ne, Bool.not_not, al_nn] at hb3p
    simp at hb3p --END
  · have hb3p := hb3.h; try simp only [al_ete, al_dfn, Bool.not_eq_true', Bool.not_eq_false', al_ne, Bool.not_not, al_nn] at hb3p
    refine WO_guardT rfl rfl hb3.h ?_
    refine WO_p (PS_move_ptr rfl) ?_
    refine WO_guardT rfl rfl hb3.h ?_
    refine WO_p (PS_nilCheck rfl) ?_
    refine WO_guardT rfl rfl hb3.h ?_
    refine WO_p (PS_fieldAddr 2 Hvad.runUnderlying65 rfl Hvad.sizeOf5 rfl rfl) ?_
    refine WO_guardT rfl rfl hb3.h ?_
    refine WO_load (.int _ _) Hvad.isAgg5 rfl (Hb.h (by repeat (first | assumption | exact Hb.newY _ _ | refine Hb.alloc ?_ | refine Hb.drew ?_ | refine Hb.ext (by assumption) ?_ | exact Hb.setSameL (by first | omega | (simp only [size_alloc, size_setB, size_drew]; omega)) | exact Hb.setSame (by assumption) | refine Hb.set (by first | omega | (simp only [size_alloc, size_setB, size_drew]; omega)) ?_ ))) (Ce.h (by first | assumption | exact ⟨rfl⟩)) ?_
    refine WO_guardT rfl rfl hb3.h ?_
    refine WO_p (PS_eql rfl rfl) ?_
    refine WO_p (PS_pickF rfl hb3.h rfl) ?_
    refine WO_nil ?_
    refine thn_normal ?_
    refine W_if rfl (fun hb5 => ?_) (fun hb5 => ?_)
    · have hb5p := hb5.h; try simp only [al_ete, al_dfn, Bool.not_eq_true', Bool.not_eq_false', al_ne, Bool.not_not, al_nn] at hb5p
      have hnz : f.ntv = 0 := by simpa using hb5p
      refine W_seq ?_
      refine W_region rfl ?_
      refine WO_p (PS_assign_bool rfl) ?_
      refine WO_nil ?_
      refine thn_normal ?_
      refine W_ret ?_
      refine thn_ret ?_
      refine bodyQ_ret1 Hvad.results48 rfl (.bool _) rfl ?_
      exact Or.inl ⟨rfl, hnz, (by repeat (first | assumption | exact Ext.refl _ | refine Ext.alloc ?_ _ | refine Ext.drew ?_ | refine Ext.setB ?_ (by first | omega | (simp only [size_alloc, size_setB, size_drew]; omega)) _ | exact Ext.trans (by assumption) (by assumption) | refine Ext.trans ?_ (by assumption)))⟩
    · have hb5p := hb5.h; try simp only [al_ete, al_dfn, Bool.not_eq_true', Bool.not_eq_false', al_ne, Bool.not_not, al_nn] at hb5p
      have hnn : ¬ f.ntv = 0 := by simpa using hb5p
      have hnt : f.ntv = 4 ∨ f.ntv = 5 := (hFk.nt hnn).1
      refine W_skip ?_
      refine thn_normal ?_
      refine W_seq ?_
      refine W_drawE [false, false, false, false, false, false, false, false, false, false, false, false, false, false] hmix (by kernel_rfl) rfl ?_
      refine WH_p (PS_move_ptr rfl) rfl ?_
      refine WH_p (PS_nilCheck rfl) rfl ?_
      refine WH_p (PS_fieldAddr 2 Hvad.runUnderlying65 rfl Hvad.sizeOf5 rfl rfl) rfl ?_
      refine WH_load (.int _ _) Hvad.isAgg5 rfl (Hb.h (by repeat (first | assumption | exact Hb.newY _ _ | refine Hb.alloc ?_ | refine Hb.drew ?_ | refine Hb.ext (by assumption) ?_ | exact Hb.setSameL (by first | omega | (simp only [size_alloc, size_setB, size_drew]; omega)) | exact Hb.setSame (by assumption) | refine Hb.set (by first | omega | (simp only [size_alloc, size_setB, size_drew]; omega)) ?_ ))) (Ce.h (by first | assumption | exact ⟨rfl⟩)) ?_
      refine WH_p (PS_move_ptr rfl) rfl ?_
      refine WH_p (PS_nilCheck rfl) rfl ?_
      refine WH_p (PS_fieldAddr 54 Hvad.runUnderlying65 rfl Hvad.sizeOf32 rfl rfl) rfl ?_
      refine WH_load (.slice _ _ _) Hvad.isAgg32 rfl (Hb.h (by repeat (first | assumption | exact Hb.newY _ _ | refine Hb.alloc ?_ | refine Hb.drew ?_ | refine Hb.ext (by assumption) ?_ | exact Hb.setSameL (by first | omega | (simp only [size_alloc, size_setB, size_drew]; omega)) | exact Hb.setSame (by assumption) | refine Hb.set (by first | omega | (simp only [size_alloc, size_setB, size_drew]; omega)) ?_ ))) (Ce.h (by first | assumption | exact ⟨rfl⟩)) ?_
      refine WH_call Hvad.call92 (by rfl) (Ret.mono (ntvCost_spec f.ntv f.inputY Li _ (SC.ext hsci (by repeat (first | assumption | exact Ext.refl _ | refine Ext.alloc ?_ _ | refine Ext.drew ?_ | refine Ext.setB ?_ (by first | omega | (simp only [size_alloc, size_setB, size_drew]; omega)) _ | exact Ext.trans (by assumption) (by assumption) | refine Ext.trans ?_ (by assumption)))) hbyi hil.2 (by omega) hnt) ?_)
      rintro _ w4 ⟨hE4, cst, ok, rfl, hcst⟩
      refine ⟨(fun h => by cases h), ?_⟩
      have hz4 := hE4.1
      try simp only [size_drew] at hz4
      have hEw4 : Ext w w4 := (by repeat (first | assumption | exact Ext.refl _ | refine Ext.alloc ?_ _ | refine Ext.drew ?_ | refine Ext.setB ?_ (by first | omega | (simp only [size_alloc, size_setB, size_drew]; omega)) _ | exact Ext.trans (by assumption) (by assumption) | refine Ext.trans ?_ (by assumption)))
      refine WH_p (PS_move_tuple rfl) rfl ?_
      refine WH_p (PS_extract_int rfl rfl) rfl ?_
      refine WH_p (PS_extract_bool rfl rfl) rfl ?_
      refine WH_p (PS_assign_int rfl) rfl ?_
      refine WH_p (PS_assign_bool rfl) rfl ?_
      refine WH_nil ?_
      refine thn_normal ?_
      refine W_seq ?_
      refine W_seq ?_
      refine W_region rfl ?_
      refine WO_p (PS_move_bool rfl) ?_
      refine WO_p (PS_not rfl) ?_
      refine WO_p (PS_move_bool rfl) ?_
      refine WO_if (t := 31) rfl (fun hb9 => ?_) (fun hb9 => ?_)
      · have hb9p := hb9.h; try simp only [al_ete, al_dfn, Bool.not_eq_true', Bool.not_eq_false', al_ne, Bool.not_not, al_nn] at hb9p
        refine WO_guardF rfl rfl hb9.h ?_
        refine WO_guardF rfl rfl hb9.h ?_
        refine WO_guardF rfl rfl hb9.h ?_
        refine WO_guardF rfl rfl hb9.h ?_
        refine WO_guardF rfl rfl hb9.h ?_
        refine WO_guardF rfl rfl hb9.h ?_
        refine WO_p (PS_pickT rfl hb9.h rfl) ?_
        refine WO_nil ?_
        refine thn_normal ?_
        refine W_condT rfl rfl ?_
        refine W_seq ?_
        refine W_region rfl ?_
        refine WO_p (PS_move_ptr rfl) ?_
        refine WO_call Hvad.call93 (by rfl) (Ret.mono (fail_spec scan C c v B m t f 0 S 2 _ (MS.ext hM (by repeat (first | assumption | exact Ext.refl _ | refine Ext.alloc ?_ _ | refine Ext.drew ?_ | refine Ext.setB ?_ (by first | omega | (simp only [size_alloc, size_setB, size_drew]; omega)) _ | exact Ext.trans (by assumption) (by assumption) | refine Ext.trans ?_ (by assumption)))) hf hI (by omega)) ?_)
        rintro _ w2 ⟨rfl, v2, m2, hR2, hP2⟩
        refine WO_p (PS_not rfl) ?_
        refine WO_p (PS_assign_bool rfl) ?_
        refine WO_nil ?_
        refine thn_normal ?_
        refine W_ret ?_
        refine thn_ret ?_
        refine bodyQ_ret1 Hvad.results48 rfl (.bool _) rfl ?_
        exact Or.inr ⟨rfl, v2, m2, MRet.pre (by repeat (first | assumption | exact Ext.refl _ | refine Ext.alloc ?_ _ | refine Ext.drew ?_ | refine Ext.setB ?_ (by first | omega | (simp only [size_alloc, size_setB, size_drew]; omega)) _ | exact Ext.trans (by assumption) (by assumption) | refine Ext.trans ?_ (by assumption))) hR2, hP2⟩
      · have hb9p := hb9.h; try simp only [al_ete, al_dfn, Bool.not_eq_true', Bool.not_eq_false', al_ne, Bool.not_not, al_nn] at hb9p
        refine WO_guardT rfl rfl hb9.h ?_
        refine WO_p (PS_move_int rfl) ?_
        refine WO_guardT rfl rfl hb9.h ?_
        refine WO_p (PS_move_ptr rfl) ?_
        refine WO_guardT rfl rfl hb9.h ?_
        refine WO_p (PS_nilCheck rfl) ?_
        refine WO_guardT rfl rfl hb9.h ?_
        refine WO_p (PS_fieldAddr 7 Hvad.runUnderlying65 rfl Hvad.sizeOf26 rfl rfl) ?_
        refine WO_guardT rfl rfl hb9.h ?_
        refine WO_load (.int _ _) Hvad.isAgg26 rfl (Hb.h (by repeat (first | assumption | exact Hb.newY _ _ | refine Hb.alloc ?_ | refine Hb.drew ?_ | refine Hb.ext (by assumption) ?_ | exact Hb.setSameL (by first | omega | (simp only [size_alloc, size_setB, size_drew]; omega)) | exact Hb.setSame (by assumption) | refine Hb.set (by first | omega | (simp only [size_alloc, size_setB, size_drew]; omega)) ?_ ))) (Ce.h (by first | assumption | exact ⟨rfl⟩)) ?_
        refine WO_guardT rfl rfl hb9.h ?_
        refine WO_p (PS_gtr rfl rfl) ?_
        refine WO_p (PS_pickF rfl hb9.h rfl) ?_
        refine WO_nil ?_
        refine thn_normal ?_
        refine W_if rfl (fun hb14 => ?_) (fun hb14 => ?_)
        · have hb14p := hb14.h; try simp only [al_ete, al_dfn, Bool.not_eq_true', Bool.not_eq_false', al_ne, Bool.not_not, al_nn] at hb14p
          refine W_seq ?_
          refine W_region rfl ?_
          refine WO_p (PS_move_ptr rfl) ?_
          refine WO_call Hvad.call93 (by rfl) (Ret.mono (fail_spec scan C c v B m t f 0 S 2 _ (MS.ext hM (by repeat (first | assumption | exact Ext.refl _ | refine Ext.alloc ?_ _ | refine Ext.drew ?_ | refine Ext.setB ?_ (by first | omega | (simp only [size_alloc, size_setB, size_drew]; omega)) _ | exact Ext.trans (by assumption) (by assumption) | refine Ext.trans ?_ (by assumption)))) hf hI (by omega)) ?_)
          rintro _ w2 ⟨rfl, v2, m2, hR2, hP2⟩
          refine WO_p (PS_not rfl) ?_
          refine WO_p (PS_assign_bool rfl) ?_
          refine WO_nil ?_
          refine thn_normal ?_
          refine W_ret ?_
          refine thn_ret ?_
          refine bodyQ_ret1 Hvad.results48 rfl (.bool _) rfl ?_
          exact Or.inr ⟨rfl, v2, m2, MRet.pre (by repeat (first | assumption | exact Ext.refl _ | refine Ext.alloc ?_ _ | refine Ext.drew ?_ | refine Ext.setB ?_ (by first | omega | (simp only [size_alloc, size_setB, size_drew]; omega)) _ | exact Ext.trans (by assumption) (by assumption) | refine Ext.trans ?_ (by assumption))) hR2, hP2⟩
        · have hb14p := hb14.h; try simp only [al_ete, al_dfn, Bool.not_eq_true', Bool.not_eq_false', al_ne, Bool.not_not, al_nn] at hb14p
          refine W_skip ?_
          refine thn_normal ?_
          refine W_seq ?_
          refine W_gen fun w7 hw7 => ?_
          have hE7 : Ext w w7 := by rw [hw7]; exact (by repeat (first | assumption | exact Ext.refl _ | refine Ext.alloc ?_ _ | refine Ext.drew ?_ | refine Ext.setB ?_ (by first | omega | (simp only [size_alloc, size_setB, size_drew]; omega)) _ | exact Ext.trans (by assumption) (by assumption) | refine Ext.trans ?_ (by assumption)))
          clear hw7
          have hz7 := hE7.1
          have hblk7 := (hM.ext hE7).vs.blk
          obtain ⟨hpay, hgq⟩ := hI.pay hM.ty hf (c := cst) (buf' := m.buf) (base' := m.base) ⟨hcst.1, by omega⟩ hI.ti.bl (Or.inl ⟨rfl, rfl⟩)
          obtain ⟨hM8, hS8⟩ := (hM.ext hE7).putF_gas (t := t) (f := f) hf (f.gas - cst) (by omega)
          refine W_region rfl ?_
          refine WO_p (PS_move_ptr rfl) ?_
          refine WO_p (PS_nilCheck rfl) ?_
          refine WO_p (PS_fieldAddr 7 Hvad.runUnderlying65 rfl Hvad.sizeOf26 rfl rfl) ?_
          refine WO_load (.int _ _) Hvad.isAgg26 rfl (Hb.h (by repeat (first | assumption | exact Hb.newY _ _ | refine Hb.alloc ?_ | refine Hb.drew ?_ | refine Hb.ext (by assumption) ?_ | exact Hb.setSameL (by first | omega | (simp only [size_alloc, size_setB, size_drew]; omega)) | exact Hb.setSame (by assumption) | refine Hb.set (by first | omega | (simp only [size_alloc, size_setB, size_drew]; omega)) ?_ ))) (Ce.h (by first | assumption | exact ⟨rfl⟩)) ?_
          refine WO_p (PS_move_int rfl) ?_
          refine WO_p (PS_sub_u64n rfl rfl (by omega) (by omega)) ?_
          refine WO_p (PS_nilCheck rfl) ?_
          refine WO_p (PS_fieldAddr 7 Hvad.runUnderlying65 rfl Hvad.sizeOf26 rfl rfl) ?_
          refine WO_store1 Hvad.sizeOf26 rfl (v := (.int _ _)) rfl (Hb.h (by repeat (first | assumption | exact Hb.newY _ _ | refine Hb.alloc ?_ | refine Hb.drew ?_ | refine Hb.ext (by assumption) ?_ | exact Hb.setSameL (by first | omega | (simp only [size_alloc, size_setB, size_drew]; omega)) | exact Hb.setSame (by assumption) | refine Hb.set (by first | omega | (simp only [size_alloc, size_setB, size_drew]; omega)) ?_ ))) rfl (by first | omega | assumption | rfl | decide | exact Nat.le_refl _ | (simp only [size_ic, Value.cells]; omega) | simp) rfl ?_
          refine WO_nil ?_
          refine thn_normal ?_
          refine W_seq ?_
          refine W_gen fun w9 hw9 => ?_
          obtain ⟨c9, hM9, hS9⟩ : ∃ c9, MS w9 C c9 v B { m with buf := m.buf, base := m.base, frames := m.frames.set t { f with gas := f.gas - cst } } ∧ MStep w w9 C B m B { m with buf := m.buf, base := m.base, frames := m.frames.set t { f with gas := f.gas - cst } } := ⟨_, by rw [hw9]; exact hM8, by rw [hw9]; exact (MStep.ext hE7).trans hS8⟩
          clear hw9 hM8 hS8
          have hz9 := hS9.keep.sz
          have hblk9 := hM9.vs.blk
          have hcs9 := hM9.sz
          have hf9 : ({ m with buf := m.buf, base := m.base, frames := m.frames.set t { f with gas := f.gas - cst } } : Mc).frames[t]? = some { f with gas := f.gas - cst } := by show (m.frames.set t _)[t]? = _; rw [List.getElem?_set_self (lt_of_getElem? hf)]
          obtain ⟨_, _, hF9⟩ := hM9.openF hf9
          have hf_ntv9 : Ce c9 (1803 + t * 65 + 2) (.int .u8 f.ntv) := hF9.ntv
          have hf_input9 : Ce c9 (1803 + t * 65 + 54) (.slice f.inputY.1 f.inputY.2.1 f.inputY.2.2) := hF9.inputY
          have hbx9 : BX w9 (bb m) f.inputY Li := BX.mstep hM hS9 hbxi
          have hsci9 := hbx9.sc
          have hbi9l : Li.length = f.inputY.2.1 := hbxi.len
          refine W_drawE [false, false, false, false, false, false, false, false, false, false, false] hmix (by kernel_rfl) rfl ?_
          refine WH_p (PS_move_ptr rfl) rfl ?_
          refine WH_p (PS_move_ptr rfl) rfl ?_
          refine WH_p (PS_nilCheck rfl) rfl ?_
          refine WH_p (PS_fieldAddr 2 Hvad.runUnderlying65 rfl Hvad.sizeOf5 rfl rfl) rfl ?_
          refine WH_load (.int _ _) Hvad.isAgg5 rfl (Hb.h (by repeat (first | assumption | exact Hb.newY _ _ | refine Hb.alloc ?_ | refine Hb.drew ?_ | refine Hb.ext (by assumption) ?_ | exact Hb.setSameL (by first | omega | (simp only [size_alloc, size_setB, size_drew]; omega)) | exact Hb.setSame (by assumption) | refine Hb.set (by first | omega | (simp only [size_alloc, size_setB, size_drew]; omega)) ?_ ))) (Ce.h (by first | assumption | exact ⟨rfl⟩)) ?_
          refine WH_p (PS_move_ptr rfl) rfl ?_
          refine WH_p (PS_nilCheck rfl) rfl ?_
          refine WH_p (PS_fieldAddr 54 Hvad.runUnderlying65 rfl Hvad.sizeOf32 rfl rfl) rfl ?_
          refine WH_load (.slice _ _ _) Hvad.isAgg32 rfl (Hb.h (by repeat (first | assumption | exact Hb.newY _ _ | refine Hb.alloc ?_ | refine Hb.drew ?_ | refine Hb.ext (by assumption) ?_ | exact Hb.setSameL (by first | omega | (simp only [size_alloc, size_setB, size_drew]; omega)) | exact Hb.setSame (by assumption) | refine Hb.set (by first | omega | (simp only [size_alloc, size_setB, size_drew]; omega)) ?_ ))) (Ce.h (by first | assumption | exact ⟨rfl⟩)) ?_
          refine WH_call Hvad.call95 (by rfl) (Ret.mono (ntvRun_spec f.ntv f.inputY Li _ (SC.ext hsci9 (by repeat (first | assumption | exact Ext.refl _ | refine Ext.alloc ?_ _ | refine Ext.drew ?_ | refine Ext.setB ?_ (by first | omega | (simp only [size_alloc, size_setB, size_drew]; omega)) _ | exact Ext.trans (by assumption) (by assumption) | refine Ext.trans ?_ (by assumption)))) hbyi hil.2 (by omega) hnt) ?_)
          rintro _ w10 ⟨hE10, s10, L10, rfl, hN10, hB10, hl10⟩
          refine ⟨(fun h => by cases h), ?_⟩
          have hz10 := hE10.1
          try simp only [size_drew] at hz10
          have hcap10 := hN10.cap
          have hbs10 : BX w10 (bb m) s10 L10 := hN10.bx (fun b hb => Nat.lt_of_lt_of_le (bb_lt hM b hb) (by first | omega | (simp only [size_drew]; omega))) hB10
          refine WH_call Hvad.call94 (by rfl) (Ret.mono (end_spec scan C c9 v B { m with buf := m.buf, base := m.base, frames := m.frames.set t { f with gas := f.gas - cst } } t { f with gas := f.gas - cst } cst S 0 s10 _ (MS.ext hM9 (by repeat (first | assumption | exact Ext.refl _ | refine Ext.alloc ?_ _ | refine Ext.drew ?_ | refine Ext.setB ?_ (by first | omega | (simp only [size_alloc, size_setB, size_drew]; omega)) _ | exact Ext.trans (by assumption) (by assumption) | refine Ext.trans ?_ (by assumption)))) hf9 hpay (by omega) (BS.ext hbs10.bs (by repeat (first | assumption | exact Ext.refl _ | refine Ext.alloc ?_ _ | refine Ext.drew ?_ | refine Ext.setB ?_ (by first | omega | (simp only [size_alloc, size_setB, size_drew]; omega)) _ | exact Ext.trans (by assumption) (by assumption) | refine Ext.trans ?_ (by assumption)))) ⟨by omega, hcap10⟩) ?_)
          rintro _ w11 ⟨v2, m2, hR2, hP2⟩
          refine ⟨(fun h => by cases h), ?_⟩
          refine WH_nil ?_
          refine thn_normal ?_
          refine W_seq ?_
          refine W_region rfl ?_
          refine WO_p (PS_assign_bool rfl) ?_
          refine WO_nil ?_
          refine thn_normal ?_
          refine W_ret ?_
          refine bodyQ_ret1 Hvad.results48 rfl (.bool _) rfl ?_
          exact Or.inr ⟨rfl, v2, m2, MRet.trans hS9 (MRet.pre (by repeat (first | assumption | exact Ext.refl _ | refine Ext.alloc ?_ _ | refine Ext.drew ?_ | refine Ext.setB ?_ (by first | omega | (simp only [size_alloc, size_setB, size_drew]; omega)) _ | exact Ext.trans (by assumption) (by assumption) | refine Ext.trans ?_ (by assumption))) hR2), EndP.of_pay hcst.1 hgq hP2⟩

def IK (o : Int) (x : Int × Int × Int × Bool) : Prop := x.2.2.2 = true → (o = 0 ∨ (1 ≤ o ∧ o ≤ 11) ∨ (16 ≤ o ∧ o ≤ 29) ∨ o = 32 ∨ (48 ≤ o ∧ o ≤ 72) ∨ (80 ≤ o ∧ o ≤ 164) ∨ (240 ≤ o ∧ o ≤ 245) ∨ o = 250 ∨ o = 253 ∨ o = 255)
theorem IK.iteY {o : Int} {c : Prop} [Decidable c] {x y : Int × Int × Int × Bool} (h1 : c → IK o x) (h2 : ¬ c → IK o y) : IK o (if c then x else y) := by
  split
  · exact h1 ‹_›
  · exact h2 ‹_›
theorem IK.yes {o a b c : Int} {d : Bool} (h : (o = 0 ∨ (1 ≤ o ∧ o ≤ 11) ∨ (16 ≤ o ∧ o ≤ 29) ∨ o = 32 ∨ (48 ≤ o ∧ o ≤ 72) ∨ (80 ≤ o ∧ o ≤ 164) ∨ (240 ≤ o ∧ o ≤ 245) ∨ o = 250 ∨ o = 253 ∨ o = 255)) : IK o (a, b, c, d) := fun _ => h
theorem IK.bad {o a b c : Int} : IK o (a, b, c, false) := fun h => by cases h
theorem info_known (o : Int) : IK o (infoW o) := by
  unfold infoW
  repeat' (first | exact IK.bad | exact IK.yes (by omega) | refine IK.iteY (fun _ => ?_) (fun _ => ?_))
set_option maxRecDepth 10000 in
set_option maxHeartbeats 4000000 in
theorem execRows_spec (C : Nat) (c : Array Value) (v : V) (B : VB) (m : Mc) (t : Nat) (f : Fm) (o c' S : Int) (w : World) (hM : MS w C c v B m) (hop : Mc.opc f = o) (hAd : Adm scanW v m t f o (infoW o).2.2.1 c' S) (hk : (infoW o).1 ≤ f.sp ∧ f.sp - (infoW o).1 + (infoW o).2.1 ≤ 64) (hkn : (infoW o).2.2.2 = true) (hr : 95 ≤ o ∧ o ≤ 164) : Ret Hvad.prog 114 #[.pointer (some ⟨C, 0, none⟩), .int .u8 o] w fun _ w' => ∃ v' m', MRet w C B m w' v' m' ∧ OpP scanW m t c' S v' m' := by
  refine Ret_of_W Hvad.func114 rfl rfl ?_
  refine W_block ?_
  refine W_seq ?_
  refine W_region rfl ?_
  refine WO_p (PS_move_int rfl) ?_
  refine WO_p (PS_geq rfl rfl) ?_
  refine WO_p (PS_move_bool rfl) ?_
  refine WO_if (t := 9) rfl (fun hb2 => ?_) (fun hb2 => ?_)
  · have hb2p := hb2.h; try simp only [al_ete, al_dfn, Bool.not_eq_true', Bool.not_eq_false', al_ne, Bool.not_not, al_nn] at hb2p
    refine WO_guardT rfl rfl hb2.h ?_
    refine WO_p (PS_move_int rfl) ?_
    refine WO_guardT rfl rfl hb2.h ?_
    refine WO_p (PS_leq rfl rfl) ?_
    refine WO_p (PS_pickT rfl hb2.h rfl) ?_
    refine WO_p (PS_assign_bool rfl) ?_
    refine WO_nil ?_
    refine thn_normal ?_
    refine W_if rfl (fun hb4 => ?_) (fun hb4 => ?_)
    · have hb4p := hb4.h; try simp only [al_ete, al_dfn, Bool.not_eq_true', Bool.not_eq_false', al_ne, Bool.not_not, al_nn] at hb4p
      refine W_region rfl ?_
      refine WO_p (PS_move_ptr rfl) ?_
      refine WO_call Hvad.call213 (by rfl) (Ret.mono (opPush_spec scanW C c v B m t f o c' S _ (MS.ext hM (by repeat (first | assumption | exact Ext.refl _ | refine Ext.alloc ?_ _ | refine Ext.drew ?_ | refine Ext.setB ?_ (by first | omega | (simp only [size_alloc, size_setB, size_drew]; omega)) _ | exact Ext.trans (by assumption) (by assumption) | refine Ext.trans ?_ (by assumption)))) hop hAd hk (hAd.pos hkn (by omega) (by omega) (by omega)) (by omega)) ?_)
      rintro _ wZ ⟨vZ, mZ, hRZ, hPZ⟩
      refine WO_nil ?_
      refine inBlk_normal ?_
      first | refine bodyQ_ret0 Hvad.results114 ?_ | refine bodyQ_end0 Hvad.results114 ?_
      exact ⟨vZ, mZ, MRet.pre (by repeat (first | assumption | exact Ext.refl _ | refine Ext.alloc ?_ _ | refine Ext.drew ?_ | refine Ext.setB ?_ (by first | omega | (simp only [size_alloc, size_setB, size_drew]; omega)) _ | refine Ext.trans ?_ (by assumption))) hRZ, hPZ⟩
    · have hb4p := hb4.h; try simp only [al_ete, al_dfn, Bool.not_eq_true', Bool.not_eq_false', al_ne, Bool.not_not, al_nn] at hb4p
      refine W_seq ?_
      refine W_region rfl ?_
      refine WO_p (PS_move_int rfl) ?_
      refine WO_p (PS_geq rfl rfl) ?_
      refine WO_p (PS_move_bool rfl) ?_
      refine WO_if (t := 18) rfl (fun hb7 => ?_) (fun hb7 => ?_)
      · have hb7p := hb7.h; try simp only [al_ete, al_dfn, Bool.not_eq_true', Bool.not_eq_false', al_ne, Bool.not_not, al_nn] at hb7p
        refine WO_guardT rfl rfl hb7.h ?_
        refine WO_p (PS_move_int rfl) ?_
        refine WO_guardT rfl rfl hb7.h ?_
        refine WO_p (PS_leq rfl rfl) ?_
        refine WO_p (PS_pickT rfl hb7.h rfl) ?_
        refine WO_p (PS_assign_bool rfl) ?_
        refine WO_nil ?_
        refine thn_normal ?_
        refine W_if rfl (fun hb9 => ?_) (fun hb9 => ?_)
        · have hb9p := hb9.h; try simp only [al_ete, al_dfn, Bool.not_eq_true', Bool.not_eq_false', al_ne, Bool.not_not, al_nn] at hb9p
          refine W_region rfl ?_
          refine WO_p (PS_move_ptr rfl) ?_
          refine WO_call Hvad.call214 (by rfl) (Ret.mono (opDup_spec scanW C c v B m t f o c' S _ (MS.ext hM (by repeat (first | assumption | exact Ext.refl _ | refine Ext.alloc ?_ _ | refine Ext.drew ?_ | refine Ext.setB ?_ (by first | omega | (simp only [size_alloc, size_setB, size_drew]; omega)) _ | exact Ext.trans (by assumption) (by assumption) | refine Ext.trans ?_ (by assumption)))) hop hAd hk (hAd.pos hkn (by omega) (by omega) (by omega)) (by omega)) ?_)
          rintro _ wZ ⟨vZ, mZ, hRZ, hPZ⟩
          refine WO_nil ?_
          refine inBlk_normal ?_
          first | refine bodyQ_ret0 Hvad.results114 ?_ | refine bodyQ_end0 Hvad.results114 ?_
          exact ⟨vZ, mZ, MRet.pre (by repeat (first | assumption | exact Ext.refl _ | refine Ext.alloc ?_ _ | refine Ext.drew ?_ | refine Ext.setB ?_ (by first | omega | (simp only [size_alloc, size_setB, size_drew]; omega)) _ | refine Ext.trans ?_ (by assumption))) hRZ, hPZ⟩
        · have hb9p := hb9.h; try simp only [al_ete, al_dfn, Bool.not_eq_true', Bool.not_eq_false', al_ne, Bool.not_not, al_nn] at hb9p
          refine W_seq ?_
          refine W_region rfl ?_
          refine WO_p (PS_move_int rfl) ?_
          refine WO_p (PS_geq rfl rfl) ?_
          refine WO_p (PS_move_bool rfl) ?_
          refine WO_if (t := 27) rfl (fun hb12 => ?_) (fun hb12 => ?_)
          · have hb12p := hb12.h; try simp only [al_ete, al_dfn, Bool.not_eq_true', Bool.not_eq_false', al_ne, Bool.not_not, al_nn] at hb12p
            refine WO_guardT rfl rfl hb12.h ?_
            refine WO_p (PS_move_int rfl) ?_
            refine WO_guardT rfl rfl hb12.h ?_
            refine WO_p (PS_leq rfl rfl) ?_
            refine WO_p (PS_pickT rfl hb12.h rfl) ?_
            refine WO_p (PS_assign_bool rfl) ?_
            refine WO_nil ?_
            refine thn_normal ?_
            refine W_if rfl (fun hb14 => ?_) (fun hb14 => ?_)
            · have hb14p := hb14.h; try simp only [al_ete, al_dfn, Bool.not_eq_true', Bool.not_eq_false', al_ne, Bool.not_not, al_nn] at hb14p
              refine W_region rfl ?_
              refine WO_p (PS_move_ptr rfl) ?_
              refine WO_call Hvad.call215 (by rfl) (Ret.mono (opSwap_spec scanW C c v B m t f o c' S _ (MS.ext hM (by repeat (first | assumption | exact Ext.refl _ | refine Ext.alloc ?_ _ | refine Ext.drew ?_ | refine Ext.setB ?_ (by first | omega | (simp only [size_alloc, size_setB, size_drew]; omega)) _ | exact Ext.trans (by assumption) (by assumption) | refine Ext.trans ?_ (by assumption)))) hop hAd hk (hAd.pos hkn (by omega) (by omega) (by omega)) (by omega)) ?_)
              rintro _ wZ ⟨vZ, mZ, hRZ, hPZ⟩
              refine WO_nil ?_
              refine inBlk_normal ?_
              first | refine bodyQ_ret0 Hvad.results114 ?_ | refine bodyQ_end0 Hvad.results114 ?_
              exact ⟨vZ, mZ, MRet.pre (by repeat (first | assumption | exact Ext.refl _ | refine Ext.alloc ?_ _ | refine Ext.drew ?_ | refine Ext.setB ?_ (by first | omega | (simp only [size_alloc, size_setB, size_drew]; omega)) _ | refine Ext.trans ?_ (by assumption))) hRZ, hPZ⟩
            · have hb14p := hb14.h; try simp only [al_ete, al_dfn, Bool.not_eq_true', Bool.not_eq_false', al_ne, Bool.not_not, al_nn] at hb14p
              refine W_seq ?_
              refine W_region rfl ?_
              refine WO_p (PS_move_int rfl) ?_
              refine WO_p (PS_geq rfl rfl) ?_
              refine WO_p (PS_move_bool rfl) ?_
              refine WO_if (t := 36) rfl (fun hb17 => ?_) (fun hb17 => ?_)
              · have hb17p := hb17.h; try simp only [al_ete, al_dfn, Bool.not_eq_true', Bool.not_eq_false', al_ne, Bool.not_not, al_nn] at hb17p
                refine WO_guardT rfl rfl hb17.h ?_
                refine WO_p (PS_move_int rfl) ?_
                refine WO_guardT rfl rfl hb17.h ?_
                refine WO_p (PS_leq rfl rfl) ?_
                refine WO_p (PS_pickT rfl hb17.h rfl) ?_
                refine WO_p (PS_assign_bool rfl) ?_
                refine WO_nil ?_
                refine thn_normal ?_
                refine W_if rfl (fun hb19 => ?_) (fun hb19 => ?_)
                · have hb19p := hb19.h; try simp only [al_ete, al_dfn, Bool.not_eq_true', Bool.not_eq_false', al_ne, Bool.not_not, al_nn] at hb19p
                  refine W_region rfl ?_
                  refine WO_p (PS_move_ptr rfl) ?_
                  refine WO_call Hvad.call216 (by rfl) (Ret.mono (opLog_spec scanW C c v B m t f o c' S _ (MS.ext hM (by repeat (first | assumption | exact Ext.refl _ | refine Ext.alloc ?_ _ | refine Ext.drew ?_ | refine Ext.setB ?_ (by first | omega | (simp only [size_alloc, size_setB, size_drew]; omega)) _ | exact Ext.trans (by assumption) (by assumption) | refine Ext.trans ?_ (by assumption)))) hop hAd hk (hAd.pos hkn (by omega) (by omega) (by omega)) (by omega)) ?_)
                  rintro _ wZ ⟨vZ, mZ, hRZ, hPZ⟩
                  refine WO_nil ?_
                  refine inBlk_normal ?_
                  first | refine bodyQ_ret0 Hvad.results114 ?_ | refine bodyQ_end0 Hvad.results114 ?_
                  exact ⟨vZ, mZ, MRet.pre (by repeat (first | assumption | exact Ext.refl _ | refine Ext.alloc ?_ _ | refine Ext.drew ?_ | refine Ext.setB ?_ (by first | omega | (simp only [size_alloc, size_setB, size_drew]; omega)) _ | refine Ext.trans ?_ (by assumption))) hRZ, hPZ⟩
                · have hb19p := hb19.h; try simp only [al_ete, al_dfn, Bool.not_eq_true', Bool.not_eq_false', al_ne, Bool.not_not, al_nn] at hb19p
                  (exfalso; omega) --END
              · have hb17p := hb17.h; try simp only [al_ete, al_dfn, Bool.not_eq_true', Bool.not_eq_false', al_ne, Bool.not_not, al_nn] at hb17p
                refine WO_guardF rfl rfl hb17.h ?_
                refine WO_guardF rfl rfl hb17.h ?_
                refine WO_p (PS_pickF rfl hb17.h rfl) ?_
                refine WO_p (PS_assign_bool rfl) ?_
                refine WO_nil ?_
                refine thn_normal ?_
                refine W_condF rfl rfl ?_
                (exfalso; omega) --END
          · have hb12p := hb12.h; try simp only [al_ete, al_dfn, Bool.not_eq_true', Bool.not_eq_false', al_ne, Bool.not_not, al_nn] at hb12p
            refine WO_guardF rfl rfl hb12.h ?_
            refine WO_guardF rfl rfl hb12.h ?_
            refine WO_p (PS_pickF rfl hb12.h rfl) ?_
            refine WO_p (PS_assign_bool rfl) ?_
            refine WO_nil ?_
            refine thn_normal ?_
            refine W_condF rfl rfl ?_
            refine W_seq ?_
            refine W_region rfl ?_
            refine WO_p (PS_move_int rfl) ?_
            refine WO_p (PS_geq rfl rfl) ?_
            refine WO_p (PS_move_bool rfl) ?_
            refine WO_if (t := 36) rfl (fun hb22 => ?_) (fun hb22 => ?_)
            · have hb22p := hb22.h; try simp only [al_ete, al_dfn, Bool.not_eq_true', Bool.not_eq_false', al_ne, Bool.not_not, al_nn] at hb22p
              refine WO_guardT rfl rfl hb22.h ?_
              refine WO_p (PS_move_int rfl) ?_
              refine WO_guardT rfl rfl hb22.h ?_
              refine WO_p (PS_leq rfl rfl) ?_
              refine WO_p (PS_pickT rfl hb22.h rfl) ?_
              refine WO_p (PS_assign_bool rfl) ?_
              refine WO_nil ?_
              refine thn_normal ?_
              refine W_if rfl (fun hb24 => ?_) (fun hb24 => ?_)
              · have hb24p := hb24.h; try simp only [al_ete, al_dfn, Bool.not_eq_true', Bool.not_eq_false', al_ne, Bool.not_not, al_nn] at hb24p
                refine W_region rfl ?_
                refine WO_p (PS_move_ptr rfl) ?_
                refine WO_call Hvad.call216 (by rfl) (Ret.mono (opLog_spec scanW C c v B m t f o c' S _ (MS.ext hM (by repeat (first | assumption | exact Ext.refl _ | refine Ext.alloc ?_ _ | refine Ext.drew ?_ | refine Ext.setB ?_ (by first | omega | (simp only [size_alloc, size_setB, size_drew]; omega)) _ | exact Ext.trans (by assumption) (by assumption) | refine Ext.trans ?_ (by assumption)))) hop hAd hk (hAd.pos hkn (by omega) (by omega) (by omega)) (by omega)) ?_)
                rintro _ wZ ⟨vZ, mZ, hRZ, hPZ⟩
                refine WO_nil ?_
                refine inBlk_normal ?_
                first | refine bodyQ_ret0 Hvad.results114 ?_ | refine bodyQ_end0 Hvad.results114 ?_
                exact ⟨vZ, mZ, MRet.pre (by repeat (first | assumption | exact Ext.refl _ | refine Ext.alloc ?_ _ | refine Ext.drew ?_ | refine Ext.setB ?_ (by first | omega | (simp only [size_alloc, size_setB, size_drew]; omega)) _ | refine Ext.trans ?_ (by assumption))) hRZ, hPZ⟩
              · have hb24p := hb24.h; try simp only [al_ete, al_dfn, Bool.not_eq_true', Bool.not_eq_false', al_ne, Bool.not_not, al_nn] at hb24p
                (exfalso; omega) --END
            · have hb22p := hb22.h; try simp only [al_ete, al_dfn, Bool.not_eq_true', Bool.not_eq_false', al_ne, Bool.not_not, al_nn] at hb22p
              refine WO_guardF rfl rfl hb22.h ?_
              refine WO_guardF rfl rfl hb22.h ?_
              refine WO_p (PS_pickF rfl hb22.h rfl) ?_
              refine WO_p (PS_assign_bool rfl) ?_
              refine WO_nil ?_
              refine thn_normal ?_
              refine W_condF rfl rfl ?_
              (exfalso; omega) --END
      · have hb7p := hb7.h; try simp only [al_ete, al_dfn, Bool.not_eq_true', Bool.not_eq_false', al_ne, Bool.not_not, al_nn] at hb7p
        refine WO_guardF rfl rfl hb7.h ?_
        refine WO_guardF rfl rfl hb7.h ?_
        refine WO_p (PS_pickF rfl hb7.h rfl) ?_
        refine WO_p (PS_assign_bool rfl) ?_
        refine WO_nil ?_
        refine thn_normal ?_
        refine W_condF rfl rfl ?_
        refine W_seq ?_
        refine W_region rfl ?_
        refine WO_p (PS_move_int rfl) ?_
        refine WO_p (PS_geq rfl rfl) ?_
        refine WO_p (PS_move_bool rfl) ?_
        refine WO_if (t := 27) rfl (fun hb27 => ?_) (fun hb27 => ?_)
        · have hb27p := hb27.h; try simp only [al_ete, al_dfn, Bool.not_eq_true', Bool.not_eq_false', al_ne, Bool.not_not, al_nn] at hb27p
          refine WO_guardT rfl rfl hb27.h ?_
          refine WO_p (PS_move_int rfl) ?_
          refine WO_guardT rfl rfl hb27.h ?_
          refine WO_p (PS_leq rfl rfl) ?_
          refine WO_p (PS_pickT rfl hb27.h rfl) ?_
          refine WO_p (PS_assign_bool rfl) ?_
          refine WO_nil ?_
          refine thn_normal ?_
          refine W_if rfl (fun hb29 => ?_) (fun hb29 => ?_)
          · have hb29p := hb29.h; try simp only [al_ete, al_dfn, Bool.not_eq_true', Bool.not_eq_false', al_ne, Bool.not_not, al_nn] at hb29p
            refine W_region rfl ?_
            refine WO_p (PS_move_ptr rfl) ?_
            refine WO_call Hvad.call215 (by rfl) (Ret.mono (opSwap_spec scanW C c v B m t f o c' S _ (MS.ext hM (by repeat (first | assumption | exact Ext.refl _ | refine Ext.alloc ?_ _ | refine Ext.drew ?_ | refine Ext.setB ?_ (by first | omega | (simp only [size_alloc, size_setB, size_drew]; omega)) _ | exact Ext.trans (by assumption) (by assumption) | refine Ext.trans ?_ (by assumption)))) hop hAd hk (hAd.pos hkn (by omega) (by omega) (by omega)) (by omega)) ?_)
            rintro _ wZ ⟨vZ, mZ, hRZ, hPZ⟩
            refine WO_nil ?_
            refine inBlk_normal ?_
            first | refine bodyQ_ret0 Hvad.results114 ?_ | refine bodyQ_end0 Hvad.results114 ?_
            exact ⟨vZ, mZ, MRet.pre (by repeat (first | assumption | exact Ext.refl _ | refine Ext.alloc ?_ _ | refine Ext.drew ?_ | refine Ext.setB ?_ (by first | omega | (simp only [size_alloc, size_setB, size_drew]; omega)) _ | refine Ext.trans ?_ (by assumption))) hRZ, hPZ⟩
          · have hb29p := hb29.h; try simp only [al_ete, al_dfn, Bool.not_eq_true', Bool.not_eq_false', al_ne, Bool.not_not, al_nn] at hb29p
            refine W_seq ?_
            refine W_region rfl ?_
            refine WO_p (PS_move_int rfl) ?_
            refine WO_p (PS_geq rfl rfl) ?_
            refine WO_p (PS_move_bool rfl) ?_
            refine WO_if (t := 36) rfl (fun hb32 => ?_) (fun hb32 => ?_)
            · have hb32p := hb32.h; try simp only [al_ete, al_dfn, Bool.not_eq_true', Bool.not_eq_false', al_ne, Bool.not_not, al_nn] at hb32p
              refine WO_guardT rfl rfl hb32.h ?_
              refine WO_p (PS_move_int rfl) ?_
              refine WO_guardT rfl rfl hb32.h ?_
              refine WO_p (PS_leq rfl rfl) ?_
              refine WO_p (PS_pickT rfl hb32.h rfl) ?_
              refine WO_p (PS_assign_bool rfl) ?_
              refine WO_nil ?_
              refine thn_normal ?_
              refine W_if rfl (fun hb34 => ?_) (fun hb34 => ?_)
              · have hb34p := hb34.h; try simp only [al_ete, al_dfn, Bool.not_eq_true', Bool.not_eq_false', al_ne, Bool.not_not, al_nn] at hb34p
                refine W_region rfl ?_
                refine WO_p (PS_move_ptr rfl) ?_
                refine WO_call Hvad.call216 (by rfl) (Ret.mono (opLog_spec scanW C c v B m t f o c' S _ (MS.ext hM (by repeat (first | assumption | exact Ext.refl _ | refine Ext.alloc ?_ _ | refine Ext.drew ?_ | refine Ext.setB ?_ (by first | omega | (simp only [size_alloc, size_setB, size_drew]; omega)) _ | exact Ext.trans (by assumption) (by assumption) | refine Ext.trans ?_ (by assumption)))) hop hAd hk (hAd.pos hkn (by omega) (by omega) (by omega)) (by omega)) ?_)
                rintro _ wZ ⟨vZ, mZ, hRZ, hPZ⟩
                refine WO_nil ?_
                refine inBlk_normal ?_
                first | refine bodyQ_ret0 Hvad.results114 ?_ | refine bodyQ_end0 Hvad.results114 ?_
                exact ⟨vZ, mZ, MRet.pre (by repeat (first | assumption | exact Ext.refl _ | refine Ext.alloc ?_ _ | refine Ext.drew ?_ | refine Ext.setB ?_ (by first | omega | (simp only [size_alloc, size_setB, size_drew]; omega)) _ | refine Ext.trans ?_ (by assumption))) hRZ, hPZ⟩
              · have hb34p := hb34.h; try simp only [al_ete, al_dfn, Bool.not_eq_true', Bool.not_eq_false', al_ne, Bool.not_not, al_nn] at hb34p
                (exfalso; omega) --END
            · have hb32p := hb32.h; try simp only [al_ete, al_dfn, Bool.not_eq_true', Bool.not_eq_false', al_ne, Bool.not_not, al_nn] at hb32p
              refine WO_guardF rfl rfl hb32.h ?_
              refine WO_guardF rfl rfl hb32.h ?_
              refine WO_p (PS_pickF rfl hb32.h rfl) ?_
              refine WO_p (PS_assign_bool rfl) ?_
              refine WO_nil ?_
              refine thn_normal ?_
              refine W_condF rfl rfl ?_
              (exfalso; omega) --END
        · have hb27p := hb27.h; try simp only [al_ete, al_dfn, Bool.not_eq_true', Bool.not_eq_false', al_ne, Bool.not_not, al_nn] at hb27p
          refine WO_guardF rfl rfl hb27.h ?_
          refine WO_guardF rfl rfl hb27.h ?_
          refine WO_p (PS_pickF rfl hb27.h rfl) ?_
          refine WO_p (PS_assign_bool rfl) ?_
          refine WO_nil ?_
          refine thn_normal ?_
          refine W_condF rfl rfl ?_
          refine W_seq ?_
          refine W_region rfl ?_
          refine WO_p (PS_move_int rfl) ?_
          refine WO_p (PS_geq rfl rfl) ?_
          refine WO_p (PS_move_bool rfl) ?_
          refine WO_if (t := 36) rfl (fun hb37 => ?_) (fun hb37 => ?_)
          · have hb37p := hb37.h; try simp only [al_ete, al_dfn, Bool.not_eq_true', Bool.not_eq_false', al_ne, Bool.not_not, al_nn] at hb37p
            refine WO_guardT rfl rfl hb37.h ?_
            refine WO_p (PS_move_int rfl) ?_
            refine WO_guardT rfl rfl hb37.h ?_
            refine WO_p (PS_leq rfl rfl) ?_
            refine WO_p (PS_pickT rfl hb37.h rfl) ?_
            refine WO_p (PS_assign_bool rfl) ?_
            refine WO_nil ?_
            refine thn_normal ?_
            refine W_if rfl (fun hb39 => ?_) (fun hb39 => ?_)
            · have hb39p := hb39.h; try simp only [al_ete, al_dfn, Bool.not_eq_true', Bool.not_eq_false', al_ne, Bool.not_not, al_nn] at hb39p
              refine W_region rfl ?_
              refine WO_p (PS_move_ptr rfl) ?_
              refine WO_call Hvad.call216 (by rfl) (Ret.mono (opLog_spec scanW C c v B m t f o c' S _ (MS.ext hM (by repeat (first | assumption | exact Ext.refl _ | refine Ext.alloc ?_ _ | refine Ext.drew ?_ | refine Ext.setB ?_ (by first | omega | (simp only [size_alloc, size_setB, size_drew]; omega)) _ | exact Ext.trans (by assumption) (by assumption) | refine Ext.trans ?_ (by assumption)))) hop hAd hk (hAd.pos hkn (by omega) (by omega) (by omega)) (by omega)) ?_)
              rintro _ wZ ⟨vZ, mZ, hRZ, hPZ⟩
              refine WO_nil ?_
              refine inBlk_normal ?_
              first | refine bodyQ_ret0 Hvad.results114 ?_ | refine bodyQ_end0 Hvad.results114 ?_
              exact ⟨vZ, mZ, MRet.pre (by repeat (first | assumption | exact Ext.refl _ | refine Ext.alloc ?_ _ | refine Ext.drew ?_ | refine Ext.setB ?_ (by first | omega | (simp only [size_alloc, size_setB, size_drew]; omega)) _ | refine Ext.trans ?_ (by assumption))) hRZ, hPZ⟩
            · have hb39p := hb39.h; try simp only [al_ete, al_dfn, Bool.not_eq_true', Bool.not_eq_false', al_ne, Bool.not_not, al_nn] at hb39p
              (exfalso; omega) --END
          · have hb37p := hb37.h; try simp only [al_ete, al_dfn, Bool.not_eq_true', Bool.not_eq_false', al_ne, Bool.not_not, al_nn] at hb37p
            refine WO_guardF rfl rfl hb37.h ?_
            refine WO_guardF rfl rfl hb37.h ?_
            refine WO_p (PS_pickF rfl hb37.h rfl) ?_
            refine WO_p (PS_assign_bool rfl) ?_
            refine WO_nil ?_
            refine thn_normal ?_
            refine W_condF rfl rfl ?_
            (exfalso; omega) --END
  · have hb2p := hb2.h; try simp only [al_ete, al_dfn, Bool.not_eq_true', Bool.not_eq_false', al_ne, Bool.not_not, al_nn] at hb2p
    refine WO_guardF rfl rfl hb2.h ?_
    refine WO_guardF rfl rfl hb2.h ?_
    refine WO_p (PS_pickF rfl hb2.h rfl) ?_
    refine WO_p (PS_assign_bool rfl) ?_
    refine WO_nil ?_
    refine thn_normal ?_
    refine W_condF rfl rfl ?_
    refine W_seq ?_
    refine W_region rfl ?_
    refine WO_p (PS_move_int rfl) ?_
    refine WO_p (PS_geq rfl rfl) ?_
    refine WO_p (PS_move_bool rfl) ?_
    refine WO_if (t := 18) rfl (fun hb42 => ?_) (fun hb42 => ?_)
    · have hb42p := hb42.h; try simp only [al_ete, al_dfn, Bool.not_eq_true', Bool.not_eq_false', al_ne, Bool.not_not, al_nn] at hb42p
      refine WO_guardT rfl rfl hb42.h ?_
      refine WO_p (PS_move_int rfl) ?_
      refine WO_guardT rfl rfl hb42.h ?_
      refine WO_p (PS_leq rfl rfl) ?_
      refine WO_p (PS_pickT rfl hb42.h rfl) ?_
      refine WO_p (PS_assign_bool rfl) ?_
      refine WO_nil ?_
      refine thn_normal ?_
      refine W_if rfl (fun hb44 => ?_) (fun hb44 => ?_)
      · have hb44p := hb44.h; try simp only [al_ete, al_dfn, Bool.not_eq_true', Bool.not_eq_false', al_ne, Bool.not_not, al_nn] at hb44p
        refine W_region rfl ?_
        refine WO_p (PS_move_ptr rfl) ?_
        refine WO_call Hvad.call214 (by rfl) (Ret.mono (opDup_spec scanW C c v B m t f o c' S _ (MS.ext hM (by repeat (first | assumption | exact Ext.refl _ | refine Ext.alloc ?_ _ | refine Ext.drew ?_ | refine Ext.setB ?_ (by first | omega | (simp only [size_alloc, size_setB, size_drew]; omega)) _ | exact Ext.trans (by assumption) (by assumption) | refine Ext.trans ?_ (by assumption)))) hop hAd hk (hAd.pos hkn (by omega) (by omega) (by omega)) (by omega)) ?_)
        rintro _ wZ ⟨vZ, mZ, hRZ, hPZ⟩
        refine WO_nil ?_
        refine inBlk_normal ?_
        first | refine bodyQ_ret0 Hvad.results114 ?_ | refine bodyQ_end0 Hvad.results114 ?_
        exact ⟨vZ, mZ, MRet.pre (by repeat (first | assumption | exact Ext.refl _ | refine Ext.alloc ?_ _ | refine Ext.drew ?_ | refine Ext.setB ?_ (by first | omega | (simp only [size_alloc, size_setB, size_drew]; omega)) _ | refine Ext.trans ?_ (by assumption))) hRZ, hPZ⟩
      · have hb44p := hb44.h; try simp only [al_ete, al_dfn, Bool.not_eq_true', Bool.not_eq_false', al_ne, Bool.not_not, al_nn] at hb44p
        refine W_seq ?_
        refine W_region rfl ?_
        refine WO_p (PS_move_int rfl) ?_
        refine WO_p (PS_geq rfl rfl) ?_
        refine WO_p (PS_move_bool rfl) ?_
        refine WO_if (t := 27) rfl (fun hb47 => ?_) (fun hb47 => ?_)
        · have hb47p := hb47.h; try simp only [al_ete, al_dfn, Bool.not_eq_true', Bool.not_eq_false', al_ne, Bool.not_not, al_nn] at hb47p
          refine WO_guardT rfl rfl hb47.h ?_
          refine WO_p (PS_move_int rfl) ?_
          refine WO_guardT rfl rfl hb47.h ?_
          refine WO_p (PS_leq rfl rfl) ?_
          refine WO_p (PS_pickT rfl hb47.h rfl) ?_
          refine WO_p (PS_assign_bool rfl) ?_
          refine WO_nil ?_
          refine thn_normal ?_
          refine W_if rfl (fun hb49 => ?_) (fun hb49 => ?_)
          · have hb49p := hb49.h; try simp only [al_ete, al_dfn, Bool.not_eq_true', Bool.not_eq_false', al_ne, Bool.not_not, al_nn] at hb49p
            refine W_region rfl ?_
            refine WO_p (PS_move_ptr rfl) ?_
            refine WO_call Hvad.call215 (by rfl) (Ret.mono (opSwap_spec scanW C c v B m t f o c' S _ (MS.ext hM (by repeat (first | assumption | exact Ext.refl _ | refine Ext.alloc ?_ _ | refine Ext.drew ?_ | refine Ext.setB ?_ (by first | omega | (simp only [size_alloc, size_setB, size_drew]; omega)) _ | exact Ext.trans (by assumption) (by assumption) | refine Ext.trans ?_ (by assumption)))) hop hAd hk (hAd.pos hkn (by omega) (by omega) (by omega)) (by omega)) ?_)
            rintro _ wZ ⟨vZ, mZ, hRZ, hPZ⟩
            refine WO_nil ?_
            refine inBlk_normal ?_
            first | refine bodyQ_ret0 Hvad.results114 ?_ | refine bodyQ_end0 Hvad.results114 ?_
            exact ⟨vZ, mZ, MRet.pre (by repeat (first | assumption | exact Ext.refl _ | refine Ext.alloc ?_ _ | refine Ext.drew ?_ | refine Ext.setB ?_ (by first | omega | (simp only [size_alloc, size_setB, size_drew]; omega)) _ | refine Ext.trans ?_ (by assumption))) hRZ, hPZ⟩
          · have hb49p := hb49.h; try simp only [al_ete, al_dfn, Bool.not_eq_true', Bool.not_eq_false', al_ne, Bool.not_not, al_nn] at hb49p
            refine W_seq ?_
            refine W_region rfl ?_
            refine WO_p (PS_move_int rfl) ?_
            refine WO_p (PS_geq rfl rfl) ?_
            refine WO_p (PS_move_bool rfl) ?_
            refine WO_if (t := 36) rfl (fun hb52 => ?_) (fun hb52 => ?_)
            · have hb52p := hb52.h; try simp only [al_ete, al_dfn, Bool.not_eq_true', Bool.not_eq_false', al_ne, Bool.not_not, al_nn] at hb52p
              refine WO_guardT rfl rfl hb52.h ?_
              refine WO_p (PS_move_int rfl) ?_
              refine WO_guardT rfl rfl hb52.h ?_
              refine WO_p (PS_leq rfl rfl) ?_
              refine WO_p (PS_pickT rfl hb52.h rfl) ?_
              refine WO_p (PS_assign_bool rfl) ?_
              refine WO_nil ?_
              refine thn_normal ?_
              refine W_if rfl (fun hb54 => ?_) (fun hb54 => ?_)
              · have hb54p := hb54.h; try simp only [al_ete, al_dfn, Bool.not_eq_true', Bool.not_eq_false', al_ne, Bool.not_not, al_nn] at hb54p
                refine W_region rfl ?_
                refine WO_p (PS_move_ptr rfl) ?_
                refine WO_call Hvad.call216 (by rfl) (Ret.mono (opLog_spec scanW C c v B m t f o c' S _ (MS.ext hM (by repeat (first | assumption | exact Ext.refl _ | refine Ext.alloc ?_ _ | refine Ext.drew ?_ | refine Ext.setB ?_ (by first | omega | (simp only [size_alloc, size_setB, size_drew]; omega)) _ | exact Ext.trans (by assumption) (by assumption) | refine Ext.trans ?_ (by assumption)))) hop hAd hk (hAd.pos hkn (by omega) (by omega) (by omega)) (by omega)) ?_)
                rintro _ wZ ⟨vZ, mZ, hRZ, hPZ⟩
                refine WO_nil ?_
                refine inBlk_normal ?_
                first | refine bodyQ_ret0 Hvad.results114 ?_ | refine bodyQ_end0 Hvad.results114 ?_
                exact ⟨vZ, mZ, MRet.pre (by repeat (first | assumption | exact Ext.refl _ | refine Ext.alloc ?_ _ | refine Ext.drew ?_ | refine Ext.setB ?_ (by first | omega | (simp only [size_alloc, size_setB, size_drew]; omega)) _ | refine Ext.trans ?_ (by assumption))) hRZ, hPZ⟩
              · have hb54p := hb54.h; try simp only [al_ete, al_dfn, Bool.not_eq_true', Bool.not_eq_false', al_ne, Bool.not_not, al_nn] at hb54p
                (exfalso; omega) --END
            · have hb52p := hb52.h; try simp only [al_ete, al_dfn, Bool.not_eq_true', Bool.not_eq_false', al_ne, Bool.not_not, al_nn] at hb52p
              refine WO_guardF rfl rfl hb52.h ?_
              refine WO_guardF rfl rfl hb52.h ?_
              refine WO_p (PS_pickF rfl hb52.h rfl) ?_
              refine WO_p (PS_assign_bool rfl) ?_
              refine WO_nil ?_
              refine thn_normal ?_
              refine W_condF rfl rfl ?_
              (exfalso; omega) --END
        · have hb47p := hb47.h; try simp only [al_ete, al_dfn, Bool.not_eq_true', Bool.not_eq_false', al_ne, Bool.not_not, al_nn] at hb47p
          refine WO_guardF rfl rfl hb47.h ?_
          refine WO_guardF rfl rfl hb47.h ?_
          refine WO_p (PS_pickF rfl hb47.h rfl) ?_
          refine WO_p (PS_assign_bool rfl) ?_
          refine WO_nil ?_
          refine thn_normal ?_
          refine W_condF rfl rfl ?_
          refine W_seq ?_
          refine W_region rfl ?_
          refine WO_p (PS_move_int rfl) ?_
          refine WO_p (PS_geq rfl rfl) ?_
          refine WO_p (PS_move_bool rfl) ?_
          refine WO_if (t := 36) rfl (fun hb57 => ?_) (fun hb57 => ?_)
          · have hb57p := hb57.h; try simp only [al_ete, al_dfn, Bool.not_eq_true', Bool.not_eq_false', al_ne, Bool.not_not, al_nn] at hb57p
            refine WO_guardT rfl rfl hb57.h ?_
            refine WO_p (PS_move_int rfl) ?_
            refine WO_guardT rfl rfl hb57.h ?_
            refine WO_p (PS_leq rfl rfl) ?_
            refine WO_p (PS_pickT rfl hb57.h rfl) ?_
            refine WO_p (PS_assign_bool rfl) ?_
            refine WO_nil ?_
            refine thn_normal ?_
            refine W_if rfl (fun hb59 => ?_) (fun hb59 => ?_)
            · have hb59p := hb59.h; try simp only [al_ete, al_dfn, Bool.not_eq_true', Bool.not_eq_false', al_ne, Bool.not_not, al_nn] at hb59p
              refine W_region rfl ?_
              refine WO_p (PS_move_ptr rfl) ?_
              refine WO_call Hvad.call216 (by rfl) (Ret.mono (opLog_spec scanW C c v B m t f o c' S _ (MS.ext hM (by repeat (first | assumption | exact Ext.refl _ | refine Ext.alloc ?_ _ | refine Ext.drew ?_ | refine Ext.setB ?_ (by first | omega | (simp only [size_alloc, size_setB, size_drew]; omega)) _ | exact Ext.trans (by assumption) (by assumption) | refine Ext.trans ?_ (by assumption)))) hop hAd hk (hAd.pos hkn (by omega) (by omega) (by omega)) (by omega)) ?_)
              rintro _ wZ ⟨vZ, mZ, hRZ, hPZ⟩
              refine WO_nil ?_
              refine inBlk_normal ?_
              first | refine bodyQ_ret0 Hvad.results114 ?_ | refine bodyQ_end0 Hvad.results114 ?_
              exact ⟨vZ, mZ, MRet.pre (by repeat (first | assumption | exact Ext.refl _ | refine Ext.alloc ?_ _ | refine Ext.drew ?_ | refine Ext.setB ?_ (by first | omega | (simp only [size_alloc, size_setB, size_drew]; omega)) _ | refine Ext.trans ?_ (by assumption))) hRZ, hPZ⟩
            · have hb59p := hb59.h; try simp only [al_ete, al_dfn, Bool.not_eq_true', Bool.not_eq_false', al_ne, Bool.not_not, al_nn] at hb59p
              (exfalso; omega) --END
          · have hb57p := hb57.h; try simp only [al_ete, al_dfn, Bool.not_eq_true', Bool.not_eq_false', al_ne, Bool.not_not, al_nn] at hb57p
            refine WO_guardF rfl rfl hb57.h ?_
            refine WO_guardF rfl rfl hb57.h ?_
            refine WO_p (PS_pickF rfl hb57.h rfl) ?_
            refine WO_p (PS_assign_bool rfl) ?_
            refine WO_nil ?_
            refine thn_normal ?_
            refine W_condF rfl rfl ?_
            (exfalso; omega) --END
    · have hb42p := hb42.h; try simp only [al_ete, al_dfn, Bool.not_eq_true', Bool.not_eq_false', al_ne, Bool.not_not, al_nn] at hb42p
      refine WO_guardF rfl rfl hb42.h ?_
      refine WO_guardF rfl rfl hb42.h ?_
      refine WO_p (PS_pickF rfl hb42.h rfl) ?_
      refine WO_p (PS_assign_bool rfl) ?_
      refine WO_nil ?_
      refine thn_normal ?_
      refine W_condF rfl rfl ?_
      refine W_seq ?_
      refine W_region rfl ?_
      refine WO_p (PS_move_int rfl) ?_
      refine WO_p (PS_geq rfl rfl) ?_
      refine WO_p (PS_move_bool rfl) ?_
      refine WO_if (t := 27) rfl (fun hb62 => ?_) (fun hb62 => ?_)
      · have hb62p := hb62.h; try simp only [al_ete, al_dfn, Bool.not_eq_true', Bool.not_eq_false', al_ne, Bool.not_not, al_nn] at hb62p
        refine WO_guardT rfl rfl hb62.h ?_
        refine WO_p (PS_move_int rfl) ?_
        refine WO_guardT rfl rfl hb62.h ?_
        refine WO_p (PS_leq rfl rfl) ?_
        refine WO_p (PS_pickT rfl hb62.h rfl) ?_
        refine WO_p (PS_assign_bool rfl) ?_
        refine WO_nil ?_
        refine thn_normal ?_
        refine W_if rfl (fun hb64 => ?_) (fun hb64 => ?_)
        · have hb64p := hb64.h; try simp only [al_ete, al_dfn, Bool.not_eq_true', Bool.not_eq_false', al_ne, Bool.not_not, al_nn] at hb64p
          refine W_region rfl ?_
          refine WO_p (PS_move_ptr rfl) ?_
          refine WO_call Hvad.call215 (by rfl) (Ret.mono (opSwap_spec scanW C c v B m t f o c' S _ (MS.ext hM (by repeat (first | assumption | exact Ext.refl _ | refine Ext.alloc ?_ _ | refine Ext.drew ?_ | refine Ext.setB ?_ (by first | omega | (simp only [size_alloc, size_setB, size_drew]; omega)) _ | exact Ext.trans (by assumption) (by assumption) | refine Ext.trans ?_ (by assumption)))) hop hAd hk (hAd.pos hkn (by omega) (by omega) (by omega)) (by omega)) ?_)
          rintro _ wZ ⟨vZ, mZ, hRZ, hPZ⟩
          refine WO_nil ?_
          refine inBlk_normal ?_
          first | refine bodyQ_ret0 Hvad.results114 ?_ | refine bodyQ_end0 Hvad.results114 ?_
          exact ⟨vZ, mZ, MRet.pre (by repeat (first | assumption | exact Ext.refl _ | refine Ext.alloc ?_ _ | refine Ext.drew ?_ | refine Ext.setB ?_ (by first | omega | (simp only [size_alloc, size_setB, size_drew]; omega)) _ | refine Ext.trans ?_ (by assumption))) hRZ, hPZ⟩
        · have hb64p := hb64.h; try simp only [al_ete, al_dfn, Bool.not_eq_true', Bool.not_eq_false', al_ne, Bool.not_not, al_nn] at hb64p
          refine W_seq ?_
          refine W_region rfl ?_
          refine WO_p (PS_move_int rfl) ?_
          refine WO_p (PS_geq rfl rfl) ?_
          refine WO_p (PS_move_bool rfl) ?_
          refine WO_if (t := 36) rfl (fun hb67 => ?_) (fun hb67 => ?_)
          · have hb67p := hb67.h; try simp only [al_ete, al_dfn, Bool.not_eq_true', Bool.not_eq_false', al_ne, Bool.not_not, al_nn] at hb67p
            refine WO_guardT rfl rfl hb67.h ?_
            refine WO_p (PS_move_int rfl) ?_
            refine WO_guardT rfl rfl hb67.h ?_
            refine WO_p (PS_leq rfl rfl) ?_
            refine WO_p (PS_pickT rfl hb67.h rfl) ?_
            refine WO_p (PS_assign_bool rfl) ?_
            refine WO_nil ?_
            refine thn_normal ?_
            refine W_if rfl (fun hb69 => ?_) (fun hb69 => ?_)
            · have hb69p := hb69.h; try simp only [al_ete, al_dfn, Bool.not_eq_true', Bool.not_eq_false', al_ne, Bool.not_not, al_nn] at hb69p
              refine W_region rfl ?_
              refine WO_p (PS_move_ptr rfl) ?_
              refine WO_call Hvad.call216 (by rfl) (Ret.mono (opLog_spec scanW C c v B m t f o c' S _ (MS.ext hM (by repeat (first | assumption | exact Ext.refl _ | refine Ext.alloc ?_ _ | refine Ext.drew ?_ | refine Ext.setB ?_ (by first | omega | (simp only [size_alloc, size_setB, size_drew]; omega)) _ | exact Ext.trans (by assumption) (by assumption) | refine Ext.trans ?_ (by assumption)))) hop hAd hk (hAd.pos hkn (by omega) (by omega) (by omega)) (by omega)) ?_)
              rintro _ wZ ⟨vZ, mZ, hRZ, hPZ⟩
              refine WO_nil ?_
              refine inBlk_normal ?_
              first | refine bodyQ_ret0 Hvad.results114 ?_ | refine bodyQ_end0 Hvad.results114 ?_
              exact ⟨vZ, mZ, MRet.pre (by repeat (first | assumption | exact Ext.refl _ | refine Ext.alloc ?_ _ | refine Ext.drew ?_ | refine Ext.setB ?_ (by first | omega | (simp only [size_alloc, size_setB, size_drew]; omega)) _ | refine Ext.trans ?_ (by assumption))) hRZ, hPZ⟩
            · have hb69p := hb69.h; try simp only [al_ete, al_dfn, Bool.not_eq_true', Bool.not_eq_false', al_ne, Bool.not_not, al_nn] at hb69p
              (exfalso; omega) --END
          · have hb67p := hb67.h; try simp only [al_ete, al_dfn, Bool.not_eq_true', Bool.not_eq_false', al_ne, Bool.not_not, al_nn] at hb67p
            refine WO_guardF rfl rfl hb67.h ?_
            refine WO_guardF rfl rfl hb67.h ?_
            refine WO_p (PS_pickF rfl hb67.h rfl) ?_
            refine WO_p (PS_assign_bool rfl) ?_
            refine WO_nil ?_
            refine thn_normal ?_
            refine W_condF rfl rfl ?_
            (exfalso; omega) --END
      · have hb62p := hb62.h; try simp only [al_ete, al_dfn, Bool.not_eq_true', Bool.not_eq_false', al_ne, Bool.not_not, al_nn] at hb62p
        refine WO_guardF rfl rfl hb62.h ?_
        refine WO_guardF rfl rfl hb62.h ?_
        refine WO_p (PS_pickF rfl hb62.h rfl) ?_
        refine WO_p (PS_assign_bool rfl) ?_
        refine WO_nil ?_
        refine thn_normal ?_
        refine W_condF rfl rfl ?_
        refine W_seq ?_
        refine W_region rfl ?_
        refine WO_p (PS_move_int rfl) ?_
        refine WO_p (PS_geq rfl rfl) ?_
        refine WO_p (PS_move_bool rfl) ?_
        refine WO_if (t := 36) rfl (fun hb72 => ?_) (fun hb72 => ?_)
        · have hb72p := hb72.h; try simp only [al_ete, al_dfn, Bool.not_eq_true', Bool.not_eq_false', al_ne, Bool.not_not, al_nn] at hb72p
          refine WO_guardT rfl rfl hb72.h ?_
          refine WO_p (PS_move_int rfl) ?_
          refine WO_guardT rfl rfl hb72.h ?_
          refine WO_p (PS_leq rfl rfl) ?_
          refine WO_p (PS_pickT rfl hb72.h rfl) ?_
          refine WO_p (PS_assign_bool rfl) ?_
          refine WO_nil ?_
          refine thn_normal ?_
          refine W_if rfl (fun hb74 => ?_) (fun hb74 => ?_)
          · have hb74p := hb74.h; try simp only [al_ete, al_dfn, Bool.not_eq_true', Bool.not_eq_false', al_ne, Bool.not_not, al_nn] at hb74p
            refine W_region rfl ?_
            refine WO_p (PS_move_ptr rfl) ?_
            refine WO_call Hvad.call216 (by rfl) (Ret.mono (opLog_spec scanW C c v B m t f o c' S _ (MS.ext hM (by repeat (first | assumption | exact Ext.refl _ | refine Ext.alloc ?_ _ | refine Ext.drew ?_ | refine Ext.setB ?_ (by first | omega | (simp only [size_alloc, size_setB, size_drew]; omega)) _ | exact Ext.trans (by assumption) (by assumption) | refine Ext.trans ?_ (by assumption)))) hop hAd hk (hAd.pos hkn (by omega) (by omega) (by omega)) (by omega)) ?_)
            rintro _ wZ ⟨vZ, mZ, hRZ, hPZ⟩
            refine WO_nil ?_
            refine inBlk_normal ?_
            first | refine bodyQ_ret0 Hvad.results114 ?_ | refine bodyQ_end0 Hvad.results114 ?_
            exact ⟨vZ, mZ, MRet.pre (by repeat (first | assumption | exact Ext.refl _ | refine Ext.alloc ?_ _ | refine Ext.drew ?_ | refine Ext.setB ?_ (by first | omega | (simp only [size_alloc, size_setB, size_drew]; omega)) _ | refine Ext.trans ?_ (by assumption))) hRZ, hPZ⟩
          · have hb74p := hb74.h; try simp only [al_ete, al_dfn, Bool.not_eq_true', Bool.not_eq_false', al_ne, Bool.not_not, al_nn] at hb74p
            (exfalso; omega) --END
        · have hb72p := hb72.h; try simp only [al_ete, al_dfn, Bool.not_eq_true', Bool.not_eq_false', al_ne, Bool.not_not, al_nn] at hb72p
          refine WO_guardF rfl rfl hb72.h ?_
          refine WO_guardF rfl rfl hb72.h ?_
          refine WO_p (PS_pickF rfl hb72.h rfl) ?_
          refine WO_p (PS_assign_bool rfl) ?_
          refine WO_nil ?_
          refine thn_normal ?_
          refine W_condF rfl rfl ?_
          (exfalso; omega) --END

set_option maxRecDepth 10000 in
set_option maxHeartbeats 8000000 in
theorem exec_spec (C : Nat) (c : Array Value) (v : V) (B : VB) (m : Mc) (t : Nat) (f : Fm) (o c' S : Int) (w : World) (hM : MS w C c v B m) (hop : Mc.opc f = o) (hAd : Adm scanW v m t f o (infoW o).2.2.1 c' S) (hk : (infoW o).1 ≤ f.sp ∧ f.sp - (infoW o).1 + (infoW o).2.1 ≤ 64) (hkn : (infoW o).2.2.2 = true) : Ret Hvad.prog 52 #[.pointer (some ⟨C, 0, none⟩), .int .u8 o] w fun _ w' => ∃ v' m', MRet w C B m w' v' m' ∧ OpP scanW m t c' S v' m' := by
  have hkk := info_known o hkn
  refine Ret_of_W Hvad.func52 rfl rfl ?_
  refine W_seq ?_
  refine W_region rfl ?_
  refine WO_p (PS_move_int rfl) ?_
  refine WO_nil ?_
  refine thn_normal ?_
  refine W_block ?_
  refine W_seq ?_
  refine W_seq ?_
  refine W_region rfl ?_
  refine WO_p (PS_eql rfl rfl) ?_
  refine WO_p (PS_assign_bool rfl) ?_
  refine WO_nil ?_
  refine thn_normal ?_
  refine W_if rfl (fun hb2 => ?_) (fun hb2 => ?_)
  · have hb2p := hb2.h; try simp only [al_ete, al_dfn, Bool.not_eq_true', Bool.not_eq_false', al_ne, Bool.not_not, al_nn] at hb2p
    refine W_skip ?_
    refine thn_normal ?_
    refine W_condT rfl hb2.h ?_
    refine W_region rfl ?_
    refine WO_p (PS_move_ptr rfl) ?_
    refine WO_call Hvad.call97 (by rfl) (Ret.mono (opArith_spec scanW C c v B m t f o c' S _ (MS.ext hM (by repeat (first | assumption | exact Ext.refl _ | refine Ext.alloc ?_ _ | refine Ext.drew ?_ | refine Ext.setB ?_ (by first | omega | (simp only [size_alloc, size_setB, size_drew]; omega)) _ | exact Ext.trans (by assumption) (by assumption) | refine Ext.trans ?_ (by assumption)))) hop hAd hk (hAd.pos hkn (by omega) (by omega) (by omega)) (by omega)) ?_)
    rintro _ wZ ⟨vZ, mZ, hRZ, hPZ⟩
    refine WO_nil ?_
    refine inBlk_normal ?_
    first | refine bodyQ_ret0 Hvad.results52 ?_ | refine bodyQ_end0 Hvad.results52 ?_
    exact ⟨vZ, mZ, MRet.pre (by repeat (first | assumption | exact Ext.refl _ | refine Ext.alloc ?_ _ | refine Ext.drew ?_ | refine Ext.setB ?_ (by first | omega | (simp only [size_alloc, size_setB, size_drew]; omega)) _ | refine Ext.trans ?_ (by assumption))) hRZ, hPZ⟩
  · have hb2p := hb2.h; try simp only [al_ete, al_dfn, Bool.not_eq_true', Bool.not_eq_false', al_ne, Bool.not_not, al_nn] at hb2p
    refine W_seq ?_
    refine W_region rfl ?_
    refine WO_p (PS_eql rfl rfl) ?_
    refine WO_p (PS_assign_bool rfl) ?_
    refine WO_nil ?_
    refine thn_normal ?_
    refine W_if rfl (fun hb5 => ?_) (fun hb5 => ?_)
    · have hb5p := hb5.h; try simp only [al_ete, al_dfn, Bool.not_eq_true', Bool.not_eq_false', al_ne, Bool.not_not, al_nn] at hb5p
      refine W_skip ?_
      refine thn_normal ?_
      refine W_condT rfl hb5.h ?_
      refine W_region rfl ?_
      refine WO_p (PS_move_ptr rfl) ?_
      refine WO_call Hvad.call97 (by rfl) (Ret.mono (opArith_spec scanW C c v B m t f o c' S _ (MS.ext hM (by repeat (first | assumption | exact Ext.refl _ | refine Ext.alloc ?_ _ | refine Ext.drew ?_ | refine Ext.setB ?_ (by first | omega | (simp only [size_alloc, size_setB, size_drew]; omega)) _ | exact Ext.trans (by assumption) (by assumption) | refine Ext.trans ?_ (by assumption)))) hop hAd hk (hAd.pos hkn (by omega) (by omega) (by omega)) (by omega)) ?_)
      rintro _ wZ ⟨vZ, mZ, hRZ, hPZ⟩
      refine WO_nil ?_
      refine inBlk_normal ?_
      first | refine bodyQ_ret0 Hvad.results52 ?_ | refine bodyQ_end0 Hvad.results52 ?_
      exact ⟨vZ, mZ, MRet.pre (by repeat (first | assumption | exact Ext.refl _ | refine Ext.alloc ?_ _ | refine Ext.drew ?_ | refine Ext.setB ?_ (by first | omega | (simp only [size_alloc, size_setB, size_drew]; omega)) _ | refine Ext.trans ?_ (by assumption))) hRZ, hPZ⟩
    · have hb5p := hb5.h; try simp only [al_ete, al_dfn, Bool.not_eq_true', Bool.not_eq_false', al_ne, Bool.not_not, al_nn] at hb5p
      refine W_seq ?_
      refine W_region rfl ?_
      refine WO_p (PS_eql rfl rfl) ?_
      refine WO_p (PS_assign_bool rfl) ?_
      refine WO_nil ?_
      refine thn_normal ?_
      refine W_if rfl (fun hb8 => ?_) (fun hb8 => ?_)
      · have hb8p := hb8.h; try simp only [al_ete, al_dfn, Bool.not_eq_true', Bool.not_eq_false', al_ne, Bool.not_not, al_nn] at hb8p
        refine W_skip ?_
        refine thn_normal ?_
        refine W_condT rfl hb8.h ?_
        refine W_region rfl ?_
        refine WO_p (PS_move_ptr rfl) ?_
        refine WO_call Hvad.call97 (by rfl) (Ret.mono (opArith_spec scanW C c v B m t f o c' S _ (MS.ext hM (by repeat (first | assumption | exact Ext.refl _ | refine Ext.alloc ?_ _ | refine Ext.drew ?_ | refine Ext.setB ?_ (by first | omega | (simp only [size_alloc, size_setB, size_drew]; omega)) _ | exact Ext.trans (by assumption) (by assumption) | refine Ext.trans ?_ (by assumption)))) hop hAd hk (hAd.pos hkn (by omega) (by omega) (by omega)) (by omega)) ?_)
        rintro _ wZ ⟨vZ, mZ, hRZ, hPZ⟩
        refine WO_nil ?_
        refine inBlk_normal ?_
        first | refine bodyQ_ret0 Hvad.results52 ?_ | refine bodyQ_end0 Hvad.results52 ?_
        exact ⟨vZ, mZ, MRet.pre (by repeat (first | assumption | exact Ext.refl _ | refine Ext.alloc ?_ _ | refine Ext.drew ?_ | refine Ext.setB ?_ (by first | omega | (simp only [size_alloc, size_setB, size_drew]; omega)) _ | refine Ext.trans ?_ (by assumption))) hRZ, hPZ⟩
      · have hb8p := hb8.h; try simp only [al_ete, al_dfn, Bool.not_eq_true', Bool.not_eq_false', al_ne, Bool.not_not, al_nn] at hb8p
        refine W_seq ?_
        refine W_region rfl ?_
        refine WO_p (PS_eql rfl rfl) ?_
        refine WO_p (PS_assign_bool rfl) ?_
        refine WO_nil ?_
        refine thn_normal ?_
        refine W_if rfl (fun hb11 => ?_) (fun hb11 => ?_)
        · have hb11p := hb11.h; try simp only [al_ete, al_dfn, Bool.not_eq_true', Bool.not_eq_false', al_ne, Bool.not_not, al_nn] at hb11p
          refine W_skip ?_
          refine thn_normal ?_
          refine W_condT rfl hb11.h ?_
          refine W_region rfl ?_
          refine WO_p (PS_move_ptr rfl) ?_
          refine WO_call Hvad.call97 (by rfl) (Ret.mono (opArith_spec scanW C c v B m t f o c' S _ (MS.ext hM (by repeat (first | assumption | exact Ext.refl _ | refine Ext.alloc ?_ _ | refine Ext.drew ?_ | refine Ext.setB ?_ (by first | omega | (simp only [size_alloc, size_setB, size_drew]; omega)) _ | exact Ext.trans (by assumption) (by assumption) | refine Ext.trans ?_ (by assumption)))) hop hAd hk (hAd.pos hkn (by omega) (by omega) (by omega)) (by omega)) ?_)
          rintro _ wZ ⟨vZ, mZ, hRZ, hPZ⟩
          refine WO_nil ?_
          refine inBlk_normal ?_
          first | refine bodyQ_ret0 Hvad.results52 ?_ | refine bodyQ_end0 Hvad.results52 ?_
          exact ⟨vZ, mZ, MRet.pre (by repeat (first | assumption | exact Ext.refl _ | refine Ext.alloc ?_ _ | refine Ext.drew ?_ | refine Ext.setB ?_ (by first | omega | (simp only [size_alloc, size_setB, size_drew]; omega)) _ | refine Ext.trans ?_ (by assumption))) hRZ, hPZ⟩
        · have hb11p := hb11.h; try simp only [al_ete, al_dfn, Bool.not_eq_true', Bool.not_eq_false', al_ne, Bool.not_not, al_nn] at hb11p
          refine W_seq ?_
          refine W_region rfl ?_
          refine WO_p (PS_eql rfl rfl) ?_
          refine WO_p (PS_assign_bool rfl) ?_
          refine WO_nil ?_
          refine thn_normal ?_
          refine W_if rfl (fun hb14 => ?_) (fun hb14 => ?_)
          · have hb14p := hb14.h; try simp only [al_ete, al_dfn, Bool.not_eq_true', Bool.not_eq_false', al_ne, Bool.not_not, al_nn] at hb14p
            refine W_skip ?_
            refine thn_normal ?_
            refine W_condT rfl hb14.h ?_
            refine W_region rfl ?_
            refine WO_p (PS_move_ptr rfl) ?_
            refine WO_call Hvad.call97 (by rfl) (Ret.mono (opArith_spec scanW C c v B m t f o c' S _ (MS.ext hM (by repeat (first | assumption | exact Ext.refl _ | refine Ext.alloc ?_ _ | refine Ext.drew ?_ | refine Ext.setB ?_ (by first | omega | (simp only [size_alloc, size_setB, size_drew]; omega)) _ | exact Ext.trans (by assumption) (by assumption) | refine Ext.trans ?_ (by assumption)))) hop hAd hk (hAd.pos hkn (by omega) (by omega) (by omega)) (by omega)) ?_)
            rintro _ wZ ⟨vZ, mZ, hRZ, hPZ⟩
            refine WO_nil ?_
            refine inBlk_normal ?_
            first | refine bodyQ_ret0 Hvad.results52 ?_ | refine bodyQ_end0 Hvad.results52 ?_
            exact ⟨vZ, mZ, MRet.pre (by repeat (first | assumption | exact Ext.refl _ | refine Ext.alloc ?_ _ | refine Ext.drew ?_ | refine Ext.setB ?_ (by first | omega | (simp only [size_alloc, size_setB, size_drew]; omega)) _ | refine Ext.trans ?_ (by assumption))) hRZ, hPZ⟩
          · have hb14p := hb14.h; try simp only [al_ete, al_dfn, Bool.not_eq_true', Bool.not_eq_false', al_ne, Bool.not_not, al_nn] at hb14p
            refine W_seq ?_
            refine W_region rfl ?_
            refine WO_p (PS_eql rfl rfl) ?_
            refine WO_p (PS_assign_bool rfl) ?_
            refine WO_nil ?_
            refine thn_normal ?_
            refine W_if rfl (fun hb17 => ?_) (fun hb17 => ?_)
            · have hb17p := hb17.h; try simp only [al_ete, al_dfn, Bool.not_eq_true', Bool.not_eq_false', al_ne, Bool.not_not, al_nn] at hb17p
              refine W_skip ?_
              refine thn_normal ?_
              refine W_condT rfl hb17.h ?_
              refine W_region rfl ?_
              refine WO_p (PS_move_ptr rfl) ?_
              refine WO_call Hvad.call97 (by rfl) (Ret.mono (opArith_spec scanW C c v B m t f o c' S _ (MS.ext hM (by repeat (first | assumption | exact Ext.refl _ | refine Ext.alloc ?_ _ | refine Ext.drew ?_ | refine Ext.setB ?_ (by first | omega | (simp only [size_alloc, size_setB, size_drew]; omega)) _ | exact Ext.trans (by assumption) (by assumption) | refine Ext.trans ?_ (by assumption)))) hop hAd hk (hAd.pos hkn (by omega) (by omega) (by omega)) (by omega)) ?_)
              rintro _ wZ ⟨vZ, mZ, hRZ, hPZ⟩
              refine WO_nil ?_
              refine inBlk_normal ?_
              first | refine bodyQ_ret0 Hvad.results52 ?_ | refine bodyQ_end0 Hvad.results52 ?_
              exact ⟨vZ, mZ, MRet.pre (by repeat (first | assumption | exact Ext.refl _ | refine Ext.alloc ?_ _ | refine Ext.drew ?_ | refine Ext.setB ?_ (by first | omega | (simp only [size_alloc, size_setB, size_drew]; omega)) _ | refine Ext.trans ?_ (by assumption))) hRZ, hPZ⟩
            · have hb17p := hb17.h; try simp only [al_ete, al_dfn, Bool.not_eq_true', Bool.not_eq_false', al_ne, Bool.not_not, al_nn] at hb17p
              refine W_seq ?_
              refine W_region rfl ?_
              refine WO_p (PS_eql rfl rfl) ?_
              refine WO_p (PS_assign_bool rfl) ?_
              refine WO_nil ?_
              refine thn_normal ?_
              refine W_if rfl (fun hb20 => ?_) (fun hb20 => ?_)
              · have hb20p := hb20.h; try simp only [al_ete, al_dfn, Bool.not_eq_true', Bool.not_eq_false', al_ne, Bool.not_not, al_nn] at hb20p
                refine W_skip ?_
                refine thn_normal ?_
                refine W_condT rfl hb20.h ?_
                refine W_region rfl ?_
                refine WO_p (PS_move_ptr rfl) ?_
                refine WO_call Hvad.call97 (by rfl) (Ret.mono (opArith_spec scanW C c v B m t f o c' S _ (MS.ext hM (by repeat (first | assumption | exact Ext.refl _ | refine Ext.alloc ?_ _ | refine Ext.drew ?_ | refine Ext.setB ?_ (by first | omega | (simp only [size_alloc, size_setB, size_drew]; omega)) _ | exact Ext.trans (by assumption) (by assumption) | refine Ext.trans ?_ (by assumption)))) hop hAd hk (hAd.pos hkn (by omega) (by omega) (by omega)) (by omega)) ?_)
                rintro _ wZ ⟨vZ, mZ, hRZ, hPZ⟩
                refine WO_nil ?_
                refine inBlk_normal ?_
                first | refine bodyQ_ret0 Hvad.results52 ?_ | refine bodyQ_end0 Hvad.results52 ?_
                exact ⟨vZ, mZ, MRet.pre (by repeat (first | assumption | exact Ext.refl _ | refine Ext.alloc ?_ _ | refine Ext.drew ?_ | refine Ext.setB ?_ (by first | omega | (simp only [size_alloc, size_setB, size_drew]; omega)) _ | refine Ext.trans ?_ (by assumption))) hRZ, hPZ⟩
              · have hb20p := hb20.h; try simp only [al_ete, al_dfn, Bool.not_eq_true', Bool.not_eq_false', al_ne, Bool.not_not, al_nn] at hb20p
                refine W_seq ?_
                refine W_region rfl ?_
                refine WO_p (PS_eql rfl rfl) ?_
                refine WO_p (PS_assign_bool rfl) ?_
                refine WO_nil ?_
                refine thn_normal ?_
                refine W_if rfl (fun hb23 => ?_) (fun hb23 => ?_)
                · have hb23p := hb23.h; try simp only [al_ete, al_dfn, Bool.not_eq_true', Bool.not_eq_false', al_ne, Bool.not_not, al_nn] at hb23p
                  refine W_skip ?_
                  refine thn_normal ?_
                  refine W_condT rfl hb23.h ?_
                  refine W_region rfl ?_
                  refine WO_p (PS_move_ptr rfl) ?_
                  refine WO_call Hvad.call97 (by rfl) (Ret.mono (opArith_spec scanW C c v B m t f o c' S _ (MS.ext hM (by repeat (first | assumption | exact Ext.refl _ | refine Ext.alloc ?_ _ | refine Ext.drew ?_ | refine Ext.setB ?_ (by first | omega | (simp only [size_alloc, size_setB, size_drew]; omega)) _ | exact Ext.trans (by assumption) (by assumption) | refine Ext.trans ?_ (by assumption)))) hop hAd hk (hAd.pos hkn (by omega) (by omega) (by omega)) (by omega)) ?_)
                  rintro _ wZ ⟨vZ, mZ, hRZ, hPZ⟩
                  refine WO_nil ?_
                  refine inBlk_normal ?_
                  first | refine bodyQ_ret0 Hvad.results52 ?_ | refine bodyQ_end0 Hvad.results52 ?_
                  exact ⟨vZ, mZ, MRet.pre (by repeat (first | assumption | exact Ext.refl _ | refine Ext.alloc ?_ _ | refine Ext.drew ?_ | refine Ext.setB ?_ (by first | omega | (simp only [size_alloc, size_setB, size_drew]; omega)) _ | refine Ext.trans ?_ (by assumption))) hRZ, hPZ⟩
                · have hb23p := hb23.h; try simp only [al_ete, al_dfn, Bool.not_eq_true', Bool.not_eq_false', al_ne, Bool.not_not, al_nn] at hb23p
                  refine W_seq ?_
                  refine W_region rfl ?_
                  refine WO_p (PS_eql rfl rfl) ?_
                  refine WO_p (PS_assign_bool rfl) ?_
                  refine WO_nil ?_
                  refine thn_normal ?_
                  refine W_if rfl (fun hb26 => ?_) (fun hb26 => ?_)
                  · have hb26p := hb26.h; try simp only [al_ete, al_dfn, Bool.not_eq_true', Bool.not_eq_false', al_ne, Bool.not_not, al_nn] at hb26p
                    refine W_skip ?_
                    refine thn_normal ?_
                    refine W_condT rfl hb26.h ?_
                    refine W_region rfl ?_
                    refine WO_p (PS_move_ptr rfl) ?_
                    refine WO_call Hvad.call97 (by rfl) (Ret.mono (opArith_spec scanW C c v B m t f o c' S _ (MS.ext hM (by repeat (first | assumption | exact Ext.refl _ | refine Ext.alloc ?_ _ | refine Ext.drew ?_ | refine Ext.setB ?_ (by first | omega | (simp only [size_alloc, size_setB, size_drew]; omega)) _ | exact Ext.trans (by assumption) (by assumption) | refine Ext.trans ?_ (by assumption)))) hop hAd hk (hAd.pos hkn (by omega) (by omega) (by omega)) (by omega)) ?_)
                    rintro _ wZ ⟨vZ, mZ, hRZ, hPZ⟩
                    refine WO_nil ?_
                    refine inBlk_normal ?_
                    first | refine bodyQ_ret0 Hvad.results52 ?_ | refine bodyQ_end0 Hvad.results52 ?_
                    exact ⟨vZ, mZ, MRet.pre (by repeat (first | assumption | exact Ext.refl _ | refine Ext.alloc ?_ _ | refine Ext.drew ?_ | refine Ext.setB ?_ (by first | omega | (simp only [size_alloc, size_setB, size_drew]; omega)) _ | refine Ext.trans ?_ (by assumption))) hRZ, hPZ⟩
                  · have hb26p := hb26.h; try simp only [al_ete, al_dfn, Bool.not_eq_true', Bool.not_eq_false', al_ne, Bool.not_not, al_nn] at hb26p
                    refine W_seq ?_
                    refine W_region rfl ?_
                    refine WO_p (PS_eql rfl rfl) ?_
                    refine WO_p (PS_assign_bool rfl) ?_
                    refine WO_nil ?_
                    refine thn_normal ?_
                    refine W_if rfl (fun hb29 => ?_) (fun hb29 => ?_)
                    · have hb29p := hb29.h; try simp only [al_ete, al_dfn, Bool.not_eq_true', Bool.not_eq_false', al_ne, Bool.not_not, al_nn] at hb29p
                      refine W_skip ?_
                      refine thn_normal ?_
                      refine W_condT rfl hb29.h ?_
                      refine W_region rfl ?_
                      refine WO_p (PS_move_ptr rfl) ?_
                      refine WO_call Hvad.call97 (by rfl) (Ret.mono (opArith_spec scanW C c v B m t f o c' S _ (MS.ext hM (by repeat (first | assumption | exact Ext.refl _ | refine Ext.alloc ?_ _ | refine Ext.drew ?_ | refine Ext.setB ?_ (by first | omega | (simp only [size_alloc, size_setB, size_drew]; omega)) _ | exact Ext.trans (by assumption) (by assumption) | refine Ext.trans ?_ (by assumption)))) hop hAd hk (hAd.pos hkn (by omega) (by omega) (by omega)) (by omega)) ?_)
                      rintro _ wZ ⟨vZ, mZ, hRZ, hPZ⟩
                      refine WO_nil ?_
                      refine inBlk_normal ?_
                      first | refine bodyQ_ret0 Hvad.results52 ?_ | refine bodyQ_end0 Hvad.results52 ?_
                      exact ⟨vZ, mZ, MRet.pre (by repeat (first | assumption | exact Ext.refl _ | refine Ext.alloc ?_ _ | refine Ext.drew ?_ | refine Ext.setB ?_ (by first | omega | (simp only [size_alloc, size_setB, size_drew]; omega)) _ | refine Ext.trans ?_ (by assumption))) hRZ, hPZ⟩
                    · have hb29p := hb29.h; try simp only [al_ete, al_dfn, Bool.not_eq_true', Bool.not_eq_false', al_ne, Bool.not_not, al_nn] at hb29p
                      refine W_region rfl ?_
                      refine WO_p (PS_eql rfl rfl) ?_
                      refine WO_p (PS_assign_bool rfl) ?_
                      refine WO_nil ?_
                      refine thn_normal ?_
                      refine W_if rfl (fun hb32 => ?_) (fun hb32 => ?_)
                      · have hb32p := hb32.h; try simp only [al_ete, al_dfn, Bool.not_eq_true', Bool.not_eq_false', al_ne, Bool.not_not, al_nn] at hb32p
                        refine W_region rfl ?_
                        refine WO_p (PS_move_ptr rfl) ?_
                        refine WO_call Hvad.call97 (by rfl) (Ret.mono (opArith_spec scanW C c v B m t f o c' S _ (MS.ext hM (by repeat (first | assumption | exact Ext.refl _ | refine Ext.alloc ?_ _ | refine Ext.drew ?_ | refine Ext.setB ?_ (by first | omega | (simp only [size_alloc, size_setB, size_drew]; omega)) _ | exact Ext.trans (by assumption) (by assumption) | refine Ext.trans ?_ (by assumption)))) hop hAd hk (hAd.pos hkn (by omega) (by omega) (by omega)) (by omega)) ?_)
                        rintro _ wZ ⟨vZ, mZ, hRZ, hPZ⟩
                        refine WO_nil ?_
                        refine inBlk_normal ?_
                        first | refine bodyQ_ret0 Hvad.results52 ?_ | refine bodyQ_end0 Hvad.results52 ?_
                        exact ⟨vZ, mZ, MRet.pre (by repeat (first | assumption | exact Ext.refl _ | refine Ext.alloc ?_ _ | refine Ext.drew ?_ | refine Ext.setB ?_ (by first | omega | (simp only [size_alloc, size_setB, size_drew]; omega)) _ | refine Ext.trans ?_ (by assumption))) hRZ, hPZ⟩
                      · have hb32p := hb32.h; try simp only [al_ete, al_dfn, Bool.not_eq_true', Bool.not_eq_false', al_ne, Bool.not_not, al_nn] at hb32p
                        refine W_seq ?_
                        refine W_seq ?_
                        refine W_region rfl ?_
                        refine WO_p (PS_eql rfl rfl) ?_
                        refine WO_p (PS_assign_bool rfl) ?_
                        refine WO_nil ?_
                        refine thn_normal ?_
                        refine W_if rfl (fun hb35 => ?_) (fun hb35 => ?_)
                        · have hb35p := hb35.h; try simp only [al_ete, al_dfn, Bool.not_eq_true', Bool.not_eq_false', al_ne, Bool.not_not, al_nn] at hb35p
                          refine W_skip ?_
                          refine thn_normal ?_
                          refine W_condT rfl hb35.h ?_
                          refine W_region rfl ?_
                          refine WO_p (PS_move_ptr rfl) ?_
                          refine WO_call Hvad.call98 (by rfl) (Ret.mono (opCompare_spec scanW C c v B m t f o c' S _ (MS.ext hM (by repeat (first | assumption | exact Ext.refl _ | refine Ext.alloc ?_ _ | refine Ext.drew ?_ | refine Ext.setB ?_ (by first | omega | (simp only [size_alloc, size_setB, size_drew]; omega)) _ | exact Ext.trans (by assumption) (by assumption) | refine Ext.trans ?_ (by assumption)))) hop hAd hk (hAd.pos hkn (by omega) (by omega) (by omega)) (by omega)) ?_)
                          rintro _ wZ ⟨vZ, mZ, hRZ, hPZ⟩
                          refine WO_nil ?_
                          refine inBlk_normal ?_
                          first | refine bodyQ_ret0 Hvad.results52 ?_ | refine bodyQ_end0 Hvad.results52 ?_
                          exact ⟨vZ, mZ, MRet.pre (by repeat (first | assumption | exact Ext.refl _ | refine Ext.alloc ?_ _ | refine Ext.drew ?_ | refine Ext.setB ?_ (by first | omega | (simp only [size_alloc, size_setB, size_drew]; omega)) _ | refine Ext.trans ?_ (by assumption))) hRZ, hPZ⟩
                        · have hb35p := hb35.h; try simp only [al_ete, al_dfn, Bool.not_eq_true', Bool.not_eq_false', al_ne, Bool.not_not, al_nn] at hb35p
                          refine W_seq ?_
                          refine W_region rfl ?_
                          refine WO_p (PS_eql rfl rfl) ?_
                          refine WO_p (PS_assign_bool rfl) ?_
                          refine WO_nil ?_
                          refine thn_normal ?_
                          refine W_if rfl (fun hb38 => ?_) (fun hb38 => ?_)
                          · have hb38p := hb38.h; try simp only [al_ete, al_dfn, Bool.not_eq_true', Bool.not_eq_false', al_ne, Bool.not_not, al_nn] at hb38p
                            refine W_skip ?_
                            refine thn_normal ?_
                            refine W_condT rfl hb38.h ?_
                            refine W_region rfl ?_
                            refine WO_p (PS_move_ptr rfl) ?_
                            refine WO_call Hvad.call98 (by rfl) (Ret.mono (opCompare_spec scanW C c v B m t f o c' S _ (MS.ext hM (by repeat (first | assumption | exact Ext.refl _ | refine Ext.alloc ?_ _ | refine Ext.drew ?_ | refine Ext.setB ?_ (by first | omega | (simp only [size_alloc, size_setB, size_drew]; omega)) _ | exact Ext.trans (by assumption) (by assumption) | refine Ext.trans ?_ (by assumption)))) hop hAd hk (hAd.pos hkn (by omega) (by omega) (by omega)) (by omega)) ?_)
                            rintro _ wZ ⟨vZ, mZ, hRZ, hPZ⟩
                            refine WO_nil ?_
                            refine inBlk_normal ?_
                            first | refine bodyQ_ret0 Hvad.results52 ?_ | refine bodyQ_end0 Hvad.results52 ?_
                            exact ⟨vZ, mZ, MRet.pre (by repeat (first | assumption | exact Ext.refl _ | refine Ext.alloc ?_ _ | refine Ext.drew ?_ | refine Ext.setB ?_ (by first | omega | (simp only [size_alloc, size_setB, size_drew]; omega)) _ | refine Ext.trans ?_ (by assumption))) hRZ, hPZ⟩
                          · have hb38p := hb38.h; try simp only [al_ete, al_dfn, Bool.not_eq_true', Bool.not_eq_false', al_ne, Bool.not_not, al_nn] at hb38p
                            refine W_seq ?_
                            refine W_region rfl ?_
                            refine WO_p (PS_eql rfl rfl) ?_
                            refine WO_p (PS_assign_bool rfl) ?_
                            refine WO_nil ?_
                            refine thn_normal ?_
                            refine W_if rfl (fun hb41 => ?_) (fun hb41 => ?_)
                            · have hb41p := hb41.h; try simp only [al_ete, al_dfn, Bool.not_eq_true', Bool.not_eq_false', al_ne, Bool.not_not, al_nn] at hb41p
                              refine W_skip ?_
                              refine thn_normal ?_
                              refine W_condT rfl hb41.h ?_
                              refine W_region rfl ?_
                              refine WO_p (PS_move_ptr rfl) ?_
                              refine WO_call Hvad.call98 (by rfl) (Ret.mono (opCompare_spec scanW C c v B m t f o c' S _ (MS.ext hM (by repeat (first | assumption | exact Ext.refl _ | refine Ext.alloc ?_ _ | refine Ext.drew ?_ | refine Ext.setB ?_ (by first | omega | (simp only [size_alloc, size_setB, size_drew]; omega)) _ | exact Ext.trans (by assumption) (by assumption) | refine Ext.trans ?_ (by assumption)))) hop hAd hk (hAd.pos hkn (by omega) (by omega) (by omega)) (by omega)) ?_)
                              rintro _ wZ ⟨vZ, mZ, hRZ, hPZ⟩
                              refine WO_nil ?_
                              refine inBlk_normal ?_
                              first | refine bodyQ_ret0 Hvad.results52 ?_ | refine bodyQ_end0 Hvad.results52 ?_
                              exact ⟨vZ, mZ, MRet.pre (by repeat (first | assumption | exact Ext.refl _ | refine Ext.alloc ?_ _ | refine Ext.drew ?_ | refine Ext.setB ?_ (by first | omega | (simp only [size_alloc, size_setB, size_drew]; omega)) _ | refine Ext.trans ?_ (by assumption))) hRZ, hPZ⟩
                            · have hb41p := hb41.h; try simp only [al_ete, al_dfn, Bool.not_eq_true', Bool.not_eq_false', al_ne, Bool.not_not, al_nn] at hb41p
                              refine W_seq ?_
                              refine W_region rfl ?_
                              refine WO_p (PS_eql rfl rfl) ?_
                              refine WO_p (PS_assign_bool rfl) ?_
                              refine WO_nil ?_
                              refine thn_normal ?_
                              refine W_if rfl (fun hb44 => ?_) (fun hb44 => ?_)
                              · have hb44p := hb44.h; try simp only [al_ete, al_dfn, Bool.not_eq_true', Bool.not_eq_false', al_ne, Bool.not_not, al_nn] at hb44p
                                refine W_skip ?_
                                refine thn_normal ?_
                                refine W_condT rfl hb44.h ?_
                                refine W_region rfl ?_
                                refine WO_p (PS_move_ptr rfl) ?_
                                refine WO_call Hvad.call98 (by rfl) (Ret.mono (opCompare_spec scanW C c v B m t f o c' S _ (MS.ext hM (by repeat (first | assumption | exact Ext.refl _ | refine Ext.alloc ?_ _ | refine Ext.drew ?_ | refine Ext.setB ?_ (by first | omega | (simp only [size_alloc, size_setB, size_drew]; omega)) _ | exact Ext.trans (by assumption) (by assumption) | refine Ext.trans ?_ (by assumption)))) hop hAd hk (hAd.pos hkn (by omega) (by omega) (by omega)) (by omega)) ?_)
                                rintro _ wZ ⟨vZ, mZ, hRZ, hPZ⟩
                                refine WO_nil ?_
                                refine inBlk_normal ?_
                                first | refine bodyQ_ret0 Hvad.results52 ?_ | refine bodyQ_end0 Hvad.results52 ?_
                                exact ⟨vZ, mZ, MRet.pre (by repeat (first | assumption | exact Ext.refl _ | refine Ext.alloc ?_ _ | refine Ext.drew ?_ | refine Ext.setB ?_ (by first | omega | (simp only [size_alloc, size_setB, size_drew]; omega)) _ | refine Ext.trans ?_ (by assumption))) hRZ, hPZ⟩
                              · have hb44p := hb44.h; try simp only [al_ete, al_dfn, Bool.not_eq_true', Bool.not_eq_false', al_ne, Bool.not_not, al_nn] at hb44p
                                refine W_seq ?_
                                refine W_region rfl ?_
                                refine WO_p (PS_eql rfl rfl) ?_
                                refine WO_p (PS_assign_bool rfl) ?_
                                refine WO_nil ?_
                                refine thn_normal ?_
                                refine W_if rfl (fun hb47 => ?_) (fun hb47 => ?_)
                                · have hb47p := hb47.h; try simp only [al_ete, al_dfn, Bool.not_eq_true', Bool.not_eq_false', al_ne, Bool.not_not, al_nn] at hb47p
                                  refine W_skip ?_
                                  refine thn_normal ?_
                                  refine W_condT rfl hb47.h ?_
                                  refine W_region rfl ?_
                                  refine WO_p (PS_move_ptr rfl) ?_
                                  refine WO_call Hvad.call98 (by rfl) (Ret.mono (opCompare_spec scanW C c v B m t f o c' S _ (MS.ext hM (by repeat (first | assumption | exact Ext.refl _ | refine Ext.alloc ?_ _ | refine Ext.drew ?_ | refine Ext.setB ?_ (by first | omega | (simp only [size_alloc, size_setB, size_drew]; omega)) _ | exact Ext.trans (by assumption) (by assumption) | refine Ext.trans ?_ (by assumption)))) hop hAd hk (hAd.pos hkn (by omega) (by omega) (by omega)) (by omega)) ?_)
                                  rintro _ wZ ⟨vZ, mZ, hRZ, hPZ⟩
                                  refine WO_nil ?_
                                  refine inBlk_normal ?_
                                  first | refine bodyQ_ret0 Hvad.results52 ?_ | refine bodyQ_end0 Hvad.results52 ?_
                                  exact ⟨vZ, mZ, MRet.pre (by repeat (first | assumption | exact Ext.refl _ | refine Ext.alloc ?_ _ | refine Ext.drew ?_ | refine Ext.setB ?_ (by first | omega | (simp only [size_alloc, size_setB, size_drew]; omega)) _ | refine Ext.trans ?_ (by assumption))) hRZ, hPZ⟩
                                · have hb47p := hb47.h; try simp only [al_ete, al_dfn, Bool.not_eq_true', Bool.not_eq_false', al_ne, Bool.not_not, al_nn] at hb47p
                                  refine W_region rfl ?_
                                  refine WO_p (PS_eql rfl rfl) ?_
                                  refine WO_p (PS_assign_bool rfl) ?_
                                  refine WO_nil ?_
                                  refine thn_normal ?_
                                  refine W_if rfl (fun hb50 => ?_) (fun hb50 => ?_)
                                  · have hb50p := hb50.h; try simp only [al_ete, al_dfn, Bool.not_eq_true', Bool.not_eq_false', al_ne, Bool.not_not, al_nn] at hb50p
                                    refine W_region rfl ?_
                                    refine WO_p (PS_move_ptr rfl) ?_
                                    refine WO_call Hvad.call98 (by rfl) (Ret.mono (opCompare_spec scanW C c v B m t f o c' S _ (MS.ext hM (by repeat (first | assumption | exact Ext.refl _ | refine Ext.alloc ?_ _ | refine Ext.drew ?_ | refine Ext.setB ?_ (by first | omega | (simp only [size_alloc, size_setB, size_drew]; omega)) _ | exact Ext.trans (by assumption) (by assumption) | refine Ext.trans ?_ (by assumption)))) hop hAd hk (hAd.pos hkn (by omega) (by omega) (by omega)) (by omega)) ?_)
                                    rintro _ wZ ⟨vZ, mZ, hRZ, hPZ⟩
                                    refine WO_nil ?_
                                    refine inBlk_normal ?_
                                    first | refine bodyQ_ret0 Hvad.results52 ?_ | refine bodyQ_end0 Hvad.results52 ?_
                                    exact ⟨vZ, mZ, MRet.pre (by repeat (first | assumption | exact Ext.refl _ | refine Ext.alloc ?_ _ | refine Ext.drew ?_ | refine Ext.setB ?_ (by first | omega | (simp only [size_alloc, size_setB, size_drew]; omega)) _ | refine Ext.trans ?_ (by assumption))) hRZ, hPZ⟩
                                  · have hb50p := hb50.h; try simp only [al_ete, al_dfn, Bool.not_eq_true', Bool.not_eq_false', al_ne, Bool.not_not, al_nn] at hb50p
                                    refine W_seq ?_
                                    refine W_seq ?_
                                    refine W_region rfl ?_
                                    refine WO_p (PS_eql rfl rfl) ?_
                                    refine WO_p (PS_assign_bool rfl) ?_
                                    refine WO_nil ?_
                                    refine thn_normal ?_
                                    refine W_if rfl (fun hb53 => ?_) (fun hb53 => ?_)
                                    · have hb53p := hb53.h; try simp only [al_ete, al_dfn, Bool.not_eq_true', Bool.not_eq_false', al_ne, Bool.not_not, al_nn] at hb53p
                                      refine W_skip ?_
                                      refine thn_normal ?_
                                      refine W_condT rfl hb53.h ?_
                                      refine W_region rfl ?_
                                      refine WO_p (PS_move_ptr rfl) ?_
                                      refine WO_call Hvad.call99 (by rfl) (Ret.mono (opBits_spec scanW C c v B m t f o c' S _ (MS.ext hM (by repeat (first | assumption | exact Ext.refl _ | refine Ext.alloc ?_ _ | refine Ext.drew ?_ | refine Ext.setB ?_ (by first | omega | (simp only [size_alloc, size_setB, size_drew]; omega)) _ | exact Ext.trans (by assumption) (by assumption) | refine Ext.trans ?_ (by assumption)))) hop hAd hk (hAd.pos hkn (by omega) (by omega) (by omega)) (by omega)) ?_)
                                      rintro _ wZ ⟨vZ, mZ, hRZ, hPZ⟩
                                      refine WO_nil ?_
                                      refine inBlk_normal ?_
                                      first | refine bodyQ_ret0 Hvad.results52 ?_ | refine bodyQ_end0 Hvad.results52 ?_
                                      exact ⟨vZ, mZ, MRet.pre (by repeat (first | assumption | exact Ext.refl _ | refine Ext.alloc ?_ _ | refine Ext.drew ?_ | refine Ext.setB ?_ (by first | omega | (simp only [size_alloc, size_setB, size_drew]; omega)) _ | refine Ext.trans ?_ (by assumption))) hRZ, hPZ⟩
                                    · have hb53p := hb53.h; try simp only [al_ete, al_dfn, Bool.not_eq_true', Bool.not_eq_false', al_ne, Bool.not_not, al_nn] at hb53p
                                      refine W_seq ?_
                                      refine W_region rfl ?_
                                      refine WO_p (PS_eql rfl rfl) ?_
                                      refine WO_p (PS_assign_bool rfl) ?_
                                      refine WO_nil ?_
                                      refine thn_normal ?_
                                      refine W_if rfl (fun hb56 => ?_) (fun hb56 => ?_)
                                      · have hb56p := hb56.h; try simp only [al_ete, al_dfn, Bool.not_eq_true', Bool.not_eq_false', al_ne, Bool.not_not, al_nn] at hb56p
                                        refine W_skip ?_
                                        refine thn_normal ?_
                                        refine W_condT rfl hb56.h ?_
                                        refine W_region rfl ?_
                                        refine WO_p (PS_move_ptr rfl) ?_
                                        refine WO_call Hvad.call99 (by rfl) (Ret.mono (opBits_spec scanW C c v B m t f o c' S _ (MS.ext hM (by repeat (first | assumption | exact Ext.refl _ | refine Ext.alloc ?_ _ | refine Ext.drew ?_ | refine Ext.setB ?_ (by first | omega | (simp only [size_alloc, size_setB, size_drew]; omega)) _ | exact Ext.trans (by assumption) (by assumption) | refine Ext.trans ?_ (by assumption)))) hop hAd hk (hAd.pos hkn (by omega) (by omega) (by omega)) (by omega)) ?_)
                                        rintro _ wZ ⟨vZ, mZ, hRZ, hPZ⟩
                                        refine WO_nil ?_
                                        refine inBlk_normal ?_
                                        first | refine bodyQ_ret0 Hvad.results52 ?_ | refine bodyQ_end0 Hvad.results52 ?_
                                        exact ⟨vZ, mZ, MRet.pre (by repeat (first | assumption | exact Ext.refl _ | refine Ext.alloc ?_ _ | refine Ext.drew ?_ | refine Ext.setB ?_ (by first | omega | (simp only [size_alloc, size_setB, size_drew]; omega)) _ | refine Ext.trans ?_ (by assumption))) hRZ, hPZ⟩
                                      · have hb56p := hb56.h; try simp only [al_ete, al_dfn, Bool.not_eq_true', Bool.not_eq_false', al_ne, Bool.not_not, al_nn] at hb56p
                                        refine W_seq ?_
                                        refine W_region rfl ?_
                                        refine WO_p (PS_eql rfl rfl) ?_
                                        refine WO_p (PS_assign_bool rfl) ?_
                                        refine WO_nil ?_
                                        refine thn_normal ?_
                                        refine W_if rfl (fun hb59 => ?_) (fun hb59 => ?_)
                                        · have hb59p := hb59.h; try simp only [al_ete, al_dfn, Bool.not_eq_true', Bool.not_eq_false', al_ne, Bool.not_not, al_nn] at hb59p
                                          refine W_skip ?_
                                          refine thn_normal ?_
                                          refine W_condT rfl hb59.h ?_
                                          refine W_region rfl ?_
                                          refine WO_p (PS_move_ptr rfl) ?_
                                          refine WO_call Hvad.call99 (by rfl) (Ret.mono (opBits_spec scanW C c v B m t f o c' S _ (MS.ext hM (by repeat (first | assumption | exact Ext.refl _ | refine Ext.alloc ?_ _ | refine Ext.drew ?_ | refine Ext.setB ?_ (by first | omega | (simp only [size_alloc, size_setB, size_drew]; omega)) _ | exact Ext.trans (by assumption) (by assumption) | refine Ext.trans ?_ (by assumption)))) hop hAd hk (hAd.pos hkn (by omega) (by omega) (by omega)) (by omega)) ?_)
                                          rintro _ wZ ⟨vZ, mZ, hRZ, hPZ⟩
                                          refine WO_nil ?_
                                          refine inBlk_normal ?_
                                          first | refine bodyQ_ret0 Hvad.results52 ?_ | refine bodyQ_end0 Hvad.results52 ?_
                                          exact ⟨vZ, mZ, MRet.pre (by repeat (first | assumption | exact Ext.refl _ | refine Ext.alloc ?_ _ | refine Ext.drew ?_ | refine Ext.setB ?_ (by first | omega | (simp only [size_alloc, size_setB, size_drew]; omega)) _ | refine Ext.trans ?_ (by assumption))) hRZ, hPZ⟩
                                        · have hb59p := hb59.h; try simp only [al_ete, al_dfn, Bool.not_eq_true', Bool.not_eq_false', al_ne, Bool.not_not, al_nn] at hb59p
                                          refine W_seq ?_
                                          refine W_region rfl ?_
                                          refine WO_p (PS_eql rfl rfl) ?_
                                          refine WO_p (PS_assign_bool rfl) ?_
                                          refine WO_nil ?_
                                          refine thn_normal ?_
                                          refine W_if rfl (fun hb62 => ?_) (fun hb62 => ?_)
                                          · have hb62p := hb62.h; try simp only [al_ete, al_dfn, Bool.not_eq_true', Bool.not_eq_false', al_ne, Bool.not_not, al_nn] at hb62p
                                            refine W_skip ?_
                                            refine thn_normal ?_
                                            refine W_condT rfl hb62.h ?_
                                            refine W_region rfl ?_
                                            refine WO_p (PS_move_ptr rfl) ?_
                                            refine WO_call Hvad.call99 (by rfl) (Ret.mono (opBits_spec scanW C c v B m t f o c' S _ (MS.ext hM (by repeat (first | assumption | exact Ext.refl _ | refine Ext.alloc ?_ _ | refine Ext.drew ?_ | refine Ext.setB ?_ (by first | omega | (simp only [size_alloc, size_setB, size_drew]; omega)) _ | exact Ext.trans (by assumption) (by assumption) | refine Ext.trans ?_ (by assumption)))) hop hAd hk (hAd.pos hkn (by omega) (by omega) (by omega)) (by omega)) ?_)
                                            rintro _ wZ ⟨vZ, mZ, hRZ, hPZ⟩
                                            refine WO_nil ?_
                                            refine inBlk_normal ?_
                                            first | refine bodyQ_ret0 Hvad.results52 ?_ | refine bodyQ_end0 Hvad.results52 ?_
                                            exact ⟨vZ, mZ, MRet.pre (by repeat (first | assumption | exact Ext.refl _ | refine Ext.alloc ?_ _ | refine Ext.drew ?_ | refine Ext.setB ?_ (by first | omega | (simp only [size_alloc, size_setB, size_drew]; omega)) _ | refine Ext.trans ?_ (by assumption))) hRZ, hPZ⟩
                                          · have hb62p := hb62.h; try simp only [al_ete, al_dfn, Bool.not_eq_true', Bool.not_eq_false', al_ne, Bool.not_not, al_nn] at hb62p
                                            refine W_seq ?_
                                            refine W_region rfl ?_
                                            refine WO_p (PS_eql rfl rfl) ?_
                                            refine WO_p (PS_assign_bool rfl) ?_
                                            refine WO_nil ?_
                                            refine thn_normal ?_
                                            refine W_if rfl (fun hb65 => ?_) (fun hb65 => ?_)
                                            · have hb65p := hb65.h; try simp only [al_ete, al_dfn, Bool.not_eq_true', Bool.not_eq_false', al_ne, Bool.not_not, al_nn] at hb65p
                                              refine W_skip ?_
                                              refine thn_normal ?_
                                              refine W_condT rfl hb65.h ?_
                                              refine W_region rfl ?_
                                              refine WO_p (PS_move_ptr rfl) ?_
                                              refine WO_call Hvad.call99 (by rfl) (Ret.mono (opBits_spec scanW C c v B m t f o c' S _ (MS.ext hM (by repeat (first | assumption | exact Ext.refl _ | refine Ext.alloc ?_ _ | refine Ext.drew ?_ | refine Ext.setB ?_ (by first | omega | (simp only [size_alloc, size_setB, size_drew]; omega)) _ | exact Ext.trans (by assumption) (by assumption) | refine Ext.trans ?_ (by assumption)))) hop hAd hk (hAd.pos hkn (by omega) (by omega) (by omega)) (by omega)) ?_)
                                              rintro _ wZ ⟨vZ, mZ, hRZ, hPZ⟩
                                              refine WO_nil ?_
                                              refine inBlk_normal ?_
                                              first | refine bodyQ_ret0 Hvad.results52 ?_ | refine bodyQ_end0 Hvad.results52 ?_
                                              exact ⟨vZ, mZ, MRet.pre (by repeat (first | assumption | exact Ext.refl _ | refine Ext.alloc ?_ _ | refine Ext.drew ?_ | refine Ext.setB ?_ (by first | omega | (simp only [size_alloc, size_setB, size_drew]; omega)) _ | refine Ext.trans ?_ (by assumption))) hRZ, hPZ⟩
                                            · have hb65p := hb65.h; try simp only [al_ete, al_dfn, Bool.not_eq_true', Bool.not_eq_false', al_ne, Bool.not_not, al_nn] at hb65p
                                              refine W_seq ?_
                                              refine W_region rfl ?_
                                              refine WO_p (PS_eql rfl rfl) ?_
                                              refine WO_p (PS_assign_bool rfl) ?_
                                              refine WO_nil ?_
                                              refine thn_normal ?_
                                              refine W_if rfl (fun hb68 => ?_) (fun hb68 => ?_)
                                              · have hb68p := hb68.h; try simp only [al_ete, al_dfn, Bool.not_eq_true', Bool.not_eq_false', al_ne, Bool.not_not, al_nn] at hb68p
                                                refine W_skip ?_
                                                refine thn_normal ?_
                                                refine W_condT rfl hb68.h ?_
                                                refine W_region rfl ?_
                                                refine WO_p (PS_move_ptr rfl) ?_
                                                refine WO_call Hvad.call99 (by rfl) (Ret.mono (opBits_spec scanW C c v B m t f o c' S _ (MS.ext hM (by repeat (first | assumption | exact Ext.refl _ | refine Ext.alloc ?_ _ | refine Ext.drew ?_ | refine Ext.setB ?_ (by first | omega | (simp only [size_alloc, size_setB, size_drew]; omega)) _ | exact Ext.trans (by assumption) (by assumption) | refine Ext.trans ?_ (by assumption)))) hop hAd hk (hAd.pos hkn (by omega) (by omega) (by omega)) (by omega)) ?_)
                                                rintro _ wZ ⟨vZ, mZ, hRZ, hPZ⟩
                                                refine WO_nil ?_
                                                refine inBlk_normal ?_
                                                first | refine bodyQ_ret0 Hvad.results52 ?_ | refine bodyQ_end0 Hvad.results52 ?_
                                                exact ⟨vZ, mZ, MRet.pre (by repeat (first | assumption | exact Ext.refl _ | refine Ext.alloc ?_ _ | refine Ext.drew ?_ | refine Ext.setB ?_ (by first | omega | (simp only [size_alloc, size_setB, size_drew]; omega)) _ | refine Ext.trans ?_ (by assumption))) hRZ, hPZ⟩
                                              · have hb68p := hb68.h; try simp only [al_ete, al_dfn, Bool.not_eq_true', Bool.not_eq_false', al_ne, Bool.not_not, al_nn] at hb68p
                                                refine W_seq ?_
                                                refine W_region rfl ?_
                                                refine WO_p (PS_eql rfl rfl) ?_
                                                refine WO_p (PS_assign_bool rfl) ?_
                                                refine WO_nil ?_
                                                refine thn_normal ?_
                                                refine W_if rfl (fun hb71 => ?_) (fun hb71 => ?_)
                                                · have hb71p := hb71.h; try simp only [al_ete, al_dfn, Bool.not_eq_true', Bool.not_eq_false', al_ne, Bool.not_not, al_nn] at hb71p
                                                  refine W_skip ?_
                                                  refine thn_normal ?_
                                                  refine W_condT rfl hb71.h ?_
                                                  refine W_region rfl ?_
                                                  refine WO_p (PS_move_ptr rfl) ?_
                                                  refine WO_call Hvad.call99 (by rfl) (Ret.mono (opBits_spec scanW C c v B m t f o c' S _ (MS.ext hM (by repeat (first | assumption | exact Ext.refl _ | refine Ext.alloc ?_ _ | refine Ext.drew ?_ | refine Ext.setB ?_ (by first | omega | (simp only [size_alloc, size_setB, size_drew]; omega)) _ | exact Ext.trans (by assumption) (by assumption) | refine Ext.trans ?_ (by assumption)))) hop hAd hk (hAd.pos hkn (by omega) (by omega) (by omega)) (by omega)) ?_)
                                                  rintro _ wZ ⟨vZ, mZ, hRZ, hPZ⟩
                                                  refine WO_nil ?_
                                                  refine inBlk_normal ?_
                                                  first | refine bodyQ_ret0 Hvad.results52 ?_ | refine bodyQ_end0 Hvad.results52 ?_
                                                  exact ⟨vZ, mZ, MRet.pre (by repeat (first | assumption | exact Ext.refl _ | refine Ext.alloc ?_ _ | refine Ext.drew ?_ | refine Ext.setB ?_ (by first | omega | (simp only [size_alloc, size_setB, size_drew]; omega)) _ | refine Ext.trans ?_ (by assumption))) hRZ, hPZ⟩
                                                · have hb71p := hb71.h; try simp only [al_ete, al_dfn, Bool.not_eq_true', Bool.not_eq_false', al_ne, Bool.not_not, al_nn] at hb71p
                                                  refine W_region rfl ?_
                                                  refine WO_p (PS_eql rfl rfl) ?_
                                                  refine WO_p (PS_assign_bool rfl) ?_
                                                  refine WO_nil ?_
                                                  refine thn_normal ?_
                                                  refine W_if rfl (fun hb74 => ?_) (fun hb74 => ?_)
                                                  · have hb74p := hb74.h; try simp only [al_ete, al_dfn, Bool.not_eq_true', Bool.not_eq_false', al_ne, Bool.not_not, al_nn] at hb74p
                                                    refine W_region rfl ?_
                                                    refine WO_p (PS_move_ptr rfl) ?_
                                                    refine WO_call Hvad.call99 (by rfl) (Ret.mono (opBits_spec scanW C c v B m t f o c' S _ (MS.ext hM (by repeat (first | assumption | exact Ext.refl _ | refine Ext.alloc ?_ _ | refine Ext.drew ?_ | refine Ext.setB ?_ (by first | omega | (simp only [size_alloc, size_setB, size_drew]; omega)) _ | exact Ext.trans (by assumption) (by assumption) | refine Ext.trans ?_ (by assumption)))) hop hAd hk (hAd.pos hkn (by omega) (by omega) (by omega)) (by omega)) ?_)
                                                    rintro _ wZ ⟨vZ, mZ, hRZ, hPZ⟩
                                                    refine WO_nil ?_
                                                    refine inBlk_normal ?_
                                                    first | refine bodyQ_ret0 Hvad.results52 ?_ | refine bodyQ_end0 Hvad.results52 ?_
                                                    exact ⟨vZ, mZ, MRet.pre (by repeat (first | assumption | exact Ext.refl _ | refine Ext.alloc ?_ _ | refine Ext.drew ?_ | refine Ext.setB ?_ (by first | omega | (simp only [size_alloc, size_setB, size_drew]; omega)) _ | refine Ext.trans ?_ (by assumption))) hRZ, hPZ⟩
                                                  · have hb74p := hb74.h; try simp only [al_ete, al_dfn, Bool.not_eq_true', Bool.not_eq_false', al_ne, Bool.not_not, al_nn] at hb74p
                                                    refine W_seq ?_
                                                    refine W_region rfl ?_
                                                    refine WO_p (PS_eql rfl rfl) ?_
                                                    refine WO_p (PS_assign_bool rfl) ?_
                                                    refine WO_nil ?_
                                                    refine thn_normal ?_
                                                    refine W_if rfl (fun hb77 => ?_) (fun hb77 => ?_)
                                                    · have hb77p := hb77.h; try simp only [al_ete, al_dfn, Bool.not_eq_true', Bool.not_eq_false', al_ne, Bool.not_not, al_nn] at hb77p
                                                      refine W_region rfl ?_
                                                      refine WO_p (PS_move_ptr rfl) ?_
                                                      refine WO_call Hvad.call100 (by rfl) (Ret.mono (opKeccak_spec scanW C c v B m t f o c' S _ (MS.ext hM (by repeat (first | assumption | exact Ext.refl _ | refine Ext.alloc ?_ _ | refine Ext.drew ?_ | refine Ext.setB ?_ (by first | omega | (simp only [size_alloc, size_setB, size_drew]; omega)) _ | exact Ext.trans (by assumption) (by assumption) | refine Ext.trans ?_ (by assumption)))) hop hAd hk (hAd.pos hkn (by omega) (by omega) (by omega)) (by omega)) ?_)
                                                      rintro _ wZ ⟨vZ, mZ, hRZ, hPZ⟩
                                                      refine WO_nil ?_
                                                      refine inBlk_normal ?_
                                                      first | refine bodyQ_ret0 Hvad.results52 ?_ | refine bodyQ_end0 Hvad.results52 ?_
                                                      exact ⟨vZ, mZ, MRet.pre (by repeat (first | assumption | exact Ext.refl _ | refine Ext.alloc ?_ _ | refine Ext.drew ?_ | refine Ext.setB ?_ (by first | omega | (simp only [size_alloc, size_setB, size_drew]; omega)) _ | refine Ext.trans ?_ (by assumption))) hRZ, hPZ⟩
                                                    · have hb77p := hb77.h; try simp only [al_ete, al_dfn, Bool.not_eq_true', Bool.not_eq_false', al_ne, Bool.not_not, al_nn] at hb77p
                                                      refine W_seq ?_
                                                      refine W_seq ?_
                                                      refine W_region rfl ?_
                                                      refine WO_p (PS_eql rfl rfl) ?_
                                                      refine WO_p (PS_assign_bool rfl) ?_
                                                      refine WO_nil ?_
                                                      refine thn_normal ?_
                                                      refine W_if rfl (fun hb80 => ?_) (fun hb80 => ?_)
                                                      · have hb80p := hb80.h; try simp only [al_ete, al_dfn, Bool.not_eq_true', Bool.not_eq_false', al_ne, Bool.not_not, al_nn] at hb80p
                                                        refine W_skip ?_
                                                        refine thn_normal ?_
                                                        refine W_condT rfl hb80.h ?_
                                                        refine W_region rfl ?_
                                                        refine WO_p (PS_move_ptr rfl) ?_
                                                        refine WO_call Hvad.call101 (by rfl) (Ret.mono (opAccount_spec scanW C c v B m t f o c' S _ (MS.ext hM (by repeat (first | assumption | exact Ext.refl _ | refine Ext.alloc ?_ _ | refine Ext.drew ?_ | refine Ext.setB ?_ (by first | omega | (simp only [size_alloc, size_setB, size_drew]; omega)) _ | exact Ext.trans (by assumption) (by assumption) | refine Ext.trans ?_ (by assumption)))) hop hAd hk (hAd.pos hkn (by omega) (by omega) (by omega)) (by omega)) ?_)
                                                        rintro _ wZ ⟨vZ, mZ, hRZ, hPZ⟩
                                                        refine WO_nil ?_
                                                        refine inBlk_normal ?_
                                                        first | refine bodyQ_ret0 Hvad.results52 ?_ | refine bodyQ_end0 Hvad.results52 ?_
                                                        exact ⟨vZ, mZ, MRet.pre (by repeat (first | assumption | exact Ext.refl _ | refine Ext.alloc ?_ _ | refine Ext.drew ?_ | refine Ext.setB ?_ (by first | omega | (simp only [size_alloc, size_setB, size_drew]; omega)) _ | refine Ext.trans ?_ (by assumption))) hRZ, hPZ⟩
                                                      · have hb80p := hb80.h; try simp only [al_ete, al_dfn, Bool.not_eq_true', Bool.not_eq_false', al_ne, Bool.not_not, al_nn] at hb80p
                                                        refine W_seq ?_
                                                        refine W_region rfl ?_
                                                        refine WO_p (PS_eql rfl rfl) ?_
                                                        refine WO_p (PS_assign_bool rfl) ?_
                                                        refine WO_nil ?_
                                                        refine thn_normal ?_
                                                        refine W_if rfl (fun hb83 => ?_) (fun hb83 => ?_)
                                                        · have hb83p := hb83.h; try simp only [al_ete, al_dfn, Bool.not_eq_true', Bool.not_eq_false', al_ne, Bool.not_not, al_nn] at hb83p
                                                          refine W_skip ?_
                                                          refine thn_normal ?_
                                                          refine W_condT rfl hb83.h ?_
                                                          refine W_region rfl ?_
                                                          refine WO_p (PS_move_ptr rfl) ?_
                                                          refine WO_call Hvad.call101 (by rfl) (Ret.mono (opAccount_spec scanW C c v B m t f o c' S _ (MS.ext hM (by repeat (first | assumption | exact Ext.refl _ | refine Ext.alloc ?_ _ | refine Ext.drew ?_ | refine Ext.setB ?_ (by first | omega | (simp only [size_alloc, size_setB, size_drew]; omega)) _ | exact Ext.trans (by assumption) (by assumption) | refine Ext.trans ?_ (by assumption)))) hop hAd hk (hAd.pos hkn (by omega) (by omega) (by omega)) (by omega)) ?_)
                                                          rintro _ wZ ⟨vZ, mZ, hRZ, hPZ⟩
                                                          refine WO_nil ?_
                                                          refine inBlk_normal ?_
                                                          first | refine bodyQ_ret0 Hvad.results52 ?_ | refine bodyQ_end0 Hvad.results52 ?_
                                                          exact ⟨vZ, mZ, MRet.pre (by repeat (first | assumption | exact Ext.refl _ | refine Ext.alloc ?_ _ | refine Ext.drew ?_ | refine Ext.setB ?_ (by first | omega | (simp only [size_alloc, size_setB, size_drew]; omega)) _ | refine Ext.trans ?_ (by assumption))) hRZ, hPZ⟩
                                                        · have hb83p := hb83.h; try simp only [al_ete, al_dfn, Bool.not_eq_true', Bool.not_eq_false', al_ne, Bool.not_not, al_nn] at hb83p
                                                          refine W_region rfl ?_
                                                          refine WO_p (PS_eql rfl rfl) ?_
                                                          refine WO_p (PS_assign_bool rfl) ?_
                                                          refine WO_nil ?_
                                                          refine thn_normal ?_
                                                          refine W_if rfl (fun hb86 => ?_) (fun hb86 => ?_)
                                                          · have hb86p := hb86.h; try simp only [al_ete, al_dfn, Bool.not_eq_true', Bool.not_eq_false', al_ne, Bool.not_not, al_nn] at hb86p
                                                            refine W_region rfl ?_
                                                            refine WO_p (PS_move_ptr rfl) ?_
                                                            refine WO_call Hvad.call101 (by rfl) (Ret.mono (opAccount_spec scanW C c v B m t f o c' S _ (MS.ext hM (by repeat (first | assumption | exact Ext.refl _ | refine Ext.alloc ?_ _ | refine Ext.drew ?_ | refine Ext.setB ?_ (by first | omega | (simp only [size_alloc, size_setB, size_drew]; omega)) _ | exact Ext.trans (by assumption) (by assumption) | refine Ext.trans ?_ (by assumption)))) hop hAd hk (hAd.pos hkn (by omega) (by omega) (by omega)) (by omega)) ?_)
                                                            rintro _ wZ ⟨vZ, mZ, hRZ, hPZ⟩
                                                            refine WO_nil ?_
                                                            refine inBlk_normal ?_
                                                            first | refine bodyQ_ret0 Hvad.results52 ?_ | refine bodyQ_end0 Hvad.results52 ?_
                                                            exact ⟨vZ, mZ, MRet.pre (by repeat (first | assumption | exact Ext.refl _ | refine Ext.alloc ?_ _ | refine Ext.drew ?_ | refine Ext.setB ?_ (by first | omega | (simp only [size_alloc, size_setB, size_drew]; omega)) _ | refine Ext.trans ?_ (by assumption))) hRZ, hPZ⟩
                                                          · have hb86p := hb86.h; try simp only [al_ete, al_dfn, Bool.not_eq_true', Bool.not_eq_false', al_ne, Bool.not_not, al_nn] at hb86p
                                                            refine W_seq ?_
                                                            refine W_seq ?_
                                                            refine W_region rfl ?_
                                                            refine WO_p (PS_eql rfl rfl) ?_
                                                            refine WO_p (PS_assign_bool rfl) ?_
                                                            refine WO_nil ?_
                                                            refine thn_normal ?_
                                                            refine W_if rfl (fun hb89 => ?_) (fun hb89 => ?_)
                                                            · have hb89p := hb89.h; try simp only [al_ete, al_dfn, Bool.not_eq_true', Bool.not_eq_false', al_ne, Bool.not_not, al_nn] at hb89p
                                                              refine W_skip ?_
                                                              refine thn_normal ?_
                                                              refine W_condT rfl hb89.h ?_
                                                              refine W_region rfl ?_
                                                              refine WO_p (PS_move_ptr rfl) ?_
                                                              refine WO_call Hvad.call102 (by rfl) (Ret.mono (opSurround_spec scanW C c v B m t f o c' S _ (MS.ext hM (by repeat (first | assumption | exact Ext.refl _ | refine Ext.alloc ?_ _ | refine Ext.drew ?_ | refine Ext.setB ?_ (by first | omega | (simp only [size_alloc, size_setB, size_drew]; omega)) _ | exact Ext.trans (by assumption) (by assumption) | refine Ext.trans ?_ (by assumption)))) hop hAd hk (hAd.pos hkn (by omega) (by omega) (by omega)) (by omega)) ?_)
                                                              rintro _ wZ ⟨vZ, mZ, hRZ, hPZ⟩
                                                              refine WO_nil ?_
                                                              refine inBlk_normal ?_
                                                              first | refine bodyQ_ret0 Hvad.results52 ?_ | refine bodyQ_end0 Hvad.results52 ?_
                                                              exact ⟨vZ, mZ, MRet.pre (by repeat (first | assumption | exact Ext.refl _ | refine Ext.alloc ?_ _ | refine Ext.drew ?_ | refine Ext.setB ?_ (by first | omega | (simp only [size_alloc, size_setB, size_drew]; omega)) _ | refine Ext.trans ?_ (by assumption))) hRZ, hPZ⟩
                                                            · have hb89p := hb89.h; try simp only [al_ete, al_dfn, Bool.not_eq_true', Bool.not_eq_false', al_ne, Bool.not_not, al_nn] at hb89p
                                                              refine W_seq ?_
                                                              refine W_region rfl ?_
                                                              refine WO_p (PS_eql rfl rfl) ?_
                                                              refine WO_p (PS_assign_bool rfl) ?_
                                                              refine WO_nil ?_
                                                              refine thn_normal ?_
                                                              refine W_if rfl (fun hb92 => ?_) (fun hb92 => ?_)
                                                              · have hb92p := hb92.h; try simp only [al_ete, al_dfn, Bool.not_eq_true', Bool.not_eq_false', al_ne, Bool.not_not, al_nn] at hb92p
                                                                refine W_skip ?_
                                                                refine thn_normal ?_
                                                                refine W_condT rfl hb92.h ?_
                                                                refine W_region rfl ?_
                                                                refine WO_p (PS_move_ptr rfl) ?_
                                                                refine WO_call Hvad.call102 (by rfl) (Ret.mono (opSurround_spec scanW C c v B m t f o c' S _ (MS.ext hM (by repeat (first | assumption | exact Ext.refl _ | refine Ext.alloc ?_ _ | refine Ext.drew ?_ | refine Ext.setB ?_ (by first | omega | (simp only [size_alloc, size_setB, size_drew]; omega)) _ | exact Ext.trans (by assumption) (by assumption) | refine Ext.trans ?_ (by assumption)))) hop hAd hk (hAd.pos hkn (by omega) (by omega) (by omega)) (by omega)) ?_)
                                                                rintro _ wZ ⟨vZ, mZ, hRZ, hPZ⟩
                                                                refine WO_nil ?_
                                                                refine inBlk_normal ?_
                                                                first | refine bodyQ_ret0 Hvad.results52 ?_ | refine bodyQ_end0 Hvad.results52 ?_
                                                                exact ⟨vZ, mZ, MRet.pre (by repeat (first | assumption | exact Ext.refl _ | refine Ext.alloc ?_ _ | refine Ext.drew ?_ | refine Ext.setB ?_ (by first | omega | (simp only [size_alloc, size_setB, size_drew]; omega)) _ | refine Ext.trans ?_ (by assumption))) hRZ, hPZ⟩
                                                              · have hb92p := hb92.h; try simp only [al_ete, al_dfn, Bool.not_eq_true', Bool.not_eq_false', al_ne, Bool.not_not, al_nn] at hb92p
                                                                refine W_seq ?_
                                                                refine W_region rfl ?_
                                                                refine WO_p (PS_eql rfl rfl) ?_
                                                                refine WO_p (PS_assign_bool rfl) ?_
                                                                refine WO_nil ?_
                                                                refine thn_normal ?_
                                                                refine W_if rfl (fun hb95 => ?_) (fun hb95 => ?_)
                                                                · have hb95p := hb95.h; try simp only [al_ete, al_dfn, Bool.not_eq_true', Bool.not_eq_false', al_ne, Bool.not_not, al_nn] at hb95p
                                                                  refine W_skip ?_
                                                                  refine thn_normal ?_
                                                                  refine W_condT rfl hb95.h ?_
                                                                  refine W_region rfl ?_
                                                                  refine WO_p (PS_move_ptr rfl) ?_
                                                                  refine WO_call Hvad.call102 (by rfl) (Ret.mono (opSurround_spec scanW C c v B m t f o c' S _ (MS.ext hM (by repeat (first | assumption | exact Ext.refl _ | refine Ext.alloc ?_ _ | refine Ext.drew ?_ | refine Ext.setB ?_ (by first | omega | (simp only [size_alloc, size_setB, size_drew]; omega)) _ | exact Ext.trans (by assumption) (by assumption) | refine Ext.trans ?_ (by assumption)))) hop hAd hk (hAd.pos hkn (by omega) (by omega) (by omega)) (by omega)) ?_)
                                                                  rintro _ wZ ⟨vZ, mZ, hRZ, hPZ⟩
                                                                  refine WO_nil ?_
                                                                  refine inBlk_normal ?_
                                                                  first | refine bodyQ_ret0 Hvad.results52 ?_ | refine bodyQ_end0 Hvad.results52 ?_
                                                                  exact ⟨vZ, mZ, MRet.pre (by repeat (first | assumption | exact Ext.refl _ | refine Ext.alloc ?_ _ | refine Ext.drew ?_ | refine Ext.setB ?_ (by first | omega | (simp only [size_alloc, size_setB, size_drew]; omega)) _ | refine Ext.trans ?_ (by assumption))) hRZ, hPZ⟩
                                                                · have hb95p := hb95.h; try simp only [al_ete, al_dfn, Bool.not_eq_true', Bool.not_eq_false', al_ne, Bool.not_not, al_nn] at hb95p
                                                                  refine W_seq ?_
                                                                  refine W_region rfl ?_
                                                                  refine WO_p (PS_eql rfl rfl) ?_
                                                                  refine WO_p (PS_assign_bool rfl) ?_
                                                                  refine WO_nil ?_
                                                                  refine thn_normal ?_
                                                                  refine W_if rfl (fun hb98 => ?_) (fun hb98 => ?_)
                                                                  · have hb98p := hb98.h; try simp only [al_ete, al_dfn, Bool.not_eq_true', Bool.not_eq_false', al_ne, Bool.not_not, al_nn] at hb98p
                                                                    refine W_skip ?_
                                                                    refine thn_normal ?_
                                                                    refine W_condT rfl hb98.h ?_
                                                                    refine W_region rfl ?_
                                                                    refine WO_p (PS_move_ptr rfl) ?_
                                                                    refine WO_call Hvad.call102 (by rfl) (Ret.mono (opSurround_spec scanW C c v B m t f o c' S _ (MS.ext hM (by repeat (first | assumption | exact Ext.refl _ | refine Ext.alloc ?_ _ | refine Ext.drew ?_ | refine Ext.setB ?_ (by first | omega | (simp only [size_alloc, size_setB, size_drew]; omega)) _ | exact Ext.trans (by assumption) (by assumption) | refine Ext.trans ?_ (by assumption)))) hop hAd hk (hAd.pos hkn (by omega) (by omega) (by omega)) (by omega)) ?_)
                                                                    rintro _ wZ ⟨vZ, mZ, hRZ, hPZ⟩
                                                                    refine WO_nil ?_
                                                                    refine inBlk_normal ?_
                                                                    first | refine bodyQ_ret0 Hvad.results52 ?_ | refine bodyQ_end0 Hvad.results52 ?_
                                                                    exact ⟨vZ, mZ, MRet.pre (by repeat (first | assumption | exact Ext.refl _ | refine Ext.alloc ?_ _ | refine Ext.drew ?_ | refine Ext.setB ?_ (by first | omega | (simp only [size_alloc, size_setB, size_drew]; omega)) _ | refine Ext.trans ?_ (by assumption))) hRZ, hPZ⟩
                                                                  · have hb98p := hb98.h; try simp only [al_ete, al_dfn, Bool.not_eq_true', Bool.not_eq_false', al_ne, Bool.not_not, al_nn] at hb98p
                                                                    refine W_seq ?_
                                                                    refine W_region rfl ?_
                                                                    refine WO_p (PS_eql rfl rfl) ?_
                                                                    refine WO_p (PS_assign_bool rfl) ?_
                                                                    refine WO_nil ?_
                                                                    refine thn_normal ?_
                                                                    refine W_if rfl (fun hb101 => ?_) (fun hb101 => ?_)
                                                                    · have hb101p := hb101.h; try simp only [al_ete, al_dfn, Bool.not_eq_true', Bool.not_eq_false', al_ne, Bool.not_not, al_nn] at hb101p
                                                                      refine W_skip ?_
                                                                      refine thn_normal ?_
                                                                      refine W_condT rfl hb101.h ?_
                                                                      refine W_region rfl ?_
                                                                      refine WO_p (PS_move_ptr rfl) ?_
                                                                      refine WO_call Hvad.call102 (by rfl) (Ret.mono (opSurround_spec scanW C c v B m t f o c' S _ (MS.ext hM (by repeat (first | assumption | exact Ext.refl _ | refine Ext.alloc ?_ _ | refine Ext.drew ?_ | refine Ext.setB ?_ (by first | omega | (simp only [size_alloc, size_setB, size_drew]; omega)) _ | exact Ext.trans (by assumption) (by assumption) | refine Ext.trans ?_ (by assumption)))) hop hAd hk (hAd.pos hkn (by omega) (by omega) (by omega)) (by omega)) ?_)
                                                                      rintro _ wZ ⟨vZ, mZ, hRZ, hPZ⟩
                                                                      refine WO_nil ?_
                                                                      refine inBlk_normal ?_
                                                                      first | refine bodyQ_ret0 Hvad.results52 ?_ | refine bodyQ_end0 Hvad.results52 ?_
                                                                      exact ⟨vZ, mZ, MRet.pre (by repeat (first | assumption | exact Ext.refl _ | refine Ext.alloc ?_ _ | refine Ext.drew ?_ | refine Ext.setB ?_ (by first | omega | (simp only [size_alloc, size_setB, size_drew]; omega)) _ | refine Ext.trans ?_ (by assumption))) hRZ, hPZ⟩
                                                                    · have hb101p := hb101.h; try simp only [al_ete, al_dfn, Bool.not_eq_true', Bool.not_eq_false', al_ne, Bool.not_not, al_nn] at hb101p
                                                                      refine W_seq ?_
                                                                      refine W_region rfl ?_
                                                                      refine WO_p (PS_eql rfl rfl) ?_
                                                                      refine WO_p (PS_assign_bool rfl) ?_
                                                                      refine WO_nil ?_
                                                                      refine thn_normal ?_
                                                                      refine W_if rfl (fun hb104 => ?_) (fun hb104 => ?_)
                                                                      · have hb104p := hb104.h; try simp only [al_ete, al_dfn, Bool.not_eq_true', Bool.not_eq_false', al_ne, Bool.not_not, al_nn] at hb104p
                                                                        refine W_skip ?_
                                                                        refine thn_normal ?_
                                                                        refine W_condT rfl hb104.h ?_
                                                                        refine W_region rfl ?_
                                                                        refine WO_p (PS_move_ptr rfl) ?_
                                                                        refine WO_call Hvad.call102 (by rfl) (Ret.mono (opSurround_spec scanW C c v B m t f o c' S _ (MS.ext hM (by repeat (first | assumption | exact Ext.refl _ | refine Ext.alloc ?_ _ | refine Ext.drew ?_ | refine Ext.setB ?_ (by first | omega | (simp only [size_alloc, size_setB, size_drew]; omega)) _ | exact Ext.trans (by assumption) (by assumption) | refine Ext.trans ?_ (by assumption)))) hop hAd hk (hAd.pos hkn (by omega) (by omega) (by omega)) (by omega)) ?_)
                                                                        rintro _ wZ ⟨vZ, mZ, hRZ, hPZ⟩
                                                                        refine WO_nil ?_
                                                                        refine inBlk_normal ?_
                                                                        first | refine bodyQ_ret0 Hvad.results52 ?_ | refine bodyQ_end0 Hvad.results52 ?_
                                                                        exact ⟨vZ, mZ, MRet.pre (by repeat (first | assumption | exact Ext.refl _ | refine Ext.alloc ?_ _ | refine Ext.drew ?_ | refine Ext.setB ?_ (by first | omega | (simp only [size_alloc, size_setB, size_drew]; omega)) _ | refine Ext.trans ?_ (by assumption))) hRZ, hPZ⟩
                                                                      · have hb104p := hb104.h; try simp only [al_ete, al_dfn, Bool.not_eq_true', Bool.not_eq_false', al_ne, Bool.not_not, al_nn] at hb104p
                                                                        refine W_seq ?_
                                                                        refine W_region rfl ?_
                                                                        refine WO_p (PS_eql rfl rfl) ?_
                                                                        refine WO_p (PS_assign_bool rfl) ?_
                                                                        refine WO_nil ?_
                                                                        refine thn_normal ?_
                                                                        refine W_if rfl (fun hb107 => ?_) (fun hb107 => ?_)
                                                                        · have hb107p := hb107.h; try simp only [al_ete, al_dfn, Bool.not_eq_true', Bool.not_eq_false', al_ne, Bool.not_not, al_nn] at hb107p
                                                                          refine W_skip ?_
                                                                          refine thn_normal ?_
                                                                          refine W_condT rfl hb107.h ?_
                                                                          refine W_region rfl ?_
                                                                          refine WO_p (PS_move_ptr rfl) ?_
                                                                          refine WO_call Hvad.call102 (by rfl) (Ret.mono (opSurround_spec scanW C c v B m t f o c' S _ (MS.ext hM (by repeat (first | assumption | exact Ext.refl _ | refine Ext.alloc ?_ _ | refine Ext.drew ?_ | refine Ext.setB ?_ (by first | omega | (simp only [size_alloc, size_setB, size_drew]; omega)) _ | exact Ext.trans (by assumption) (by assumption) | refine Ext.trans ?_ (by assumption)))) hop hAd hk (hAd.pos hkn (by omega) (by omega) (by omega)) (by omega)) ?_)
                                                                          rintro _ wZ ⟨vZ, mZ, hRZ, hPZ⟩
                                                                          refine WO_nil ?_
                                                                          refine inBlk_normal ?_
                                                                          first | refine bodyQ_ret0 Hvad.results52 ?_ | refine bodyQ_end0 Hvad.results52 ?_
                                                                          exact ⟨vZ, mZ, MRet.pre (by repeat (first | assumption | exact Ext.refl _ | refine Ext.alloc ?_ _ | refine Ext.drew ?_ | refine Ext.setB ?_ (by first | omega | (simp only [size_alloc, size_setB, size_drew]; omega)) _ | refine Ext.trans ?_ (by assumption))) hRZ, hPZ⟩
                                                                        · have hb107p := hb107.h; try simp only [al_ete, al_dfn, Bool.not_eq_true', Bool.not_eq_false', al_ne, Bool.not_not, al_nn] at hb107p
                                                                          refine W_seq ?_
                                                                          refine W_region rfl ?_
                                                                          refine WO_p (PS_eql rfl rfl) ?_
                                                                          refine WO_p (PS_assign_bool rfl) ?_
                                                                          refine WO_nil ?_
                                                                          refine thn_normal ?_
                                                                          refine W_if rfl (fun hb110 => ?_) (fun hb110 => ?_)
                                                                          · have hb110p := hb110.h; try simp only [al_ete, al_dfn, Bool.not_eq_true', Bool.not_eq_false', al_ne, Bool.not_not, al_nn] at hb110p
                                                                            refine W_skip ?_
                                                                            refine thn_normal ?_
                                                                            refine W_condT rfl hb110.h ?_
                                                                            refine W_region rfl ?_
                                                                            refine WO_p (PS_move_ptr rfl) ?_
                                                                            refine WO_call Hvad.call102 (by rfl) (Ret.mono (opSurround_spec scanW C c v B m t f o c' S _ (MS.ext hM (by repeat (first | assumption | exact Ext.refl _ | refine Ext.alloc ?_ _ | refine Ext.drew ?_ | refine Ext.setB ?_ (by first | omega | (simp only [size_alloc, size_setB, size_drew]; omega)) _ | exact Ext.trans (by assumption) (by assumption) | refine Ext.trans ?_ (by assumption)))) hop hAd hk (hAd.pos hkn (by omega) (by omega) (by omega)) (by omega)) ?_)
                                                                            rintro _ wZ ⟨vZ, mZ, hRZ, hPZ⟩
                                                                            refine WO_nil ?_
                                                                            refine inBlk_normal ?_
                                                                            first | refine bodyQ_ret0 Hvad.results52 ?_ | refine bodyQ_end0 Hvad.results52 ?_
                                                                            exact ⟨vZ, mZ, MRet.pre (by repeat (first | assumption | exact Ext.refl _ | refine Ext.alloc ?_ _ | refine Ext.drew ?_ | refine Ext.setB ?_ (by first | omega | (simp only [size_alloc, size_setB, size_drew]; omega)) _ | refine Ext.trans ?_ (by assumption))) hRZ, hPZ⟩
                                                                          · have hb110p := hb110.h; try simp only [al_ete, al_dfn, Bool.not_eq_true', Bool.not_eq_false', al_ne, Bool.not_not, al_nn] at hb110p
                                                                            refine W_seq ?_
                                                                            refine W_region rfl ?_
                                                                            refine WO_p (PS_eql rfl rfl) ?_
                                                                            refine WO_p (PS_assign_bool rfl) ?_
                                                                            refine WO_nil ?_
                                                                            refine thn_normal ?_
                                                                            refine W_if rfl (fun hb113 => ?_) (fun hb113 => ?_)
                                                                            · have hb113p := hb113.h; try simp only [al_ete, al_dfn, Bool.not_eq_true', Bool.not_eq_false', al_ne, Bool.not_not, al_nn] at hb113p
                                                                              refine W_skip ?_
                                                                              refine thn_normal ?_
                                                                              refine W_condT rfl hb113.h ?_
                                                                              refine W_region rfl ?_
                                                                              refine WO_p (PS_move_ptr rfl) ?_
                                                                              refine WO_call Hvad.call102 (by rfl) (Ret.mono (opSurround_spec scanW C c v B m t f o c' S _ (MS.ext hM (by repeat (first | assumption | exact Ext.refl _ | refine Ext.alloc ?_ _ | refine Ext.drew ?_ | refine Ext.setB ?_ (by first | omega | (simp only [size_alloc, size_setB, size_drew]; omega)) _ | exact Ext.trans (by assumption) (by assumption) | refine Ext.trans ?_ (by assumption)))) hop hAd hk (hAd.pos hkn (by omega) (by omega) (by omega)) (by omega)) ?_)
                                                                              rintro _ wZ ⟨vZ, mZ, hRZ, hPZ⟩
                                                                              refine WO_nil ?_
                                                                              refine inBlk_normal ?_
                                                                              first | refine bodyQ_ret0 Hvad.results52 ?_ | refine bodyQ_end0 Hvad.results52 ?_
                                                                              exact ⟨vZ, mZ, MRet.pre (by repeat (first | assumption | exact Ext.refl _ | refine Ext.alloc ?_ _ | refine Ext.drew ?_ | refine Ext.setB ?_ (by first | omega | (simp only [size_alloc, size_setB, size_drew]; omega)) _ | refine Ext.trans ?_ (by assumption))) hRZ, hPZ⟩
                                                                            · have hb113p := hb113.h; try simp only [al_ete, al_dfn, Bool.not_eq_true', Bool.not_eq_false', al_ne, Bool.not_not, al_nn] at hb113p
                                                                              refine W_seq ?_
                                                                              refine W_region rfl ?_
                                                                              refine WO_p (PS_eql rfl rfl) ?_
                                                                              refine WO_p (PS_assign_bool rfl) ?_
                                                                              refine WO_nil ?_
                                                                              refine thn_normal ?_
                                                                              refine W_if rfl (fun hb116 => ?_) (fun hb116 => ?_)
                                                                              · have hb116p := hb116.h; try simp only [al_ete, al_dfn, Bool.not_eq_true', Bool.not_eq_false', al_ne, Bool.not_not, al_nn] at hb116p
                                                                                refine W_skip ?_
                                                                                refine thn_normal ?_
                                                                                refine W_condT rfl hb116.h ?_
                                                                                refine W_region rfl ?_
                                                                                refine WO_p (PS_move_ptr rfl) ?_
                                                                                refine WO_call Hvad.call102 (by rfl) (Ret.mono (opSurround_spec scanW C c v B m t f o c' S _ (MS.ext hM (by repeat (first | assumption | exact Ext.refl _ | refine Ext.alloc ?_ _ | refine Ext.drew ?_ | refine Ext.setB ?_ (by first | omega | (simp only [size_alloc, size_setB, size_drew]; omega)) _ | exact Ext.trans (by assumption) (by assumption) | refine Ext.trans ?_ (by assumption)))) hop hAd hk (hAd.pos hkn (by omega) (by omega) (by omega)) (by omega)) ?_)
                                                                                rintro _ wZ ⟨vZ, mZ, hRZ, hPZ⟩
                                                                                refine WO_nil ?_
                                                                                refine inBlk_normal ?_
                                                                                first | refine bodyQ_ret0 Hvad.results52 ?_ | refine bodyQ_end0 Hvad.results52 ?_
                                                                                exact ⟨vZ, mZ, MRet.pre (by repeat (first | assumption | exact Ext.refl _ | refine Ext.alloc ?_ _ | refine Ext.drew ?_ | refine Ext.setB ?_ (by first | omega | (simp only [size_alloc, size_setB, size_drew]; omega)) _ | refine Ext.trans ?_ (by assumption))) hRZ, hPZ⟩
                                                                              · have hb116p := hb116.h; try simp only [al_ete, al_dfn, Bool.not_eq_true', Bool.not_eq_false', al_ne, Bool.not_not, al_nn] at hb116p
                                                                                refine W_seq ?_
                                                                                refine W_region rfl ?_
                                                                                refine WO_p (PS_eql rfl rfl) ?_
                                                                                refine WO_p (PS_assign_bool rfl) ?_
                                                                                refine WO_nil ?_
                                                                                refine thn_normal ?_
                                                                                refine W_if rfl (fun hb119 => ?_) (fun hb119 => ?_)
                                                                                · have hb119p := hb119.h; try simp only [al_ete, al_dfn, Bool.not_eq_true', Bool.not_eq_false', al_ne, Bool.not_not, al_nn] at hb119p
                                                                                  refine W_skip ?_
                                                                                  refine thn_normal ?_
                                                                                  refine W_condT rfl hb119.h ?_
                                                                                  refine W_region rfl ?_
                                                                                  refine WO_p (PS_move_ptr rfl) ?_
                                                                                  refine WO_call Hvad.call102 (by rfl) (Ret.mono (opSurround_spec scanW C c v B m t f o c' S _ (MS.ext hM (by repeat (first | assumption | exact Ext.refl _ | refine Ext.alloc ?_ _ | refine Ext.drew ?_ | refine Ext.setB ?_ (by first | omega | (simp only [size_alloc, size_setB, size_drew]; omega)) _ | exact Ext.trans (by assumption) (by assumption) | refine Ext.trans ?_ (by assumption)))) hop hAd hk (hAd.pos hkn (by omega) (by omega) (by omega)) (by omega)) ?_)
                                                                                  rintro _ wZ ⟨vZ, mZ, hRZ, hPZ⟩
                                                                                  refine WO_nil ?_
                                                                                  refine inBlk_normal ?_
                                                                                  first | refine bodyQ_ret0 Hvad.results52 ?_ | refine bodyQ_end0 Hvad.results52 ?_
                                                                                  exact ⟨vZ, mZ, MRet.pre (by repeat (first | assumption | exact Ext.refl _ | refine Ext.alloc ?_ _ | refine Ext.drew ?_ | refine Ext.setB ?_ (by first | omega | (simp only [size_alloc, size_setB, size_drew]; omega)) _ | refine Ext.trans ?_ (by assumption))) hRZ, hPZ⟩
                                                                                · have hb119p := hb119.h; try simp only [al_ete, al_dfn, Bool.not_eq_true', Bool.not_eq_false', al_ne, Bool.not_not, al_nn] at hb119p
                                                                                  refine W_seq ?_
                                                                                  refine W_region rfl ?_
                                                                                  refine WO_p (PS_eql rfl rfl) ?_
                                                                                  refine WO_p (PS_assign_bool rfl) ?_
                                                                                  refine WO_nil ?_
                                                                                  refine thn_normal ?_
                                                                                  refine W_if rfl (fun hb122 => ?_) (fun hb122 => ?_)
                                                                                  · have hb122p := hb122.h; try simp only [al_ete, al_dfn, Bool.not_eq_true', Bool.not_eq_false', al_ne, Bool.not_not, al_nn] at hb122p
                                                                                    refine W_skip ?_
                                                                                    refine thn_normal ?_
                                                                                    refine W_condT rfl hb122.h ?_
                                                                                    refine W_region rfl ?_
                                                                                    refine WO_p (PS_move_ptr rfl) ?_
                                                                                    refine WO_call Hvad.call102 (by rfl) (Ret.mono (opSurround_spec scanW C c v B m t f o c' S _ (MS.ext hM (by repeat (first | assumption | exact Ext.refl _ | refine Ext.alloc ?_ _ | refine Ext.drew ?_ | refine Ext.setB ?_ (by first | omega | (simp only [size_alloc, size_setB, size_drew]; omega)) _ | exact Ext.trans (by assumption) (by assumption) | refine Ext.trans ?_ (by assumption)))) hop hAd hk (hAd.pos hkn (by omega) (by omega) (by omega)) (by omega)) ?_)
                                                                                    rintro _ wZ ⟨vZ, mZ, hRZ, hPZ⟩
                                                                                    refine WO_nil ?_
                                                                                    refine inBlk_normal ?_
                                                                                    first | refine bodyQ_ret0 Hvad.results52 ?_ | refine bodyQ_end0 Hvad.results52 ?_
                                                                                    exact ⟨vZ, mZ, MRet.pre (by repeat (first | assumption | exact Ext.refl _ | refine Ext.alloc ?_ _ | refine Ext.drew ?_ | refine Ext.setB ?_ (by first | omega | (simp only [size_alloc, size_setB, size_drew]; omega)) _ | refine Ext.trans ?_ (by assumption))) hRZ, hPZ⟩
                                                                                  · have hb122p := hb122.h; try simp only [al_ete, al_dfn, Bool.not_eq_true', Bool.not_eq_false', al_ne, Bool.not_not, al_nn] at hb122p
                                                                                    refine W_region rfl ?_
                                                                                    refine WO_p (PS_eql rfl rfl) ?_
                                                                                    refine WO_p (PS_assign_bool rfl) ?_
                                                                                    refine WO_nil ?_
                                                                                    refine thn_normal ?_
                                                                                    refine W_if rfl (fun hb125 => ?_) (fun hb125 => ?_)
                                                                                    · have hb125p := hb125.h; try simp only [al_ete, al_dfn, Bool.not_eq_true', Bool.not_eq_false', al_ne, Bool.not_not, al_nn] at hb125p
                                                                                      refine W_region rfl ?_
                                                                                      refine WO_p (PS_move_ptr rfl) ?_
                                                                                      refine WO_call Hvad.call102 (by rfl) (Ret.mono (opSurround_spec scanW C c v B m t f o c' S _ (MS.ext hM (by repeat (first | assumption | exact Ext.refl _ | refine Ext.alloc ?_ _ | refine Ext.drew ?_ | refine Ext.setB ?_ (by first | omega | (simp only [size_alloc, size_setB, size_drew]; omega)) _ | exact Ext.trans (by assumption) (by assumption) | refine Ext.trans ?_ (by assumption)))) hop hAd hk (hAd.pos hkn (by omega) (by omega) (by omega)) (by omega)) ?_)
                                                                                      rintro _ wZ ⟨vZ, mZ, hRZ, hPZ⟩
                                                                                      refine WO_nil ?_
                                                                                      refine inBlk_normal ?_
                                                                                      first | refine bodyQ_ret0 Hvad.results52 ?_ | refine bodyQ_end0 Hvad.results52 ?_
                                                                                      exact ⟨vZ, mZ, MRet.pre (by repeat (first | assumption | exact Ext.refl _ | refine Ext.alloc ?_ _ | refine Ext.drew ?_ | refine Ext.setB ?_ (by first | omega | (simp only [size_alloc, size_setB, size_drew]; omega)) _ | refine Ext.trans ?_ (by assumption))) hRZ, hPZ⟩
                                                                                    · have hb125p := hb125.h; try simp only [al_ete, al_dfn, Bool.not_eq_true', Bool.not_eq_false', al_ne, Bool.not_not, al_nn] at hb125p
                                                                                      refine W_seq ?_
                                                                                      refine W_seq ?_
                                                                                      refine W_region rfl ?_
                                                                                      refine WO_p (PS_eql rfl rfl) ?_
                                                                                      refine WO_p (PS_assign_bool rfl) ?_
                                                                                      refine WO_nil ?_
                                                                                      refine thn_normal ?_
                                                                                      refine W_if rfl (fun hb128 => ?_) (fun hb128 => ?_)
                                                                                      · have hb128p := hb128.h; try simp only [al_ete, al_dfn, Bool.not_eq_true', Bool.not_eq_false', al_ne, Bool.not_not, al_nn] at hb128p
                                                                                        refine W_skip ?_
                                                                                        refine thn_normal ?_
                                                                                        refine W_condT rfl hb128.h ?_
                                                                                        refine W_region rfl ?_
                                                                                        refine WO_p (PS_move_ptr rfl) ?_
                                                                                        refine WO_call Hvad.call103 (by rfl) (Ret.mono (opCopy_spec scanW C c v B m t f o c' S _ (MS.ext hM (by repeat (first | assumption | exact Ext.refl _ | refine Ext.alloc ?_ _ | refine Ext.drew ?_ | refine Ext.setB ?_ (by first | omega | (simp only [size_alloc, size_setB, size_drew]; omega)) _ | exact Ext.trans (by assumption) (by assumption) | refine Ext.trans ?_ (by assumption)))) hop hAd hk (hAd.pos hkn (by omega) (by omega) (by omega)) (by omega)) ?_)
                                                                                        rintro _ wZ ⟨vZ, mZ, hRZ, hPZ⟩
                                                                                        refine WO_nil ?_
                                                                                        refine inBlk_normal ?_
                                                                                        first | refine bodyQ_ret0 Hvad.results52 ?_ | refine bodyQ_end0 Hvad.results52 ?_
                                                                                        exact ⟨vZ, mZ, MRet.pre (by repeat (first | assumption | exact Ext.refl _ | refine Ext.alloc ?_ _ | refine Ext.drew ?_ | refine Ext.setB ?_ (by first | omega | (simp only [size_alloc, size_setB, size_drew]; omega)) _ | refine Ext.trans ?_ (by assumption))) hRZ, hPZ⟩
                                                                                      · have hb128p := hb128.h; try simp only [al_ete, al_dfn, Bool.not_eq_true', Bool.not_eq_false', al_ne, Bool.not_not, al_nn] at hb128p
                                                                                        refine W_seq ?_
                                                                                        refine W_region rfl ?_
                                                                                        refine WO_p (PS_eql rfl rfl) ?_
                                                                                        refine WO_p (PS_assign_bool rfl) ?_
                                                                                        refine WO_nil ?_
                                                                                        refine thn_normal ?_
                                                                                        refine W_if rfl (fun hb131 => ?_) (fun hb131 => ?_)
                                                                                        · have hb131p := hb131.h; try simp only [al_ete, al_dfn, Bool.not_eq_true', Bool.not_eq_false', al_ne, Bool.not_not, al_nn] at hb131p
                                                                                          refine W_skip ?_
                                                                                          refine thn_normal ?_
                                                                                          refine W_condT rfl hb131.h ?_
                                                                                          refine W_region rfl ?_
                                                                                          refine WO_p (PS_move_ptr rfl) ?_
                                                                                          refine WO_call Hvad.call103 (by rfl) (Ret.mono (opCopy_spec scanW C c v B m t f o c' S _ (MS.ext hM (by repeat (first | assumption | exact Ext.refl _ | refine Ext.alloc ?_ _ | refine Ext.drew ?_ | refine Ext.setB ?_ (by first | omega | (simp only [size_alloc, size_setB, size_drew]; omega)) _ | exact Ext.trans (by assumption) (by assumption) | refine Ext.trans ?_ (by assumption)))) hop hAd hk (hAd.pos hkn (by omega) (by omega) (by omega)) (by omega)) ?_)
                                                                                          rintro _ wZ ⟨vZ, mZ, hRZ, hPZ⟩
                                                                                          refine WO_nil ?_
                                                                                          refine inBlk_normal ?_
                                                                                          first | refine bodyQ_ret0 Hvad.results52 ?_ | refine bodyQ_end0 Hvad.results52 ?_
                                                                                          exact ⟨vZ, mZ, MRet.pre (by repeat (first | assumption | exact Ext.refl _ | refine Ext.alloc ?_ _ | refine Ext.drew ?_ | refine Ext.setB ?_ (by first | omega | (simp only [size_alloc, size_setB, size_drew]; omega)) _ | refine Ext.trans ?_ (by assumption))) hRZ, hPZ⟩
                                                                                        · have hb131p := hb131.h; try simp only [al_ete, al_dfn, Bool.not_eq_true', Bool.not_eq_false', al_ne, Bool.not_not, al_nn] at hb131p
                                                                                          refine W_seq ?_
                                                                                          refine W_region rfl ?_
                                                                                          refine WO_p (PS_eql rfl rfl) ?_
                                                                                          refine WO_p (PS_assign_bool rfl) ?_
                                                                                          refine WO_nil ?_
                                                                                          refine thn_normal ?_
                                                                                          refine W_if rfl (fun hb134 => ?_) (fun hb134 => ?_)
                                                                                          · have hb134p := hb134.h; try simp only [al_ete, al_dfn, Bool.not_eq_true', Bool.not_eq_false', al_ne, Bool.not_not, al_nn] at hb134p
                                                                                            refine W_skip ?_
                                                                                            refine thn_normal ?_
                                                                                            refine W_condT rfl hb134.h ?_
                                                                                            refine W_region rfl ?_
                                                                                            refine WO_p (PS_move_ptr rfl) ?_
                                                                                            refine WO_call Hvad.call103 (by rfl) (Ret.mono (opCopy_spec scanW C c v B m t f o c' S _ (MS.ext hM (by repeat (first | assumption | exact Ext.refl _ | refine Ext.alloc ?_ _ | refine Ext.drew ?_ | refine Ext.setB ?_ (by first | omega | (simp only [size_alloc, size_setB, size_drew]; omega)) _ | exact Ext.trans (by assumption) (by assumption) | refine Ext.trans ?_ (by assumption)))) hop hAd hk (hAd.pos hkn (by omega) (by omega) (by omega)) (by omega)) ?_)
                                                                                            rintro _ wZ ⟨vZ, mZ, hRZ, hPZ⟩
                                                                                            refine WO_nil ?_
                                                                                            refine inBlk_normal ?_
                                                                                            first | refine bodyQ_ret0 Hvad.results52 ?_ | refine bodyQ_end0 Hvad.results52 ?_
                                                                                            exact ⟨vZ, mZ, MRet.pre (by repeat (first | assumption | exact Ext.refl _ | refine Ext.alloc ?_ _ | refine Ext.drew ?_ | refine Ext.setB ?_ (by first | omega | (simp only [size_alloc, size_setB, size_drew]; omega)) _ | refine Ext.trans ?_ (by assumption))) hRZ, hPZ⟩
                                                                                          · have hb134p := hb134.h; try simp only [al_ete, al_dfn, Bool.not_eq_true', Bool.not_eq_false', al_ne, Bool.not_not, al_nn] at hb134p
                                                                                            refine W_seq ?_
                                                                                            refine W_region rfl ?_
                                                                                            refine WO_p (PS_eql rfl rfl) ?_
                                                                                            refine WO_p (PS_assign_bool rfl) ?_
                                                                                            refine WO_nil ?_
                                                                                            refine thn_normal ?_
                                                                                            refine W_if rfl (fun hb137 => ?_) (fun hb137 => ?_)
                                                                                            · have hb137p := hb137.h; try simp only [al_ete, al_dfn, Bool.not_eq_true', Bool.not_eq_false', al_ne, Bool.not_not, al_nn] at hb137p
                                                                                              refine W_skip ?_
                                                                                              refine thn_normal ?_
                                                                                              refine W_condT rfl hb137.h ?_
                                                                                              refine W_region rfl ?_
                                                                                              refine WO_p (PS_move_ptr rfl) ?_
                                                                                              refine WO_call Hvad.call103 (by rfl) (Ret.mono (opCopy_spec scanW C c v B m t f o c' S _ (MS.ext hM (by repeat (first | assumption | exact Ext.refl _ | refine Ext.alloc ?_ _ | refine Ext.drew ?_ | refine Ext.setB ?_ (by first | omega | (simp only [size_alloc, size_setB, size_drew]; omega)) _ | exact Ext.trans (by assumption) (by assumption) | refine Ext.trans ?_ (by assumption)))) hop hAd hk (hAd.pos hkn (by omega) (by omega) (by omega)) (by omega)) ?_)
                                                                                              rintro _ wZ ⟨vZ, mZ, hRZ, hPZ⟩
                                                                                              refine WO_nil ?_
                                                                                              refine inBlk_normal ?_
                                                                                              first | refine bodyQ_ret0 Hvad.results52 ?_ | refine bodyQ_end0 Hvad.results52 ?_
                                                                                              exact ⟨vZ, mZ, MRet.pre (by repeat (first | assumption | exact Ext.refl _ | refine Ext.alloc ?_ _ | refine Ext.drew ?_ | refine Ext.setB ?_ (by first | omega | (simp only [size_alloc, size_setB, size_drew]; omega)) _ | refine Ext.trans ?_ (by assumption))) hRZ, hPZ⟩
                                                                                            · have hb137p := hb137.h; try simp only [al_ete, al_dfn, Bool.not_eq_true', Bool.not_eq_false', al_ne, Bool.not_not, al_nn] at hb137p
                                                                                              refine W_region rfl ?_
                                                                                              refine WO_p (PS_eql rfl rfl) ?_
                                                                                              refine WO_p (PS_assign_bool rfl) ?_
                                                                                              refine WO_nil ?_
                                                                                              refine thn_normal ?_
                                                                                              refine W_if rfl (fun hb140 => ?_) (fun hb140 => ?_)
                                                                                              · have hb140p := hb140.h; try simp only [al_ete, al_dfn, Bool.not_eq_true', Bool.not_eq_false', al_ne, Bool.not_not, al_nn] at hb140p
                                                                                                refine W_region rfl ?_
                                                                                                refine WO_p (PS_move_ptr rfl) ?_
                                                                                                refine WO_call Hvad.call103 (by rfl) (Ret.mono (opCopy_spec scanW C c v B m t f o c' S _ (MS.ext hM (by repeat (first | assumption | exact Ext.refl _ | refine Ext.alloc ?_ _ | refine Ext.drew ?_ | refine Ext.setB ?_ (by first | omega | (simp only [size_alloc, size_setB, size_drew]; omega)) _ | exact Ext.trans (by assumption) (by assumption) | refine Ext.trans ?_ (by assumption)))) hop hAd hk (hAd.pos hkn (by omega) (by omega) (by omega)) (by omega)) ?_)
                                                                                                rintro _ wZ ⟨vZ, mZ, hRZ, hPZ⟩
                                                                                                refine WO_nil ?_
                                                                                                refine inBlk_normal ?_
                                                                                                first | refine bodyQ_ret0 Hvad.results52 ?_ | refine bodyQ_end0 Hvad.results52 ?_
                                                                                                exact ⟨vZ, mZ, MRet.pre (by repeat (first | assumption | exact Ext.refl _ | refine Ext.alloc ?_ _ | refine Ext.drew ?_ | refine Ext.setB ?_ (by first | omega | (simp only [size_alloc, size_setB, size_drew]; omega)) _ | refine Ext.trans ?_ (by assumption))) hRZ, hPZ⟩
                                                                                              · have hb140p := hb140.h; try simp only [al_ete, al_dfn, Bool.not_eq_true', Bool.not_eq_false', al_ne, Bool.not_not, al_nn] at hb140p
                                                                                                refine W_seq ?_
                                                                                                refine W_seq ?_
                                                                                                refine W_region rfl ?_
                                                                                                refine WO_p (PS_eql rfl rfl) ?_
                                                                                                refine WO_p (PS_assign_bool rfl) ?_
                                                                                                refine WO_nil ?_
                                                                                                refine thn_normal ?_
                                                                                                refine W_if rfl (fun hb143 => ?_) (fun hb143 => ?_)
                                                                                                · have hb143p := hb143.h; try simp only [al_ete, al_dfn, Bool.not_eq_true', Bool.not_eq_false', al_ne, Bool.not_not, al_nn] at hb143p
                                                                                                  refine W_skip ?_
                                                                                                  refine thn_normal ?_
                                                                                                  refine W_condT rfl hb143.h ?_
                                                                                                  refine W_region rfl ?_
                                                                                                  refine WO_p (PS_move_ptr rfl) ?_
                                                                                                  refine WO_call Hvad.call104 (by rfl) (Ret.mono (opBlock_spec scanW C c v B m t f o c' S _ (MS.ext hM (by repeat (first | assumption | exact Ext.refl _ | refine Ext.alloc ?_ _ | refine Ext.drew ?_ | refine Ext.setB ?_ (by first | omega | (simp only [size_alloc, size_setB, size_drew]; omega)) _ | exact Ext.trans (by assumption) (by assumption) | refine Ext.trans ?_ (by assumption)))) hop hAd hk (hAd.pos hkn (by omega) (by omega) (by omega)) (by omega) hAd.ri.ti.eh) ?_)
                                                                                                  rintro _ wZ ⟨vZ, mZ, hRZ, hPZ⟩
                                                                                                  refine WO_nil ?_
                                                                                                  refine inBlk_normal ?_
                                                                                                  first | refine bodyQ_ret0 Hvad.results52 ?_ | refine bodyQ_end0 Hvad.results52 ?_
                                                                                                  exact ⟨vZ, mZ, MRet.pre (by repeat (first | assumption | exact Ext.refl _ | refine Ext.alloc ?_ _ | refine Ext.drew ?_ | refine Ext.setB ?_ (by first | omega | (simp only [size_alloc, size_setB, size_drew]; omega)) _ | refine Ext.trans ?_ (by assumption))) hRZ, hPZ⟩
                                                                                                · have hb143p := hb143.h; try simp only [al_ete, al_dfn, Bool.not_eq_true', Bool.not_eq_false', al_ne, Bool.not_not, al_nn] at hb143p
                                                                                                  refine W_seq ?_
                                                                                                  refine W_region rfl ?_
                                                                                                  refine WO_p (PS_eql rfl rfl) ?_
                                                                                                  refine WO_p (PS_assign_bool rfl) ?_
                                                                                                  refine WO_nil ?_
                                                                                                  refine thn_normal ?_
                                                                                                  refine W_if rfl (fun hb146 => ?_) (fun hb146 => ?_)
                                                                                                  · have hb146p := hb146.h; try simp only [al_ete, al_dfn, Bool.not_eq_true', Bool.not_eq_false', al_ne, Bool.not_not, al_nn] at hb146p
                                                                                                    refine W_skip ?_
                                                                                                    refine thn_normal ?_
                                                                                                    refine W_condT rfl hb146.h ?_
                                                                                                    refine W_region rfl ?_
                                                                                                    refine WO_p (PS_move_ptr rfl) ?_
                                                                                                    refine WO_call Hvad.call104 (by rfl) (Ret.mono (opBlock_spec scanW C c v B m t f o c' S _ (MS.ext hM (by repeat (first | assumption | exact Ext.refl _ | refine Ext.alloc ?_ _ | refine Ext.drew ?_ | refine Ext.setB ?_ (by first | omega | (simp only [size_alloc, size_setB, size_drew]; omega)) _ | exact Ext.trans (by assumption) (by assumption) | refine Ext.trans ?_ (by assumption)))) hop hAd hk (hAd.pos hkn (by omega) (by omega) (by omega)) (by omega) hAd.ri.ti.eh) ?_)
                                                                                                    rintro _ wZ ⟨vZ, mZ, hRZ, hPZ⟩
                                                                                                    refine WO_nil ?_
                                                                                                    refine inBlk_normal ?_
                                                                                                    first | refine bodyQ_ret0 Hvad.results52 ?_ | refine bodyQ_end0 Hvad.results52 ?_
                                                                                                    exact ⟨vZ, mZ, MRet.pre (by repeat (first | assumption | exact Ext.refl _ | refine Ext.alloc ?_ _ | refine Ext.drew ?_ | refine Ext.setB ?_ (by first | omega | (simp only [size_alloc, size_setB, size_drew]; omega)) _ | refine Ext.trans ?_ (by assumption))) hRZ, hPZ⟩
                                                                                                  · have hb146p := hb146.h; try simp only [al_ete, al_dfn, Bool.not_eq_true', Bool.not_eq_false', al_ne, Bool.not_not, al_nn] at hb146p
                                                                                                    refine W_seq ?_
                                                                                                    refine W_region rfl ?_
                                                                                                    refine WO_p (PS_eql rfl rfl) ?_
                                                                                                    refine WO_p (PS_assign_bool rfl) ?_
                                                                                                    refine WO_nil ?_
                                                                                                    refine thn_normal ?_
                                                                                                    refine W_if rfl (fun hb149 => ?_) (fun hb149 => ?_)
                                                                                                    · have hb149p := hb149.h; try simp only [al_ete, al_dfn, Bool.not_eq_true', Bool.not_eq_false', al_ne, Bool.not_not, al_nn] at hb149p
                                                                                                      refine W_skip ?_
                                                                                                      refine thn_normal ?_
                                                                                                      refine W_condT rfl hb149.h ?_
                                                                                                      refine W_region rfl ?_
                                                                                                      refine WO_p (PS_move_ptr rfl) ?_
                                                                                                      refine WO_call Hvad.call104 (by rfl) (Ret.mono (opBlock_spec scanW C c v B m t f o c' S _ (MS.ext hM (by repeat (first | assumption | exact Ext.refl _ | refine Ext.alloc ?_ _ | refine Ext.drew ?_ | refine Ext.setB ?_ (by first | omega | (simp only [size_alloc, size_setB, size_drew]; omega)) _ | exact Ext.trans (by assumption) (by assumption) | refine Ext.trans ?_ (by assumption)))) hop hAd hk (hAd.pos hkn (by omega) (by omega) (by omega)) (by omega) hAd.ri.ti.eh) ?_)
                                                                                                      rintro _ wZ ⟨vZ, mZ, hRZ, hPZ⟩
                                                                                                      refine WO_nil ?_
                                                                                                      refine inBlk_normal ?_
                                                                                                      first | refine bodyQ_ret0 Hvad.results52 ?_ | refine bodyQ_end0 Hvad.results52 ?_
                                                                                                      exact ⟨vZ, mZ, MRet.pre (by repeat (first | assumption | exact Ext.refl _ | refine Ext.alloc ?_ _ | refine Ext.drew ?_ | refine Ext.setB ?_ (by first | omega | (simp only [size_alloc, size_setB, size_drew]; omega)) _ | refine Ext.trans ?_ (by assumption))) hRZ, hPZ⟩
                                                                                                    · have hb149p := hb149.h; try simp only [al_ete, al_dfn, Bool.not_eq_true', Bool.not_eq_false', al_ne, Bool.not_not, al_nn] at hb149p
                                                                                                      refine W_seq ?_
                                                                                                      refine W_region rfl ?_
                                                                                                      refine WO_p (PS_eql rfl rfl) ?_
                                                                                                      refine WO_p (PS_assign_bool rfl) ?_
                                                                                                      refine WO_nil ?_
                                                                                                      refine thn_normal ?_
                                                                                                      refine W_if rfl (fun hb152 => ?_) (fun hb152 => ?_)
                                                                                                      · have hb152p := hb152.h; try simp only [al_ete, al_dfn, Bool.not_eq_true', Bool.not_eq_false', al_ne, Bool.not_not, al_nn] at hb152p
                                                                                                        refine W_skip ?_
                                                                                                        refine thn_normal ?_
                                                                                                        refine W_condT rfl hb152.h ?_
                                                                                                        refine W_region rfl ?_
                                                                                                        refine WO_p (PS_move_ptr rfl) ?_
                                                                                                        refine WO_call Hvad.call104 (by rfl) (Ret.mono (opBlock_spec scanW C c v B m t f o c' S _ (MS.ext hM (by repeat (first | assumption | exact Ext.refl _ | refine Ext.alloc ?_ _ | refine Ext.drew ?_ | refine Ext.setB ?_ (by first | omega | (simp only [size_alloc, size_setB, size_drew]; omega)) _ | exact Ext.trans (by assumption) (by assumption) | refine Ext.trans ?_ (by assumption)))) hop hAd hk (hAd.pos hkn (by omega) (by omega) (by omega)) (by omega) hAd.ri.ti.eh) ?_)
                                                                                                        rintro _ wZ ⟨vZ, mZ, hRZ, hPZ⟩
                                                                                                        refine WO_nil ?_
                                                                                                        refine inBlk_normal ?_
                                                                                                        first | refine bodyQ_ret0 Hvad.results52 ?_ | refine bodyQ_end0 Hvad.results52 ?_
                                                                                                        exact ⟨vZ, mZ, MRet.pre (by repeat (first | assumption | exact Ext.refl _ | refine Ext.alloc ?_ _ | refine Ext.drew ?_ | refine Ext.setB ?_ (by first | omega | (simp only [size_alloc, size_setB, size_drew]; omega)) _ | refine Ext.trans ?_ (by assumption))) hRZ, hPZ⟩
                                                                                                      · have hb152p := hb152.h; try simp only [al_ete, al_dfn, Bool.not_eq_true', Bool.not_eq_false', al_ne, Bool.not_not, al_nn] at hb152p
                                                                                                        refine W_seq ?_
                                                                                                        refine W_region rfl ?_
                                                                                                        refine WO_p (PS_eql rfl rfl) ?_
                                                                                                        refine WO_p (PS_assign_bool rfl) ?_
                                                                                                        refine WO_nil ?_
                                                                                                        refine thn_normal ?_
                                                                                                        refine W_if rfl (fun hb155 => ?_) (fun hb155 => ?_)
                                                                                                        · have hb155p := hb155.h; try simp only [al_ete, al_dfn, Bool.not_eq_true', Bool.not_eq_false', al_ne, Bool.not_not, al_nn] at hb155p
                                                                                                          refine W_skip ?_
                                                                                                          refine thn_normal ?_
                                                                                                          refine W_condT rfl hb155.h ?_
                                                                                                          refine W_region rfl ?_
                                                                                                          refine WO_p (PS_move_ptr rfl) ?_
                                                                                                          refine WO_call Hvad.call104 (by rfl) (Ret.mono (opBlock_spec scanW C c v B m t f o c' S _ (MS.ext hM (by repeat (first | assumption | exact Ext.refl _ | refine Ext.alloc ?_ _ | refine Ext.drew ?_ | refine Ext.setB ?_ (by first | omega | (simp only [size_alloc, size_setB, size_drew]; omega)) _ | exact Ext.trans (by assumption) (by assumption) | refine Ext.trans ?_ (by assumption)))) hop hAd hk (hAd.pos hkn (by omega) (by omega) (by omega)) (by omega) hAd.ri.ti.eh) ?_)
                                                                                                          rintro _ wZ ⟨vZ, mZ, hRZ, hPZ⟩
                                                                                                          refine WO_nil ?_
                                                                                                          refine inBlk_normal ?_
                                                                                                          first | refine bodyQ_ret0 Hvad.results52 ?_ | refine bodyQ_end0 Hvad.results52 ?_
                                                                                                          exact ⟨vZ, mZ, MRet.pre (by repeat (first | assumption | exact Ext.refl _ | refine Ext.alloc ?_ _ | refine Ext.drew ?_ | refine Ext.setB ?_ (by first | omega | (simp only [size_alloc, size_setB, size_drew]; omega)) _ | refine Ext.trans ?_ (by assumption))) hRZ, hPZ⟩
                                                                                                        · have hb155p := hb155.h; try simp only [al_ete, al_dfn, Bool.not_eq_true', Bool.not_eq_false', al_ne, Bool.not_not, al_nn] at hb155p
                                                                                                          refine W_seq ?_
                                                                                                          refine W_region rfl ?_
                                                                                                          refine WO_p (PS_eql rfl rfl) ?_
                                                                                                          refine WO_p (PS_assign_bool rfl) ?_
                                                                                                          refine WO_nil ?_
                                                                                                          refine thn_normal ?_
                                                                                                          refine W_if rfl (fun hb158 => ?_) (fun hb158 => ?_)
                                                                                                          · have hb158p := hb158.h; try simp only [al_ete, al_dfn, Bool.not_eq_true', Bool.not_eq_false', al_ne, Bool.not_not, al_nn] at hb158p
                                                                                                            refine W_skip ?_
                                                                                                            refine thn_normal ?_
                                                                                                            refine W_condT rfl hb158.h ?_
                                                                                                            refine W_region rfl ?_
                                                                                                            refine WO_p (PS_move_ptr rfl) ?_
                                                                                                            refine WO_call Hvad.call104 (by rfl) (Ret.mono (opBlock_spec scanW C c v B m t f o c' S _ (MS.ext hM (by repeat (first | assumption | exact Ext.refl _ | refine Ext.alloc ?_ _ | refine Ext.drew ?_ | refine Ext.setB ?_ (by first | omega | (simp only [size_alloc, size_setB, size_drew]; omega)) _ | exact Ext.trans (by assumption) (by assumption) | refine Ext.trans ?_ (by assumption)))) hop hAd hk (hAd.pos hkn (by omega) (by omega) (by omega)) (by omega) hAd.ri.ti.eh) ?_)
                                                                                                            rintro _ wZ ⟨vZ, mZ, hRZ, hPZ⟩
                                                                                                            refine WO_nil ?_
                                                                                                            refine inBlk_normal ?_
                                                                                                            first | refine bodyQ_ret0 Hvad.results52 ?_ | refine bodyQ_end0 Hvad.results52 ?_
                                                                                                            exact ⟨vZ, mZ, MRet.pre (by repeat (first | assumption | exact Ext.refl _ | refine Ext.alloc ?_ _ | refine Ext.drew ?_ | refine Ext.setB ?_ (by first | omega | (simp only [size_alloc, size_setB, size_drew]; omega)) _ | refine Ext.trans ?_ (by assumption))) hRZ, hPZ⟩
                                                                                                          · have hb158p := hb158.h; try simp only [al_ete, al_dfn, Bool.not_eq_true', Bool.not_eq_false', al_ne, Bool.not_not, al_nn] at hb158p
                                                                                                            refine W_seq ?_
                                                                                                            refine W_region rfl ?_
                                                                                                            refine WO_p (PS_eql rfl rfl) ?_
                                                                                                            refine WO_p (PS_assign_bool rfl) ?_
                                                                                                            refine WO_nil ?_
                                                                                                            refine thn_normal ?_
                                                                                                            refine W_if rfl (fun hb161 => ?_) (fun hb161 => ?_)
                                                                                                            · have hb161p := hb161.h; try simp only [al_ete, al_dfn, Bool.not_eq_true', Bool.not_eq_false', al_ne, Bool.not_not, al_nn] at hb161p
                                                                                                              refine W_skip ?_
                                                                                                              refine thn_normal ?_
                                                                                                              refine W_condT rfl hb161.h ?_
                                                                                                              refine W_region rfl ?_
                                                                                                              refine WO_p (PS_move_ptr rfl) ?_
                                                                                                              refine WO_call Hvad.call104 (by rfl) (Ret.mono (opBlock_spec scanW C c v B m t f o c' S _ (MS.ext hM (by repeat (first | assumption | exact Ext.refl _ | refine Ext.alloc ?_ _ | refine Ext.drew ?_ | refine Ext.setB ?_ (by first | omega | (simp only [size_alloc, size_setB, size_drew]; omega)) _ | exact Ext.trans (by assumption) (by assumption) | refine Ext.trans ?_ (by assumption)))) hop hAd hk (hAd.pos hkn (by omega) (by omega) (by omega)) (by omega) hAd.ri.ti.eh) ?_)
                                                                                                              rintro _ wZ ⟨vZ, mZ, hRZ, hPZ⟩
                                                                                                              refine WO_nil ?_
                                                                                                              refine inBlk_normal ?_
                                                                                                              first | refine bodyQ_ret0 Hvad.results52 ?_ | refine bodyQ_end0 Hvad.results52 ?_
                                                                                                              exact ⟨vZ, mZ, MRet.pre (by repeat (first | assumption | exact Ext.refl _ | refine Ext.alloc ?_ _ | refine Ext.drew ?_ | refine Ext.setB ?_ (by first | omega | (simp only [size_alloc, size_setB, size_drew]; omega)) _ | refine Ext.trans ?_ (by assumption))) hRZ, hPZ⟩
                                                                                                            · have hb161p := hb161.h; try simp only [al_ete, al_dfn, Bool.not_eq_true', Bool.not_eq_false', al_ne, Bool.not_not, al_nn] at hb161p
                                                                                                              refine W_region rfl ?_
                                                                                                              refine WO_p (PS_eql rfl rfl) ?_
                                                                                                              refine WO_p (PS_assign_bool rfl) ?_
                                                                                                              refine WO_nil ?_
                                                                                                              refine thn_normal ?_
                                                                                                              refine W_if rfl (fun hb164 => ?_) (fun hb164 => ?_)
                                                                                                              · have hb164p := hb164.h; try simp only [al_ete, al_dfn, Bool.not_eq_true', Bool.not_eq_false', al_ne, Bool.not_not, al_nn] at hb164p
                                                                                                                refine W_region rfl ?_
                                                                                                                refine WO_p (PS_move_ptr rfl) ?_
                                                                                                                refine WO_call Hvad.call104 (by rfl) (Ret.mono (opBlock_spec scanW C c v B m t f o c' S _ (MS.ext hM (by repeat (first | assumption | exact Ext.refl _ | refine Ext.alloc ?_ _ | refine Ext.drew ?_ | refine Ext.setB ?_ (by first | omega | (simp only [size_alloc, size_setB, size_drew]; omega)) _ | exact Ext.trans (by assumption) (by assumption) | refine Ext.trans ?_ (by assumption)))) hop hAd hk (hAd.pos hkn (by omega) (by omega) (by omega)) (by omega) hAd.ri.ti.eh) ?_)
                                                                                                                rintro _ wZ ⟨vZ, mZ, hRZ, hPZ⟩
                                                                                                                refine WO_nil ?_
                                                                                                                refine inBlk_normal ?_
                                                                                                                first | refine bodyQ_ret0 Hvad.results52 ?_ | refine bodyQ_end0 Hvad.results52 ?_
                                                                                                                exact ⟨vZ, mZ, MRet.pre (by repeat (first | assumption | exact Ext.refl _ | refine Ext.alloc ?_ _ | refine Ext.drew ?_ | refine Ext.setB ?_ (by first | omega | (simp only [size_alloc, size_setB, size_drew]; omega)) _ | refine Ext.trans ?_ (by assumption))) hRZ, hPZ⟩
                                                                                                              · have hb164p := hb164.h; try simp only [al_ete, al_dfn, Bool.not_eq_true', Bool.not_eq_false', al_ne, Bool.not_not, al_nn] at hb164p
                                                                                                                refine W_seq ?_
                                                                                                                refine W_seq ?_
                                                                                                                refine W_region rfl ?_
                                                                                                                refine WO_p (PS_eql rfl rfl) ?_
                                                                                                                refine WO_p (PS_assign_bool rfl) ?_
                                                                                                                refine WO_nil ?_
                                                                                                                refine thn_normal ?_
                                                                                                                refine W_if rfl (fun hb167 => ?_) (fun hb167 => ?_)
                                                                                                                · have hb167p := hb167.h; try simp only [al_ete, al_dfn, Bool.not_eq_true', Bool.not_eq_false', al_ne, Bool.not_not, al_nn] at hb167p
                                                                                                                  refine W_skip ?_
                                                                                                                  refine thn_normal ?_
                                                                                                                  refine W_condT rfl hb167.h ?_
                                                                                                                  refine W_region rfl ?_
                                                                                                                  refine WO_p (PS_move_ptr rfl) ?_
                                                                                                                  refine WO_call Hvad.call105 (by rfl) (Ret.mono (opMemory_spec scanW C c v B m t f o c' S _ (MS.ext hM (by repeat (first | assumption | exact Ext.refl _ | refine Ext.alloc ?_ _ | refine Ext.drew ?_ | refine Ext.setB ?_ (by first | omega | (simp only [size_alloc, size_setB, size_drew]; omega)) _ | exact Ext.trans (by assumption) (by assumption) | refine Ext.trans ?_ (by assumption)))) hop hAd hk (hAd.pos hkn (by omega) (by omega) (by omega)) (by omega)) ?_)
                                                                                                                  rintro _ wZ ⟨vZ, mZ, hRZ, hPZ⟩
                                                                                                                  refine WO_nil ?_
                                                                                                                  refine inBlk_normal ?_
                                                                                                                  first | refine bodyQ_ret0 Hvad.results52 ?_ | refine bodyQ_end0 Hvad.results52 ?_
                                                                                                                  exact ⟨vZ, mZ, MRet.pre (by repeat (first | assumption | exact Ext.refl _ | refine Ext.alloc ?_ _ | refine Ext.drew ?_ | refine Ext.setB ?_ (by first | omega | (simp only [size_alloc, size_setB, size_drew]; omega)) _ | refine Ext.trans ?_ (by assumption))) hRZ, hPZ⟩
                                                                                                                · have hb167p := hb167.h; try simp only [al_ete, al_dfn, Bool.not_eq_true', Bool.not_eq_false', al_ne, Bool.not_not, al_nn] at hb167p
                                                                                                                  refine W_seq ?_
                                                                                                                  refine W_region rfl ?_
                                                                                                                  refine WO_p (PS_eql rfl rfl) ?_
                                                                                                                  refine WO_p (PS_assign_bool rfl) ?_
                                                                                                                  refine WO_nil ?_
                                                                                                                  refine thn_normal ?_
                                                                                                                  refine W_if rfl (fun hb170 => ?_) (fun hb170 => ?_)
                                                                                                                  · have hb170p := hb170.h; try simp only [al_ete, al_dfn, Bool.not_eq_true', Bool.not_eq_false', al_ne, Bool.not_not, al_nn] at hb170p
                                                                                                                    refine W_skip ?_
                                                                                                                    refine thn_normal ?_
                                                                                                                    refine W_condT rfl hb170.h ?_
                                                                                                                    refine W_region rfl ?_
                                                                                                                    refine WO_p (PS_move_ptr rfl) ?_
                                                                                                                    refine WO_call Hvad.call105 (by rfl) (Ret.mono (opMemory_spec scanW C c v B m t f o c' S _ (MS.ext hM (by repeat (first | assumption | exact Ext.refl _ | refine Ext.alloc ?_ _ | refine Ext.drew ?_ | refine Ext.setB ?_ (by first | omega | (simp only [size_alloc, size_setB, size_drew]; omega)) _ | exact Ext.trans (by assumption) (by assumption) | refine Ext.trans ?_ (by assumption)))) hop hAd hk (hAd.pos hkn (by omega) (by omega) (by omega)) (by omega)) ?_)
                                                                                                                    rintro _ wZ ⟨vZ, mZ, hRZ, hPZ⟩
                                                                                                                    refine WO_nil ?_
                                                                                                                    refine inBlk_normal ?_
                                                                                                                    first | refine bodyQ_ret0 Hvad.results52 ?_ | refine bodyQ_end0 Hvad.results52 ?_
                                                                                                                    exact ⟨vZ, mZ, MRet.pre (by repeat (first | assumption | exact Ext.refl _ | refine Ext.alloc ?_ _ | refine Ext.drew ?_ | refine Ext.setB ?_ (by first | omega | (simp only [size_alloc, size_setB, size_drew]; omega)) _ | refine Ext.trans ?_ (by assumption))) hRZ, hPZ⟩
                                                                                                                  · have hb170p := hb170.h; try simp only [al_ete, al_dfn, Bool.not_eq_true', Bool.not_eq_false', al_ne, Bool.not_not, al_nn] at hb170p
                                                                                                                    refine W_region rfl ?_
                                                                                                                    refine WO_p (PS_eql rfl rfl) ?_
                                                                                                                    refine WO_p (PS_assign_bool rfl) ?_
                                                                                                                    refine WO_nil ?_
                                                                                                                    refine thn_normal ?_
                                                                                                                    refine W_if rfl (fun hb173 => ?_) (fun hb173 => ?_)
                                                                                                                    · have hb173p := hb173.h; try simp only [al_ete, al_dfn, Bool.not_eq_true', Bool.not_eq_false', al_ne, Bool.not_not, al_nn] at hb173p
                                                                                                                      refine W_region rfl ?_
                                                                                                                      refine WO_p (PS_move_ptr rfl) ?_
                                                                                                                      refine WO_call Hvad.call105 (by rfl) (Ret.mono (opMemory_spec scanW C c v B m t f o c' S _ (MS.ext hM (by repeat (first | assumption | exact Ext.refl _ | refine Ext.alloc ?_ _ | refine Ext.drew ?_ | refine Ext.setB ?_ (by first | omega | (simp only [size_alloc, size_setB, size_drew]; omega)) _ | exact Ext.trans (by assumption) (by assumption) | refine Ext.trans ?_ (by assumption)))) hop hAd hk (hAd.pos hkn (by omega) (by omega) (by omega)) (by omega)) ?_)
                                                                                                                      rintro _ wZ ⟨vZ, mZ, hRZ, hPZ⟩
                                                                                                                      refine WO_nil ?_
                                                                                                                      refine inBlk_normal ?_
                                                                                                                      first | refine bodyQ_ret0 Hvad.results52 ?_ | refine bodyQ_end0 Hvad.results52 ?_
                                                                                                                      exact ⟨vZ, mZ, MRet.pre (by repeat (first | assumption | exact Ext.refl _ | refine Ext.alloc ?_ _ | refine Ext.drew ?_ | refine Ext.setB ?_ (by first | omega | (simp only [size_alloc, size_setB, size_drew]; omega)) _ | refine Ext.trans ?_ (by assumption))) hRZ, hPZ⟩
                                                                                                                    · have hb173p := hb173.h; try simp only [al_ete, al_dfn, Bool.not_eq_true', Bool.not_eq_false', al_ne, Bool.not_not, al_nn] at hb173p
                                                                                                                      refine W_seq ?_
                                                                                                                      refine W_seq ?_
                                                                                                                      refine W_region rfl ?_
                                                                                                                      refine WO_p (PS_eql rfl rfl) ?_
                                                                                                                      refine WO_p (PS_assign_bool rfl) ?_
                                                                                                                      refine WO_nil ?_
                                                                                                                      refine thn_normal ?_
                                                                                                                      refine W_if rfl (fun hb176 => ?_) (fun hb176 => ?_)
                                                                                                                      · have hb176p := hb176.h; try simp only [al_ete, al_dfn, Bool.not_eq_true', Bool.not_eq_false', al_ne, Bool.not_not, al_nn] at hb176p
                                                                                                                        refine W_skip ?_
                                                                                                                        refine thn_normal ?_
                                                                                                                        refine W_condT rfl hb176.h ?_
                                                                                                                        refine W_region rfl ?_
                                                                                                                        refine WO_p (PS_move_ptr rfl) ?_
                                                                                                                        refine WO_call Hvad.call106 (by rfl) (Ret.mono (opStorage_spec scanW C c v B m t f o c' S _ (MS.ext hM (by repeat (first | assumption | exact Ext.refl _ | refine Ext.alloc ?_ _ | refine Ext.drew ?_ | refine Ext.setB ?_ (by first | omega | (simp only [size_alloc, size_setB, size_drew]; omega)) _ | exact Ext.trans (by assumption) (by assumption) | refine Ext.trans ?_ (by assumption)))) hop hAd hk (hAd.pos hkn (by omega) (by omega) (by omega)) (by omega)) ?_)
                                                                                                                        rintro _ wZ ⟨vZ, mZ, hRZ, hPZ⟩
                                                                                                                        refine WO_nil ?_
                                                                                                                        refine inBlk_normal ?_
                                                                                                                        first | refine bodyQ_ret0 Hvad.results52 ?_ | refine bodyQ_end0 Hvad.results52 ?_
                                                                                                                        exact ⟨vZ, mZ, MRet.pre (by repeat (first | assumption | exact Ext.refl _ | refine Ext.alloc ?_ _ | refine Ext.drew ?_ | refine Ext.setB ?_ (by first | omega | (simp only [size_alloc, size_setB, size_drew]; omega)) _ | refine Ext.trans ?_ (by assumption))) hRZ, hPZ⟩
                                                                                                                      · have hb176p := hb176.h; try simp only [al_ete, al_dfn, Bool.not_eq_true', Bool.not_eq_false', al_ne, Bool.not_not, al_nn] at hb176p
                                                                                                                        refine W_region rfl ?_
                                                                                                                        refine WO_p (PS_eql rfl rfl) ?_
                                                                                                                        refine WO_p (PS_assign_bool rfl) ?_
                                                                                                                        refine WO_nil ?_
                                                                                                                        refine thn_normal ?_
                                                                                                                        refine W_if rfl (fun hb179 => ?_) (fun hb179 => ?_)
                                                                                                                        · have hb179p := hb179.h; try simp only [al_ete, al_dfn, Bool.not_eq_true', Bool.not_eq_false', al_ne, Bool.not_not, al_nn] at hb179p
                                                                                                                          refine W_region rfl ?_
                                                                                                                          refine WO_p (PS_move_ptr rfl) ?_
                                                                                                                          refine WO_call Hvad.call106 (by rfl) (Ret.mono (opStorage_spec scanW C c v B m t f o c' S _ (MS.ext hM (by repeat (first | assumption | exact Ext.refl _ | refine Ext.alloc ?_ _ | refine Ext.drew ?_ | refine Ext.setB ?_ (by first | omega | (simp only [size_alloc, size_setB, size_drew]; omega)) _ | exact Ext.trans (by assumption) (by assumption) | refine Ext.trans ?_ (by assumption)))) hop hAd hk (hAd.pos hkn (by omega) (by omega) (by omega)) (by omega)) ?_)
                                                                                                                          rintro _ wZ ⟨vZ, mZ, hRZ, hPZ⟩
                                                                                                                          refine WO_nil ?_
                                                                                                                          refine inBlk_normal ?_
                                                                                                                          first | refine bodyQ_ret0 Hvad.results52 ?_ | refine bodyQ_end0 Hvad.results52 ?_
                                                                                                                          exact ⟨vZ, mZ, MRet.pre (by repeat (first | assumption | exact Ext.refl _ | refine Ext.alloc ?_ _ | refine Ext.drew ?_ | refine Ext.setB ?_ (by first | omega | (simp only [size_alloc, size_setB, size_drew]; omega)) _ | refine Ext.trans ?_ (by assumption))) hRZ, hPZ⟩
                                                                                                                        · have hb179p := hb179.h; try simp only [al_ete, al_dfn, Bool.not_eq_true', Bool.not_eq_false', al_ne, Bool.not_not, al_nn] at hb179p
                                                                                                                          refine W_seq ?_
                                                                                                                          refine W_seq ?_
                                                                                                                          refine W_region rfl ?_
                                                                                                                          refine WO_p (PS_eql rfl rfl) ?_
                                                                                                                          refine WO_p (PS_assign_bool rfl) ?_
                                                                                                                          refine WO_nil ?_
                                                                                                                          refine thn_normal ?_
                                                                                                                          refine W_if rfl (fun hb182 => ?_) (fun hb182 => ?_)
                                                                                                                          · have hb182p := hb182.h; try simp only [al_ete, al_dfn, Bool.not_eq_true', Bool.not_eq_false', al_ne, Bool.not_not, al_nn] at hb182p
                                                                                                                            refine W_skip ?_
                                                                                                                            refine thn_normal ?_
                                                                                                                            refine W_condT rfl hb182.h ?_
                                                                                                                            refine W_region rfl ?_
                                                                                                                            refine WO_p (PS_move_ptr rfl) ?_
                                                                                                                            refine WO_call Hvad.call107 (by rfl) (Ret.mono (opJump_spec scanW C c v B m t f o c' S _ (MS.ext hM (by repeat (first | assumption | exact Ext.refl _ | refine Ext.alloc ?_ _ | refine Ext.drew ?_ | refine Ext.setB ?_ (by first | omega | (simp only [size_alloc, size_setB, size_drew]; omega)) _ | exact Ext.trans (by assumption) (by assumption) | refine Ext.trans ?_ (by assumption)))) hop hAd hk (hAd.pos hkn (by omega) (by omega) (by omega)) (by omega)) ?_)
                                                                                                                            rintro _ wZ ⟨vZ, mZ, hRZ, hPZ⟩
                                                                                                                            refine WO_nil ?_
                                                                                                                            refine inBlk_normal ?_
                                                                                                                            first | refine bodyQ_ret0 Hvad.results52 ?_ | refine bodyQ_end0 Hvad.results52 ?_
                                                                                                                            exact ⟨vZ, mZ, MRet.pre (by repeat (first | assumption | exact Ext.refl _ | refine Ext.alloc ?_ _ | refine Ext.drew ?_ | refine Ext.setB ?_ (by first | omega | (simp only [size_alloc, size_setB, size_drew]; omega)) _ | refine Ext.trans ?_ (by assumption))) hRZ, hPZ⟩
                                                                                                                          · have hb182p := hb182.h; try simp only [al_ete, al_dfn, Bool.not_eq_true', Bool.not_eq_false', al_ne, Bool.not_not, al_nn] at hb182p
                                                                                                                            refine W_seq ?_
                                                                                                                            refine W_region rfl ?_
                                                                                                                            refine WO_p (PS_eql rfl rfl) ?_
                                                                                                                            refine WO_p (PS_assign_bool rfl) ?_
                                                                                                                            refine WO_nil ?_
                                                                                                                            refine thn_normal ?_
                                                                                                                            refine W_if rfl (fun hb185 => ?_) (fun hb185 => ?_)
                                                                                                                            · have hb185p := hb185.h; try simp only [al_ete, al_dfn, Bool.not_eq_true', Bool.not_eq_false', al_ne, Bool.not_not, al_nn] at hb185p
                                                                                                                              refine W_skip ?_
                                                                                                                              refine thn_normal ?_
                                                                                                                              refine W_condT rfl hb185.h ?_
                                                                                                                              refine W_region rfl ?_
                                                                                                                              refine WO_p (PS_move_ptr rfl) ?_
                                                                                                                              refine WO_call Hvad.call107 (by rfl) (Ret.mono (opJump_spec scanW C c v B m t f o c' S _ (MS.ext hM (by repeat (first | assumption | exact Ext.refl _ | refine Ext.alloc ?_ _ | refine Ext.drew ?_ | refine Ext.setB ?_ (by first | omega | (simp only [size_alloc, size_setB, size_drew]; omega)) _ | exact Ext.trans (by assumption) (by assumption) | refine Ext.trans ?_ (by assumption)))) hop hAd hk (hAd.pos hkn (by omega) (by omega) (by omega)) (by omega)) ?_)
                                                                                                                              rintro _ wZ ⟨vZ, mZ, hRZ, hPZ⟩
                                                                                                                              refine WO_nil ?_
                                                                                                                              refine inBlk_normal ?_
                                                                                                                              first | refine bodyQ_ret0 Hvad.results52 ?_ | refine bodyQ_end0 Hvad.results52 ?_
                                                                                                                              exact ⟨vZ, mZ, MRet.pre (by repeat (first | assumption | exact Ext.refl _ | refine Ext.alloc ?_ _ | refine Ext.drew ?_ | refine Ext.setB ?_ (by first | omega | (simp only [size_alloc, size_setB, size_drew]; omega)) _ | refine Ext.trans ?_ (by assumption))) hRZ, hPZ⟩
                                                                                                                            · have hb185p := hb185.h; try simp only [al_ete, al_dfn, Bool.not_eq_true', Bool.not_eq_false', al_ne, Bool.not_not, al_nn] at hb185p
                                                                                                                              refine W_region rfl ?_
                                                                                                                              refine WO_p (PS_eql rfl rfl) ?_
                                                                                                                              refine WO_p (PS_assign_bool rfl) ?_
                                                                                                                              refine WO_nil ?_
                                                                                                                              refine thn_normal ?_
                                                                                                                              refine W_if rfl (fun hb188 => ?_) (fun hb188 => ?_)
                                                                                                                              · have hb188p := hb188.h; try simp only [al_ete, al_dfn, Bool.not_eq_true', Bool.not_eq_false', al_ne, Bool.not_not, al_nn] at hb188p
                                                                                                                                refine W_region rfl ?_
                                                                                                                                refine WO_p (PS_move_ptr rfl) ?_
                                                                                                                                refine WO_call Hvad.call107 (by rfl) (Ret.mono (opJump_spec scanW C c v B m t f o c' S _ (MS.ext hM (by repeat (first | assumption | exact Ext.refl _ | refine Ext.alloc ?_ _ | refine Ext.drew ?_ | refine Ext.setB ?_ (by first | omega | (simp only [size_alloc, size_setB, size_drew]; omega)) _ | exact Ext.trans (by assumption) (by assumption) | refine Ext.trans ?_ (by assumption)))) hop hAd hk (hAd.pos hkn (by omega) (by omega) (by omega)) (by omega)) ?_)
                                                                                                                                rintro _ wZ ⟨vZ, mZ, hRZ, hPZ⟩
                                                                                                                                refine WO_nil ?_
                                                                                                                                refine inBlk_normal ?_
                                                                                                                                first | refine bodyQ_ret0 Hvad.results52 ?_ | refine bodyQ_end0 Hvad.results52 ?_
                                                                                                                                exact ⟨vZ, mZ, MRet.pre (by repeat (first | assumption | exact Ext.refl _ | refine Ext.alloc ?_ _ | refine Ext.drew ?_ | refine Ext.setB ?_ (by first | omega | (simp only [size_alloc, size_setB, size_drew]; omega)) _ | refine Ext.trans ?_ (by assumption))) hRZ, hPZ⟩
                                                                                                                              · have hb188p := hb188.h; try simp only [al_ete, al_dfn, Bool.not_eq_true', Bool.not_eq_false', al_ne, Bool.not_not, al_nn] at hb188p
                                                                                                                                refine W_seq ?_
                                                                                                                                refine W_seq ?_
                                                                                                                                refine W_region rfl ?_
                                                                                                                                refine WO_p (PS_eql rfl rfl) ?_
                                                                                                                                refine WO_p (PS_assign_bool rfl) ?_
                                                                                                                                refine WO_nil ?_
                                                                                                                                refine thn_normal ?_
                                                                                                                                refine W_if rfl (fun hb191 => ?_) (fun hb191 => ?_)
                                                                                                                                · have hb191p := hb191.h; try simp only [al_ete, al_dfn, Bool.not_eq_true', Bool.not_eq_false', al_ne, Bool.not_not, al_nn] at hb191p
                                                                                                                                  refine W_skip ?_
                                                                                                                                  refine thn_normal ?_
                                                                                                                                  refine W_condT rfl hb191.h ?_
                                                                                                                                  refine W_region rfl ?_
                                                                                                                                  refine WO_p (PS_move_ptr rfl) ?_
                                                                                                                                  refine WO_call Hvad.call108 (by rfl) (Ret.mono (opCreate_spec C c v B m t f o c' S _ (MS.ext hM (by repeat (first | assumption | exact Ext.refl _ | refine Ext.alloc ?_ _ | refine Ext.drew ?_ | refine Ext.setB ?_ (by first | omega | (simp only [size_alloc, size_setB, size_drew]; omega)) _ | exact Ext.trans (by assumption) (by assumption) | refine Ext.trans ?_ (by assumption)))) hop hAd hk (hAd.pos hkn (by omega) (by omega) (by omega)) (by omega)) ?_)
                                                                                                                                  rintro _ wZ ⟨vZ, mZ, hRZ, hPZ⟩
                                                                                                                                  refine WO_nil ?_
                                                                                                                                  refine inBlk_normal ?_
                                                                                                                                  first | refine bodyQ_ret0 Hvad.results52 ?_ | refine bodyQ_end0 Hvad.results52 ?_
                                                                                                                                  exact ⟨vZ, mZ, MRet.pre (by repeat (first | assumption | exact Ext.refl _ | refine Ext.alloc ?_ _ | refine Ext.drew ?_ | refine Ext.setB ?_ (by first | omega | (simp only [size_alloc, size_setB, size_drew]; omega)) _ | refine Ext.trans ?_ (by assumption))) hRZ, hPZ⟩
                                                                                                                                · have hb191p := hb191.h; try simp only [al_ete, al_dfn, Bool.not_eq_true', Bool.not_eq_false', al_ne, Bool.not_not, al_nn] at hb191p
                                                                                                                                  refine W_region rfl ?_
                                                                                                                                  refine WO_p (PS_eql rfl rfl) ?_
                                                                                                                                  refine WO_p (PS_assign_bool rfl) ?_
                                                                                                                                  refine WO_nil ?_
                                                                                                                                  refine thn_normal ?_
                                                                                                                                  refine W_if rfl (fun hb194 => ?_) (fun hb194 => ?_)
                                                                                                                                  · have hb194p := hb194.h; try simp only [al_ete, al_dfn, Bool.not_eq_true', Bool.not_eq_false', al_ne, Bool.not_not, al_nn] at hb194p
                                                                                                                                    refine W_region rfl ?_
                                                                                                                                    refine WO_p (PS_move_ptr rfl) ?_
                                                                                                                                    refine WO_call Hvad.call108 (by rfl) (Ret.mono (opCreate_spec C c v B m t f o c' S _ (MS.ext hM (by repeat (first | assumption | exact Ext.refl _ | refine Ext.alloc ?_ _ | refine Ext.drew ?_ | refine Ext.setB ?_ (by first | omega | (simp only [size_alloc, size_setB, size_drew]; omega)) _ | exact Ext.trans (by assumption) (by assumption) | refine Ext.trans ?_ (by assumption)))) hop hAd hk (hAd.pos hkn (by omega) (by omega) (by omega)) (by omega)) ?_)
                                                                                                                                    rintro _ wZ ⟨vZ, mZ, hRZ, hPZ⟩
                                                                                                                                    refine WO_nil ?_
                                                                                                                                    refine inBlk_normal ?_
                                                                                                                                    first | refine bodyQ_ret0 Hvad.results52 ?_ | refine bodyQ_end0 Hvad.results52 ?_
                                                                                                                                    exact ⟨vZ, mZ, MRet.pre (by repeat (first | assumption | exact Ext.refl _ | refine Ext.alloc ?_ _ | refine Ext.drew ?_ | refine Ext.setB ?_ (by first | omega | (simp only [size_alloc, size_setB, size_drew]; omega)) _ | refine Ext.trans ?_ (by assumption))) hRZ, hPZ⟩
                                                                                                                                  · have hb194p := hb194.h; try simp only [al_ete, al_dfn, Bool.not_eq_true', Bool.not_eq_false', al_ne, Bool.not_not, al_nn] at hb194p
                                                                                                                                    refine W_seq ?_
                                                                                                                                    refine W_seq ?_
                                                                                                                                    refine W_region rfl ?_
                                                                                                                                    refine WO_p (PS_eql rfl rfl) ?_
                                                                                                                                    refine WO_p (PS_assign_bool rfl) ?_
                                                                                                                                    refine WO_nil ?_
                                                                                                                                    refine thn_normal ?_
                                                                                                                                    refine W_if rfl (fun hb197 => ?_) (fun hb197 => ?_)
                                                                                                                                    · have hb197p := hb197.h; try simp only [al_ete, al_dfn, Bool.not_eq_true', Bool.not_eq_false', al_ne, Bool.not_not, al_nn] at hb197p
                                                                                                                                      refine W_skip ?_
                                                                                                                                      refine thn_normal ?_
                                                                                                                                      refine W_condT rfl hb197.h ?_
                                                                                                                                      refine W_region rfl ?_
                                                                                                                                      refine WO_p (PS_move_ptr rfl) ?_
                                                                                                                                      refine WO_call Hvad.call109 (by rfl) (Ret.mono (opTransient_spec scanW C c v B m t f o c' S _ (MS.ext hM (by repeat (first | assumption | exact Ext.refl _ | refine Ext.alloc ?_ _ | refine Ext.drew ?_ | refine Ext.setB ?_ (by first | omega | (simp only [size_alloc, size_setB, size_drew]; omega)) _ | exact Ext.trans (by assumption) (by assumption) | refine Ext.trans ?_ (by assumption)))) hop hAd hk (hAd.pos hkn (by omega) (by omega) (by omega)) (by omega)) ?_)
                                                                                                                                      rintro _ wZ ⟨vZ, mZ, hRZ, hPZ⟩
                                                                                                                                      refine WO_nil ?_
                                                                                                                                      refine inBlk_normal ?_
                                                                                                                                      first | refine bodyQ_ret0 Hvad.results52 ?_ | refine bodyQ_end0 Hvad.results52 ?_
                                                                                                                                      exact ⟨vZ, mZ, MRet.pre (by repeat (first | assumption | exact Ext.refl _ | refine Ext.alloc ?_ _ | refine Ext.drew ?_ | refine Ext.setB ?_ (by first | omega | (simp only [size_alloc, size_setB, size_drew]; omega)) _ | refine Ext.trans ?_ (by assumption))) hRZ, hPZ⟩
                                                                                                                                    · have hb197p := hb197.h; try simp only [al_ete, al_dfn, Bool.not_eq_true', Bool.not_eq_false', al_ne, Bool.not_not, al_nn] at hb197p
                                                                                                                                      refine W_region rfl ?_
                                                                                                                                      refine WO_p (PS_eql rfl rfl) ?_
                                                                                                                                      refine WO_p (PS_assign_bool rfl) ?_
                                                                                                                                      refine WO_nil ?_
                                                                                                                                      refine thn_normal ?_
                                                                                                                                      refine W_if rfl (fun hb200 => ?_) (fun hb200 => ?_)
                                                                                                                                      · have hb200p := hb200.h; try simp only [al_ete, al_dfn, Bool.not_eq_true', Bool.not_eq_false', al_ne, Bool.not_not, al_nn] at hb200p
                                                                                                                                        refine W_region rfl ?_
                                                                                                                                        refine WO_p (PS_move_ptr rfl) ?_
                                                                                                                                        refine WO_call Hvad.call109 (by rfl) (Ret.mono (opTransient_spec scanW C c v B m t f o c' S _ (MS.ext hM (by repeat (first | assumption | exact Ext.refl _ | refine Ext.alloc ?_ _ | refine Ext.drew ?_ | refine Ext.setB ?_ (by first | omega | (simp only [size_alloc, size_setB, size_drew]; omega)) _ | exact Ext.trans (by assumption) (by assumption) | refine Ext.trans ?_ (by assumption)))) hop hAd hk (hAd.pos hkn (by omega) (by omega) (by omega)) (by omega)) ?_)
                                                                                                                                        rintro _ wZ ⟨vZ, mZ, hRZ, hPZ⟩
                                                                                                                                        refine WO_nil ?_
                                                                                                                                        refine inBlk_normal ?_
                                                                                                                                        first | refine bodyQ_ret0 Hvad.results52 ?_ | refine bodyQ_end0 Hvad.results52 ?_
                                                                                                                                        exact ⟨vZ, mZ, MRet.pre (by repeat (first | assumption | exact Ext.refl _ | refine Ext.alloc ?_ _ | refine Ext.drew ?_ | refine Ext.setB ?_ (by first | omega | (simp only [size_alloc, size_setB, size_drew]; omega)) _ | refine Ext.trans ?_ (by assumption))) hRZ, hPZ⟩
                                                                                                                                      · have hb200p := hb200.h; try simp only [al_ete, al_dfn, Bool.not_eq_true', Bool.not_eq_false', al_ne, Bool.not_not, al_nn] at hb200p
                                                                                                                                        refine W_seq ?_
                                                                                                                                        refine W_region rfl ?_
                                                                                                                                        refine WO_p (PS_eql rfl rfl) ?_
                                                                                                                                        refine WO_p (PS_assign_bool rfl) ?_
                                                                                                                                        refine WO_nil ?_
                                                                                                                                        refine thn_normal ?_
                                                                                                                                        refine W_if rfl (fun hb203 => ?_) (fun hb203 => ?_)
                                                                                                                                        · have hb203p := hb203.h; try simp only [al_ete, al_dfn, Bool.not_eq_true', Bool.not_eq_false', al_ne, Bool.not_not, al_nn] at hb203p
                                                                                                                                          refine W_region rfl ?_
                                                                                                                                          refine WO_p (PS_move_ptr rfl) ?_
                                                                                                                                          refine WO_call Hvad.call110 (by rfl) (Ret.mono (opDestruct_spec scanW C c v B m t f o c' S _ (MS.ext hM (by repeat (first | assumption | exact Ext.refl _ | refine Ext.alloc ?_ _ | refine Ext.drew ?_ | refine Ext.setB ?_ (by first | omega | (simp only [size_alloc, size_setB, size_drew]; omega)) _ | exact Ext.trans (by assumption) (by assumption) | refine Ext.trans ?_ (by assumption)))) hop hAd hk (hAd.pos hkn (by omega) (by omega) (by omega)) (by omega)) ?_)
                                                                                                                                          rintro _ wZ ⟨vZ, mZ, hRZ, hPZ⟩
                                                                                                                                          refine WO_nil ?_
                                                                                                                                          refine inBlk_normal ?_
                                                                                                                                          first | refine bodyQ_ret0 Hvad.results52 ?_ | refine bodyQ_end0 Hvad.results52 ?_
                                                                                                                                          exact ⟨vZ, mZ, MRet.pre (by repeat (first | assumption | exact Ext.refl _ | refine Ext.alloc ?_ _ | refine Ext.drew ?_ | refine Ext.setB ?_ (by first | omega | (simp only [size_alloc, size_setB, size_drew]; omega)) _ | refine Ext.trans ?_ (by assumption))) hRZ, hPZ⟩
                                                                                                                                        · have hb203p := hb203.h; try simp only [al_ete, al_dfn, Bool.not_eq_true', Bool.not_eq_false', al_ne, Bool.not_not, al_nn] at hb203p
                                                                                                                                          refine W_seq ?_
                                                                                                                                          refine W_seq ?_
                                                                                                                                          refine W_region rfl ?_
                                                                                                                                          refine WO_p (PS_eql rfl rfl) ?_
                                                                                                                                          refine WO_p (PS_assign_bool rfl) ?_
                                                                                                                                          refine WO_nil ?_
                                                                                                                                          refine thn_normal ?_
                                                                                                                                          refine W_if rfl (fun hb206 => ?_) (fun hb206 => ?_)
                                                                                                                                          · have hb206p := hb206.h; try simp only [al_ete, al_dfn, Bool.not_eq_true', Bool.not_eq_false', al_ne, Bool.not_not, al_nn] at hb206p
                                                                                                                                            refine W_skip ?_
                                                                                                                                            refine thn_normal ?_
                                                                                                                                            refine W_condT rfl hb206.h ?_
                                                                                                                                            refine W_region rfl ?_
                                                                                                                                            refine WO_p (PS_move_ptr rfl) ?_
                                                                                                                                            refine WO_call Hvad.call111 (by rfl) (Ret.mono (opCall_spec C c v B m t f o c' S _ (MS.ext hM (by repeat (first | assumption | exact Ext.refl _ | refine Ext.alloc ?_ _ | refine Ext.drew ?_ | refine Ext.setB ?_ (by first | omega | (simp only [size_alloc, size_setB, size_drew]; omega)) _ | exact Ext.trans (by assumption) (by assumption) | refine Ext.trans ?_ (by assumption)))) hop hAd hk (hAd.pos hkn (by omega) (by omega) (by omega)) (by omega)) ?_)
                                                                                                                                            rintro _ wZ ⟨vZ, mZ, hRZ, hPZ⟩
                                                                                                                                            refine WO_nil ?_
                                                                                                                                            refine inBlk_normal ?_
                                                                                                                                            first | refine bodyQ_ret0 Hvad.results52 ?_ | refine bodyQ_end0 Hvad.results52 ?_
                                                                                                                                            exact ⟨vZ, mZ, MRet.pre (by repeat (first | assumption | exact Ext.refl _ | refine Ext.alloc ?_ _ | refine Ext.drew ?_ | refine Ext.setB ?_ (by first | omega | (simp only [size_alloc, size_setB, size_drew]; omega)) _ | refine Ext.trans ?_ (by assumption))) hRZ, hPZ⟩
                                                                                                                                          · have hb206p := hb206.h; try simp only [al_ete, al_dfn, Bool.not_eq_true', Bool.not_eq_false', al_ne, Bool.not_not, al_nn] at hb206p
                                                                                                                                            refine W_seq ?_
                                                                                                                                            refine W_region rfl ?_
                                                                                                                                            refine WO_p (PS_eql rfl rfl) ?_
                                                                                                                                            refine WO_p (PS_assign_bool rfl) ?_
                                                                                                                                            refine WO_nil ?_
                                                                                                                                            refine thn_normal ?_
                                                                                                                                            refine W_if rfl (fun hb209 => ?_) (fun hb209 => ?_)
                                                                                                                                            · have hb209p := hb209.h; try simp only [al_ete, al_dfn, Bool.not_eq_true', Bool.not_eq_false', al_ne, Bool.not_not, al_nn] at hb209p
                                                                                                                                              refine W_skip ?_
                                                                                                                                              refine thn_normal ?_
                                                                                                                                              refine W_condT rfl hb209.h ?_
                                                                                                                                              refine W_region rfl ?_
                                                                                                                                              refine WO_p (PS_move_ptr rfl) ?_
                                                                                                                                              refine WO_call Hvad.call111 (by rfl) (Ret.mono (opCall_spec C c v B m t f o c' S _ (MS.ext hM (by repeat (first | assumption | exact Ext.refl _ | refine Ext.alloc ?_ _ | refine Ext.drew ?_ | refine Ext.setB ?_ (by first | omega | (simp only [size_alloc, size_setB, size_drew]; omega)) _ | exact Ext.trans (by assumption) (by assumption) | refine Ext.trans ?_ (by assumption)))) hop hAd hk (hAd.pos hkn (by omega) (by omega) (by omega)) (by omega)) ?_)
                                                                                                                                              rintro _ wZ ⟨vZ, mZ, hRZ, hPZ⟩
                                                                                                                                              refine WO_nil ?_
                                                                                                                                              refine inBlk_normal ?_
                                                                                                                                              first | refine bodyQ_ret0 Hvad.results52 ?_ | refine bodyQ_end0 Hvad.results52 ?_
                                                                                                                                              exact ⟨vZ, mZ, MRet.pre (by repeat (first | assumption | exact Ext.refl _ | refine Ext.alloc ?_ _ | refine Ext.drew ?_ | refine Ext.setB ?_ (by first | omega | (simp only [size_alloc, size_setB, size_drew]; omega)) _ | refine Ext.trans ?_ (by assumption))) hRZ, hPZ⟩
                                                                                                                                            · have hb209p := hb209.h; try simp only [al_ete, al_dfn, Bool.not_eq_true', Bool.not_eq_false', al_ne, Bool.not_not, al_nn] at hb209p
                                                                                                                                              refine W_seq ?_
                                                                                                                                              refine W_region rfl ?_
                                                                                                                                              refine WO_p (PS_eql rfl rfl) ?_
                                                                                                                                              refine WO_p (PS_assign_bool rfl) ?_
                                                                                                                                              refine WO_nil ?_
                                                                                                                                              refine thn_normal ?_
                                                                                                                                              refine W_if rfl (fun hb212 => ?_) (fun hb212 => ?_)
                                                                                                                                              · have hb212p := hb212.h; try simp only [al_ete, al_dfn, Bool.not_eq_true', Bool.not_eq_false', al_ne, Bool.not_not, al_nn] at hb212p
                                                                                                                                                refine W_skip ?_
                                                                                                                                                refine thn_normal ?_
                                                                                                                                                refine W_condT rfl hb212.h ?_
                                                                                                                                                refine W_region rfl ?_
                                                                                                                                                refine WO_p (PS_move_ptr rfl) ?_
                                                                                                                                                refine WO_call Hvad.call111 (by rfl) (Ret.mono (opCall_spec C c v B m t f o c' S _ (MS.ext hM (by repeat (first | assumption | exact Ext.refl _ | refine Ext.alloc ?_ _ | refine Ext.drew ?_ | refine Ext.setB ?_ (by first | omega | (simp only [size_alloc, size_setB, size_drew]; omega)) _ | exact Ext.trans (by assumption) (by assumption) | refine Ext.trans ?_ (by assumption)))) hop hAd hk (hAd.pos hkn (by omega) (by omega) (by omega)) (by omega)) ?_)
                                                                                                                                                rintro _ wZ ⟨vZ, mZ, hRZ, hPZ⟩
                                                                                                                                                refine WO_nil ?_
                                                                                                                                                refine inBlk_normal ?_
                                                                                                                                                first | refine bodyQ_ret0 Hvad.results52 ?_ | refine bodyQ_end0 Hvad.results52 ?_
                                                                                                                                                exact ⟨vZ, mZ, MRet.pre (by repeat (first | assumption | exact Ext.refl _ | refine Ext.alloc ?_ _ | refine Ext.drew ?_ | refine Ext.setB ?_ (by first | omega | (simp only [size_alloc, size_setB, size_drew]; omega)) _ | refine Ext.trans ?_ (by assumption))) hRZ, hPZ⟩
                                                                                                                                              · have hb212p := hb212.h; try simp only [al_ete, al_dfn, Bool.not_eq_true', Bool.not_eq_false', al_ne, Bool.not_not, al_nn] at hb212p
                                                                                                                                                refine W_region rfl ?_
                                                                                                                                                refine WO_p (PS_eql rfl rfl) ?_
                                                                                                                                                refine WO_p (PS_assign_bool rfl) ?_
                                                                                                                                                refine WO_nil ?_
                                                                                                                                                refine thn_normal ?_
                                                                                                                                                refine W_if rfl (fun hb215 => ?_) (fun hb215 => ?_)
                                                                                                                                                · have hb215p := hb215.h; try simp only [al_ete, al_dfn, Bool.not_eq_true', Bool.not_eq_false', al_ne, Bool.not_not, al_nn] at hb215p
                                                                                                                                                  refine W_region rfl ?_
                                                                                                                                                  refine WO_p (PS_move_ptr rfl) ?_
                                                                                                                                                  refine WO_call Hvad.call111 (by rfl) (Ret.mono (opCall_spec C c v B m t f o c' S _ (MS.ext hM (by repeat (first | assumption | exact Ext.refl _ | refine Ext.alloc ?_ _ | refine Ext.drew ?_ | refine Ext.setB ?_ (by first | omega | (simp only [size_alloc, size_setB, size_drew]; omega)) _ | exact Ext.trans (by assumption) (by assumption) | refine Ext.trans ?_ (by assumption)))) hop hAd hk (hAd.pos hkn (by omega) (by omega) (by omega)) (by omega)) ?_)
                                                                                                                                                  rintro _ wZ ⟨vZ, mZ, hRZ, hPZ⟩
                                                                                                                                                  refine WO_nil ?_
                                                                                                                                                  refine inBlk_normal ?_
                                                                                                                                                  first | refine bodyQ_ret0 Hvad.results52 ?_ | refine bodyQ_end0 Hvad.results52 ?_
                                                                                                                                                  exact ⟨vZ, mZ, MRet.pre (by repeat (first | assumption | exact Ext.refl _ | refine Ext.alloc ?_ _ | refine Ext.drew ?_ | refine Ext.setB ?_ (by first | omega | (simp only [size_alloc, size_setB, size_drew]; omega)) _ | refine Ext.trans ?_ (by assumption))) hRZ, hPZ⟩
                                                                                                                                                · have hb215p := hb215.h; try simp only [al_ete, al_dfn, Bool.not_eq_true', Bool.not_eq_false', al_ne, Bool.not_not, al_nn] at hb215p
                                                                                                                                                  refine W_seq ?_
                                                                                                                                                  refine W_seq ?_
                                                                                                                                                  refine W_region rfl ?_
                                                                                                                                                  refine WO_p (PS_eql rfl rfl) ?_
                                                                                                                                                  refine WO_p (PS_assign_bool rfl) ?_
                                                                                                                                                  refine WO_nil ?_
                                                                                                                                                  refine thn_normal ?_
                                                                                                                                                  refine W_if rfl (fun hb218 => ?_) (fun hb218 => ?_)
                                                                                                                                                  · have hb218p := hb218.h; try simp only [al_ete, al_dfn, Bool.not_eq_true', Bool.not_eq_false', al_ne, Bool.not_not, al_nn] at hb218p
                                                                                                                                                    refine W_skip ?_
                                                                                                                                                    refine thn_normal ?_
                                                                                                                                                    refine W_condT rfl hb218.h ?_
                                                                                                                                                    refine W_region rfl ?_
                                                                                                                                                    refine WO_p (PS_move_ptr rfl) ?_
                                                                                                                                                    refine WO_call Hvad.call112 (by rfl) (Ret.mono (opEnd_spec scanW C c v B m t f o c' S _ (MS.ext hM (by repeat (first | assumption | exact Ext.refl _ | refine Ext.alloc ?_ _ | refine Ext.drew ?_ | refine Ext.setB ?_ (by first | omega | (simp only [size_alloc, size_setB, size_drew]; omega)) _ | exact Ext.trans (by assumption) (by assumption) | refine Ext.trans ?_ (by assumption)))) hop hAd hk (by omega)) ?_)
                                                                                                                                                    rintro _ wZ ⟨vZ, mZ, hRZ, hPZ⟩
                                                                                                                                                    refine WO_nil ?_
                                                                                                                                                    refine inBlk_normal ?_
                                                                                                                                                    first | refine bodyQ_ret0 Hvad.results52 ?_ | refine bodyQ_end0 Hvad.results52 ?_
                                                                                                                                                    exact ⟨vZ, mZ, MRet.pre (by repeat (first | assumption | exact Ext.refl _ | refine Ext.alloc ?_ _ | refine Ext.drew ?_ | refine Ext.setB ?_ (by first | omega | (simp only [size_alloc, size_setB, size_drew]; omega)) _ | refine Ext.trans ?_ (by assumption))) hRZ, hPZ⟩
                                                                                                                                                  · have hb218p := hb218.h; try simp only [al_ete, al_dfn, Bool.not_eq_true', Bool.not_eq_false', al_ne, Bool.not_not, al_nn] at hb218p
                                                                                                                                                    refine W_seq ?_
                                                                                                                                                    refine W_region rfl ?_
                                                                                                                                                    refine WO_p (PS_eql rfl rfl) ?_
                                                                                                                                                    refine WO_p (PS_assign_bool rfl) ?_
                                                                                                                                                    refine WO_nil ?_
                                                                                                                                                    refine thn_normal ?_
                                                                                                                                                    refine W_if rfl (fun hb221 => ?_) (fun hb221 => ?_)
                                                                                                                                                    · have hb221p := hb221.h; try simp only [al_ete, al_dfn, Bool.not_eq_true', Bool.not_eq_false', al_ne, Bool.not_not, al_nn] at hb221p
                                                                                                                                                      refine W_skip ?_
                                                                                                                                                      refine thn_normal ?_
                                                                                                                                                      refine W_condT rfl hb221.h ?_
                                                                                                                                                      refine W_region rfl ?_
                                                                                                                                                      refine WO_p (PS_move_ptr rfl) ?_
                                                                                                                                                      refine WO_call Hvad.call112 (by rfl) (Ret.mono (opEnd_spec scanW C c v B m t f o c' S _ (MS.ext hM (by repeat (first | assumption | exact Ext.refl _ | refine Ext.alloc ?_ _ | refine Ext.drew ?_ | refine Ext.setB ?_ (by first | omega | (simp only [size_alloc, size_setB, size_drew]; omega)) _ | exact Ext.trans (by assumption) (by assumption) | refine Ext.trans ?_ (by assumption)))) hop hAd hk (by omega)) ?_)
                                                                                                                                                      rintro _ wZ ⟨vZ, mZ, hRZ, hPZ⟩
                                                                                                                                                      refine WO_nil ?_
                                                                                                                                                      refine inBlk_normal ?_
                                                                                                                                                      first | refine bodyQ_ret0 Hvad.results52 ?_ | refine bodyQ_end0 Hvad.results52 ?_
                                                                                                                                                      exact ⟨vZ, mZ, MRet.pre (by repeat (first | assumption | exact Ext.refl _ | refine Ext.alloc ?_ _ | refine Ext.drew ?_ | refine Ext.setB ?_ (by first | omega | (simp only [size_alloc, size_setB, size_drew]; omega)) _ | refine Ext.trans ?_ (by assumption))) hRZ, hPZ⟩
                                                                                                                                                    · have hb221p := hb221.h; try simp only [al_ete, al_dfn, Bool.not_eq_true', Bool.not_eq_false', al_ne, Bool.not_not, al_nn] at hb221p
                                                                                                                                                      refine W_region rfl ?_
                                                                                                                                                      refine WO_p (PS_eql rfl rfl) ?_
                                                                                                                                                      refine WO_p (PS_assign_bool rfl) ?_
                                                                                                                                                      refine WO_nil ?_
                                                                                                                                                      refine thn_normal ?_
                                                                                                                                                      refine W_if rfl (fun hb224 => ?_) (fun hb224 => ?_)
                                                                                                                                                      · have hb224p := hb224.h; try simp only [al_ete, al_dfn, Bool.not_eq_true', Bool.not_eq_false', al_ne, Bool.not_not, al_nn] at hb224p
                                                                                                                                                        refine W_region rfl ?_
                                                                                                                                                        refine WO_p (PS_move_ptr rfl) ?_
                                                                                                                                                        refine WO_call Hvad.call112 (by rfl) (Ret.mono (opEnd_spec scanW C c v B m t f o c' S _ (MS.ext hM (by repeat (first | assumption | exact Ext.refl _ | refine Ext.alloc ?_ _ | refine Ext.drew ?_ | refine Ext.setB ?_ (by first | omega | (simp only [size_alloc, size_setB, size_drew]; omega)) _ | exact Ext.trans (by assumption) (by assumption) | refine Ext.trans ?_ (by assumption)))) hop hAd hk (by omega)) ?_)
                                                                                                                                                        rintro _ wZ ⟨vZ, mZ, hRZ, hPZ⟩
                                                                                                                                                        refine WO_nil ?_
                                                                                                                                                        refine inBlk_normal ?_
                                                                                                                                                        first | refine bodyQ_ret0 Hvad.results52 ?_ | refine bodyQ_end0 Hvad.results52 ?_
                                                                                                                                                        exact ⟨vZ, mZ, MRet.pre (by repeat (first | assumption | exact Ext.refl _ | refine Ext.alloc ?_ _ | refine Ext.drew ?_ | refine Ext.setB ?_ (by first | omega | (simp only [size_alloc, size_setB, size_drew]; omega)) _ | refine Ext.trans ?_ (by assumption))) hRZ, hPZ⟩
                                                                                                                                                      · have hb224p := hb224.h; try simp only [al_ete, al_dfn, Bool.not_eq_true', Bool.not_eq_false', al_ne, Bool.not_not, al_nn] at hb224p
                                                                                                                                                        refine W_seq ?_
                                                                                                                                                        refine W_region rfl ?_
                                                                                                                                                        refine WO_p (PS_eql rfl rfl) ?_
                                                                                                                                                        refine WO_p (PS_assign_bool rfl) ?_
                                                                                                                                                        refine WO_nil ?_
                                                                                                                                                        refine thn_normal ?_
                                                                                                                                                        refine W_if rfl (fun hb227 => ?_) (fun hb227 => ?_)
                                                                                                                                                        · have hb227p := hb227.h; try simp only [al_ete, al_dfn, Bool.not_eq_true', Bool.not_eq_false', al_ne, Bool.not_not, al_nn] at hb227p
                                                                                                                                                          refine W_region rfl ?_
                                                                                                                                                          refine WO_p (PS_move_ptr rfl) ?_
                                                                                                                                                          refine WO_call Hvad.call113 (by rfl) (Ret.mono (opPop_spec scanW C c v B m t f o c' S _ (MS.ext hM (by repeat (first | assumption | exact Ext.refl _ | refine Ext.alloc ?_ _ | refine Ext.drew ?_ | refine Ext.setB ?_ (by first | omega | (simp only [size_alloc, size_setB, size_drew]; omega)) _ | exact Ext.trans (by assumption) (by assumption) | refine Ext.trans ?_ (by assumption)))) hop hAd hk (hAd.pos hkn (by omega) (by omega) (by omega)) (by omega)) ?_)
                                                                                                                                                          rintro _ wZ ⟨vZ, mZ, hRZ, hPZ⟩
                                                                                                                                                          refine WO_nil ?_
                                                                                                                                                          refine inBlk_normal ?_
                                                                                                                                                          first | refine bodyQ_ret0 Hvad.results52 ?_ | refine bodyQ_end0 Hvad.results52 ?_
                                                                                                                                                          exact ⟨vZ, mZ, MRet.pre (by repeat (first | assumption | exact Ext.refl _ | refine Ext.alloc ?_ _ | refine Ext.drew ?_ | refine Ext.setB ?_ (by first | omega | (simp only [size_alloc, size_setB, size_drew]; omega)) _ | refine Ext.trans ?_ (by assumption))) hRZ, hPZ⟩
                                                                                                                                                        · have hb227p := hb227.h; try simp only [al_ete, al_dfn, Bool.not_eq_true', Bool.not_eq_false', al_ne, Bool.not_not, al_nn] at hb227p
                                                                                                                                                          refine W_region rfl ?_
                                                                                                                                                          refine WO_p (PS_move_ptr rfl) ?_
                                                                                                                                                          refine WO_p (PS_move_int rfl) ?_
                                                                                                                                                          refine WO_call Hvad.call114 (by rfl) (Ret.mono (execRows_spec C c v B m t f o c' S _ (MS.ext hM (by repeat (first | assumption | exact Ext.refl _ | refine Ext.alloc ?_ _ | refine Ext.drew ?_ | refine Ext.setB ?_ (by first | omega | (simp only [size_alloc, size_setB, size_drew]; omega)) _ | exact Ext.trans (by assumption) (by assumption) | refine Ext.trans ?_ (by assumption)))) hop hAd hk hkn (by omega)) ?_)
                                                                                                                                                          rintro _ wZ ⟨vZ, mZ, hRZ, hPZ⟩
                                                                                                                                                          refine WO_nil ?_
                                                                                                                                                          refine inBlk_normal ?_
                                                                                                                                                          first | refine bodyQ_ret0 Hvad.results52 ?_ | refine bodyQ_end0 Hvad.results52 ?_
                                                                                                                                                          exact ⟨vZ, mZ, MRet.pre (by repeat (first | assumption | exact Ext.refl _ | refine Ext.alloc ?_ _ | refine Ext.drew ?_ | refine Ext.setB ?_ (by first | omega | (simp only [size_alloc, size_setB, size_drew]; omega)) _ | refine Ext.trans ?_ (by assumption))) hRZ, hPZ⟩

end Go.Proofs.YgvadwGreat
