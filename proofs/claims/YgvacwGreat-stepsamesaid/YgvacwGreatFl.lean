import Derived.Test.YgvacwGreatFk
import Derived.Test.YgvacwGreatTd
import Derived.Test.YgvacwGreatHw
import Derived.Test.YgvacwGreatIa
import Derived.Test.YgvacwGreatEm
import Derived.Test.YgvacwGreatEu
import Derived.Test.YgvacwGreatEv
import Derived.Test.YgvacwGreatEs
namespace Go.Proofs.YgvacwGreat
set_option linter.unusedSimpArgs false
set_option linter.unusedVariables false
def yexec (ks : List Int → List Int) (y : PSt) (rest : List PF) (g : PF) (o : Int) : PSt × List PF :=
  if o = 0 ∨ o = 243 ∨ o = 253 then yendX y rest g o else if o = 255 then ydestroys y rest g else if yfam o = 16 then yenters ks y rest g o else yplain ks y rest g o
theorem yexec_plain {ks : List Int → List Int} {y : PSt} {rest : List PF} {g : PF} {o : Int} (hb : 0 ≤ o ∧ o ≤ 255) (h : o ≠ 0 ∧ o ≠ 243 ∧ o ≠ 253 ∧ o ≠ 255 ∧ o ≠ 240 ∧ o ≠ 241 ∧ o ≠ 242 ∧ o ≠ 244 ∧ o ≠ 245 ∧ o ≠ 250) : yexec ks y rest g o = yplain ks y rest g o := by
  unfold yexec
  rw [if_neg (by omega), if_neg (by omega), if_neg (fun h16 => by have := fam16 hb h16 (by omega); omega)]
theorem yexec_end {ks : List Int → List Int} {y : PSt} {rest : List PF} {g : PF} {o : Int} (h : o = 0 ∨ o = 243 ∨ o = 253) : yexec ks y rest g o = yendX y rest g o := by
  unfold yexec; rw [if_pos h]
theorem yexec_des {ks : List Int → List Int} {y : PSt} {rest : List PF} {g : PF} {o : Int} (h : o = 255) : yexec ks y rest g o = ydestroys y rest g := by
  unfold yexec; rw [if_neg (by omega), if_pos h]
theorem yexec_call {ks : List Int → List Int} {y : PSt} {rest : List PF} {g : PF} {o : Int} (h : o = 241 ∨ o = 242 ∨ o = 244 ∨ o = 250) : yexec ks y rest g o = yenterCall { y with ret := [] } rest g o := by
  unfold yexec yenters
  rw [if_neg (by omega), if_neg (by omega), if_pos (by rcases h with h | h | h | h <;> (rw [h]; decide)), if_neg (by omega)]
theorem yexec_cr {ks : List Int → List Int} {y : PSt} {rest : List PF} {g : PF} {o : Int} (h : o = 240 ∨ o = 245) : yexec ks y rest g o = yenterCreate ks { y with ret := [] } rest g o := by
  unfold yexec yenters
  rw [if_neg (by omega), if_neg (by omega), if_pos (by rcases h with h | h <;> (rw [h]; decide)), if_pos h]
theorem ygo_arg (y : PSt) (g : PF) (i : Nat) : yarg (ystepG y g) i = yarg g i := by
  unfold ystepG ygrow
  split <;> rfl
theorem ystep_exec {ks : List Int → List Int} {y : PSt} {rest : List PF} {g : PF} (hn : g.nat = 0) (hr : yrefuse y g (yopcode g) = 0) : ystep ks y rest g = yexec ks y rest (ystepG y g) (yopcode g) := by
  unfold ystep yexec yendX
  rw [if_neg (by omega), if_neg (by omega)]
  by_cases h0 : yopcode g = 0
  · rw [if_pos h0, if_pos (Or.inl h0), if_pos h0]
  · rw [if_neg h0]
    by_cases h1 : yopcode g = 243
    · rw [if_pos h1, if_pos (Or.inr (Or.inl h1)), if_neg h0, if_pos h1, ygo_arg, ygo_arg]
    · rw [if_neg h1]
      by_cases h2 : yopcode g = 253
      · rw [if_pos h2, if_pos (Or.inr (Or.inr h2)), if_neg h0, if_neg h1, ygo_arg, ygo_arg]
      · rw [if_neg h2, if_neg (show ¬ (yopcode g = 0 ∨ yopcode g = 243 ∨ yopcode g = 253) from by omega)]
theorem ystep_nat {ks : List Int → List Int} {y : PSt} {rest : List PF} {g : PF} (hn : g.nat ≠ 0) : ystep ks y rest g = ynative_ y rest g := by unfold ystep; rw [if_pos hn]
theorem ystep_ref {ks : List Int → List Int} {y : PSt} {rest : List PF} {g : PF} (hn : g.nat = 0) (hr : yrefuse y g (yopcode g) ≠ 0) : ystep ks y rest g = yleave y rest g (yrefuse y g (yopcode g)) [] := by unfold ystep; rw [if_neg (by omega), if_pos hr]

set_option maxRecDepth 10000 in
set_option maxHeartbeats 4000000 in
theorem runNtv_ex [Om] (scan : List Int → List Int) (C : Nat) (c : Array Value) (v : V) (B : VB) (m : Mc) (t : Nat) (f : Fm) (S : Int) (w : World) (hM : MS w C c v B m) (hf : m.frames[t]? = some f) (hI : RI scan v m t 0 S) (y : PSt) (rest : List PF) (g : PF) (hRl : Rel w v m (y, rest ++ [g])) : Ret Hvac.prog 103 #[.pointer (some ⟨C, 0, none⟩)] w fun u w' => (u = .bool false ∧ g.nat = 0 ∧ Ext w w') ∨ (u = .bool true ∧ g.nat ≠ 0 ∧ ∃ v' m', MRet w C B m w' v' m' ∧ EndP scan m t f S v' m' ∧ Rel w' v' m' (ynative_ y rest g)) := by
  have hR := hI.run hf
  have hblk := hM.vs.blk
  have hCl := hblk.lt
  have hcs := hM.sz
  obtain ⟨ht7, hfty, hF⟩ := hM.openF hf
  have hFk := hI.fr t f (Nat.le_refl _) hf
  have hf_ntv := hF.ntv
  have hf_input := hF.inputY
  have hf_gas := hF.gas
  have hgt := hfty.gas
  have hil := hFk.il
  obtain ⟨Li, hbxi⟩ := (hM.code f (List.mem_of_getElem? hf)).2.bx
  have hsci := hbxi.sc
  have hbyi : By8 Li := hbxi.by_
  have hMI := hI.mi
  obtain ⟨Lm, hLm, hFP, hRP⟩ := hRl.top hMI hf
  have hLiY : Li = g.inputY := by rw [← hFP.inputY]; exact hbxi.rd.symm
  have hnaY := hFP.nat
  have hgaY := hFP.gas
  rw [hFP.nat] at hf_ntv
  refine Ret_of_W Hvac.func103 rfl rfl ?_
  refine W_seq ?_
  refine W_region rfl ?_
  refine WO_p (PS_assign_bool rfl) ?_
  refine WO_nil ?_
  refine thn_normal ?_
  refine W_seq ?_
  refine W_region rfl ?_
  refine WO_p (PS_move_ptr rfl) ?_
  refine WO_call Hvac.call95 (by rfl) (Ret.mono (running_spec C c v B m t f _ (MS.ext hM (by repeat (first | assumption | exact Ext.refl _ | refine Ext.alloc ?_ _ | refine Ext.drew ?_ | refine Ext.setB ?_ (by first | omega | (simp only [size_alloc, size_setB, size_drew]; omega)) _ | exact Ext.trans (by assumption) (by assumption) | refine Ext.trans ?_ (by assumption)))) hR) ?_)
  rintro _ w95_0 ⟨hE95_0, rfl⟩
  have hz95_0 := hE95_0.1
  try simp only [size_alloc, size_setB, size_drew] at hz95_0
  refine WO_p (PS_assign_ptr rfl) ?_
  refine WO_nil ?_
  refine thn_normal ?_
  refine W_seq ?_
  refine W_seq ?_
  refine W_region rfl ?_
  refine WO_p (PS_move_ptr rfl) ?_
  refine WO_p (PS_eqlnil Hvac.underlying187 rfl) ?_
  refine WO_p (PS_move_bool rfl) ?_
  refine WO_if (t := 10) rfl (fun hb3 => ?_) (fun hb3 => ?_)
  · have hb3p := hb3.h; try simp only [al_ete, al_dfn, Bool.not_eq_true', Bool.not_eq_false', al_ne, Bool.not_not, al_nn] at hb3p
    simp at hb3p --END
  · have hb3p := hb3.h; try simp only [al_ete, al_dfn, Bool.not_eq_true', Bool.not_eq_false', al_ne, Bool.not_not, al_nn] at hb3p
    refine WO_guardT rfl rfl hb3.h ?_
    refine WO_p (PS_move_ptr rfl) ?_
    refine WO_guardT rfl rfl hb3.h ?_
    refine WO_p (PS_nilCheck rfl) ?_
    refine WO_guardT rfl rfl hb3.h ?_
    refine WO_p (PS_fieldAddr 2 Hvac.runUnderlying66 rfl Hvac.sizeOf5 rfl rfl) ?_
    refine WO_guardT rfl rfl hb3.h ?_
    refine WO_load (.int _ _) Hvac.isAgg5 rfl (Hb.h (by repeat (first | assumption | exact Hb.newY _ _ | refine Hb.alloc ?_ | refine Hb.drew ?_ | refine Hb.ext (by assumption) ?_ | exact Hb.setSameL (by first | omega | (simp only [size_alloc, size_setB, size_drew]; omega)) | exact Hb.setSame (by assumption) | refine Hb.set (by first | omega | (simp only [size_alloc, size_setB, size_drew]; omega)) ?_ ))) (Ce.h (by first | assumption | exact ⟨rfl⟩)) ?_
    refine WO_guardT rfl rfl hb3.h ?_
    refine WO_p (PS_eql rfl rfl) ?_
    refine WO_p (PS_pickF rfl hb3.h rfl) ?_
    refine WO_nil ?_
    refine thn_normal ?_
    refine W_if rfl (fun hb5 => ?_) (fun hb5 => ?_)
    · have hb5p := hb5.h; try simp only [al_ete, al_dfn, Bool.not_eq_true', Bool.not_eq_false', al_ne, Bool.not_not, al_nn] at hb5p
      have hnz : g.nat = 0 := by simpa using hb5p
      refine W_seq ?_
      refine W_region rfl ?_
      refine WO_p (PS_assign_bool rfl) ?_
      refine WO_nil ?_
      refine thn_normal ?_
      refine W_ret ?_
      refine thn_ret ?_
      refine bodyQ_ret1 Hvac.results103 rfl (.bool _) rfl ?_
      exact Or.inl ⟨rfl, hnz, (by repeat (first | assumption | exact Ext.refl _ | refine Ext.alloc ?_ _ | refine Ext.drew ?_ | refine Ext.setB ?_ (by first | omega | (simp only [size_alloc, size_setB, size_drew]; omega)) _ | exact Ext.trans (by assumption) (by assumption) | refine Ext.trans ?_ (by assumption)))⟩
    · have hb5p := hb5.h; try simp only [al_ete, al_dfn, Bool.not_eq_true', Bool.not_eq_false', al_ne, Bool.not_not, al_nn] at hb5p
      have hnn0 : ¬ g.nat = 0 := by simpa using hb5p
      have hnt : g.nat = 4 ∨ g.nat = 5 := by have h9 := (hFk.nt (by omega)).1; omega
      refine W_skip ?_
      refine thn_normal ?_
      refine W_seq ?_
      refine W_drawE [false, false, false, false, false, false, false, false, false, false, false, false, false, false] hmix (by kernel_rfl) rfl ?_
      refine WH_p (PS_move_ptr rfl) rfl ?_
      refine WH_p (PS_nilCheck rfl) rfl ?_
      refine WH_p (PS_fieldAddr 2 Hvac.runUnderlying66 rfl Hvac.sizeOf5 rfl rfl) rfl ?_
      refine WH_load (.int _ _) Hvac.isAgg5 rfl (Hb.h (by repeat (first | assumption | exact Hb.newY _ _ | refine Hb.alloc ?_ | refine Hb.drew ?_ | refine Hb.ext (by assumption) ?_ | exact Hb.setSameL (by first | omega | (simp only [size_alloc, size_setB, size_drew]; omega)) | exact Hb.setSame (by assumption) | refine Hb.set (by first | omega | (simp only [size_alloc, size_setB, size_drew]; omega)) ?_ ))) (Ce.h (by first | assumption | exact ⟨rfl⟩)) ?_
      refine WH_p (PS_move_ptr rfl) rfl ?_
      refine WH_p (PS_nilCheck rfl) rfl ?_
      refine WH_p (PS_fieldAddr 54 Hvac.runUnderlying66 rfl Hvac.sizeOf32 rfl rfl) rfl ?_
      refine WH_load (.slice _ _ _) Hvac.isAgg32 rfl (Hb.h (by repeat (first | assumption | exact Hb.newY _ _ | refine Hb.alloc ?_ | refine Hb.drew ?_ | refine Hb.ext (by assumption) ?_ | exact Hb.setSameL (by first | omega | (simp only [size_alloc, size_setB, size_drew]; omega)) | exact Hb.setSame (by assumption) | refine Hb.set (by first | omega | (simp only [size_alloc, size_setB, size_drew]; omega)) ?_ ))) (Ce.h (by first | assumption | exact ⟨rfl⟩)) ?_
      refine WH_call Hvac.call170 (by rfl) (Ret.mono (ntvCost_ex g.nat f.inputY Li _ (SC.ext hsci (by repeat (first | assumption | exact Ext.refl _ | refine Ext.alloc ?_ _ | refine Ext.drew ?_ | refine Ext.setB ?_ (by first | omega | (simp only [size_alloc, size_setB, size_drew]; omega)) _ | exact Ext.trans (by assumption) (by assumption) | refine Ext.trans ?_ (by assumption)))) hbyi hil.2 (by omega) hnt) ?_)
      rintro _ w4 ⟨hE4, cst, ok, rfl, hcst, hcY, hkY⟩
      refine ⟨(fun h => by cases h), ?_⟩
      rw [hLiY] at hcY hkY
      obtain ⟨qn, hqn⟩ : ∃ qn, ynatc g.nat g.inputY = qn := ⟨_, rfl⟩
      rw [hqn] at hcY hkY
      have hz4 := hE4.1
      try simp only [size_drew] at hz4
      have hEw4 : Ext w w4 := (by repeat (first | assumption | exact Ext.refl _ | refine Ext.alloc ?_ _ | refine Ext.drew ?_ | refine Ext.setB ?_ (by first | omega | (simp only [size_alloc, size_setB, size_drew]; omega)) _ | exact Ext.trans (by assumption) (by assumption) | refine Ext.trans ?_ (by assumption)))
      refine WH_p (PS_move_tuple rfl) rfl ?_
      refine WH_p (PS_extract_int rfl rfl) rfl ?_
      refine WH_p (PS_extract_bool rfl rfl) rfl ?_
      refine WH_p (PS_assign_int rfl) rfl ?_
      refine WH_p (PS_assign_bool rfl) rfl ?_
      refine WH_nil ?_
      refine thn_normal ?_
      refine W_seq ?_
      refine W_seq ?_
      refine W_region rfl ?_
      refine WO_p (PS_move_bool rfl) ?_
      refine WO_p (PS_not rfl) ?_
      refine WO_p (PS_move_bool rfl) ?_
      refine WO_if (t := 31) rfl (fun hb9 => ?_) (fun hb9 => ?_)
      · have hb9p := hb9.h; try simp only [al_ete, al_dfn, Bool.not_eq_true', Bool.not_eq_false', al_ne, Bool.not_not, al_nn] at hb9p
        have hokF : ok = false := by simpa using hb9p
        refine WO_guardF rfl rfl hb9.h ?_
        refine WO_guardF rfl rfl hb9.h ?_
        refine WO_guardF rfl rfl hb9.h ?_
        refine WO_guardF rfl rfl hb9.h ?_
        refine WO_guardF rfl rfl hb9.h ?_
        refine WO_guardF rfl rfl hb9.h ?_
        refine WO_p (PS_pickT rfl hb9.h rfl) ?_
        refine WO_nil ?_
        refine thn_normal ?_
        refine W_condT rfl rfl ?_
        refine W_seq ?_
        refine W_region rfl ?_
        refine WO_p (PS_move_ptr rfl) ?_
        refine WO_call Hvac.call171 (by rfl) (Ret.mono (fail_ex scan C c v B m t f 0 S 2 _ (MS.ext hM (by repeat (first | assumption | exact Ext.refl _ | refine Ext.alloc ?_ _ | refine Ext.drew ?_ | refine Ext.setB ?_ (by first | omega | (simp only [size_alloc, size_setB, size_drew]; omega)) _ | exact Ext.trans (by assumption) (by assumption) | refine Ext.trans ?_ (by assumption)))) hf hI (by omega) y rest g (hRl.ext hM (by repeat (first | assumption | exact Ext.refl _ | refine Ext.alloc ?_ _ | refine Ext.drew ?_ | refine Ext.setB ?_ (by first | omega | (simp only [size_alloc, size_setB, size_drew]; omega)) _ | exact Ext.trans (by assumption) (by assumption) | refine Ext.trans ?_ (by assumption)))) 2 rfl) ?_)
        rintro _ w2 ⟨rfl, v2, m2, hR2, hP2, hX2⟩
        have hcn : qn.2 = false ∨ g.gas < qn.1 := by first | exact Or.inl (by rw [← hkY]; exact hokF) | exact Or.inr (by omega)
        have hyn : ynative_ y rest g = yleave y rest g 2 [] := by unfold ynative_; rw [hqn, if_pos hcn]
        refine WO_p (PS_not rfl) ?_
        refine WO_p (PS_assign_bool rfl) ?_
        refine WO_nil ?_
        refine thn_normal ?_
        refine W_ret ?_
        refine thn_ret ?_
        refine bodyQ_ret1 Hvac.results103 rfl (.bool _) rfl ?_
        exact Or.inr ⟨rfl, hnn0, v2, m2, MRet.pre (by repeat (first | assumption | exact Ext.refl _ | refine Ext.alloc ?_ _ | refine Ext.drew ?_ | refine Ext.setB ?_ (by first | omega | (simp only [size_alloc, size_setB, size_drew]; omega)) _ | exact Ext.trans (by assumption) (by assumption) | refine Ext.trans ?_ (by assumption))) hR2, hP2, by rw [hyn]; exact hX2⟩
      · have hb9p := hb9.h; try simp only [al_ete, al_dfn, Bool.not_eq_true', Bool.not_eq_false', al_ne, Bool.not_not, al_nn] at hb9p
        have hokT : ok = true := by simpa using hb9p
        refine WO_guardT rfl rfl hb9.h ?_
        refine WO_p (PS_move_int rfl) ?_
        refine WO_guardT rfl rfl hb9.h ?_
        refine WO_p (PS_move_ptr rfl) ?_
        refine WO_guardT rfl rfl hb9.h ?_
        refine WO_p (PS_nilCheck rfl) ?_
        refine WO_guardT rfl rfl hb9.h ?_
        refine WO_p (PS_fieldAddr 7 Hvac.runUnderlying66 rfl Hvac.sizeOf26 rfl rfl) ?_
        refine WO_guardT rfl rfl hb9.h ?_
        refine WO_load (.int _ _) Hvac.isAgg26 rfl (Hb.h (by repeat (first | assumption | exact Hb.newY _ _ | refine Hb.alloc ?_ | refine Hb.drew ?_ | refine Hb.ext (by assumption) ?_ | exact Hb.setSameL (by first | omega | (simp only [size_alloc, size_setB, size_drew]; omega)) | exact Hb.setSame (by assumption) | refine Hb.set (by first | omega | (simp only [size_alloc, size_setB, size_drew]; omega)) ?_ ))) (Ce.h (by first | assumption | exact ⟨rfl⟩)) ?_
        refine WO_guardT rfl rfl hb9.h ?_
        refine WO_p (PS_gtr rfl rfl) ?_
        refine WO_p (PS_pickF rfl hb9.h rfl) ?_
        refine WO_nil ?_
        refine thn_normal ?_
        refine W_if rfl (fun hb14 => ?_) (fun hb14 => ?_)
        · have hb14p := hb14.h; try simp only [al_ete, al_dfn, Bool.not_eq_true', Bool.not_eq_false', al_ne, Bool.not_not, al_nn] at hb14p
          refine W_seq ?_
          refine W_region rfl ?_
          refine WO_p (PS_move_ptr rfl) ?_
          refine WO_call Hvac.call171 (by rfl) (Ret.mono (fail_ex scan C c v B m t f 0 S 2 _ (MS.ext hM (by repeat (first | assumption | exact Ext.refl _ | refine Ext.alloc ?_ _ | refine Ext.drew ?_ | refine Ext.setB ?_ (by first | omega | (simp only [size_alloc, size_setB, size_drew]; omega)) _ | exact Ext.trans (by assumption) (by assumption) | refine Ext.trans ?_ (by assumption)))) hf hI (by omega) y rest g (hRl.ext hM (by repeat (first | assumption | exact Ext.refl _ | refine Ext.alloc ?_ _ | refine Ext.drew ?_ | refine Ext.setB ?_ (by first | omega | (simp only [size_alloc, size_setB, size_drew]; omega)) _ | exact Ext.trans (by assumption) (by assumption) | refine Ext.trans ?_ (by assumption)))) 2 rfl) ?_)
          rintro _ w2 ⟨rfl, v2, m2, hR2, hP2, hX2⟩
          have hcn : qn.2 = false ∨ g.gas < qn.1 := by first | exact Or.inl (by rw [← hkY]; exact hokF) | exact Or.inr (by omega)
          have hyn : ynative_ y rest g = yleave y rest g 2 [] := by unfold ynative_; rw [hqn, if_pos hcn]
          refine WO_p (PS_not rfl) ?_
          refine WO_p (PS_assign_bool rfl) ?_
          refine WO_nil ?_
          refine thn_normal ?_
          refine W_ret ?_
          refine thn_ret ?_
          refine bodyQ_ret1 Hvac.results103 rfl (.bool _) rfl ?_
          exact Or.inr ⟨rfl, hnn0, v2, m2, MRet.pre (by repeat (first | assumption | exact Ext.refl _ | refine Ext.alloc ?_ _ | refine Ext.drew ?_ | refine Ext.setB ?_ (by first | omega | (simp only [size_alloc, size_setB, size_drew]; omega)) _ | exact Ext.trans (by assumption) (by assumption) | refine Ext.trans ?_ (by assumption))) hR2, hP2, by rw [hyn]; exact hX2⟩
        · have hb14p := hb14.h; try simp only [al_ete, al_dfn, Bool.not_eq_true', Bool.not_eq_false', al_ne, Bool.not_not, al_nn] at hb14p
          refine W_skip ?_
          refine thn_normal ?_
          refine W_seq ?_
          refine W_gen fun w7 hw7 => ?_
          have hE7 : Ext w w7 := by rw [hw7]; exact (by repeat (first | assumption | exact Ext.refl _ | refine Ext.alloc ?_ _ | refine Ext.drew ?_ | refine Ext.setB ?_ (by first | omega | (simp only [size_alloc, size_setB, size_drew]; omega)) _ | exact Ext.trans (by assumption) (by assumption) | refine Ext.trans ?_ (by assumption)))
          clear hw7
          have hz7 := hE7.1
          have hblk7 := (hM.ext hE7).vs.blk
          obtain ⟨hpay, hgq⟩ := hI.pay hM.ty hf (c := cst) (buf' := m.buf) (base' := m.base) ⟨hcst.1, by omega⟩ hI.ti.bl (Or.inl ⟨rfl, rfl⟩)
          obtain ⟨hM8, hS8⟩ := (hM.ext hE7).putF_gas (t := t) (f := f) hf (f.gas - cst) (by omega)
          refine W_region rfl ?_
          refine WO_p (PS_move_ptr rfl) ?_
          refine WO_p (PS_nilCheck rfl) ?_
          refine WO_p (PS_fieldAddr 7 Hvac.runUnderlying66 rfl Hvac.sizeOf26 rfl rfl) ?_
          refine WO_load (.int _ _) Hvac.isAgg26 rfl (Hb.h (by repeat (first | assumption | exact Hb.newY _ _ | refine Hb.alloc ?_ | refine Hb.drew ?_ | refine Hb.ext (by assumption) ?_ | exact Hb.setSameL (by first | omega | (simp only [size_alloc, size_setB, size_drew]; omega)) | exact Hb.setSame (by assumption) | refine Hb.set (by first | omega | (simp only [size_alloc, size_setB, size_drew]; omega)) ?_ ))) (Ce.h (by first | assumption | exact ⟨rfl⟩)) ?_
          refine WO_p (PS_move_int rfl) ?_
          refine WO_p (PS_sub_u64n rfl rfl (by omega) (by omega)) ?_
          refine WO_p (PS_nilCheck rfl) ?_
          refine WO_p (PS_fieldAddr 7 Hvac.runUnderlying66 rfl Hvac.sizeOf26 rfl rfl) ?_
          refine WO_store1 Hvac.sizeOf26 rfl (v := (.int _ _)) rfl (Hb.h (by repeat (first | assumption | exact Hb.newY _ _ | refine Hb.alloc ?_ | refine Hb.drew ?_ | refine Hb.ext (by assumption) ?_ | exact Hb.setSameL (by first | omega | (simp only [size_alloc, size_setB, size_drew]; omega)) | exact Hb.setSame (by assumption) | refine Hb.set (by first | omega | (simp only [size_alloc, size_setB, size_drew]; omega)) ?_ ))) rfl (by first | omega | assumption | rfl | decide | exact Nat.le_refl _ | (simp only [size_ic, Value.cells]; omega) | (simp; omega) | simp) rfl ?_
          refine WO_nil ?_
          refine thn_normal ?_
          refine W_seq ?_
          refine W_gen fun w9 hw9 => ?_
          obtain ⟨c9, hM9, hS9⟩ : ∃ c9, MS w9 C c9 v B { m with buf := m.buf, base := m.base, frames := m.frames.set t { f with gas := f.gas - cst } } ∧ MStep w w9 C B m B { m with buf := m.buf, base := m.base, frames := m.frames.set t { f with gas := f.gas - cst } } := ⟨_, by rw [hw9]; exact hM8, by rw [hw9]; exact (MStep.ext hE7).trans hS8⟩
          have hK9 : KeepO (fun b => b = C) w w9 := by rw [hw9]; exact KC.setC (hE7.keepO _) _
          have hRl9 : Rel w9 v { m with buf := m.buf, base := m.base, frames := m.frames.set t { f with gas := f.gas - cst } } (y, rest ++ [{ g with gas := g.gas - qn.1 }]) := hRl.pay hM hM9 hK9 hMI hf hcY (by omega)
          clear hw9 hM8 hS8
          have hz9 := hS9.keep.sz
          have hblk9 := hM9.vs.blk
          have hcs9 := hM9.sz
          have hf9 : ({ m with buf := m.buf, base := m.base, frames := m.frames.set t { f with gas := f.gas - cst } } : Mc).frames[t]? = some { f with gas := f.gas - cst } := by show (m.frames.set t _)[t]? = _; rw [List.getElem?_set_self (lt_of_getElem? hf)]
          obtain ⟨_, _, hF9⟩ := hM9.openF hf9
          have hf_ntv9 : Ce c9 (1803 + t * 65 + 2) (.int .u8 (g.nat : Int)) := by rw [← hnaY]; exact hF9.ntv
          have hf_input9 : Ce c9 (1803 + t * 65 + 54) (.slice f.inputY.1 f.inputY.2.1 f.inputY.2.2) := hF9.inputY
          have hbx9 : BX w9 (bb m) f.inputY Li := BX.mstep hM hS9 hbxi
          have hsci9 := hbx9.sc
          have hbi9l : Li.length = f.inputY.2.1 := hbxi.len
          refine W_drawE [false, false, false, false, false, false, false, false, false, false, false] hmix (by kernel_rfl) rfl ?_
          refine WH_p (PS_move_ptr rfl) rfl ?_
          refine WH_p (PS_move_ptr rfl) rfl ?_
          refine WH_p (PS_nilCheck rfl) rfl ?_
          refine WH_p (PS_fieldAddr 2 Hvac.runUnderlying66 rfl Hvac.sizeOf5 rfl rfl) rfl ?_
          refine WH_load (.int _ _) Hvac.isAgg5 rfl (Hb.h (by repeat (first | assumption | exact Hb.newY _ _ | refine Hb.alloc ?_ | refine Hb.drew ?_ | refine Hb.ext (by assumption) ?_ | exact Hb.setSameL (by first | omega | (simp only [size_alloc, size_setB, size_drew]; omega)) | exact Hb.setSame (by assumption) | refine Hb.set (by first | omega | (simp only [size_alloc, size_setB, size_drew]; omega)) ?_ ))) (Ce.h (by first | assumption | exact ⟨rfl⟩)) ?_
          refine WH_p (PS_move_ptr rfl) rfl ?_
          refine WH_p (PS_nilCheck rfl) rfl ?_
          refine WH_p (PS_fieldAddr 54 Hvac.runUnderlying66 rfl Hvac.sizeOf32 rfl rfl) rfl ?_
          refine WH_load (.slice _ _ _) Hvac.isAgg32 rfl (Hb.h (by repeat (first | assumption | exact Hb.newY _ _ | refine Hb.alloc ?_ | refine Hb.drew ?_ | refine Hb.ext (by assumption) ?_ | exact Hb.setSameL (by first | omega | (simp only [size_alloc, size_setB, size_drew]; omega)) | exact Hb.setSame (by assumption) | refine Hb.set (by first | omega | (simp only [size_alloc, size_setB, size_drew]; omega)) ?_ ))) (Ce.h (by first | assumption | exact ⟨rfl⟩)) ?_
          refine WH_call Hvac.call173 (by rfl) (Ret.mono (ntvRun_ex g.nat f.inputY Li _ (SC.ext hsci9 (by repeat (first | assumption | exact Ext.refl _ | refine Ext.alloc ?_ _ | refine Ext.drew ?_ | refine Ext.setB ?_ (by first | omega | (simp only [size_alloc, size_setB, size_drew]; omega)) _ | exact Ext.trans (by assumption) (by assumption) | refine Ext.trans ?_ (by assumption)))) hbyi hil.2 (by omega) hnt) ?_)
          rintro _ w10 ⟨hE10, s10, rfl, hN10, hB10, hl10⟩
          refine ⟨(fun h => by cases h), ?_⟩
          rw [hLiY] at hN10 hB10
          obtain ⟨L10, hL10e⟩ : ∃ L10, ynatr g.nat g.inputY = L10 := ⟨_, rfl⟩
          rw [hL10e] at hN10 hB10
          have hz10 := hE10.1
          try simp only [size_drew] at hz10
          have hcap10 := hN10.cap
          have hbs10 : BX w10 (bb m) s10 L10 := hN10.bx (fun b hb => Nat.lt_of_lt_of_le (bb_lt hM b hb) (by first | omega | (simp only [size_drew]; omega))) hB10
          refine WH_call Hvac.call172 (by rfl) (Ret.mono (end_exL scan C c9 v B { m with buf := m.buf, base := m.base, frames := m.frames.set t { f with gas := f.gas - cst } } t { f with gas := f.gas - cst } cst S 0 s10 _ (MS.ext hM9 (by repeat (first | assumption | exact Ext.refl _ | refine Ext.alloc ?_ _ | refine Ext.drew ?_ | refine Ext.setB ?_ (by first | omega | (simp only [size_alloc, size_setB, size_drew]; omega)) _ | exact Ext.trans (by assumption) (by assumption) | refine Ext.trans ?_ (by assumption)))) hf9 hpay (by omega) (BS.ext hbs10.bs (by repeat (first | assumption | exact Ext.refl _ | refine Ext.alloc ?_ _ | refine Ext.drew ?_ | refine Ext.setB ?_ (by first | omega | (simp only [size_alloc, size_setB, size_drew]; omega)) _ | exact Ext.trans (by assumption) (by assumption) | refine Ext.trans ?_ (by assumption)))) ⟨by omega, hcap10⟩ y rest { g with gas := g.gas - qn.1 } (Rel.ext hRl9 hM9 (by repeat (first | assumption | exact Ext.refl _ | refine Ext.alloc ?_ _ | refine Ext.drew ?_ | refine Ext.setB ?_ (by first | omega | (simp only [size_alloc, size_setB, size_drew]; omega)) _ | exact Ext.trans (by assumption) (by assumption) | refine Ext.trans ?_ (by assumption)))) 0 rfl L10 (BX.ext hbs10 (by repeat (first | assumption | exact Ext.refl _ | refine Ext.alloc ?_ _ | refine Ext.drew ?_ | refine Ext.setB ?_ (by first | omega | (simp only [size_alloc, size_setB, size_drew]; omega)) _ | exact Ext.trans (by assumption) (by assumption) | refine Ext.trans ?_ (by assumption)))).rd) ?_)
          rintro _ w11 ⟨v2, m2, hR2, hP2, hX2⟩
          refine ⟨(fun h => by cases h), ?_⟩
          have hyn : ynative_ y rest g = yleave y rest { g with gas := g.gas - qn.1 } 0 L10 := by unfold ynative_; rw [hqn, if_neg (by rintro (h | h); (rw [← hkY, hokT] at h; cases h); omega), hL10e]
          refine WH_nil ?_
          refine thn_normal ?_
          refine W_seq ?_
          refine W_region rfl ?_
          refine WO_p (PS_assign_bool rfl) ?_
          refine WO_nil ?_
          refine thn_normal ?_
          refine W_ret ?_
          refine bodyQ_ret1 Hvac.results103 rfl (.bool _) rfl ?_
          exact Or.inr ⟨rfl, hnn0, v2, m2, MRet.trans hS9 (MRet.pre (by repeat (first | assumption | exact Ext.refl _ | refine Ext.alloc ?_ _ | refine Ext.drew ?_ | refine Ext.setB ?_ (by first | omega | (simp only [size_alloc, size_setB, size_drew]; omega)) _ | exact Ext.trans (by assumption) (by assumption) | refine Ext.trans ?_ (by assumption))) hR2), EndP.of_pay hcst.1 hgq hP2, by rw [hyn]; exact hX2⟩

set_option maxRecDepth 10000 in
set_option maxHeartbeats 4000000 in
theorem execRows_ex [Om] (C : Nat) (c : Array Value) (v : V) (B : VB) (m : Mc) (t : Nat) (f : Fm) (o c' S : Int) (w : World) (hM : MS w C c v B m) (hop : Mc.opc f = o) (hAd : Adm scanW v m t f o (infoW o).2.2.1 c' S) (hk : (infoW o).1 ≤ f.sp ∧ f.sp - (infoW o).1 + (infoW o).2.1 ≤ 64) (hkn : (infoW o).2.2.2 = true) (hob : 0 ≤ o ∧ o ≤ 255) (y : PSt) (rest : List PF) (g : PF) (hRl : Rel w v m (y, rest ++ [g])) (hr : 95 ≤ o ∧ o ≤ 164) : Ret Hvac.prog 192 #[.pointer (some ⟨C, 0, none⟩), .int .u8 o] w fun _ w' => ∃ v' m', MRet w C B m w' v' m' ∧ OpP scanW m t c' S v' m' ∧ Rel w' v' m' (yexec khash y rest g o) := by
  refine Ret_of_W Hvac.func192 rfl rfl ?_
  refine W_block ?_
  refine W_seq ?_
  refine W_region rfl ?_
  refine WO_p (PS_move_int rfl) ?_
  refine WO_p (PS_geq rfl rfl) ?_
  refine WO_p (PS_move_bool rfl) ?_
  refine WO_if (t := 9) rfl (fun hb2 => ?_) (fun hb2 => ?_)
  · have hb2p := hb2.h; try simp only [al_ete, al_dfn, Bool.not_eq_true', Bool.not_eq_false', al_ne, Bool.not_not, al_nn] at hb2p
    refine WO_guardT rfl rfl hb2.h ?_
    refine WO_p (PS_move_int rfl) ?_
    refine WO_guardT rfl rfl hb2.h ?_
    refine WO_p (PS_leq rfl rfl) ?_
    refine WO_p (PS_pickT rfl hb2.h rfl) ?_
    refine WO_p (PS_assign_bool rfl) ?_
    refine WO_nil ?_
    refine thn_normal ?_
    refine W_if rfl (fun hb4 => ?_) (fun hb4 => ?_)
    · have hb4p := hb4.h; try simp only [al_ete, al_dfn, Bool.not_eq_true', Bool.not_eq_false', al_ne, Bool.not_not, al_nn] at hb4p
      refine W_region rfl ?_
      refine WO_p (PS_move_ptr rfl) ?_
      refine WO_call Hvac.call290 (by rfl) (Ret.mono (opPush_ex scanW C c v B m t f o c' S _ (MS.ext hM (by repeat (first | assumption | exact Ext.refl _ | refine Ext.alloc ?_ _ | refine Ext.drew ?_ | refine Ext.setB ?_ (by first | omega | (simp only [size_alloc, size_setB, size_drew]; omega)) _ | exact Ext.trans (by assumption) (by assumption) | refine Ext.trans ?_ (by assumption)))) hop hAd hk (hAd.pos hkn (by omega) (by omega) (by omega)) y rest g (hRl.ext hM (by repeat (first | assumption | exact Ext.refl _ | refine Ext.alloc ?_ _ | refine Ext.drew ?_ | refine Ext.setB ?_ (by first | omega | (simp only [size_alloc, size_setB, size_drew]; omega)) _ | exact Ext.trans (by assumption) (by assumption) | refine Ext.trans ?_ (by assumption)))) (by omega)) ?_)
      rintro _ wZ ⟨vZ, mZ, hRZ, hPZ, hXZ⟩
      rw [← yexec_plain hob (by omega)] at hXZ
      refine WO_nil ?_
      refine inBlk_normal ?_
      first | refine bodyQ_ret0 Hvac.results192 ?_ | refine bodyQ_end0 Hvac.results192 ?_
      exact ⟨vZ, mZ, MRet.pre (by repeat (first | assumption | exact Ext.refl _ | refine Ext.alloc ?_ _ | refine Ext.drew ?_ | refine Ext.setB ?_ (by first | omega | (simp only [size_alloc, size_setB, size_drew]; omega)) _ | refine Ext.trans ?_ (by assumption))) hRZ, hPZ, hXZ⟩
    · have hb4p := hb4.h; try simp only [al_ete, al_dfn, Bool.not_eq_true', Bool.not_eq_false', al_ne, Bool.not_not, al_nn] at hb4p
      refine W_seq ?_
      refine W_region rfl ?_
      refine WO_p (PS_move_int rfl) ?_
      refine WO_p (PS_geq rfl rfl) ?_
      refine WO_p (PS_move_bool rfl) ?_
      refine WO_if (t := 18) rfl (fun hb7 => ?_) (fun hb7 => ?_)
      · have hb7p := hb7.h; try simp only [al_ete, al_dfn, Bool.not_eq_true', Bool.not_eq_false', al_ne, Bool.not_not, al_nn] at hb7p
        refine WO_guardT rfl rfl hb7.h ?_
        refine WO_p (PS_move_int rfl) ?_
        refine WO_guardT rfl rfl hb7.h ?_
        refine WO_p (PS_leq rfl rfl) ?_
        refine WO_p (PS_pickT rfl hb7.h rfl) ?_
        refine WO_p (PS_assign_bool rfl) ?_
        refine WO_nil ?_
        refine thn_normal ?_
        refine W_if rfl (fun hb9 => ?_) (fun hb9 => ?_)
        · have hb9p := hb9.h; try simp only [al_ete, al_dfn, Bool.not_eq_true', Bool.not_eq_false', al_ne, Bool.not_not, al_nn] at hb9p
          refine W_region rfl ?_
          refine WO_p (PS_move_ptr rfl) ?_
          refine WO_call Hvac.call291 (by rfl) (Ret.mono (opDup_ex scanW C c v B m t f o c' S _ (MS.ext hM (by repeat (first | assumption | exact Ext.refl _ | refine Ext.alloc ?_ _ | refine Ext.drew ?_ | refine Ext.setB ?_ (by first | omega | (simp only [size_alloc, size_setB, size_drew]; omega)) _ | exact Ext.trans (by assumption) (by assumption) | refine Ext.trans ?_ (by assumption)))) hop hAd hk (hAd.pos hkn (by omega) (by omega) (by omega)) y rest g (hRl.ext hM (by repeat (first | assumption | exact Ext.refl _ | refine Ext.alloc ?_ _ | refine Ext.drew ?_ | refine Ext.setB ?_ (by first | omega | (simp only [size_alloc, size_setB, size_drew]; omega)) _ | exact Ext.trans (by assumption) (by assumption) | refine Ext.trans ?_ (by assumption)))) (by omega)) ?_)
          rintro _ wZ ⟨vZ, mZ, hRZ, hPZ, hXZ⟩
          rw [← yexec_plain hob (by omega)] at hXZ
          refine WO_nil ?_
          refine inBlk_normal ?_
          first | refine bodyQ_ret0 Hvac.results192 ?_ | refine bodyQ_end0 Hvac.results192 ?_
          exact ⟨vZ, mZ, MRet.pre (by repeat (first | assumption | exact Ext.refl _ | refine Ext.alloc ?_ _ | refine Ext.drew ?_ | refine Ext.setB ?_ (by first | omega | (simp only [size_alloc, size_setB, size_drew]; omega)) _ | refine Ext.trans ?_ (by assumption))) hRZ, hPZ, hXZ⟩
        · have hb9p := hb9.h; try simp only [al_ete, al_dfn, Bool.not_eq_true', Bool.not_eq_false', al_ne, Bool.not_not, al_nn] at hb9p
          refine W_seq ?_
          refine W_region rfl ?_
          refine WO_p (PS_move_int rfl) ?_
          refine WO_p (PS_geq rfl rfl) ?_
          refine WO_p (PS_move_bool rfl) ?_
          refine WO_if (t := 27) rfl (fun hb12 => ?_) (fun hb12 => ?_)
          · have hb12p := hb12.h; try simp only [al_ete, al_dfn, Bool.not_eq_true', Bool.not_eq_false', al_ne, Bool.not_not, al_nn] at hb12p
            refine WO_guardT rfl rfl hb12.h ?_
            refine WO_p (PS_move_int rfl) ?_
            refine WO_guardT rfl rfl hb12.h ?_
            refine WO_p (PS_leq rfl rfl) ?_
            refine WO_p (PS_pickT rfl hb12.h rfl) ?_
            refine WO_p (PS_assign_bool rfl) ?_
            refine WO_nil ?_
            refine thn_normal ?_
            refine W_if rfl (fun hb14 => ?_) (fun hb14 => ?_)
            · have hb14p := hb14.h; try simp only [al_ete, al_dfn, Bool.not_eq_true', Bool.not_eq_false', al_ne, Bool.not_not, al_nn] at hb14p
              refine W_region rfl ?_
              refine WO_p (PS_move_ptr rfl) ?_
              refine WO_call Hvac.call292 (by rfl) (Ret.mono (opSwap_ex scanW C c v B m t f o c' S _ (MS.ext hM (by repeat (first | assumption | exact Ext.refl _ | refine Ext.alloc ?_ _ | refine Ext.drew ?_ | refine Ext.setB ?_ (by first | omega | (simp only [size_alloc, size_setB, size_drew]; omega)) _ | exact Ext.trans (by assumption) (by assumption) | refine Ext.trans ?_ (by assumption)))) hop hAd hk (hAd.pos hkn (by omega) (by omega) (by omega)) y rest g (hRl.ext hM (by repeat (first | assumption | exact Ext.refl _ | refine Ext.alloc ?_ _ | refine Ext.drew ?_ | refine Ext.setB ?_ (by first | omega | (simp only [size_alloc, size_setB, size_drew]; omega)) _ | exact Ext.trans (by assumption) (by assumption) | refine Ext.trans ?_ (by assumption)))) (by omega)) ?_)
              rintro _ wZ ⟨vZ, mZ, hRZ, hPZ, hXZ⟩
              rw [← yexec_plain hob (by omega)] at hXZ
              refine WO_nil ?_
              refine inBlk_normal ?_
              first | refine bodyQ_ret0 Hvac.results192 ?_ | refine bodyQ_end0 Hvac.results192 ?_
              exact ⟨vZ, mZ, MRet.pre (by repeat (first | assumption | exact Ext.refl _ | refine Ext.alloc ?_ _ | refine Ext.drew ?_ | refine Ext.setB ?_ (by first | omega | (simp only [size_alloc, size_setB, size_drew]; omega)) _ | refine Ext.trans ?_ (by assumption))) hRZ, hPZ, hXZ⟩
            · have hb14p := hb14.h; try simp only [al_ete, al_dfn, Bool.not_eq_true', Bool.not_eq_false', al_ne, Bool.not_not, al_nn] at hb14p
              refine W_seq ?_
              refine W_region rfl ?_
              refine WO_p (PS_move_int rfl) ?_
              refine WO_p (PS_geq rfl rfl) ?_
              refine WO_p (PS_move_bool rfl) ?_
              refine WO_if (t := 36) rfl (fun hb17 => ?_) (fun hb17 => ?_)
              · have hb17p := hb17.h; try simp only [al_ete, al_dfn, Bool.not_eq_true', Bool.not_eq_false', al_ne, Bool.not_not, al_nn] at hb17p
                refine WO_guardT rfl rfl hb17.h ?_
                refine WO_p (PS_move_int rfl) ?_
                refine WO_guardT rfl rfl hb17.h ?_
                refine WO_p (PS_leq rfl rfl) ?_
                refine WO_p (PS_pickT rfl hb17.h rfl) ?_
                refine WO_p (PS_assign_bool rfl) ?_
                refine WO_nil ?_
                refine thn_normal ?_
                refine W_if rfl (fun hb19 => ?_) (fun hb19 => ?_)
                · have hb19p := hb19.h; try simp only [al_ete, al_dfn, Bool.not_eq_true', Bool.not_eq_false', al_ne, Bool.not_not, al_nn] at hb19p
                  refine W_region rfl ?_
                  refine WO_p (PS_move_ptr rfl) ?_
                  refine WO_call Hvac.call293 (by rfl) (Ret.mono (opLog_ex scanW C c v B m t f o c' S _ (MS.ext hM (by repeat (first | assumption | exact Ext.refl _ | refine Ext.alloc ?_ _ | refine Ext.drew ?_ | refine Ext.setB ?_ (by first | omega | (simp only [size_alloc, size_setB, size_drew]; omega)) _ | exact Ext.trans (by assumption) (by assumption) | refine Ext.trans ?_ (by assumption)))) hop hAd hk (hAd.pos hkn (by omega) (by omega) (by omega)) y rest g (hRl.ext hM (by repeat (first | assumption | exact Ext.refl _ | refine Ext.alloc ?_ _ | refine Ext.drew ?_ | refine Ext.setB ?_ (by first | omega | (simp only [size_alloc, size_setB, size_drew]; omega)) _ | exact Ext.trans (by assumption) (by assumption) | refine Ext.trans ?_ (by assumption)))) (by omega)) ?_)
                  rintro _ wZ ⟨vZ, mZ, hRZ, hPZ, hXZ⟩
                  rw [← yexec_plain hob (by omega)] at hXZ
                  refine WO_nil ?_
                  refine inBlk_normal ?_
                  first | refine bodyQ_ret0 Hvac.results192 ?_ | refine bodyQ_end0 Hvac.results192 ?_
                  exact ⟨vZ, mZ, MRet.pre (by repeat (first | assumption | exact Ext.refl _ | refine Ext.alloc ?_ _ | refine Ext.drew ?_ | refine Ext.setB ?_ (by first | omega | (simp only [size_alloc, size_setB, size_drew]; omega)) _ | refine Ext.trans ?_ (by assumption))) hRZ, hPZ, hXZ⟩
                · have hb19p := hb19.h; try simp only [al_ete, al_dfn, Bool.not_eq_true', Bool.not_eq_false', al_ne, Bool.not_not, al_nn] at hb19p
                  (exfalso; omega) --END
              · have hb17p := hb17.h; try simp only [al_ete, al_dfn, Bool.not_eq_true', Bool.not_eq_false', al_ne, Bool.not_not, al_nn] at hb17p
                refine WO_guardF rfl rfl hb17.h ?_
                refine WO_guardF rfl rfl hb17.h ?_
                refine WO_p (PS_pickF rfl hb17.h rfl) ?_
                refine WO_p (PS_assign_bool rfl) ?_
                refine WO_nil ?_
                refine thn_normal ?_
                refine W_condF rfl rfl ?_
                (exfalso; omega) --END
          · have hb12p := hb12.h; try simp only [al_ete, al_dfn, Bool.not_eq_true', Bool.not_eq_false', al_ne, Bool.not_not, al_nn] at hb12p
            refine WO_guardF rfl rfl hb12.h ?_
            refine WO_guardF rfl rfl hb12.h ?_
            refine WO_p (PS_pickF rfl hb12.h rfl) ?_
            refine WO_p (PS_assign_bool rfl) ?_
            refine WO_nil ?_
            refine thn_normal ?_
            refine W_condF rfl rfl ?_
            refine W_seq ?_
            refine W_region rfl ?_
            refine WO_p (PS_move_int rfl) ?_
            refine WO_p (PS_geq rfl rfl) ?_
            refine WO_p (PS_move_bool rfl) ?_
            refine WO_if (t := 36) rfl (fun hb22 => ?_) (fun hb22 => ?_)
            · have hb22p := hb22.h; try simp only [al_ete, al_dfn, Bool.not_eq_true', Bool.not_eq_false', al_ne, Bool.not_not, al_nn] at hb22p
              refine WO_guardT rfl rfl hb22.h ?_
              refine WO_p (PS_move_int rfl) ?_
              refine WO_guardT rfl rfl hb22.h ?_
              refine WO_p (PS_leq rfl rfl) ?_
              refine WO_p (PS_pickT rfl hb22.h rfl) ?_
              refine WO_p (PS_assign_bool rfl) ?_
              refine WO_nil ?_
              refine thn_normal ?_
              refine W_if rfl (fun hb24 => ?_) (fun hb24 => ?_)
              · have hb24p := hb24.h; try simp only [al_ete, al_dfn, Bool.not_eq_true', Bool.not_eq_false', al_ne, Bool.not_not, al_nn] at hb24p
                refine W_region rfl ?_
                refine WO_p (PS_move_ptr rfl) ?_
                refine WO_call Hvac.call293 (by rfl) (Ret.mono (opLog_ex scanW C c v B m t f o c' S _ (MS.ext hM (by repeat (first | assumption | exact Ext.refl _ | refine Ext.alloc ?_ _ | refine Ext.drew ?_ | refine Ext.setB ?_ (by first | omega | (simp only [size_alloc, size_setB, size_drew]; omega)) _ | exact Ext.trans (by assumption) (by assumption) | refine Ext.trans ?_ (by assumption)))) hop hAd hk (hAd.pos hkn (by omega) (by omega) (by omega)) y rest g (hRl.ext hM (by repeat (first | assumption | exact Ext.refl _ | refine Ext.alloc ?_ _ | refine Ext.drew ?_ | refine Ext.setB ?_ (by first | omega | (simp only [size_alloc, size_setB, size_drew]; omega)) _ | exact Ext.trans (by assumption) (by assumption) | refine Ext.trans ?_ (by assumption)))) (by omega)) ?_)
                rintro _ wZ ⟨vZ, mZ, hRZ, hPZ, hXZ⟩
                rw [← yexec_plain hob (by omega)] at hXZ
                refine WO_nil ?_
                refine inBlk_normal ?_
                first | refine bodyQ_ret0 Hvac.results192 ?_ | refine bodyQ_end0 Hvac.results192 ?_
                exact ⟨vZ, mZ, MRet.pre (by repeat (first | assumption | exact Ext.refl _ | refine Ext.alloc ?_ _ | refine Ext.drew ?_ | refine Ext.setB ?_ (by first | omega | (simp only [size_alloc, size_setB, size_drew]; omega)) _ | refine Ext.trans ?_ (by assumption))) hRZ, hPZ, hXZ⟩
              · have hb24p := hb24.h; try simp only [al_ete, al_dfn, Bool.not_eq_true', Bool.not_eq_false', al_ne, Bool.not_not, al_nn] at hb24p
                (exfalso; omega) --END
            · have hb22p := hb22.h; try simp only [al_ete, al_dfn, Bool.not_eq_true', Bool.not_eq_false', al_ne, Bool.not_not, al_nn] at hb22p
              refine WO_guardF rfl rfl hb22.h ?_
              refine WO_guardF rfl rfl hb22.h ?_
              refine WO_p (PS_pickF rfl hb22.h rfl) ?_
              refine WO_p (PS_assign_bool rfl) ?_
              refine WO_nil ?_
              refine thn_normal ?_
              refine W_condF rfl rfl ?_
              (exfalso; omega) --END
      · have hb7p := hb7.h; try simp only [al_ete, al_dfn, Bool.not_eq_true', Bool.not_eq_false', al_ne, Bool.not_not, al_nn] at hb7p
        refine WO_guardF rfl rfl hb7.h ?_
        refine WO_guardF rfl rfl hb7.h ?_
        refine WO_p (PS_pickF rfl hb7.h rfl) ?_
        refine WO_p (PS_assign_bool rfl) ?_
        refine WO_nil ?_
        refine thn_normal ?_
        refine W_condF rfl rfl ?_
        refine W_seq ?_
        refine W_region rfl ?_
        refine WO_p (PS_move_int rfl) ?_
        refine WO_p (PS_geq rfl rfl) ?_
        refine WO_p (PS_move_bool rfl) ?_
        refine WO_if (t := 27) rfl (fun hb27 => ?_) (fun hb27 => ?_)
        · have hb27p := hb27.h; try simp only [al_ete, al_dfn, Bool.not_eq_true', Bool.not_eq_false', al_ne, Bool.not_not, al_nn] at hb27p
          refine WO_guardT rfl rfl hb27.h ?_
          refine WO_p (PS_move_int rfl) ?_
          refine WO_guardT rfl rfl hb27.h ?_
          refine WO_p (PS_leq rfl rfl) ?_
          refine WO_p (PS_pickT rfl hb27.h rfl) ?_
          refine WO_p (PS_assign_bool rfl) ?_
          refine WO_nil ?_
          refine thn_normal ?_
          refine W_if rfl (fun hb29 => ?_) (fun hb29 => ?_)
          · have hb29p := hb29.h; try simp only [al_ete, al_dfn, Bool.not_eq_true', Bool.not_eq_false', al_ne, Bool.not_not, al_nn] at hb29p
            refine W_region rfl ?_
            refine WO_p (PS_move_ptr rfl) ?_
            refine WO_call Hvac.call292 (by rfl) (Ret.mono (opSwap_ex scanW C c v B m t f o c' S _ (MS.ext hM (by repeat (first | assumption | exact Ext.refl _ | refine Ext.alloc ?_ _ | refine Ext.drew ?_ | refine Ext.setB ?_ (by first | omega | (simp only [size_alloc, size_setB, size_drew]; omega)) _ | exact Ext.trans (by assumption) (by assumption) | refine Ext.trans ?_ (by assumption)))) hop hAd hk (hAd.pos hkn (by omega) (by omega) (by omega)) y rest g (hRl.ext hM (by repeat (first | assumption | exact Ext.refl _ | refine Ext.alloc ?_ _ | refine Ext.drew ?_ | refine Ext.setB ?_ (by first | omega | (simp only [size_alloc, size_setB, size_drew]; omega)) _ | exact Ext.trans (by assumption) (by assumption) | refine Ext.trans ?_ (by assumption)))) (by omega)) ?_)
            rintro _ wZ ⟨vZ, mZ, hRZ, hPZ, hXZ⟩
            rw [← yexec_plain hob (by omega)] at hXZ
            refine WO_nil ?_
            refine inBlk_normal ?_
            first | refine bodyQ_ret0 Hvac.results192 ?_ | refine bodyQ_end0 Hvac.results192 ?_
            exact ⟨vZ, mZ, MRet.pre (by repeat (first | assumption | exact Ext.refl _ | refine Ext.alloc ?_ _ | refine Ext.drew ?_ | refine Ext.setB ?_ (by first | omega | (simp only [size_alloc, size_setB, size_drew]; omega)) _ | refine Ext.trans ?_ (by assumption))) hRZ, hPZ, hXZ⟩
          · have hb29p := hb29.h; try simp only [al_ete, al_dfn, Bool.not_eq_true', Bool.not_eq_false', al_ne, Bool.not_not, al_nn] at hb29p
            refine W_seq ?_
            refine W_region rfl ?_
            refine WO_p (PS_move_int rfl) ?_
            refine WO_p (PS_geq rfl rfl) ?_
            refine WO_p (PS_move_bool rfl) ?_
            refine WO_if (t := 36) rfl (fun hb32 => ?_) (fun hb32 => ?_)
            · have hb32p := hb32.h; try simp only [al_ete, al_dfn, Bool.not_eq_true', Bool.not_eq_false', al_ne, Bool.not_not, al_nn] at hb32p
              refine WO_guardT rfl rfl hb32.h ?_
              refine WO_p (PS_move_int rfl) ?_
              refine WO_guardT rfl rfl hb32.h ?_
              refine WO_p (PS_leq rfl rfl) ?_
              refine WO_p (PS_pickT rfl hb32.h rfl) ?_
              refine WO_p (PS_assign_bool rfl) ?_
              refine WO_nil ?_
              refine thn_normal ?_
              refine W_if rfl (fun hb34 => ?_) (fun hb34 => ?_)
              · have hb34p := hb34.h; try simp only [al_ete, al_dfn, Bool.not_eq_true', Bool.not_eq_false', al_ne, Bool.not_not, al_nn] at hb34p
                refine W_region rfl ?_
                refine WO_p (PS_move_ptr rfl) ?_
                refine WO_call Hvac.call293 (by rfl) (Ret.mono (opLog_ex scanW C c v B m t f o c' S _ (MS.ext hM (by repeat (first | assumption | exact Ext.refl _ | refine Ext.alloc ?_ _ | refine Ext.drew ?_ | refine Ext.setB ?_ (by first | omega | (simp only [size_alloc, size_setB, size_drew]; omega)) _ | exact Ext.trans (by assumption) (by assumption) | refine Ext.trans ?_ (by assumption)))) hop hAd hk (hAd.pos hkn (by omega) (by omega) (by omega)) y rest g (hRl.ext hM (by repeat (first | assumption | exact Ext.refl _ | refine Ext.alloc ?_ _ | refine Ext.drew ?_ | refine Ext.setB ?_ (by first | omega | (simp only [size_alloc, size_setB, size_drew]; omega)) _ | exact Ext.trans (by assumption) (by assumption) | refine Ext.trans ?_ (by assumption)))) (by omega)) ?_)
                rintro _ wZ ⟨vZ, mZ, hRZ, hPZ, hXZ⟩
                rw [← yexec_plain hob (by omega)] at hXZ
                refine WO_nil ?_
                refine inBlk_normal ?_
                first | refine bodyQ_ret0 Hvac.results192 ?_ | refine bodyQ_end0 Hvac.results192 ?_
                exact ⟨vZ, mZ, MRet.pre (by repeat (first | assumption | exact Ext.refl _ | refine Ext.alloc ?_ _ | refine Ext.drew ?_ | refine Ext.setB ?_ (by first | omega | (simp only [size_alloc, size_setB, size_drew]; omega)) _ | refine Ext.trans ?_ (by assumption))) hRZ, hPZ, hXZ⟩
              · have hb34p := hb34.h; try simp only [al_ete, al_dfn, Bool.not_eq_true', Bool.not_eq_false', al_ne, Bool.not_not, al_nn] at hb34p
                (exfalso; omega) --END
            · have hb32p := hb32.h; try simp only [al_ete, al_dfn, Bool.not_eq_true', Bool.not_eq_false', al_ne, Bool.not_not, al_nn] at hb32p
              refine WO_guardF rfl rfl hb32.h ?_
              refine WO_guardF rfl rfl hb32.h ?_
              refine WO_p (PS_pickF rfl hb32.h rfl) ?_
              refine WO_p (PS_assign_bool rfl) ?_
              refine WO_nil ?_
              refine thn_normal ?_
              refine W_condF rfl rfl ?_
              (exfalso; omega) --END
        · have hb27p := hb27.h; try simp only [al_ete, al_dfn, Bool.not_eq_true', Bool.not_eq_false', al_ne, Bool.not_not, al_nn] at hb27p
          refine WO_guardF rfl rfl hb27.h ?_
          refine WO_guardF rfl rfl hb27.h ?_
          refine WO_p (PS_pickF rfl hb27.h rfl) ?_
          refine WO_p (PS_assign_bool rfl) ?_
          refine WO_nil ?_
          refine thn_normal ?_
          refine W_condF rfl rfl ?_
          refine W_seq ?_
          refine W_region rfl ?_
          refine WO_p (PS_move_int rfl) ?_
          refine WO_p (PS_geq rfl rfl) ?_
          refine WO_p (PS_move_bool rfl) ?_
          refine WO_if (t := 36) rfl (fun hb37 => ?_) (fun hb37 => ?_)
          · have hb37p := hb37.h; try simp only [al_ete, al_dfn, Bool.not_eq_true', Bool.not_eq_false', al_ne, Bool.not_not, al_nn] at hb37p
            refine WO_guardT rfl rfl hb37.h ?_
            refine WO_p (PS_move_int rfl) ?_
            refine WO_guardT rfl rfl hb37.h ?_
            refine WO_p (PS_leq rfl rfl) ?_
            refine WO_p (PS_pickT rfl hb37.h rfl) ?_
            refine WO_p (PS_assign_bool rfl) ?_
            refine WO_nil ?_
            refine thn_normal ?_
            refine W_if rfl (fun hb39 => ?_) (fun hb39 => ?_)
            · have hb39p := hb39.h; try simp only [al_ete, al_dfn, Bool.not_eq_true', Bool.not_eq_false', al_ne, Bool.not_not, al_nn] at hb39p
              refine W_region rfl ?_
              refine WO_p (PS_move_ptr rfl) ?_
              refine WO_call Hvac.call293 (by rfl) (Ret.mono (opLog_ex scanW C c v B m t f o c' S _ (MS.ext hM (by repeat (first | assumption | exact Ext.refl _ | refine Ext.alloc ?_ _ | refine Ext.drew ?_ | refine Ext.setB ?_ (by first | omega | (simp only [size_alloc, size_setB, size_drew]; omega)) _ | exact Ext.trans (by assumption) (by assumption) | refine Ext.trans ?_ (by assumption)))) hop hAd hk (hAd.pos hkn (by omega) (by omega) (by omega)) y rest g (hRl.ext hM (by repeat (first | assumption | exact Ext.refl _ | refine Ext.alloc ?_ _ | refine Ext.drew ?_ | refine Ext.setB ?_ (by first | omega | (simp only [size_alloc, size_setB, size_drew]; omega)) _ | exact Ext.trans (by assumption) (by assumption) | refine Ext.trans ?_ (by assumption)))) (by omega)) ?_)
              rintro _ wZ ⟨vZ, mZ, hRZ, hPZ, hXZ⟩
              rw [← yexec_plain hob (by omega)] at hXZ
              refine WO_nil ?_
              refine inBlk_normal ?_
              first | refine bodyQ_ret0 Hvac.results192 ?_ | refine bodyQ_end0 Hvac.results192 ?_
              exact ⟨vZ, mZ, MRet.pre (by repeat (first | assumption | exact Ext.refl _ | refine Ext.alloc ?_ _ | refine Ext.drew ?_ | refine Ext.setB ?_ (by first | omega | (simp only [size_alloc, size_setB, size_drew]; omega)) _ | refine Ext.trans ?_ (by assumption))) hRZ, hPZ, hXZ⟩
            · have hb39p := hb39.h; try simp only [al_ete, al_dfn, Bool.not_eq_true', Bool.not_eq_false', al_ne, Bool.not_not, al_nn] at hb39p
              (exfalso; omega) --END
          · have hb37p := hb37.h; try simp only [al_ete, al_dfn, Bool.not_eq_true', Bool.not_eq_false', al_ne, Bool.not_not, al_nn] at hb37p
            refine WO_guardF rfl rfl hb37.h ?_
            refine WO_guardF rfl rfl hb37.h ?_
            refine WO_p (PS_pickF rfl hb37.h rfl) ?_
            refine WO_p (PS_assign_bool rfl) ?_
            refine WO_nil ?_
            refine thn_normal ?_
            refine W_condF rfl rfl ?_
            (exfalso; omega) --END
  · have hb2p := hb2.h; try simp only [al_ete, al_dfn, Bool.not_eq_true', Bool.not_eq_false', al_ne, Bool.not_not, al_nn] at hb2p
    refine WO_guardF rfl rfl hb2.h ?_
    refine WO_guardF rfl rfl hb2.h ?_
    refine WO_p (PS_pickF rfl hb2.h rfl) ?_
    refine WO_p (PS_assign_bool rfl) ?_
    refine WO_nil ?_
    refine thn_normal ?_
    refine W_condF rfl rfl ?_
    refine W_seq ?_
    refine W_region rfl ?_
    refine WO_p (PS_move_int rfl) ?_
    refine WO_p (PS_geq rfl rfl) ?_
    refine WO_p (PS_move_bool rfl) ?_
    refine WO_if (t := 18) rfl (fun hb42 => ?_) (fun hb42 => ?_)
    · have hb42p := hb42.h; try simp only [al_ete, al_dfn, Bool.not_eq_true', Bool.not_eq_false', al_ne, Bool.not_not, al_nn] at hb42p
      refine WO_guardT rfl rfl hb42.h ?_
      refine WO_p (PS_move_int rfl) ?_
      refine WO_guardT rfl rfl hb42.h ?_
      refine WO_p (PS_leq rfl rfl) ?_
      refine WO_p (PS_pickT rfl hb42.h rfl) ?_
      refine WO_p (PS_assign_bool rfl) ?_
      refine WO_nil ?_
      refine thn_normal ?_
      refine W_if rfl (fun hb44 => ?_) (fun hb44 => ?_)
      · have hb44p := hb44.h; try simp only [al_ete, al_dfn, Bool.not_eq_true', Bool.not_eq_false', al_ne, Bool.not_not, al_nn] at hb44p
        refine W_region rfl ?_
        refine WO_p (PS_move_ptr rfl) ?_
        refine WO_call Hvac.call291 (by rfl) (Ret.mono (opDup_ex scanW C c v B m t f o c' S _ (MS.ext hM (by repeat (first | assumption | exact Ext.refl _ | refine Ext.alloc ?_ _ | refine Ext.drew ?_ | refine Ext.setB ?_ (by first | omega | (simp only [size_alloc, size_setB, size_drew]; omega)) _ | exact Ext.trans (by assumption) (by assumption) | refine Ext.trans ?_ (by assumption)))) hop hAd hk (hAd.pos hkn (by omega) (by omega) (by omega)) y rest g (hRl.ext hM (by repeat (first | assumption | exact Ext.refl _ | refine Ext.alloc ?_ _ | refine Ext.drew ?_ | refine Ext.setB ?_ (by first | omega | (simp only [size_alloc, size_setB, size_drew]; omega)) _ | exact Ext.trans (by assumption) (by assumption) | refine Ext.trans ?_ (by assumption)))) (by omega)) ?_)
        rintro _ wZ ⟨vZ, mZ, hRZ, hPZ, hXZ⟩
        rw [← yexec_plain hob (by omega)] at hXZ
        refine WO_nil ?_
        refine inBlk_normal ?_
        first | refine bodyQ_ret0 Hvac.results192 ?_ | refine bodyQ_end0 Hvac.results192 ?_
        exact ⟨vZ, mZ, MRet.pre (by repeat (first | assumption | exact Ext.refl _ | refine Ext.alloc ?_ _ | refine Ext.drew ?_ | refine Ext.setB ?_ (by first | omega | (simp only [size_alloc, size_setB, size_drew]; omega)) _ | refine Ext.trans ?_ (by assumption))) hRZ, hPZ, hXZ⟩
      · have hb44p := hb44.h; try simp only [al_ete, al_dfn, Bool.not_eq_true', Bool.not_eq_false', al_ne, Bool.not_not, al_nn] at hb44p
        refine W_seq ?_
        refine W_region rfl ?_
        refine WO_p (PS_move_int rfl) ?_
        refine WO_p (PS_geq rfl rfl) ?_
        refine WO_p (PS_move_bool rfl) ?_
        refine WO_if (t := 27) rfl (fun hb47 => ?_) (fun hb47 => ?_)
        · have hb47p := hb47.h; try simp only [al_ete, al_dfn, Bool.not_eq_true', Bool.not_eq_false', al_ne, Bool.not_not, al_nn] at hb47p
          refine WO_guardT rfl rfl hb47.h ?_
          refine WO_p (PS_move_int rfl) ?_
          refine WO_guardT rfl rfl hb47.h ?_
          refine WO_p (PS_leq rfl rfl) ?_
          refine WO_p (PS_pickT rfl hb47.h rfl) ?_
          refine WO_p (PS_assign_bool rfl) ?_
          refine WO_nil ?_
          refine thn_normal ?_
          refine W_if rfl (fun hb49 => ?_) (fun hb49 => ?_)
          · have hb49p := hb49.h; try simp only [al_ete, al_dfn, Bool.not_eq_true', Bool.not_eq_false', al_ne, Bool.not_not, al_nn] at hb49p
            refine W_region rfl ?_
            refine WO_p (PS_move_ptr rfl) ?_
            refine WO_call Hvac.call292 (by rfl) (Ret.mono (opSwap_ex scanW C c v B m t f o c' S _ (MS.ext hM (by repeat (first | assumption | exact Ext.refl _ | refine Ext.alloc ?_ _ | refine Ext.drew ?_ | refine Ext.setB ?_ (by first | omega | (simp only [size_alloc, size_setB, size_drew]; omega)) _ | exact Ext.trans (by assumption) (by assumption) | refine Ext.trans ?_ (by assumption)))) hop hAd hk (hAd.pos hkn (by omega) (by omega) (by omega)) y rest g (hRl.ext hM (by repeat (first | assumption | exact Ext.refl _ | refine Ext.alloc ?_ _ | refine Ext.drew ?_ | refine Ext.setB ?_ (by first | omega | (simp only [size_alloc, size_setB, size_drew]; omega)) _ | exact Ext.trans (by assumption) (by assumption) | refine Ext.trans ?_ (by assumption)))) (by omega)) ?_)
            rintro _ wZ ⟨vZ, mZ, hRZ, hPZ, hXZ⟩
            rw [← yexec_plain hob (by omega)] at hXZ
            refine WO_nil ?_
            refine inBlk_normal ?_
            first | refine bodyQ_ret0 Hvac.results192 ?_ | refine bodyQ_end0 Hvac.results192 ?_
            exact ⟨vZ, mZ, MRet.pre (by repeat (first | assumption | exact Ext.refl _ | refine Ext.alloc ?_ _ | refine Ext.drew ?_ | refine Ext.setB ?_ (by first | omega | (simp only [size_alloc, size_setB, size_drew]; omega)) _ | refine Ext.trans ?_ (by assumption))) hRZ, hPZ, hXZ⟩
          · have hb49p := hb49.h; try simp only [al_ete, al_dfn, Bool.not_eq_true', Bool.not_eq_false', al_ne, Bool.not_not, al_nn] at hb49p
            refine W_seq ?_
            refine W_region rfl ?_
            refine WO_p (PS_move_int rfl) ?_
            refine WO_p (PS_geq rfl rfl) ?_
            refine WO_p (PS_move_bool rfl) ?_
            refine WO_if (t := 36) rfl (fun hb52 => ?_) (fun hb52 => ?_)
            · have hb52p := hb52.h; try simp only [al_ete, al_dfn, Bool.not_eq_true', Bool.not_eq_false', al_ne, Bool.not_not, al_nn] at hb52p
              refine WO_guardT rfl rfl hb52.h ?_
              refine WO_p (PS_move_int rfl) ?_
              refine WO_guardT rfl rfl hb52.h ?_
              refine WO_p (PS_leq rfl rfl) ?_
              refine WO_p (PS_pickT rfl hb52.h rfl) ?_
              refine WO_p (PS_assign_bool rfl) ?_
              refine WO_nil ?_
              refine thn_normal ?_
              refine W_if rfl (fun hb54 => ?_) (fun hb54 => ?_)
              · have hb54p := hb54.h; try simp only [al_ete, al_dfn, Bool.not_eq_true', Bool.not_eq_false', al_ne, Bool.not_not, al_nn] at hb54p
                refine W_region rfl ?_
                refine WO_p (PS_move_ptr rfl) ?_
                refine WO_call Hvac.call293 (by rfl) (Ret.mono (opLog_ex scanW C c v B m t f o c' S _ (MS.ext hM (by repeat (first | assumption | exact Ext.refl _ | refine Ext.alloc ?_ _ | refine Ext.drew ?_ | refine Ext.setB ?_ (by first | omega | (simp only [size_alloc, size_setB, size_drew]; omega)) _ | exact Ext.trans (by assumption) (by assumption) | refine Ext.trans ?_ (by assumption)))) hop hAd hk (hAd.pos hkn (by omega) (by omega) (by omega)) y rest g (hRl.ext hM (by repeat (first | assumption | exact Ext.refl _ | refine Ext.alloc ?_ _ | refine Ext.drew ?_ | refine Ext.setB ?_ (by first | omega | (simp only [size_alloc, size_setB, size_drew]; omega)) _ | exact Ext.trans (by assumption) (by assumption) | refine Ext.trans ?_ (by assumption)))) (by omega)) ?_)
                rintro _ wZ ⟨vZ, mZ, hRZ, hPZ, hXZ⟩
                rw [← yexec_plain hob (by omega)] at hXZ
                refine WO_nil ?_
                refine inBlk_normal ?_
                first | refine bodyQ_ret0 Hvac.results192 ?_ | refine bodyQ_end0 Hvac.results192 ?_
                exact ⟨vZ, mZ, MRet.pre (by repeat (first | assumption | exact Ext.refl _ | refine Ext.alloc ?_ _ | refine Ext.drew ?_ | refine Ext.setB ?_ (by first | omega | (simp only [size_alloc, size_setB, size_drew]; omega)) _ | refine Ext.trans ?_ (by assumption))) hRZ, hPZ, hXZ⟩
              · have hb54p := hb54.h; try simp only [al_ete, al_dfn, Bool.not_eq_true', Bool.not_eq_false', al_ne, Bool.not_not, al_nn] at hb54p
                (exfalso; omega) --END
            · have hb52p := hb52.h; try simp only [al_ete, al_dfn, Bool.not_eq_true', Bool.not_eq_false', al_ne, Bool.not_not, al_nn] at hb52p
              refine WO_guardF rfl rfl hb52.h ?_
              refine WO_guardF rfl rfl hb52.h ?_
              refine WO_p (PS_pickF rfl hb52.h rfl) ?_
              refine WO_p (PS_assign_bool rfl) ?_
              refine WO_nil ?_
              refine thn_normal ?_
              refine W_condF rfl rfl ?_
              (exfalso; omega) --END
        · have hb47p := hb47.h; try simp only [al_ete, al_dfn, Bool.not_eq_true', Bool.not_eq_false', al_ne, Bool.not_not, al_nn] at hb47p
          refine WO_guardF rfl rfl hb47.h ?_
          refine WO_guardF rfl rfl hb47.h ?_
          refine WO_p (PS_pickF rfl hb47.h rfl) ?_
          refine WO_p (PS_assign_bool rfl) ?_
          refine WO_nil ?_
          refine thn_normal ?_
          refine W_condF rfl rfl ?_
          refine W_seq ?_
          refine W_region rfl ?_
          refine WO_p (PS_move_int rfl) ?_
          refine WO_p (PS_geq rfl rfl) ?_
          refine WO_p (PS_move_bool rfl) ?_
          refine WO_if (t := 36) rfl (fun hb57 => ?_) (fun hb57 => ?_)
          · have hb57p := hb57.h; try simp only [al_ete, al_dfn, Bool.not_eq_true', Bool.not_eq_false', al_ne, Bool.not_not, al_nn] at hb57p
            refine WO_guardT rfl rfl hb57.h ?_
            refine WO_p (PS_move_int rfl) ?_
            refine WO_guardT rfl rfl hb57.h ?_
            refine WO_p (PS_leq rfl rfl) ?_
            refine WO_p (PS_pickT rfl hb57.h rfl) ?_
            refine WO_p (PS_assign_bool rfl) ?_
            refine WO_nil ?_
            refine thn_normal ?_
            refine W_if rfl (fun hb59 => ?_) (fun hb59 => ?_)
            · have hb59p := hb59.h; try simp only [al_ete, al_dfn, Bool.not_eq_true', Bool.not_eq_false', al_ne, Bool.not_not, al_nn] at hb59p
              refine W_region rfl ?_
              refine WO_p (PS_move_ptr rfl) ?_
              refine WO_call Hvac.call293 (by rfl) (Ret.mono (opLog_ex scanW C c v B m t f o c' S _ (MS.ext hM (by repeat (first | assumption | exact Ext.refl _ | refine Ext.alloc ?_ _ | refine Ext.drew ?_ | refine Ext.setB ?_ (by first | omega | (simp only [size_alloc, size_setB, size_drew]; omega)) _ | exact Ext.trans (by assumption) (by assumption) | refine Ext.trans ?_ (by assumption)))) hop hAd hk (hAd.pos hkn (by omega) (by omega) (by omega)) y rest g (hRl.ext hM (by repeat (first | assumption | exact Ext.refl _ | refine Ext.alloc ?_ _ | refine Ext.drew ?_ | refine Ext.setB ?_ (by first | omega | (simp only [size_alloc, size_setB, size_drew]; omega)) _ | exact Ext.trans (by assumption) (by assumption) | refine Ext.trans ?_ (by assumption)))) (by omega)) ?_)
              rintro _ wZ ⟨vZ, mZ, hRZ, hPZ, hXZ⟩
              rw [← yexec_plain hob (by omega)] at hXZ
              refine WO_nil ?_
              refine inBlk_normal ?_
              first | refine bodyQ_ret0 Hvac.results192 ?_ | refine bodyQ_end0 Hvac.results192 ?_
              exact ⟨vZ, mZ, MRet.pre (by repeat (first | assumption | exact Ext.refl _ | refine Ext.alloc ?_ _ | refine Ext.drew ?_ | refine Ext.setB ?_ (by first | omega | (simp only [size_alloc, size_setB, size_drew]; omega)) _ | refine Ext.trans ?_ (by assumption))) hRZ, hPZ, hXZ⟩
            · have hb59p := hb59.h; try simp only [al_ete, al_dfn, Bool.not_eq_true', Bool.not_eq_false', al_ne, Bool.not_not, al_nn] at hb59p
              (exfalso; omega) --END
          · have hb57p := hb57.h; try simp only [al_ete, al_dfn, Bool.not_eq_true', Bool.not_eq_false', al_ne, Bool.not_not, al_nn] at hb57p
            refine WO_guardF rfl rfl hb57.h ?_
            refine WO_guardF rfl rfl hb57.h ?_
            refine WO_p (PS_pickF rfl hb57.h rfl) ?_
            refine WO_p (PS_assign_bool rfl) ?_
            refine WO_nil ?_
            refine thn_normal ?_
            refine W_condF rfl rfl ?_
            (exfalso; omega) --END
    · have hb42p := hb42.h; try simp only [al_ete, al_dfn, Bool.not_eq_true', Bool.not_eq_false', al_ne, Bool.not_not, al_nn] at hb42p
      refine WO_guardF rfl rfl hb42.h ?_
      refine WO_guardF rfl rfl hb42.h ?_
      refine WO_p (PS_pickF rfl hb42.h rfl) ?_
      refine WO_p (PS_assign_bool rfl) ?_
      refine WO_nil ?_
      refine thn_normal ?_
      refine W_condF rfl rfl ?_
      refine W_seq ?_
      refine W_region rfl ?_
      refine WO_p (PS_move_int rfl) ?_
      refine WO_p (PS_geq rfl rfl) ?_
      refine WO_p (PS_move_bool rfl) ?_
      refine WO_if (t := 27) rfl (fun hb62 => ?_) (fun hb62 => ?_)
      · have hb62p := hb62.h; try simp only [al_ete, al_dfn, Bool.not_eq_true', Bool.not_eq_false', al_ne, Bool.not_not, al_nn] at hb62p
        refine WO_guardT rfl rfl hb62.h ?_
        refine WO_p (PS_move_int rfl) ?_
        refine WO_guardT rfl rfl hb62.h ?_
        refine WO_p (PS_leq rfl rfl) ?_
        refine WO_p (PS_pickT rfl hb62.h rfl) ?_
        refine WO_p (PS_assign_bool rfl) ?_
        refine WO_nil ?_
        refine thn_normal ?_
        refine W_if rfl (fun hb64 => ?_) (fun hb64 => ?_)
        · have hb64p := hb64.h; try simp only [al_ete, al_dfn, Bool.not_eq_true', Bool.not_eq_false', al_ne, Bool.not_not, al_nn] at hb64p
          refine W_region rfl ?_
          refine WO_p (PS_move_ptr rfl) ?_
          refine WO_call Hvac.call292 (by rfl) (Ret.mono (opSwap_ex scanW C c v B m t f o c' S _ (MS.ext hM (by repeat (first | assumption | exact Ext.refl _ | refine Ext.alloc ?_ _ | refine Ext.drew ?_ | refine Ext.setB ?_ (by first | omega | (simp only [size_alloc, size_setB, size_drew]; omega)) _ | exact Ext.trans (by assumption) (by assumption) | refine Ext.trans ?_ (by assumption)))) hop hAd hk (hAd.pos hkn (by omega) (by omega) (by omega)) y rest g (hRl.ext hM (by repeat (first | assumption | exact Ext.refl _ | refine Ext.alloc ?_ _ | refine Ext.drew ?_ | refine Ext.setB ?_ (by first | omega | (simp only [size_alloc, size_setB, size_drew]; omega)) _ | exact Ext.trans (by assumption) (by assumption) | refine Ext.trans ?_ (by assumption)))) (by omega)) ?_)
          rintro _ wZ ⟨vZ, mZ, hRZ, hPZ, hXZ⟩
          rw [← yexec_plain hob (by omega)] at hXZ
          refine WO_nil ?_
          refine inBlk_normal ?_
          first | refine bodyQ_ret0 Hvac.results192 ?_ | refine bodyQ_end0 Hvac.results192 ?_
          exact ⟨vZ, mZ, MRet.pre (by repeat (first | assumption | exact Ext.refl _ | refine Ext.alloc ?_ _ | refine Ext.drew ?_ | refine Ext.setB ?_ (by first | omega | (simp only [size_alloc, size_setB, size_drew]; omega)) _ | refine Ext.trans ?_ (by assumption))) hRZ, hPZ, hXZ⟩
        · have hb64p := hb64.h; try simp only [al_ete, al_dfn, Bool.not_eq_true', Bool.not_eq_false', al_ne, Bool.not_not, al_nn] at hb64p
          refine W_seq ?_
          refine W_region rfl ?_
          refine WO_p (PS_move_int rfl) ?_
          refine WO_p (PS_geq rfl rfl) ?_
          refine WO_p (PS_move_bool rfl) ?_
          refine WO_if (t := 36) rfl (fun hb67 => ?_) (fun hb67 => ?_)
          · have hb67p := hb67.h; try simp only [al_ete, al_dfn, Bool.not_eq_true', Bool.not_eq_false', al_ne, Bool.not_not, al_nn] at hb67p
            refine WO_guardT rfl rfl hb67.h ?_
            refine WO_p (PS_move_int rfl) ?_
            refine WO_guardT rfl rfl hb67.h ?_
            refine WO_p (PS_leq rfl rfl) ?_
            refine WO_p (PS_pickT rfl hb67.h rfl) ?_
            refine WO_p (PS_assign_bool rfl) ?_
            refine WO_nil ?_
            refine thn_normal ?_
            refine W_if rfl (fun hb69 => ?_) (fun hb69 => ?_)
            · have hb69p := hb69.h; try simp only [al_ete, al_dfn, Bool.not_eq_true', Bool.not_eq_false', al_ne, Bool.not_not, al_nn] at hb69p
              refine W_region rfl ?_
              refine WO_p (PS_move_ptr rfl) ?_
              refine WO_call Hvac.call293 (by rfl) (Ret.mono (opLog_ex scanW C c v B m t f o c' S _ (MS.ext hM (by repeat (first | assumption | exact Ext.refl _ | refine Ext.alloc ?_ _ | refine Ext.drew ?_ | refine Ext.setB ?_ (by first | omega | (simp only [size_alloc, size_setB, size_drew]; omega)) _ | exact Ext.trans (by assumption) (by assumption) | refine Ext.trans ?_ (by assumption)))) hop hAd hk (hAd.pos hkn (by omega) (by omega) (by omega)) y rest g (hRl.ext hM (by repeat (first | assumption | exact Ext.refl _ | refine Ext.alloc ?_ _ | refine Ext.drew ?_ | refine Ext.setB ?_ (by first | omega | (simp only [size_alloc, size_setB, size_drew]; omega)) _ | exact Ext.trans (by assumption) (by assumption) | refine Ext.trans ?_ (by assumption)))) (by omega)) ?_)
              rintro _ wZ ⟨vZ, mZ, hRZ, hPZ, hXZ⟩
              rw [← yexec_plain hob (by omega)] at hXZ
              refine WO_nil ?_
              refine inBlk_normal ?_
              first | refine bodyQ_ret0 Hvac.results192 ?_ | refine bodyQ_end0 Hvac.results192 ?_
              exact ⟨vZ, mZ, MRet.pre (by repeat (first | assumption | exact Ext.refl _ | refine Ext.alloc ?_ _ | refine Ext.drew ?_ | refine Ext.setB ?_ (by first | omega | (simp only [size_alloc, size_setB, size_drew]; omega)) _ | refine Ext.trans ?_ (by assumption))) hRZ, hPZ, hXZ⟩
            · have hb69p := hb69.h; try simp only [al_ete, al_dfn, Bool.not_eq_true', Bool.not_eq_false', al_ne, Bool.not_not, al_nn] at hb69p
              (exfalso; omega) --END
          · have hb67p := hb67.h; try simp only [al_ete, al_dfn, Bool.not_eq_true', Bool.not_eq_false', al_ne, Bool.not_not, al_nn] at hb67p
            refine WO_guardF rfl rfl hb67.h ?_
            refine WO_guardF rfl rfl hb67.h ?_
            refine WO_p (PS_pickF rfl hb67.h rfl) ?_
            refine WO_p (PS_assign_bool rfl) ?_
            refine WO_nil ?_
            refine thn_normal ?_
            refine W_condF rfl rfl ?_
            (exfalso; omega) --END
      · have hb62p := hb62.h; try simp only [al_ete, al_dfn, Bool.not_eq_true', Bool.not_eq_false', al_ne, Bool.not_not, al_nn] at hb62p
        refine WO_guardF rfl rfl hb62.h ?_
        refine WO_guardF rfl rfl hb62.h ?_
        refine WO_p (PS_pickF rfl hb62.h rfl) ?_
        refine WO_p (PS_assign_bool rfl) ?_
        refine WO_nil ?_
        refine thn_normal ?_
        refine W_condF rfl rfl ?_
        refine W_seq ?_
        refine W_region rfl ?_
        refine WO_p (PS_move_int rfl) ?_
        refine WO_p (PS_geq rfl rfl) ?_
        refine WO_p (PS_move_bool rfl) ?_
        refine WO_if (t := 36) rfl (fun hb72 => ?_) (fun hb72 => ?_)
        · have hb72p := hb72.h; try simp only [al_ete, al_dfn, Bool.not_eq_true', Bool.not_eq_false', al_ne, Bool.not_not, al_nn] at hb72p
          refine WO_guardT rfl rfl hb72.h ?_
          refine WO_p (PS_move_int rfl) ?_
          refine WO_guardT rfl rfl hb72.h ?_
          refine WO_p (PS_leq rfl rfl) ?_
          refine WO_p (PS_pickT rfl hb72.h rfl) ?_
          refine WO_p (PS_assign_bool rfl) ?_
          refine WO_nil ?_
          refine thn_normal ?_
          refine W_if rfl (fun hb74 => ?_) (fun hb74 => ?_)
          · have hb74p := hb74.h; try simp only [al_ete, al_dfn, Bool.not_eq_true', Bool.not_eq_false', al_ne, Bool.not_not, al_nn] at hb74p
            refine W_region rfl ?_
            refine WO_p (PS_move_ptr rfl) ?_
            refine WO_call Hvac.call293 (by rfl) (Ret.mono (opLog_ex scanW C c v B m t f o c' S _ (MS.ext hM (by repeat (first | assumption | exact Ext.refl _ | refine Ext.alloc ?_ _ | refine Ext.drew ?_ | refine Ext.setB ?_ (by first | omega | (simp only [size_alloc, size_setB, size_drew]; omega)) _ | exact Ext.trans (by assumption) (by assumption) | refine Ext.trans ?_ (by assumption)))) hop hAd hk (hAd.pos hkn (by omega) (by omega) (by omega)) y rest g (hRl.ext hM (by repeat (first | assumption | exact Ext.refl _ | refine Ext.alloc ?_ _ | refine Ext.drew ?_ | refine Ext.setB ?_ (by first | omega | (simp only [size_alloc, size_setB, size_drew]; omega)) _ | exact Ext.trans (by assumption) (by assumption) | refine Ext.trans ?_ (by assumption)))) (by omega)) ?_)
            rintro _ wZ ⟨vZ, mZ, hRZ, hPZ, hXZ⟩
            rw [← yexec_plain hob (by omega)] at hXZ
            refine WO_nil ?_
            refine inBlk_normal ?_
            first | refine bodyQ_ret0 Hvac.results192 ?_ | refine bodyQ_end0 Hvac.results192 ?_
            exact ⟨vZ, mZ, MRet.pre (by repeat (first | assumption | exact Ext.refl _ | refine Ext.alloc ?_ _ | refine Ext.drew ?_ | refine Ext.setB ?_ (by first | omega | (simp only [size_alloc, size_setB, size_drew]; omega)) _ | refine Ext.trans ?_ (by assumption))) hRZ, hPZ, hXZ⟩
          · have hb74p := hb74.h; try simp only [al_ete, al_dfn, Bool.not_eq_true', Bool.not_eq_false', al_ne, Bool.not_not, al_nn] at hb74p
            (exfalso; omega) --END
        · have hb72p := hb72.h; try simp only [al_ete, al_dfn, Bool.not_eq_true', Bool.not_eq_false', al_ne, Bool.not_not, al_nn] at hb72p
          refine WO_guardF rfl rfl hb72.h ?_
          refine WO_guardF rfl rfl hb72.h ?_
          refine WO_p (PS_pickF rfl hb72.h rfl) ?_
          refine WO_p (PS_assign_bool rfl) ?_
          refine WO_nil ?_
          refine thn_normal ?_
          refine W_condF rfl rfl ?_
          (exfalso; omega) --END

set_option maxRecDepth 10000 in
set_option maxHeartbeats 8000000 in
theorem exec_ex [Om] (C : Nat) (c : Array Value) (v : V) (B : VB) (m : Mc) (t : Nat) (f : Fm) (o c' S : Int) (w : World) (hM : MS w C c v B m) (hop : Mc.opc f = o) (hAd : Adm scanW v m t f o (infoW o).2.2.1 c' S) (hk : (infoW o).1 ≤ f.sp ∧ f.sp - (infoW o).1 + (infoW o).2.1 ≤ 64) (hkn : (infoW o).2.2.2 = true) (hob : 0 ≤ o ∧ o ≤ 255) (y : PSt) (rest : List PF) (g : PF) (hRl : Rel w v m (y, rest ++ [g])) : Ret Hvac.prog 107 #[.pointer (some ⟨C, 0, none⟩), .int .u8 o] w fun _ w' => ∃ v' m', MRet w C B m w' v' m' ∧ OpP scanW m t c' S v' m' ∧ Rel w' v' m' (yexec khash y rest g o) := by
  have hkk := info_known o hkn
  refine Ret_of_W Hvac.func107 rfl rfl ?_
  refine W_seq ?_
  refine W_region rfl ?_
  refine WO_p (PS_move_int rfl) ?_
  refine WO_nil ?_
  refine thn_normal ?_
  refine W_block ?_
  refine W_seq ?_
  refine W_seq ?_
  refine W_region rfl ?_
  refine WO_p (PS_eql rfl rfl) ?_
  refine WO_p (PS_assign_bool rfl) ?_
  refine WO_nil ?_
  refine thn_normal ?_
  refine W_if rfl (fun hb2 => ?_) (fun hb2 => ?_)
  · have hb2p := hb2.h; try simp only [al_ete, al_dfn, Bool.not_eq_true', Bool.not_eq_false', al_ne, Bool.not_not, al_nn] at hb2p
    refine W_skip ?_
    refine thn_normal ?_
    refine W_condT rfl hb2.h ?_
    refine W_region rfl ?_
    refine WO_p (PS_move_ptr rfl) ?_
    refine WO_call Hvac.call175 (by rfl) (Ret.mono (opArith_ex scanW C c v B m t f o c' S _ (MS.ext hM (by repeat (first | assumption | exact Ext.refl _ | refine Ext.alloc ?_ _ | refine Ext.drew ?_ | refine Ext.setB ?_ (by first | omega | (simp only [size_alloc, size_setB, size_drew]; omega)) _ | exact Ext.trans (by assumption) (by assumption) | refine Ext.trans ?_ (by assumption)))) hop hAd hk (hAd.pos hkn (by omega) (by omega) (by omega)) y rest g (hRl.ext hM (by repeat (first | assumption | exact Ext.refl _ | refine Ext.alloc ?_ _ | refine Ext.drew ?_ | refine Ext.setB ?_ (by first | omega | (simp only [size_alloc, size_setB, size_drew]; omega)) _ | exact Ext.trans (by assumption) (by assumption) | refine Ext.trans ?_ (by assumption)))) (by omega)) ?_)
    rintro _ wZ ⟨vZ, mZ, hRZ, hPZ, hXZ⟩
    rw [← yexec_plain hob (by omega)] at hXZ
    refine WO_nil ?_
    refine inBlk_normal ?_
    first | refine bodyQ_ret0 Hvac.results107 ?_ | refine bodyQ_end0 Hvac.results107 ?_
    exact ⟨vZ, mZ, MRet.pre (by repeat (first | assumption | exact Ext.refl _ | refine Ext.alloc ?_ _ | refine Ext.drew ?_ | refine Ext.setB ?_ (by first | omega | (simp only [size_alloc, size_setB, size_drew]; omega)) _ | refine Ext.trans ?_ (by assumption))) hRZ, hPZ, hXZ⟩
  · have hb2p := hb2.h; try simp only [al_ete, al_dfn, Bool.not_eq_true', Bool.not_eq_false', al_ne, Bool.not_not, al_nn] at hb2p
    refine W_seq ?_
    refine W_region rfl ?_
    refine WO_p (PS_eql rfl rfl) ?_
    refine WO_p (PS_assign_bool rfl) ?_
    refine WO_nil ?_
    refine thn_normal ?_
    refine W_if rfl (fun hb5 => ?_) (fun hb5 => ?_)
    · have hb5p := hb5.h; try simp only [al_ete, al_dfn, Bool.not_eq_true', Bool.not_eq_false', al_ne, Bool.not_not, al_nn] at hb5p
      refine W_skip ?_
      refine thn_normal ?_
      refine W_condT rfl hb5.h ?_
      refine W_region rfl ?_
      refine WO_p (PS_move_ptr rfl) ?_
      refine WO_call Hvac.call175 (by rfl) (Ret.mono (opArith_ex scanW C c v B m t f o c' S _ (MS.ext hM (by repeat (first | assumption | exact Ext.refl _ | refine Ext.alloc ?_ _ | refine Ext.drew ?_ | refine Ext.setB ?_ (by first | omega | (simp only [size_alloc, size_setB, size_drew]; omega)) _ | exact Ext.trans (by assumption) (by assumption) | refine Ext.trans ?_ (by assumption)))) hop hAd hk (hAd.pos hkn (by omega) (by omega) (by omega)) y rest g (hRl.ext hM (by repeat (first | assumption | exact Ext.refl _ | refine Ext.alloc ?_ _ | refine Ext.drew ?_ | refine Ext.setB ?_ (by first | omega | (simp only [size_alloc, size_setB, size_drew]; omega)) _ | exact Ext.trans (by assumption) (by assumption) | refine Ext.trans ?_ (by assumption)))) (by omega)) ?_)
      rintro _ wZ ⟨vZ, mZ, hRZ, hPZ, hXZ⟩
      rw [← yexec_plain hob (by omega)] at hXZ
      refine WO_nil ?_
      refine inBlk_normal ?_
      first | refine bodyQ_ret0 Hvac.results107 ?_ | refine bodyQ_end0 Hvac.results107 ?_
      exact ⟨vZ, mZ, MRet.pre (by repeat (first | assumption | exact Ext.refl _ | refine Ext.alloc ?_ _ | refine Ext.drew ?_ | refine Ext.setB ?_ (by first | omega | (simp only [size_alloc, size_setB, size_drew]; omega)) _ | refine Ext.trans ?_ (by assumption))) hRZ, hPZ, hXZ⟩
    · have hb5p := hb5.h; try simp only [al_ete, al_dfn, Bool.not_eq_true', Bool.not_eq_false', al_ne, Bool.not_not, al_nn] at hb5p
      refine W_seq ?_
      refine W_region rfl ?_
      refine WO_p (PS_eql rfl rfl) ?_
      refine WO_p (PS_assign_bool rfl) ?_
      refine WO_nil ?_
      refine thn_normal ?_
      refine W_if rfl (fun hb8 => ?_) (fun hb8 => ?_)
      · have hb8p := hb8.h; try simp only [al_ete, al_dfn, Bool.not_eq_true', Bool.not_eq_false', al_ne, Bool.not_not, al_nn] at hb8p
        refine W_skip ?_
        refine thn_normal ?_
        refine W_condT rfl hb8.h ?_
        refine W_region rfl ?_
        refine WO_p (PS_move_ptr rfl) ?_
        refine WO_call Hvac.call175 (by rfl) (Ret.mono (opArith_ex scanW C c v B m t f o c' S _ (MS.ext hM (by repeat (first | assumption | exact Ext.refl _ | refine Ext.alloc ?_ _ | refine Ext.drew ?_ | refine Ext.setB ?_ (by first | omega | (simp only [size_alloc, size_setB, size_drew]; omega)) _ | exact Ext.trans (by assumption) (by assumption) | refine Ext.trans ?_ (by assumption)))) hop hAd hk (hAd.pos hkn (by omega) (by omega) (by omega)) y rest g (hRl.ext hM (by repeat (first | assumption | exact Ext.refl _ | refine Ext.alloc ?_ _ | refine Ext.drew ?_ | refine Ext.setB ?_ (by first | omega | (simp only [size_alloc, size_setB, size_drew]; omega)) _ | exact Ext.trans (by assumption) (by assumption) | refine Ext.trans ?_ (by assumption)))) (by omega)) ?_)
        rintro _ wZ ⟨vZ, mZ, hRZ, hPZ, hXZ⟩
        rw [← yexec_plain hob (by omega)] at hXZ
        refine WO_nil ?_
        refine inBlk_normal ?_
        first | refine bodyQ_ret0 Hvac.results107 ?_ | refine bodyQ_end0 Hvac.results107 ?_
        exact ⟨vZ, mZ, MRet.pre (by repeat (first | assumption | exact Ext.refl _ | refine Ext.alloc ?_ _ | refine Ext.drew ?_ | refine Ext.setB ?_ (by first | omega | (simp only [size_alloc, size_setB, size_drew]; omega)) _ | refine Ext.trans ?_ (by assumption))) hRZ, hPZ, hXZ⟩
      · have hb8p := hb8.h; try simp only [al_ete, al_dfn, Bool.not_eq_true', Bool.not_eq_false', al_ne, Bool.not_not, al_nn] at hb8p
        refine W_seq ?_
        refine W_region rfl ?_
        refine WO_p (PS_eql rfl rfl) ?_
        refine WO_p (PS_assign_bool rfl) ?_
        refine WO_nil ?_
        refine thn_normal ?_
        refine W_if rfl (fun hb11 => ?_) (fun hb11 => ?_)
        · have hb11p := hb11.h; try simp only [al_ete, al_dfn, Bool.not_eq_true', Bool.not_eq_false', al_ne, Bool.not_not, al_nn] at hb11p
          refine W_skip ?_
          refine thn_normal ?_
          refine W_condT rfl hb11.h ?_
          refine W_region rfl ?_
          refine WO_p (PS_move_ptr rfl) ?_
          refine WO_call Hvac.call175 (by rfl) (Ret.mono (opArith_ex scanW C c v B m t f o c' S _ (MS.ext hM (by repeat (first | assumption | exact Ext.refl _ | refine Ext.alloc ?_ _ | refine Ext.drew ?_ | refine Ext.setB ?_ (by first | omega | (simp only [size_alloc, size_setB, size_drew]; omega)) _ | exact Ext.trans (by assumption) (by assumption) | refine Ext.trans ?_ (by assumption)))) hop hAd hk (hAd.pos hkn (by omega) (by omega) (by omega)) y rest g (hRl.ext hM (by repeat (first | assumption | exact Ext.refl _ | refine Ext.alloc ?_ _ | refine Ext.drew ?_ | refine Ext.setB ?_ (by first | omega | (simp only [size_alloc, size_setB, size_drew]; omega)) _ | exact Ext.trans (by assumption) (by assumption) | refine Ext.trans ?_ (by assumption)))) (by omega)) ?_)
          rintro _ wZ ⟨vZ, mZ, hRZ, hPZ, hXZ⟩
          rw [← yexec_plain hob (by omega)] at hXZ
          refine WO_nil ?_
          refine inBlk_normal ?_
          first | refine bodyQ_ret0 Hvac.results107 ?_ | refine bodyQ_end0 Hvac.results107 ?_
          exact ⟨vZ, mZ, MRet.pre (by repeat (first | assumption | exact Ext.refl _ | refine Ext.alloc ?_ _ | refine Ext.drew ?_ | refine Ext.setB ?_ (by first | omega | (simp only [size_alloc, size_setB, size_drew]; omega)) _ | refine Ext.trans ?_ (by assumption))) hRZ, hPZ, hXZ⟩
        · have hb11p := hb11.h; try simp only [al_ete, al_dfn, Bool.not_eq_true', Bool.not_eq_false', al_ne, Bool.not_not, al_nn] at hb11p
          refine W_seq ?_
          refine W_region rfl ?_
          refine WO_p (PS_eql rfl rfl) ?_
          refine WO_p (PS_assign_bool rfl) ?_
          refine WO_nil ?_
          refine thn_normal ?_
          refine W_if rfl (fun hb14 => ?_) (fun hb14 => ?_)
          · have hb14p := hb14.h; try simp only [al_ete, al_dfn, Bool.not_eq_true', Bool.not_eq_false', al_ne, Bool.not_not, al_nn] at hb14p
            refine W_skip ?_
            refine thn_normal ?_
            refine W_condT rfl hb14.h ?_
            refine W_region rfl ?_
            refine WO_p (PS_move_ptr rfl) ?_
            refine WO_call Hvac.call175 (by rfl) (Ret.mono (opArith_ex scanW C c v B m t f o c' S _ (MS.ext hM (by repeat (first | assumption | exact Ext.refl _ | refine Ext.alloc ?_ _ | refine Ext.drew ?_ | refine Ext.setB ?_ (by first | omega | (simp only [size_alloc, size_setB, size_drew]; omega)) _ | exact Ext.trans (by assumption) (by assumption) | refine Ext.trans ?_ (by assumption)))) hop hAd hk (hAd.pos hkn (by omega) (by omega) (by omega)) y rest g (hRl.ext hM (by repeat (first | assumption | exact Ext.refl _ | refine Ext.alloc ?_ _ | refine Ext.drew ?_ | refine Ext.setB ?_ (by first | omega | (simp only [size_alloc, size_setB, size_drew]; omega)) _ | exact Ext.trans (by assumption) (by assumption) | refine Ext.trans ?_ (by assumption)))) (by omega)) ?_)
            rintro _ wZ ⟨vZ, mZ, hRZ, hPZ, hXZ⟩
            rw [← yexec_plain hob (by omega)] at hXZ
            refine WO_nil ?_
            refine inBlk_normal ?_
            first | refine bodyQ_ret0 Hvac.results107 ?_ | refine bodyQ_end0 Hvac.results107 ?_
            exact ⟨vZ, mZ, MRet.pre (by repeat (first | assumption | exact Ext.refl _ | refine Ext.alloc ?_ _ | refine Ext.drew ?_ | refine Ext.setB ?_ (by first | omega | (simp only [size_alloc, size_setB, size_drew]; omega)) _ | refine Ext.trans ?_ (by assumption))) hRZ, hPZ, hXZ⟩
          · have hb14p := hb14.h; try simp only [al_ete, al_dfn, Bool.not_eq_true', Bool.not_eq_false', al_ne, Bool.not_not, al_nn] at hb14p
            refine W_seq ?_
            refine W_region rfl ?_
            refine WO_p (PS_eql rfl rfl) ?_
            refine WO_p (PS_assign_bool rfl) ?_
            refine WO_nil ?_
            refine thn_normal ?_
            refine W_if rfl (fun hb17 => ?_) (fun hb17 => ?_)
            · have hb17p := hb17.h; try simp only [al_ete, al_dfn, Bool.not_eq_true', Bool.not_eq_false', al_ne, Bool.not_not, al_nn] at hb17p
              refine W_skip ?_
              refine thn_normal ?_
              refine W_condT rfl hb17.h ?_
              refine W_region rfl ?_
              refine WO_p (PS_move_ptr rfl) ?_
              refine WO_call Hvac.call175 (by rfl) (Ret.mono (opArith_ex scanW C c v B m t f o c' S _ (MS.ext hM (by repeat (first | assumption | exact Ext.refl _ | refine Ext.alloc ?_ _ | refine Ext.drew ?_ | refine Ext.setB ?_ (by first | omega | (simp only [size_alloc, size_setB, size_drew]; omega)) _ | exact Ext.trans (by assumption) (by assumption) | refine Ext.trans ?_ (by assumption)))) hop hAd hk (hAd.pos hkn (by omega) (by omega) (by omega)) y rest g (hRl.ext hM (by repeat (first | assumption | exact Ext.refl _ | refine Ext.alloc ?_ _ | refine Ext.drew ?_ | refine Ext.setB ?_ (by first | omega | (simp only [size_alloc, size_setB, size_drew]; omega)) _ | exact Ext.trans (by assumption) (by assumption) | refine Ext.trans ?_ (by assumption)))) (by omega)) ?_)
              rintro _ wZ ⟨vZ, mZ, hRZ, hPZ, hXZ⟩
              rw [← yexec_plain hob (by omega)] at hXZ
              refine WO_nil ?_
              refine inBlk_normal ?_
              first | refine bodyQ_ret0 Hvac.results107 ?_ | refine bodyQ_end0 Hvac.results107 ?_
              exact ⟨vZ, mZ, MRet.pre (by repeat (first | assumption | exact Ext.refl _ | refine Ext.alloc ?_ _ | refine Ext.drew ?_ | refine Ext.setB ?_ (by first | omega | (simp only [size_alloc, size_setB, size_drew]; omega)) _ | refine Ext.trans ?_ (by assumption))) hRZ, hPZ, hXZ⟩
            · have hb17p := hb17.h; try simp only [al_ete, al_dfn, Bool.not_eq_true', Bool.not_eq_false', al_ne, Bool.not_not, al_nn] at hb17p
              refine W_seq ?_
              refine W_region rfl ?_
              refine WO_p (PS_eql rfl rfl) ?_
              refine WO_p (PS_assign_bool rfl) ?_
              refine WO_nil ?_
              refine thn_normal ?_
              refine W_if rfl (fun hb20 => ?_) (fun hb20 => ?_)
              · have hb20p := hb20.h; try simp only [al_ete, al_dfn, Bool.not_eq_true', Bool.not_eq_false', al_ne, Bool.not_not, al_nn] at hb20p
                refine W_skip ?_
                refine thn_normal ?_
                refine W_condT rfl hb20.h ?_
                refine W_region rfl ?_
                refine WO_p (PS_move_ptr rfl) ?_
                refine WO_call Hvac.call175 (by rfl) (Ret.mono (opArith_ex scanW C c v B m t f o c' S _ (MS.ext hM (by repeat (first | assumption | exact Ext.refl _ | refine Ext.alloc ?_ _ | refine Ext.drew ?_ | refine Ext.setB ?_ (by first | omega | (simp only [size_alloc, size_setB, size_drew]; omega)) _ | exact Ext.trans (by assumption) (by assumption) | refine Ext.trans ?_ (by assumption)))) hop hAd hk (hAd.pos hkn (by omega) (by omega) (by omega)) y rest g (hRl.ext hM (by repeat (first | assumption | exact Ext.refl _ | refine Ext.alloc ?_ _ | refine Ext.drew ?_ | refine Ext.setB ?_ (by first | omega | (simp only [size_alloc, size_setB, size_drew]; omega)) _ | exact Ext.trans (by assumption) (by assumption) | refine Ext.trans ?_ (by assumption)))) (by omega)) ?_)
                rintro _ wZ ⟨vZ, mZ, hRZ, hPZ, hXZ⟩
                rw [← yexec_plain hob (by omega)] at hXZ
                refine WO_nil ?_
                refine inBlk_normal ?_
                first | refine bodyQ_ret0 Hvac.results107 ?_ | refine bodyQ_end0 Hvac.results107 ?_
                exact ⟨vZ, mZ, MRet.pre (by repeat (first | assumption | exact Ext.refl _ | refine Ext.alloc ?_ _ | refine Ext.drew ?_ | refine Ext.setB ?_ (by first | omega | (simp only [size_alloc, size_setB, size_drew]; omega)) _ | refine Ext.trans ?_ (by assumption))) hRZ, hPZ, hXZ⟩
              · have hb20p := hb20.h; try simp only [al_ete, al_dfn, Bool.not_eq_true', Bool.not_eq_false', al_ne, Bool.not_not, al_nn] at hb20p
                refine W_seq ?_
                refine W_region rfl ?_
                refine WO_p (PS_eql rfl rfl) ?_
                refine WO_p (PS_assign_bool rfl) ?_
                refine WO_nil ?_
                refine thn_normal ?_
                refine W_if rfl (fun hb23 => ?_) (fun hb23 => ?_)
                · have hb23p := hb23.h; try simp only [al_ete, al_dfn, Bool.not_eq_true', Bool.not_eq_false', al_ne, Bool.not_not, al_nn] at hb23p
                  refine W_skip ?_
                  refine thn_normal ?_
                  refine W_condT rfl hb23.h ?_
                  refine W_region rfl ?_
                  refine WO_p (PS_move_ptr rfl) ?_
                  refine WO_call Hvac.call175 (by rfl) (Ret.mono (opArith_ex scanW C c v B m t f o c' S _ (MS.ext hM (by repeat (first | assumption | exact Ext.refl _ | refine Ext.alloc ?_ _ | refine Ext.drew ?_ | refine Ext.setB ?_ (by first | omega | (simp only [size_alloc, size_setB, size_drew]; omega)) _ | exact Ext.trans (by assumption) (by assumption) | refine Ext.trans ?_ (by assumption)))) hop hAd hk (hAd.pos hkn (by omega) (by omega) (by omega)) y rest g (hRl.ext hM (by repeat (first | assumption | exact Ext.refl _ | refine Ext.alloc ?_ _ | refine Ext.drew ?_ | refine Ext.setB ?_ (by first | omega | (simp only [size_alloc, size_setB, size_drew]; omega)) _ | exact Ext.trans (by assumption) (by assumption) | refine Ext.trans ?_ (by assumption)))) (by omega)) ?_)
                  rintro _ wZ ⟨vZ, mZ, hRZ, hPZ, hXZ⟩
                  rw [← yexec_plain hob (by omega)] at hXZ
                  refine WO_nil ?_
                  refine inBlk_normal ?_
                  first | refine bodyQ_ret0 Hvac.results107 ?_ | refine bodyQ_end0 Hvac.results107 ?_
                  exact ⟨vZ, mZ, MRet.pre (by repeat (first | assumption | exact Ext.refl _ | refine Ext.alloc ?_ _ | refine Ext.drew ?_ | refine Ext.setB ?_ (by first | omega | (simp only [size_alloc, size_setB, size_drew]; omega)) _ | refine Ext.trans ?_ (by assumption))) hRZ, hPZ, hXZ⟩
                · have hb23p := hb23.h; try simp only [al_ete, al_dfn, Bool.not_eq_true', Bool.not_eq_false', al_ne, Bool.not_not, al_nn] at hb23p
                  refine W_seq ?_
                  refine W_region rfl ?_
                  refine WO_p (PS_eql rfl rfl) ?_
                  refine WO_p (PS_assign_bool rfl) ?_
                  refine WO_nil ?_
                  refine thn_normal ?_
                  refine W_if rfl (fun hb26 => ?_) (fun hb26 => ?_)
                  · have hb26p := hb26.h; try simp only [al_ete, al_dfn, Bool.not_eq_true', Bool.not_eq_false', al_ne, Bool.not_not, al_nn] at hb26p
                    refine W_skip ?_
                    refine thn_normal ?_
                    refine W_condT rfl hb26.h ?_
                    refine W_region rfl ?_
                    refine WO_p (PS_move_ptr rfl) ?_
                    refine WO_call Hvac.call175 (by rfl) (Ret.mono (opArith_ex scanW C c v B m t f o c' S _ (MS.ext hM (by repeat (first | assumption | exact Ext.refl _ | refine Ext.alloc ?_ _ | refine Ext.drew ?_ | refine Ext.setB ?_ (by first | omega | (simp only [size_alloc, size_setB, size_drew]; omega)) _ | exact Ext.trans (by assumption) (by assumption) | refine Ext.trans ?_ (by assumption)))) hop hAd hk (hAd.pos hkn (by omega) (by omega) (by omega)) y rest g (hRl.ext hM (by repeat (first | assumption | exact Ext.refl _ | refine Ext.alloc ?_ _ | refine Ext.drew ?_ | refine Ext.setB ?_ (by first | omega | (simp only [size_alloc, size_setB, size_drew]; omega)) _ | exact Ext.trans (by assumption) (by assumption) | refine Ext.trans ?_ (by assumption)))) (by omega)) ?_)
                    rintro _ wZ ⟨vZ, mZ, hRZ, hPZ, hXZ⟩
                    rw [← yexec_plain hob (by omega)] at hXZ
                    refine WO_nil ?_
                    refine inBlk_normal ?_
                    first | refine bodyQ_ret0 Hvac.results107 ?_ | refine bodyQ_end0 Hvac.results107 ?_
                    exact ⟨vZ, mZ, MRet.pre (by repeat (first | assumption | exact Ext.refl _ | refine Ext.alloc ?_ _ | refine Ext.drew ?_ | refine Ext.setB ?_ (by first | omega | (simp only [size_alloc, size_setB, size_drew]; omega)) _ | refine Ext.trans ?_ (by assumption))) hRZ, hPZ, hXZ⟩
                  · have hb26p := hb26.h; try simp only [al_ete, al_dfn, Bool.not_eq_true', Bool.not_eq_false', al_ne, Bool.not_not, al_nn] at hb26p
                    refine W_seq ?_
                    refine W_region rfl ?_
                    refine WO_p (PS_eql rfl rfl) ?_
                    refine WO_p (PS_assign_bool rfl) ?_
                    refine WO_nil ?_
                    refine thn_normal ?_
                    refine W_if rfl (fun hb29 => ?_) (fun hb29 => ?_)
                    · have hb29p := hb29.h; try simp only [al_ete, al_dfn, Bool.not_eq_true', Bool.not_eq_false', al_ne, Bool.not_not, al_nn] at hb29p
                      refine W_skip ?_
                      refine thn_normal ?_
                      refine W_condT rfl hb29.h ?_
                      refine W_region rfl ?_
                      refine WO_p (PS_move_ptr rfl) ?_
                      refine WO_call Hvac.call175 (by rfl) (Ret.mono (opArith_ex scanW C c v B m t f o c' S _ (MS.ext hM (by repeat (first | assumption | exact Ext.refl _ | refine Ext.alloc ?_ _ | refine Ext.drew ?_ | refine Ext.setB ?_ (by first | omega | (simp only [size_alloc, size_setB, size_drew]; omega)) _ | exact Ext.trans (by assumption) (by assumption) | refine Ext.trans ?_ (by assumption)))) hop hAd hk (hAd.pos hkn (by omega) (by omega) (by omega)) y rest g (hRl.ext hM (by repeat (first | assumption | exact Ext.refl _ | refine Ext.alloc ?_ _ | refine Ext.drew ?_ | refine Ext.setB ?_ (by first | omega | (simp only [size_alloc, size_setB, size_drew]; omega)) _ | exact Ext.trans (by assumption) (by assumption) | refine Ext.trans ?_ (by assumption)))) (by omega)) ?_)
                      rintro _ wZ ⟨vZ, mZ, hRZ, hPZ, hXZ⟩
                      rw [← yexec_plain hob (by omega)] at hXZ
                      refine WO_nil ?_
                      refine inBlk_normal ?_
                      first | refine bodyQ_ret0 Hvac.results107 ?_ | refine bodyQ_end0 Hvac.results107 ?_
                      exact ⟨vZ, mZ, MRet.pre (by repeat (first | assumption | exact Ext.refl _ | refine Ext.alloc ?_ _ | refine Ext.drew ?_ | refine Ext.setB ?_ (by first | omega | (simp only [size_alloc, size_setB, size_drew]; omega)) _ | refine Ext.trans ?_ (by assumption))) hRZ, hPZ, hXZ⟩
                    · have hb29p := hb29.h; try simp only [al_ete, al_dfn, Bool.not_eq_true', Bool.not_eq_false', al_ne, Bool.not_not, al_nn] at hb29p
                      refine W_region rfl ?_
                      refine WO_p (PS_eql rfl rfl) ?_
                      refine WO_p (PS_assign_bool rfl) ?_
                      refine WO_nil ?_
                      refine thn_normal ?_
                      refine W_if rfl (fun hb32 => ?_) (fun hb32 => ?_)
                      · have hb32p := hb32.h; try simp only [al_ete, al_dfn, Bool.not_eq_true', Bool.not_eq_false', al_ne, Bool.not_not, al_nn] at hb32p
                        refine W_region rfl ?_
                        refine WO_p (PS_move_ptr rfl) ?_
                        refine WO_call Hvac.call175 (by rfl) (Ret.mono (opArith_ex scanW C c v B m t f o c' S _ (MS.ext hM (by repeat (first | assumption | exact Ext.refl _ | refine Ext.alloc ?_ _ | refine Ext.drew ?_ | refine Ext.setB ?_ (by first | omega | (simp only [size_alloc, size_setB, size_drew]; omega)) _ | exact Ext.trans (by assumption) (by assumption) | refine Ext.trans ?_ (by assumption)))) hop hAd hk (hAd.pos hkn (by omega) (by omega) (by omega)) y rest g (hRl.ext hM (by repeat (first | assumption | exact Ext.refl _ | refine Ext.alloc ?_ _ | refine Ext.drew ?_ | refine Ext.setB ?_ (by first | omega | (simp only [size_alloc, size_setB, size_drew]; omega)) _ | exact Ext.trans (by assumption) (by assumption) | refine Ext.trans ?_ (by assumption)))) (by omega)) ?_)
                        rintro _ wZ ⟨vZ, mZ, hRZ, hPZ, hXZ⟩
                        rw [← yexec_plain hob (by omega)] at hXZ
                        refine WO_nil ?_
                        refine inBlk_normal ?_
                        first | refine bodyQ_ret0 Hvac.results107 ?_ | refine bodyQ_end0 Hvac.results107 ?_
                        exact ⟨vZ, mZ, MRet.pre (by repeat (first | assumption | exact Ext.refl _ | refine Ext.alloc ?_ _ | refine Ext.drew ?_ | refine Ext.setB ?_ (by first | omega | (simp only [size_alloc, size_setB, size_drew]; omega)) _ | refine Ext.trans ?_ (by assumption))) hRZ, hPZ, hXZ⟩
                      · have hb32p := hb32.h; try simp only [al_ete, al_dfn, Bool.not_eq_true', Bool.not_eq_false', al_ne, Bool.not_not, al_nn] at hb32p
                        refine W_seq ?_
                        refine W_seq ?_
                        refine W_region rfl ?_
                        refine WO_p (PS_eql rfl rfl) ?_
                        refine WO_p (PS_assign_bool rfl) ?_
                        refine WO_nil ?_
                        refine thn_normal ?_
                        refine W_if rfl (fun hb35 => ?_) (fun hb35 => ?_)
                        · have hb35p := hb35.h; try simp only [al_ete, al_dfn, Bool.not_eq_true', Bool.not_eq_false', al_ne, Bool.not_not, al_nn] at hb35p
                          refine W_skip ?_
                          refine thn_normal ?_
                          refine W_condT rfl hb35.h ?_
                          refine W_region rfl ?_
                          refine WO_p (PS_move_ptr rfl) ?_
                          refine WO_call Hvac.call176 (by rfl) (Ret.mono (opCompare_ex scanW C c v B m t f o c' S _ (MS.ext hM (by repeat (first | assumption | exact Ext.refl _ | refine Ext.alloc ?_ _ | refine Ext.drew ?_ | refine Ext.setB ?_ (by first | omega | (simp only [size_alloc, size_setB, size_drew]; omega)) _ | exact Ext.trans (by assumption) (by assumption) | refine Ext.trans ?_ (by assumption)))) hop hAd hk (hAd.pos hkn (by omega) (by omega) (by omega)) y rest g (hRl.ext hM (by repeat (first | assumption | exact Ext.refl _ | refine Ext.alloc ?_ _ | refine Ext.drew ?_ | refine Ext.setB ?_ (by first | omega | (simp only [size_alloc, size_setB, size_drew]; omega)) _ | exact Ext.trans (by assumption) (by assumption) | refine Ext.trans ?_ (by assumption)))) (by omega)) ?_)
                          rintro _ wZ ⟨vZ, mZ, hRZ, hPZ, hXZ⟩
                          rw [← yexec_plain hob (by omega)] at hXZ
                          refine WO_nil ?_
                          refine inBlk_normal ?_
                          first | refine bodyQ_ret0 Hvac.results107 ?_ | refine bodyQ_end0 Hvac.results107 ?_
                          exact ⟨vZ, mZ, MRet.pre (by repeat (first | assumption | exact Ext.refl _ | refine Ext.alloc ?_ _ | refine Ext.drew ?_ | refine Ext.setB ?_ (by first | omega | (simp only [size_alloc, size_setB, size_drew]; omega)) _ | refine Ext.trans ?_ (by assumption))) hRZ, hPZ, hXZ⟩
                        · have hb35p := hb35.h; try simp only [al_ete, al_dfn, Bool.not_eq_true', Bool.not_eq_false', al_ne, Bool.not_not, al_nn] at hb35p
                          refine W_seq ?_
                          refine W_region rfl ?_
                          refine WO_p (PS_eql rfl rfl) ?_
                          refine WO_p (PS_assign_bool rfl) ?_
                          refine WO_nil ?_
                          refine thn_normal ?_
                          refine W_if rfl (fun hb38 => ?_) (fun hb38 => ?_)
                          · have hb38p := hb38.h; try simp only [al_ete, al_dfn, Bool.not_eq_true', Bool.not_eq_false', al_ne, Bool.not_not, al_nn] at hb38p
                            refine W_skip ?_
                            refine thn_normal ?_
                            refine W_condT rfl hb38.h ?_
                            refine W_region rfl ?_
                            refine WO_p (PS_move_ptr rfl) ?_
                            refine WO_call Hvac.call176 (by rfl) (Ret.mono (opCompare_ex scanW C c v B m t f o c' S _ (MS.ext hM (by repeat (first | assumption | exact Ext.refl _ | refine Ext.alloc ?_ _ | refine Ext.drew ?_ | refine Ext.setB ?_ (by first | omega | (simp only [size_alloc, size_setB, size_drew]; omega)) _ | exact Ext.trans (by assumption) (by assumption) | refine Ext.trans ?_ (by assumption)))) hop hAd hk (hAd.pos hkn (by omega) (by omega) (by omega)) y rest g (hRl.ext hM (by repeat (first | assumption | exact Ext.refl _ | refine Ext.alloc ?_ _ | refine Ext.drew ?_ | refine Ext.setB ?_ (by first | omega | (simp only [size_alloc, size_setB, size_drew]; omega)) _ | exact Ext.trans (by assumption) (by assumption) | refine Ext.trans ?_ (by assumption)))) (by omega)) ?_)
                            rintro _ wZ ⟨vZ, mZ, hRZ, hPZ, hXZ⟩
                            rw [← yexec_plain hob (by omega)] at hXZ
                            refine WO_nil ?_
                            refine inBlk_normal ?_
                            first | refine bodyQ_ret0 Hvac.results107 ?_ | refine bodyQ_end0 Hvac.results107 ?_
                            exact ⟨vZ, mZ, MRet.pre (by repeat (first | assumption | exact Ext.refl _ | refine Ext.alloc ?_ _ | refine Ext.drew ?_ | refine Ext.setB ?_ (by first | omega | (simp only [size_alloc, size_setB, size_drew]; omega)) _ | refine Ext.trans ?_ (by assumption))) hRZ, hPZ, hXZ⟩
                          · have hb38p := hb38.h; try simp only [al_ete, al_dfn, Bool.not_eq_true', Bool.not_eq_false', al_ne, Bool.not_not, al_nn] at hb38p
                            refine W_seq ?_
                            refine W_region rfl ?_
                            refine WO_p (PS_eql rfl rfl) ?_
                            refine WO_p (PS_assign_bool rfl) ?_
                            refine WO_nil ?_
                            refine thn_normal ?_
                            refine W_if rfl (fun hb41 => ?_) (fun hb41 => ?_)
                            · have hb41p := hb41.h; try simp only [al_ete, al_dfn, Bool.not_eq_true', Bool.not_eq_false', al_ne, Bool.not_not, al_nn] at hb41p
                              refine W_skip ?_
                              refine thn_normal ?_
                              refine W_condT rfl hb41.h ?_
                              refine W_region rfl ?_
                              refine WO_p (PS_move_ptr rfl) ?_
                              refine WO_call Hvac.call176 (by rfl) (Ret.mono (opCompare_ex scanW C c v B m t f o c' S _ (MS.ext hM (by repeat (first | assumption | exact Ext.refl _ | refine Ext.alloc ?_ _ | refine Ext.drew ?_ | refine Ext.setB ?_ (by first | omega | (simp only [size_alloc, size_setB, size_drew]; omega)) _ | exact Ext.trans (by assumption) (by assumption) | refine Ext.trans ?_ (by assumption)))) hop hAd hk (hAd.pos hkn (by omega) (by omega) (by omega)) y rest g (hRl.ext hM (by repeat (first | assumption | exact Ext.refl _ | refine Ext.alloc ?_ _ | refine Ext.drew ?_ | refine Ext.setB ?_ (by first | omega | (simp only [size_alloc, size_setB, size_drew]; omega)) _ | exact Ext.trans (by assumption) (by assumption) | refine Ext.trans ?_ (by assumption)))) (by omega)) ?_)
                              rintro _ wZ ⟨vZ, mZ, hRZ, hPZ, hXZ⟩
                              rw [← yexec_plain hob (by omega)] at hXZ
                              refine WO_nil ?_
                              refine inBlk_normal ?_
                              first | refine bodyQ_ret0 Hvac.results107 ?_ | refine bodyQ_end0 Hvac.results107 ?_
                              exact ⟨vZ, mZ, MRet.pre (by repeat (first | assumption | exact Ext.refl _ | refine Ext.alloc ?_ _ | refine Ext.drew ?_ | refine Ext.setB ?_ (by first | omega | (simp only [size_alloc, size_setB, size_drew]; omega)) _ | refine Ext.trans ?_ (by assumption))) hRZ, hPZ, hXZ⟩
                            · have hb41p := hb41.h; try simp only [al_ete, al_dfn, Bool.not_eq_true', Bool.not_eq_false', al_ne, Bool.not_not, al_nn] at hb41p
                              refine W_seq ?_
                              refine W_region rfl ?_
                              refine WO_p (PS_eql rfl rfl) ?_
                              refine WO_p (PS_assign_bool rfl) ?_
                              refine WO_nil ?_
                              refine thn_normal ?_
                              refine W_if rfl (fun hb44 => ?_) (fun hb44 => ?_)
                              · have hb44p := hb44.h; try simp only [al_ete, al_dfn, Bool.not_eq_true', Bool.not_eq_false', al_ne, Bool.not_not, al_nn] at hb44p
                                refine W_skip ?_
                                refine thn_normal ?_
                                refine W_condT rfl hb44.h ?_
                                refine W_region rfl ?_
                                refine WO_p (PS_move_ptr rfl) ?_
                                refine WO_call Hvac.call176 (by rfl) (Ret.mono (opCompare_ex scanW C c v B m t f o c' S _ (MS.ext hM (by repeat (first | assumption | exact Ext.refl _ | refine Ext.alloc ?_ _ | refine Ext.drew ?_ | refine Ext.setB ?_ (by first | omega | (simp only [size_alloc, size_setB, size_drew]; omega)) _ | exact Ext.trans (by assumption) (by assumption) | refine Ext.trans ?_ (by assumption)))) hop hAd hk (hAd.pos hkn (by omega) (by omega) (by omega)) y rest g (hRl.ext hM (by repeat (first | assumption | exact Ext.refl _ | refine Ext.alloc ?_ _ | refine Ext.drew ?_ | refine Ext.setB ?_ (by first | omega | (simp only [size_alloc, size_setB, size_drew]; omega)) _ | exact Ext.trans (by assumption) (by assumption) | refine Ext.trans ?_ (by assumption)))) (by omega)) ?_)
                                rintro _ wZ ⟨vZ, mZ, hRZ, hPZ, hXZ⟩
                                rw [← yexec_plain hob (by omega)] at hXZ
                                refine WO_nil ?_
                                refine inBlk_normal ?_
                                first | refine bodyQ_ret0 Hvac.results107 ?_ | refine bodyQ_end0 Hvac.results107 ?_
                                exact ⟨vZ, mZ, MRet.pre (by repeat (first | assumption | exact Ext.refl _ | refine Ext.alloc ?_ _ | refine Ext.drew ?_ | refine Ext.setB ?_ (by first | omega | (simp only [size_alloc, size_setB, size_drew]; omega)) _ | refine Ext.trans ?_ (by assumption))) hRZ, hPZ, hXZ⟩
                              · have hb44p := hb44.h; try simp only [al_ete, al_dfn, Bool.not_eq_true', Bool.not_eq_false', al_ne, Bool.not_not, al_nn] at hb44p
                                refine W_seq ?_
                                refine W_region rfl ?_
                                refine WO_p (PS_eql rfl rfl) ?_
                                refine WO_p (PS_assign_bool rfl) ?_
                                refine WO_nil ?_
                                refine thn_normal ?_
                                refine W_if rfl (fun hb47 => ?_) (fun hb47 => ?_)
                                · have hb47p := hb47.h; try simp only [al_ete, al_dfn, Bool.not_eq_true', Bool.not_eq_false', al_ne, Bool.not_not, al_nn] at hb47p
                                  refine W_skip ?_
                                  refine thn_normal ?_
                                  refine W_condT rfl hb47.h ?_
                                  refine W_region rfl ?_
                                  refine WO_p (PS_move_ptr rfl) ?_
                                  refine WO_call Hvac.call176 (by rfl) (Ret.mono (opCompare_ex scanW C c v B m t f o c' S _ (MS.ext hM (by repeat (first | assumption | exact Ext.refl _ | refine Ext.alloc ?_ _ | refine Ext.drew ?_ | refine Ext.setB ?_ (by first | omega | (simp only [size_alloc, size_setB, size_drew]; omega)) _ | exact Ext.trans (by assumption) (by assumption) | refine Ext.trans ?_ (by assumption)))) hop hAd hk (hAd.pos hkn (by omega) (by omega) (by omega)) y rest g (hRl.ext hM (by repeat (first | assumption | exact Ext.refl _ | refine Ext.alloc ?_ _ | refine Ext.drew ?_ | refine Ext.setB ?_ (by first | omega | (simp only [size_alloc, size_setB, size_drew]; omega)) _ | exact Ext.trans (by assumption) (by assumption) | refine Ext.trans ?_ (by assumption)))) (by omega)) ?_)
                                  rintro _ wZ ⟨vZ, mZ, hRZ, hPZ, hXZ⟩
                                  rw [← yexec_plain hob (by omega)] at hXZ
                                  refine WO_nil ?_
                                  refine inBlk_normal ?_
                                  first | refine bodyQ_ret0 Hvac.results107 ?_ | refine bodyQ_end0 Hvac.results107 ?_
                                  exact ⟨vZ, mZ, MRet.pre (by repeat (first | assumption | exact Ext.refl _ | refine Ext.alloc ?_ _ | refine Ext.drew ?_ | refine Ext.setB ?_ (by first | omega | (simp only [size_alloc, size_setB, size_drew]; omega)) _ | refine Ext.trans ?_ (by assumption))) hRZ, hPZ, hXZ⟩
                                · have hb47p := hb47.h; try simp only [al_ete, al_dfn, Bool.not_eq_true', Bool.not_eq_false', al_ne, Bool.not_not, al_nn] at hb47p
                                  refine W_region rfl ?_
                                  refine WO_p (PS_eql rfl rfl) ?_
                                  refine WO_p (PS_assign_bool rfl) ?_
                                  refine WO_nil ?_
                                  refine thn_normal ?_
                                  refine W_if rfl (fun hb50 => ?_) (fun hb50 => ?_)
                                  · have hb50p := hb50.h; try simp only [al_ete, al_dfn, Bool.not_eq_true', Bool.not_eq_false', al_ne, Bool.not_not, al_nn] at hb50p
                                    refine W_region rfl ?_
                                    refine WO_p (PS_move_ptr rfl) ?_
                                    refine WO_call Hvac.call176 (by rfl) (Ret.mono (opCompare_ex scanW C c v B m t f o c' S _ (MS.ext hM (by repeat (first | assumption | exact Ext.refl _ | refine Ext.alloc ?_ _ | refine Ext.drew ?_ | refine Ext.setB ?_ (by first | omega | (simp only [size_alloc, size_setB, size_drew]; omega)) _ | exact Ext.trans (by assumption) (by assumption) | refine Ext.trans ?_ (by assumption)))) hop hAd hk (hAd.pos hkn (by omega) (by omega) (by omega)) y rest g (hRl.ext hM (by repeat (first | assumption | exact Ext.refl _ | refine Ext.alloc ?_ _ | refine Ext.drew ?_ | refine Ext.setB ?_ (by first | omega | (simp only [size_alloc, size_setB, size_drew]; omega)) _ | exact Ext.trans (by assumption) (by assumption) | refine Ext.trans ?_ (by assumption)))) (by omega)) ?_)
                                    rintro _ wZ ⟨vZ, mZ, hRZ, hPZ, hXZ⟩
                                    rw [← yexec_plain hob (by omega)] at hXZ
                                    refine WO_nil ?_
                                    refine inBlk_normal ?_
                                    first | refine bodyQ_ret0 Hvac.results107 ?_ | refine bodyQ_end0 Hvac.results107 ?_
                                    exact ⟨vZ, mZ, MRet.pre (by repeat (first | assumption | exact Ext.refl _ | refine Ext.alloc ?_ _ | refine Ext.drew ?_ | refine Ext.setB ?_ (by first | omega | (simp only [size_alloc, size_setB, size_drew]; omega)) _ | refine Ext.trans ?_ (by assumption))) hRZ, hPZ, hXZ⟩
                                  · have hb50p := hb50.h; try simp only [al_ete, al_dfn, Bool.not_eq_true', Bool.not_eq_false', al_ne, Bool.not_not, al_nn] at hb50p
                                    refine W_seq ?_
                                    refine W_seq ?_
                                    refine W_region rfl ?_
                                    refine WO_p (PS_eql rfl rfl) ?_
                                    refine WO_p (PS_assign_bool rfl) ?_
                                    refine WO_nil ?_
                                    refine thn_normal ?_
                                    refine W_if rfl (fun hb53 => ?_) (fun hb53 => ?_)
                                    · have hb53p := hb53.h; try simp only [al_ete, al_dfn, Bool.not_eq_true', Bool.not_eq_false', al_ne, Bool.not_not, al_nn] at hb53p
                                      refine W_skip ?_
                                      refine thn_normal ?_
                                      refine W_condT rfl hb53.h ?_
                                      refine W_region rfl ?_
                                      refine WO_p (PS_move_ptr rfl) ?_
                                      refine WO_call Hvac.call177 (by rfl) (Ret.mono (opBits_ex scanW C c v B m t f o c' S _ (MS.ext hM (by repeat (first | assumption | exact Ext.refl _ | refine Ext.alloc ?_ _ | refine Ext.drew ?_ | refine Ext.setB ?_ (by first | omega | (simp only [size_alloc, size_setB, size_drew]; omega)) _ | exact Ext.trans (by assumption) (by assumption) | refine Ext.trans ?_ (by assumption)))) hop hAd hk (hAd.pos hkn (by omega) (by omega) (by omega)) y rest g (hRl.ext hM (by repeat (first | assumption | exact Ext.refl _ | refine Ext.alloc ?_ _ | refine Ext.drew ?_ | refine Ext.setB ?_ (by first | omega | (simp only [size_alloc, size_setB, size_drew]; omega)) _ | exact Ext.trans (by assumption) (by assumption) | refine Ext.trans ?_ (by assumption)))) (by omega)) ?_)
                                      rintro _ wZ ⟨vZ, mZ, hRZ, hPZ, hXZ⟩
                                      rw [← yexec_plain hob (by omega)] at hXZ
                                      refine WO_nil ?_
                                      refine inBlk_normal ?_
                                      first | refine bodyQ_ret0 Hvac.results107 ?_ | refine bodyQ_end0 Hvac.results107 ?_
                                      exact ⟨vZ, mZ, MRet.pre (by repeat (first | assumption | exact Ext.refl _ | refine Ext.alloc ?_ _ | refine Ext.drew ?_ | refine Ext.setB ?_ (by first | omega | (simp only [size_alloc, size_setB, size_drew]; omega)) _ | refine Ext.trans ?_ (by assumption))) hRZ, hPZ, hXZ⟩
                                    · have hb53p := hb53.h; try simp only [al_ete, al_dfn, Bool.not_eq_true', Bool.not_eq_false', al_ne, Bool.not_not, al_nn] at hb53p
                                      refine W_seq ?_
                                      refine W_region rfl ?_
                                      refine WO_p (PS_eql rfl rfl) ?_
                                      refine WO_p (PS_assign_bool rfl) ?_
                                      refine WO_nil ?_
                                      refine thn_normal ?_
                                      refine W_if rfl (fun hb56 => ?_) (fun hb56 => ?_)
                                      · have hb56p := hb56.h; try simp only [al_ete, al_dfn, Bool.not_eq_true', Bool.not_eq_false', al_ne, Bool.not_not, al_nn] at hb56p
                                        refine W_skip ?_
                                        refine thn_normal ?_
                                        refine W_condT rfl hb56.h ?_
                                        refine W_region rfl ?_
                                        refine WO_p (PS_move_ptr rfl) ?_
                                        refine WO_call Hvac.call177 (by rfl) (Ret.mono (opBits_ex scanW C c v B m t f o c' S _ (MS.ext hM (by repeat (first | assumption | exact Ext.refl _ | refine Ext.alloc ?_ _ | refine Ext.drew ?_ | refine Ext.setB ?_ (by first | omega | (simp only [size_alloc, size_setB, size_drew]; omega)) _ | exact Ext.trans (by assumption) (by assumption) | refine Ext.trans ?_ (by assumption)))) hop hAd hk (hAd.pos hkn (by omega) (by omega) (by omega)) y rest g (hRl.ext hM (by repeat (first | assumption | exact Ext.refl _ | refine Ext.alloc ?_ _ | refine Ext.drew ?_ | refine Ext.setB ?_ (by first | omega | (simp only [size_alloc, size_setB, size_drew]; omega)) _ | exact Ext.trans (by assumption) (by assumption) | refine Ext.trans ?_ (by assumption)))) (by omega)) ?_)
                                        rintro _ wZ ⟨vZ, mZ, hRZ, hPZ, hXZ⟩
                                        rw [← yexec_plain hob (by omega)] at hXZ
                                        refine WO_nil ?_
                                        refine inBlk_normal ?_
                                        first | refine bodyQ_ret0 Hvac.results107 ?_ | refine bodyQ_end0 Hvac.results107 ?_
                                        exact ⟨vZ, mZ, MRet.pre (by repeat (first | assumption | exact Ext.refl _ | refine Ext.alloc ?_ _ | refine Ext.drew ?_ | refine Ext.setB ?_ (by first | omega | (simp only [size_alloc, size_setB, size_drew]; omega)) _ | refine Ext.trans ?_ (by assumption))) hRZ, hPZ, hXZ⟩
                                      · have hb56p := hb56.h; try simp only [al_ete, al_dfn, Bool.not_eq_true', Bool.not_eq_false', al_ne, Bool.not_not, al_nn] at hb56p
                                        refine W_seq ?_
                                        refine W_region rfl ?_
                                        refine WO_p (PS_eql rfl rfl) ?_
                                        refine WO_p (PS_assign_bool rfl) ?_
                                        refine WO_nil ?_
                                        refine thn_normal ?_
                                        refine W_if rfl (fun hb59 => ?_) (fun hb59 => ?_)
                                        · have hb59p := hb59.h; try simp only [al_ete, al_dfn, Bool.not_eq_true', Bool.not_eq_false', al_ne, Bool.not_not, al_nn] at hb59p
                                          refine W_skip ?_
                                          refine thn_normal ?_
                                          refine W_condT rfl hb59.h ?_
                                          refine W_region rfl ?_
                                          refine WO_p (PS_move_ptr rfl) ?_
                                          refine WO_call Hvac.call177 (by rfl) (Ret.mono (opBits_ex scanW C c v B m t f o c' S _ (MS.ext hM (by repeat (first | assumption | exact Ext.refl _ | refine Ext.alloc ?_ _ | refine Ext.drew ?_ | refine Ext.setB ?_ (by first | omega | (simp only [size_alloc, size_setB, size_drew]; omega)) _ | exact Ext.trans (by assumption) (by assumption) | refine Ext.trans ?_ (by assumption)))) hop hAd hk (hAd.pos hkn (by omega) (by omega) (by omega)) y rest g (hRl.ext hM (by repeat (first | assumption | exact Ext.refl _ | refine Ext.alloc ?_ _ | refine Ext.drew ?_ | refine Ext.setB ?_ (by first | omega | (simp only [size_alloc, size_setB, size_drew]; omega)) _ | exact Ext.trans (by assumption) (by assumption) | refine Ext.trans ?_ (by assumption)))) (by omega)) ?_)
                                          rintro _ wZ ⟨vZ, mZ, hRZ, hPZ, hXZ⟩
                                          rw [← yexec_plain hob (by omega)] at hXZ
                                          refine WO_nil ?_
                                          refine inBlk_normal ?_
                                          first | refine bodyQ_ret0 Hvac.results107 ?_ | refine bodyQ_end0 Hvac.results107 ?_
                                          exact ⟨vZ, mZ, MRet.pre (by repeat (first | assumption | exact Ext.refl _ | refine Ext.alloc ?_ _ | refine Ext.drew ?_ | refine Ext.setB ?_ (by first | omega | (simp only [size_alloc, size_setB, size_drew]; omega)) _ | refine Ext.trans ?_ (by assumption))) hRZ, hPZ, hXZ⟩
                                        · have hb59p := hb59.h; try simp only [al_ete, al_dfn, Bool.not_eq_true', Bool.not_eq_false', al_ne, Bool.not_not, al_nn] at hb59p
                                          refine W_seq ?_
                                          refine W_region rfl ?_
                                          refine WO_p (PS_eql rfl rfl) ?_
                                          refine WO_p (PS_assign_bool rfl) ?_
                                          refine WO_nil ?_
                                          refine thn_normal ?_
                                          refine W_if rfl (fun hb62 => ?_) (fun hb62 => ?_)
                                          · have hb62p := hb62.h; try simp only [al_ete, al_dfn, Bool.not_eq_true', Bool.not_eq_false', al_ne, Bool.not_not, al_nn] at hb62p
                                            refine W_skip ?_
                                            refine thn_normal ?_
                                            refine W_condT rfl hb62.h ?_
                                            refine W_region rfl ?_
                                            refine WO_p (PS_move_ptr rfl) ?_
                                            refine WO_call Hvac.call177 (by rfl) (Ret.mono (opBits_ex scanW C c v B m t f o c' S _ (MS.ext hM (by repeat (first | assumption | exact Ext.refl _ | refine Ext.alloc ?_ _ | refine Ext.drew ?_ | refine Ext.setB ?_ (by first | omega | (simp only [size_alloc, size_setB, size_drew]; omega)) _ | exact Ext.trans (by assumption) (by assumption) | refine Ext.trans ?_ (by assumption)))) hop hAd hk (hAd.pos hkn (by omega) (by omega) (by omega)) y rest g (hRl.ext hM (by repeat (first | assumption | exact Ext.refl _ | refine Ext.alloc ?_ _ | refine Ext.drew ?_ | refine Ext.setB ?_ (by first | omega | (simp only [size_alloc, size_setB, size_drew]; omega)) _ | exact Ext.trans (by assumption) (by assumption) | refine Ext.trans ?_ (by assumption)))) (by omega)) ?_)
                                            rintro _ wZ ⟨vZ, mZ, hRZ, hPZ, hXZ⟩
                                            rw [← yexec_plain hob (by omega)] at hXZ
                                            refine WO_nil ?_
                                            refine inBlk_normal ?_
                                            first | refine bodyQ_ret0 Hvac.results107 ?_ | refine bodyQ_end0 Hvac.results107 ?_
                                            exact ⟨vZ, mZ, MRet.pre (by repeat (first | assumption | exact Ext.refl _ | refine Ext.alloc ?_ _ | refine Ext.drew ?_ | refine Ext.setB ?_ (by first | omega | (simp only [size_alloc, size_setB, size_drew]; omega)) _ | refine Ext.trans ?_ (by assumption))) hRZ, hPZ, hXZ⟩
                                          · have hb62p := hb62.h; try simp only [al_ete, al_dfn, Bool.not_eq_true', Bool.not_eq_false', al_ne, Bool.not_not, al_nn] at hb62p
                                            refine W_seq ?_
                                            refine W_region rfl ?_
                                            refine WO_p (PS_eql rfl rfl) ?_
                                            refine WO_p (PS_assign_bool rfl) ?_
                                            refine WO_nil ?_
                                            refine thn_normal ?_
                                            refine W_if rfl (fun hb65 => ?_) (fun hb65 => ?_)
                                            · have hb65p := hb65.h; try simp only [al_ete, al_dfn, Bool.not_eq_true', Bool.not_eq_false', al_ne, Bool.not_not, al_nn] at hb65p
                                              refine W_skip ?_
                                              refine thn_normal ?_
                                              refine W_condT rfl hb65.h ?_
                                              refine W_region rfl ?_
                                              refine WO_p (PS_move_ptr rfl) ?_
                                              refine WO_call Hvac.call177 (by rfl) (Ret.mono (opBits_ex scanW C c v B m t f o c' S _ (MS.ext hM (by repeat (first | assumption | exact Ext.refl _ | refine Ext.alloc ?_ _ | refine Ext.drew ?_ | refine Ext.setB ?_ (by first | omega | (simp only [size_alloc, size_setB, size_drew]; omega)) _ | exact Ext.trans (by assumption) (by assumption) | refine Ext.trans ?_ (by assumption)))) hop hAd hk (hAd.pos hkn (by omega) (by omega) (by omega)) y rest g (hRl.ext hM (by repeat (first | assumption | exact Ext.refl _ | refine Ext.alloc ?_ _ | refine Ext.drew ?_ | refine Ext.setB ?_ (by first | omega | (simp only [size_alloc, size_setB, size_drew]; omega)) _ | exact Ext.trans (by assumption) (by assumption) | refine Ext.trans ?_ (by assumption)))) (by omega)) ?_)
                                              rintro _ wZ ⟨vZ, mZ, hRZ, hPZ, hXZ⟩
                                              rw [← yexec_plain hob (by omega)] at hXZ
                                              refine WO_nil ?_
                                              refine inBlk_normal ?_
                                              first | refine bodyQ_ret0 Hvac.results107 ?_ | refine bodyQ_end0 Hvac.results107 ?_
                                              exact ⟨vZ, mZ, MRet.pre (by repeat (first | assumption | exact Ext.refl _ | refine Ext.alloc ?_ _ | refine Ext.drew ?_ | refine Ext.setB ?_ (by first | omega | (simp only [size_alloc, size_setB, size_drew]; omega)) _ | refine Ext.trans ?_ (by assumption))) hRZ, hPZ, hXZ⟩
                                            · have hb65p := hb65.h; try simp only [al_ete, al_dfn, Bool.not_eq_true', Bool.not_eq_false', al_ne, Bool.not_not, al_nn] at hb65p
                                              refine W_seq ?_
                                              refine W_region rfl ?_
                                              refine WO_p (PS_eql rfl rfl) ?_
                                              refine WO_p (PS_assign_bool rfl) ?_
                                              refine WO_nil ?_
                                              refine thn_normal ?_
                                              refine W_if rfl (fun hb68 => ?_) (fun hb68 => ?_)
                                              · have hb68p := hb68.h; try simp only [al_ete, al_dfn, Bool.not_eq_true', Bool.not_eq_false', al_ne, Bool.not_not, al_nn] at hb68p
                                                refine W_skip ?_
                                                refine thn_normal ?_
                                                refine W_condT rfl hb68.h ?_
                                                refine W_region rfl ?_
                                                refine WO_p (PS_move_ptr rfl) ?_
                                                refine WO_call Hvac.call177 (by rfl) (Ret.mono (opBits_ex scanW C c v B m t f o c' S _ (MS.ext hM (by repeat (first | assumption | exact Ext.refl _ | refine Ext.alloc ?_ _ | refine Ext.drew ?_ | refine Ext.setB ?_ (by first | omega | (simp only [size_alloc, size_setB, size_drew]; omega)) _ | exact Ext.trans (by assumption) (by assumption) | refine Ext.trans ?_ (by assumption)))) hop hAd hk (hAd.pos hkn (by omega) (by omega) (by omega)) y rest g (hRl.ext hM (by repeat (first | assumption | exact Ext.refl _ | refine Ext.alloc ?_ _ | refine Ext.drew ?_ | refine Ext.setB ?_ (by first | omega | (simp only [size_alloc, size_setB, size_drew]; omega)) _ | exact Ext.trans (by assumption) (by assumption) | refine Ext.trans ?_ (by assumption)))) (by omega)) ?_)
                                                rintro _ wZ ⟨vZ, mZ, hRZ, hPZ, hXZ⟩
                                                rw [← yexec_plain hob (by omega)] at hXZ
                                                refine WO_nil ?_
                                                refine inBlk_normal ?_
                                                first | refine bodyQ_ret0 Hvac.results107 ?_ | refine bodyQ_end0 Hvac.results107 ?_
                                                exact ⟨vZ, mZ, MRet.pre (by repeat (first | assumption | exact Ext.refl _ | refine Ext.alloc ?_ _ | refine Ext.drew ?_ | refine Ext.setB ?_ (by first | omega | (simp only [size_alloc, size_setB, size_drew]; omega)) _ | refine Ext.trans ?_ (by assumption))) hRZ, hPZ, hXZ⟩
                                              · have hb68p := hb68.h; try simp only [al_ete, al_dfn, Bool.not_eq_true', Bool.not_eq_false', al_ne, Bool.not_not, al_nn] at hb68p
                                                refine W_seq ?_
                                                refine W_region rfl ?_
                                                refine WO_p (PS_eql rfl rfl) ?_
                                                refine WO_p (PS_assign_bool rfl) ?_
                                                refine WO_nil ?_
                                                refine thn_normal ?_
                                                refine W_if rfl (fun hb71 => ?_) (fun hb71 => ?_)
                                                · have hb71p := hb71.h; try simp only [al_ete, al_dfn, Bool.not_eq_true', Bool.not_eq_false', al_ne, Bool.not_not, al_nn] at hb71p
                                                  refine W_skip ?_
                                                  refine thn_normal ?_
                                                  refine W_condT rfl hb71.h ?_
                                                  refine W_region rfl ?_
                                                  refine WO_p (PS_move_ptr rfl) ?_
                                                  refine WO_call Hvac.call177 (by rfl) (Ret.mono (opBits_ex scanW C c v B m t f o c' S _ (MS.ext hM (by repeat (first | assumption | exact Ext.refl _ | refine Ext.alloc ?_ _ | refine Ext.drew ?_ | refine Ext.setB ?_ (by first | omega | (simp only [size_alloc, size_setB, size_drew]; omega)) _ | exact Ext.trans (by assumption) (by assumption) | refine Ext.trans ?_ (by assumption)))) hop hAd hk (hAd.pos hkn (by omega) (by omega) (by omega)) y rest g (hRl.ext hM (by repeat (first | assumption | exact Ext.refl _ | refine Ext.alloc ?_ _ | refine Ext.drew ?_ | refine Ext.setB ?_ (by first | omega | (simp only [size_alloc, size_setB, size_drew]; omega)) _ | exact Ext.trans (by assumption) (by assumption) | refine Ext.trans ?_ (by assumption)))) (by omega)) ?_)
                                                  rintro _ wZ ⟨vZ, mZ, hRZ, hPZ, hXZ⟩
                                                  rw [← yexec_plain hob (by omega)] at hXZ
                                                  refine WO_nil ?_
                                                  refine inBlk_normal ?_
                                                  first | refine bodyQ_ret0 Hvac.results107 ?_ | refine bodyQ_end0 Hvac.results107 ?_
                                                  exact ⟨vZ, mZ, MRet.pre (by repeat (first | assumption | exact Ext.refl _ | refine Ext.alloc ?_ _ | refine Ext.drew ?_ | refine Ext.setB ?_ (by first | omega | (simp only [size_alloc, size_setB, size_drew]; omega)) _ | refine Ext.trans ?_ (by assumption))) hRZ, hPZ, hXZ⟩
                                                · have hb71p := hb71.h; try simp only [al_ete, al_dfn, Bool.not_eq_true', Bool.not_eq_false', al_ne, Bool.not_not, al_nn] at hb71p
                                                  refine W_region rfl ?_
                                                  refine WO_p (PS_eql rfl rfl) ?_
                                                  refine WO_p (PS_assign_bool rfl) ?_
                                                  refine WO_nil ?_
                                                  refine thn_normal ?_
                                                  refine W_if rfl (fun hb74 => ?_) (fun hb74 => ?_)
                                                  · have hb74p := hb74.h; try simp only [al_ete, al_dfn, Bool.not_eq_true', Bool.not_eq_false', al_ne, Bool.not_not, al_nn] at hb74p
                                                    refine W_region rfl ?_
                                                    refine WO_p (PS_move_ptr rfl) ?_
                                                    refine WO_call Hvac.call177 (by rfl) (Ret.mono (opBits_ex scanW C c v B m t f o c' S _ (MS.ext hM (by repeat (first | assumption | exact Ext.refl _ | refine Ext.alloc ?_ _ | refine Ext.drew ?_ | refine Ext.setB ?_ (by first | omega | (simp only [size_alloc, size_setB, size_drew]; omega)) _ | exact Ext.trans (by assumption) (by assumption) | refine Ext.trans ?_ (by assumption)))) hop hAd hk (hAd.pos hkn (by omega) (by omega) (by omega)) y rest g (hRl.ext hM (by repeat (first | assumption | exact Ext.refl _ | refine Ext.alloc ?_ _ | refine Ext.drew ?_ | refine Ext.setB ?_ (by first | omega | (simp only [size_alloc, size_setB, size_drew]; omega)) _ | exact Ext.trans (by assumption) (by assumption) | refine Ext.trans ?_ (by assumption)))) (by omega)) ?_)
                                                    rintro _ wZ ⟨vZ, mZ, hRZ, hPZ, hXZ⟩
                                                    rw [← yexec_plain hob (by omega)] at hXZ
                                                    refine WO_nil ?_
                                                    refine inBlk_normal ?_
                                                    first | refine bodyQ_ret0 Hvac.results107 ?_ | refine bodyQ_end0 Hvac.results107 ?_
                                                    exact ⟨vZ, mZ, MRet.pre (by repeat (first | assumption | exact Ext.refl _ | refine Ext.alloc ?_ _ | refine Ext.drew ?_ | refine Ext.setB ?_ (by first | omega | (simp only [size_alloc, size_setB, size_drew]; omega)) _ | refine Ext.trans ?_ (by assumption))) hRZ, hPZ, hXZ⟩
                                                  · have hb74p := hb74.h; try simp only [al_ete, al_dfn, Bool.not_eq_true', Bool.not_eq_false', al_ne, Bool.not_not, al_nn] at hb74p
                                                    refine W_seq ?_
                                                    refine W_region rfl ?_
                                                    refine WO_p (PS_eql rfl rfl) ?_
                                                    refine WO_p (PS_assign_bool rfl) ?_
                                                    refine WO_nil ?_
                                                    refine thn_normal ?_
                                                    refine W_if rfl (fun hb77 => ?_) (fun hb77 => ?_)
                                                    · have hb77p := hb77.h; try simp only [al_ete, al_dfn, Bool.not_eq_true', Bool.not_eq_false', al_ne, Bool.not_not, al_nn] at hb77p
                                                      refine W_region rfl ?_
                                                      refine WO_p (PS_move_ptr rfl) ?_
                                                      refine WO_call Hvac.call178 (by rfl) (Ret.mono (opKeccak_ex scanW C c v B m t f o c' S _ (MS.ext hM (by repeat (first | assumption | exact Ext.refl _ | refine Ext.alloc ?_ _ | refine Ext.drew ?_ | refine Ext.setB ?_ (by first | omega | (simp only [size_alloc, size_setB, size_drew]; omega)) _ | exact Ext.trans (by assumption) (by assumption) | refine Ext.trans ?_ (by assumption)))) hop hAd hk (hAd.pos hkn (by omega) (by omega) (by omega)) y rest g (hRl.ext hM (by repeat (first | assumption | exact Ext.refl _ | refine Ext.alloc ?_ _ | refine Ext.drew ?_ | refine Ext.setB ?_ (by first | omega | (simp only [size_alloc, size_setB, size_drew]; omega)) _ | exact Ext.trans (by assumption) (by assumption) | refine Ext.trans ?_ (by assumption)))) (by omega)) ?_)
                                                      rintro _ wZ ⟨vZ, mZ, hRZ, hPZ, hXZ⟩
                                                      rw [← yexec_plain hob (by omega)] at hXZ
                                                      refine WO_nil ?_
                                                      refine inBlk_normal ?_
                                                      first | refine bodyQ_ret0 Hvac.results107 ?_ | refine bodyQ_end0 Hvac.results107 ?_
                                                      exact ⟨vZ, mZ, MRet.pre (by repeat (first | assumption | exact Ext.refl _ | refine Ext.alloc ?_ _ | refine Ext.drew ?_ | refine Ext.setB ?_ (by first | omega | (simp only [size_alloc, size_setB, size_drew]; omega)) _ | refine Ext.trans ?_ (by assumption))) hRZ, hPZ, hXZ⟩
                                                    · have hb77p := hb77.h; try simp only [al_ete, al_dfn, Bool.not_eq_true', Bool.not_eq_false', al_ne, Bool.not_not, al_nn] at hb77p
                                                      refine W_seq ?_
                                                      refine W_seq ?_
                                                      refine W_region rfl ?_
                                                      refine WO_p (PS_eql rfl rfl) ?_
                                                      refine WO_p (PS_assign_bool rfl) ?_
                                                      refine WO_nil ?_
                                                      refine thn_normal ?_
                                                      refine W_if rfl (fun hb80 => ?_) (fun hb80 => ?_)
                                                      · have hb80p := hb80.h; try simp only [al_ete, al_dfn, Bool.not_eq_true', Bool.not_eq_false', al_ne, Bool.not_not, al_nn] at hb80p
                                                        refine W_skip ?_
                                                        refine thn_normal ?_
                                                        refine W_condT rfl hb80.h ?_
                                                        refine W_region rfl ?_
                                                        refine WO_p (PS_move_ptr rfl) ?_
                                                        refine WO_call Hvac.call179 (by rfl) (Ret.mono (opAccount_ex scanW C c v B m t f o c' S _ (MS.ext hM (by repeat (first | assumption | exact Ext.refl _ | refine Ext.alloc ?_ _ | refine Ext.drew ?_ | refine Ext.setB ?_ (by first | omega | (simp only [size_alloc, size_setB, size_drew]; omega)) _ | exact Ext.trans (by assumption) (by assumption) | refine Ext.trans ?_ (by assumption)))) hop hAd hk (hAd.pos hkn (by omega) (by omega) (by omega)) y rest g (hRl.ext hM (by repeat (first | assumption | exact Ext.refl _ | refine Ext.alloc ?_ _ | refine Ext.drew ?_ | refine Ext.setB ?_ (by first | omega | (simp only [size_alloc, size_setB, size_drew]; omega)) _ | exact Ext.trans (by assumption) (by assumption) | refine Ext.trans ?_ (by assumption)))) (by omega)) ?_)
                                                        rintro _ wZ ⟨vZ, mZ, hRZ, hPZ, hXZ⟩
                                                        rw [← yexec_plain hob (by omega)] at hXZ
                                                        refine WO_nil ?_
                                                        refine inBlk_normal ?_
                                                        first | refine bodyQ_ret0 Hvac.results107 ?_ | refine bodyQ_end0 Hvac.results107 ?_
                                                        exact ⟨vZ, mZ, MRet.pre (by repeat (first | assumption | exact Ext.refl _ | refine Ext.alloc ?_ _ | refine Ext.drew ?_ | refine Ext.setB ?_ (by first | omega | (simp only [size_alloc, size_setB, size_drew]; omega)) _ | refine Ext.trans ?_ (by assumption))) hRZ, hPZ, hXZ⟩
                                                      · have hb80p := hb80.h; try simp only [al_ete, al_dfn, Bool.not_eq_true', Bool.not_eq_false', al_ne, Bool.not_not, al_nn] at hb80p
                                                        refine W_seq ?_
                                                        refine W_region rfl ?_
                                                        refine WO_p (PS_eql rfl rfl) ?_
                                                        refine WO_p (PS_assign_bool rfl) ?_
                                                        refine WO_nil ?_
                                                        refine thn_normal ?_
                                                        refine W_if rfl (fun hb83 => ?_) (fun hb83 => ?_)
                                                        · have hb83p := hb83.h; try simp only [al_ete, al_dfn, Bool.not_eq_true', Bool.not_eq_false', al_ne, Bool.not_not, al_nn] at hb83p
                                                          refine W_skip ?_
                                                          refine thn_normal ?_
                                                          refine W_condT rfl hb83.h ?_
                                                          refine W_region rfl ?_
                                                          refine WO_p (PS_move_ptr rfl) ?_
                                                          refine WO_call Hvac.call179 (by rfl) (Ret.mono (opAccount_ex scanW C c v B m t f o c' S _ (MS.ext hM (by repeat (first | assumption | exact Ext.refl _ | refine Ext.alloc ?_ _ | refine Ext.drew ?_ | refine Ext.setB ?_ (by first | omega | (simp only [size_alloc, size_setB, size_drew]; omega)) _ | exact Ext.trans (by assumption) (by assumption) | refine Ext.trans ?_ (by assumption)))) hop hAd hk (hAd.pos hkn (by omega) (by omega) (by omega)) y rest g (hRl.ext hM (by repeat (first | assumption | exact Ext.refl _ | refine Ext.alloc ?_ _ | refine Ext.drew ?_ | refine Ext.setB ?_ (by first | omega | (simp only [size_alloc, size_setB, size_drew]; omega)) _ | exact Ext.trans (by assumption) (by assumption) | refine Ext.trans ?_ (by assumption)))) (by omega)) ?_)
                                                          rintro _ wZ ⟨vZ, mZ, hRZ, hPZ, hXZ⟩
                                                          rw [← yexec_plain hob (by omega)] at hXZ
                                                          refine WO_nil ?_
                                                          refine inBlk_normal ?_
                                                          first | refine bodyQ_ret0 Hvac.results107 ?_ | refine bodyQ_end0 Hvac.results107 ?_
                                                          exact ⟨vZ, mZ, MRet.pre (by repeat (first | assumption | exact Ext.refl _ | refine Ext.alloc ?_ _ | refine Ext.drew ?_ | refine Ext.setB ?_ (by first | omega | (simp only [size_alloc, size_setB, size_drew]; omega)) _ | refine Ext.trans ?_ (by assumption))) hRZ, hPZ, hXZ⟩
                                                        · have hb83p := hb83.h; try simp only [al_ete, al_dfn, Bool.not_eq_true', Bool.not_eq_false', al_ne, Bool.not_not, al_nn] at hb83p
                                                          refine W_region rfl ?_
                                                          refine WO_p (PS_eql rfl rfl) ?_
                                                          refine WO_p (PS_assign_bool rfl) ?_
                                                          refine WO_nil ?_
                                                          refine thn_normal ?_
                                                          refine W_if rfl (fun hb86 => ?_) (fun hb86 => ?_)
                                                          · have hb86p := hb86.h; try simp only [al_ete, al_dfn, Bool.not_eq_true', Bool.not_eq_false', al_ne, Bool.not_not, al_nn] at hb86p
                                                            refine W_region rfl ?_
                                                            refine WO_p (PS_move_ptr rfl) ?_
                                                            refine WO_call Hvac.call179 (by rfl) (Ret.mono (opAccount_ex scanW C c v B m t f o c' S _ (MS.ext hM (by repeat (first | assumption | exact Ext.refl _ | refine Ext.alloc ?_ _ | refine Ext.drew ?_ | refine Ext.setB ?_ (by first | omega | (simp only [size_alloc, size_setB, size_drew]; omega)) _ | exact Ext.trans (by assumption) (by assumption) | refine Ext.trans ?_ (by assumption)))) hop hAd hk (hAd.pos hkn (by omega) (by omega) (by omega)) y rest g (hRl.ext hM (by repeat (first | assumption | exact Ext.refl _ | refine Ext.alloc ?_ _ | refine Ext.drew ?_ | refine Ext.setB ?_ (by first | omega | (simp only [size_alloc, size_setB, size_drew]; omega)) _ | exact Ext.trans (by assumption) (by assumption) | refine Ext.trans ?_ (by assumption)))) (by omega)) ?_)
                                                            rintro _ wZ ⟨vZ, mZ, hRZ, hPZ, hXZ⟩
                                                            rw [← yexec_plain hob (by omega)] at hXZ
                                                            refine WO_nil ?_
                                                            refine inBlk_normal ?_
                                                            first | refine bodyQ_ret0 Hvac.results107 ?_ | refine bodyQ_end0 Hvac.results107 ?_
                                                            exact ⟨vZ, mZ, MRet.pre (by repeat (first | assumption | exact Ext.refl _ | refine Ext.alloc ?_ _ | refine Ext.drew ?_ | refine Ext.setB ?_ (by first | omega | (simp only [size_alloc, size_setB, size_drew]; omega)) _ | refine Ext.trans ?_ (by assumption))) hRZ, hPZ, hXZ⟩
                                                          · have hb86p := hb86.h; try simp only [al_ete, al_dfn, Bool.not_eq_true', Bool.not_eq_false', al_ne, Bool.not_not, al_nn] at hb86p
                                                            refine W_seq ?_
                                                            refine W_seq ?_
                                                            refine W_region rfl ?_
                                                            refine WO_p (PS_eql rfl rfl) ?_
                                                            refine WO_p (PS_assign_bool rfl) ?_
                                                            refine WO_nil ?_
                                                            refine thn_normal ?_
                                                            refine W_if rfl (fun hb89 => ?_) (fun hb89 => ?_)
                                                            · have hb89p := hb89.h; try simp only [al_ete, al_dfn, Bool.not_eq_true', Bool.not_eq_false', al_ne, Bool.not_not, al_nn] at hb89p
                                                              refine W_skip ?_
                                                              refine thn_normal ?_
                                                              refine W_condT rfl hb89.h ?_
                                                              refine W_region rfl ?_
                                                              refine WO_p (PS_move_ptr rfl) ?_
                                                              refine WO_call Hvac.call180 (by rfl) (Ret.mono (opSurround_ex scanW C c v B m t f o c' S _ (MS.ext hM (by repeat (first | assumption | exact Ext.refl _ | refine Ext.alloc ?_ _ | refine Ext.drew ?_ | refine Ext.setB ?_ (by first | omega | (simp only [size_alloc, size_setB, size_drew]; omega)) _ | exact Ext.trans (by assumption) (by assumption) | refine Ext.trans ?_ (by assumption)))) hop hAd hk (hAd.pos hkn (by omega) (by omega) (by omega)) y rest g (hRl.ext hM (by repeat (first | assumption | exact Ext.refl _ | refine Ext.alloc ?_ _ | refine Ext.drew ?_ | refine Ext.setB ?_ (by first | omega | (simp only [size_alloc, size_setB, size_drew]; omega)) _ | exact Ext.trans (by assumption) (by assumption) | refine Ext.trans ?_ (by assumption)))) (by omega)) ?_)
                                                              rintro _ wZ ⟨vZ, mZ, hRZ, hPZ, hXZ⟩
                                                              rw [← yexec_plain hob (by omega)] at hXZ
                                                              refine WO_nil ?_
                                                              refine inBlk_normal ?_
                                                              first | refine bodyQ_ret0 Hvac.results107 ?_ | refine bodyQ_end0 Hvac.results107 ?_
                                                              exact ⟨vZ, mZ, MRet.pre (by repeat (first | assumption | exact Ext.refl _ | refine Ext.alloc ?_ _ | refine Ext.drew ?_ | refine Ext.setB ?_ (by first | omega | (simp only [size_alloc, size_setB, size_drew]; omega)) _ | refine Ext.trans ?_ (by assumption))) hRZ, hPZ, hXZ⟩
                                                            · have hb89p := hb89.h; try simp only [al_ete, al_dfn, Bool.not_eq_true', Bool.not_eq_false', al_ne, Bool.not_not, al_nn] at hb89p
                                                              refine W_seq ?_
                                                              refine W_region rfl ?_
                                                              refine WO_p (PS_eql rfl rfl) ?_
                                                              refine WO_p (PS_assign_bool rfl) ?_
                                                              refine WO_nil ?_
                                                              refine thn_normal ?_
                                                              refine W_if rfl (fun hb92 => ?_) (fun hb92 => ?_)
                                                              · have hb92p := hb92.h; try simp only [al_ete, al_dfn, Bool.not_eq_true', Bool.not_eq_false', al_ne, Bool.not_not, al_nn] at hb92p
                                                                refine W_skip ?_
                                                                refine thn_normal ?_
                                                                refine W_condT rfl hb92.h ?_
                                                                refine W_region rfl ?_
                                                                refine WO_p (PS_move_ptr rfl) ?_
                                                                refine WO_call Hvac.call180 (by rfl) (Ret.mono (opSurround_ex scanW C c v B m t f o c' S _ (MS.ext hM (by repeat (first | assumption | exact Ext.refl _ | refine Ext.alloc ?_ _ | refine Ext.drew ?_ | refine Ext.setB ?_ (by first | omega | (simp only [size_alloc, size_setB, size_drew]; omega)) _ | exact Ext.trans (by assumption) (by assumption) | refine Ext.trans ?_ (by assumption)))) hop hAd hk (hAd.pos hkn (by omega) (by omega) (by omega)) y rest g (hRl.ext hM (by repeat (first | assumption | exact Ext.refl _ | refine Ext.alloc ?_ _ | refine Ext.drew ?_ | refine Ext.setB ?_ (by first | omega | (simp only [size_alloc, size_setB, size_drew]; omega)) _ | exact Ext.trans (by assumption) (by assumption) | refine Ext.trans ?_ (by assumption)))) (by omega)) ?_)
                                                                rintro _ wZ ⟨vZ, mZ, hRZ, hPZ, hXZ⟩
                                                                rw [← yexec_plain hob (by omega)] at hXZ
                                                                refine WO_nil ?_
                                                                refine inBlk_normal ?_
                                                                first | refine bodyQ_ret0 Hvac.results107 ?_ | refine bodyQ_end0 Hvac.results107 ?_
                                                                exact ⟨vZ, mZ, MRet.pre (by repeat (first | assumption | exact Ext.refl _ | refine Ext.alloc ?_ _ | refine Ext.drew ?_ | refine Ext.setB ?_ (by first | omega | (simp only [size_alloc, size_setB, size_drew]; omega)) _ | refine Ext.trans ?_ (by assumption))) hRZ, hPZ, hXZ⟩
                                                              · have hb92p := hb92.h; try simp only [al_ete, al_dfn, Bool.not_eq_true', Bool.not_eq_false', al_ne, Bool.not_not, al_nn] at hb92p
                                                                refine W_seq ?_
                                                                refine W_region rfl ?_
                                                                refine WO_p (PS_eql rfl rfl) ?_
                                                                refine WO_p (PS_assign_bool rfl) ?_
                                                                refine WO_nil ?_
                                                                refine thn_normal ?_
                                                                refine W_if rfl (fun hb95 => ?_) (fun hb95 => ?_)
                                                                · have hb95p := hb95.h; try simp only [al_ete, al_dfn, Bool.not_eq_true', Bool.not_eq_false', al_ne, Bool.not_not, al_nn] at hb95p
                                                                  refine W_skip ?_
                                                                  refine thn_normal ?_
                                                                  refine W_condT rfl hb95.h ?_
                                                                  refine W_region rfl ?_
                                                                  refine WO_p (PS_move_ptr rfl) ?_
                                                                  refine WO_call Hvac.call180 (by rfl) (Ret.mono (opSurround_ex scanW C c v B m t f o c' S _ (MS.ext hM (by repeat (first | assumption | exact Ext.refl _ | refine Ext.alloc ?_ _ | refine Ext.drew ?_ | refine Ext.setB ?_ (by first | omega | (simp only [size_alloc, size_setB, size_drew]; omega)) _ | exact Ext.trans (by assumption) (by assumption) | refine Ext.trans ?_ (by assumption)))) hop hAd hk (hAd.pos hkn (by omega) (by omega) (by omega)) y rest g (hRl.ext hM (by repeat (first | assumption | exact Ext.refl _ | refine Ext.alloc ?_ _ | refine Ext.drew ?_ | refine Ext.setB ?_ (by first | omega | (simp only [size_alloc, size_setB, size_drew]; omega)) _ | exact Ext.trans (by assumption) (by assumption) | refine Ext.trans ?_ (by assumption)))) (by omega)) ?_)
                                                                  rintro _ wZ ⟨vZ, mZ, hRZ, hPZ, hXZ⟩
                                                                  rw [← yexec_plain hob (by omega)] at hXZ
                                                                  refine WO_nil ?_
                                                                  refine inBlk_normal ?_
                                                                  first | refine bodyQ_ret0 Hvac.results107 ?_ | refine bodyQ_end0 Hvac.results107 ?_
                                                                  exact ⟨vZ, mZ, MRet.pre (by repeat (first | assumption | exact Ext.refl _ | refine Ext.alloc ?_ _ | refine Ext.drew ?_ | refine Ext.setB ?_ (by first | omega | (simp only [size_alloc, size_setB, size_drew]; omega)) _ | refine Ext.trans ?_ (by assumption))) hRZ, hPZ, hXZ⟩
                                                                · have hb95p := hb95.h; try simp only [al_ete, al_dfn, Bool.not_eq_true', Bool.not_eq_false', al_ne, Bool.not_not, al_nn] at hb95p
                                                                  refine W_seq ?_
                                                                  refine W_region rfl ?_
                                                                  refine WO_p (PS_eql rfl rfl) ?_
                                                                  refine WO_p (PS_assign_bool rfl) ?_
                                                                  refine WO_nil ?_
                                                                  refine thn_normal ?_
                                                                  refine W_if rfl (fun hb98 => ?_) (fun hb98 => ?_)
                                                                  · have hb98p := hb98.h; try simp only [al_ete, al_dfn, Bool.not_eq_true', Bool.not_eq_false', al_ne, Bool.not_not, al_nn] at hb98p
                                                                    refine W_skip ?_
                                                                    refine thn_normal ?_
                                                                    refine W_condT rfl hb98.h ?_
                                                                    refine W_region rfl ?_
                                                                    refine WO_p (PS_move_ptr rfl) ?_
                                                                    refine WO_call Hvac.call180 (by rfl) (Ret.mono (opSurround_ex scanW C c v B m t f o c' S _ (MS.ext hM (by repeat (first | assumption | exact Ext.refl _ | refine Ext.alloc ?_ _ | refine Ext.drew ?_ | refine Ext.setB ?_ (by first | omega | (simp only [size_alloc, size_setB, size_drew]; omega)) _ | exact Ext.trans (by assumption) (by assumption) | refine Ext.trans ?_ (by assumption)))) hop hAd hk (hAd.pos hkn (by omega) (by omega) (by omega)) y rest g (hRl.ext hM (by repeat (first | assumption | exact Ext.refl _ | refine Ext.alloc ?_ _ | refine Ext.drew ?_ | refine Ext.setB ?_ (by first | omega | (simp only [size_alloc, size_setB, size_drew]; omega)) _ | exact Ext.trans (by assumption) (by assumption) | refine Ext.trans ?_ (by assumption)))) (by omega)) ?_)
                                                                    rintro _ wZ ⟨vZ, mZ, hRZ, hPZ, hXZ⟩
                                                                    rw [← yexec_plain hob (by omega)] at hXZ
                                                                    refine WO_nil ?_
                                                                    refine inBlk_normal ?_
                                                                    first | refine bodyQ_ret0 Hvac.results107 ?_ | refine bodyQ_end0 Hvac.results107 ?_
                                                                    exact ⟨vZ, mZ, MRet.pre (by repeat (first | assumption | exact Ext.refl _ | refine Ext.alloc ?_ _ | refine Ext.drew ?_ | refine Ext.setB ?_ (by first | omega | (simp only [size_alloc, size_setB, size_drew]; omega)) _ | refine Ext.trans ?_ (by assumption))) hRZ, hPZ, hXZ⟩
                                                                  · have hb98p := hb98.h; try simp only [al_ete, al_dfn, Bool.not_eq_true', Bool.not_eq_false', al_ne, Bool.not_not, al_nn] at hb98p
                                                                    refine W_seq ?_
                                                                    refine W_region rfl ?_
                                                                    refine WO_p (PS_eql rfl rfl) ?_
                                                                    refine WO_p (PS_assign_bool rfl) ?_
                                                                    refine WO_nil ?_
                                                                    refine thn_normal ?_
                                                                    refine W_if rfl (fun hb101 => ?_) (fun hb101 => ?_)
                                                                    · have hb101p := hb101.h; try simp only [al_ete, al_dfn, Bool.not_eq_true', Bool.not_eq_false', al_ne, Bool.not_not, al_nn] at hb101p
                                                                      refine W_skip ?_
                                                                      refine thn_normal ?_
                                                                      refine W_condT rfl hb101.h ?_
                                                                      refine W_region rfl ?_
                                                                      refine WO_p (PS_move_ptr rfl) ?_
                                                                      refine WO_call Hvac.call180 (by rfl) (Ret.mono (opSurround_ex scanW C c v B m t f o c' S _ (MS.ext hM (by repeat (first | assumption | exact Ext.refl _ | refine Ext.alloc ?_ _ | refine Ext.drew ?_ | refine Ext.setB ?_ (by first | omega | (simp only [size_alloc, size_setB, size_drew]; omega)) _ | exact Ext.trans (by assumption) (by assumption) | refine Ext.trans ?_ (by assumption)))) hop hAd hk (hAd.pos hkn (by omega) (by omega) (by omega)) y rest g (hRl.ext hM (by repeat (first | assumption | exact Ext.refl _ | refine Ext.alloc ?_ _ | refine Ext.drew ?_ | refine Ext.setB ?_ (by first | omega | (simp only [size_alloc, size_setB, size_drew]; omega)) _ | exact Ext.trans (by assumption) (by assumption) | refine Ext.trans ?_ (by assumption)))) (by omega)) ?_)
                                                                      rintro _ wZ ⟨vZ, mZ, hRZ, hPZ, hXZ⟩
                                                                      rw [← yexec_plain hob (by omega)] at hXZ
                                                                      refine WO_nil ?_
                                                                      refine inBlk_normal ?_
                                                                      first | refine bodyQ_ret0 Hvac.results107 ?_ | refine bodyQ_end0 Hvac.results107 ?_
                                                                      exact ⟨vZ, mZ, MRet.pre (by repeat (first | assumption | exact Ext.refl _ | refine Ext.alloc ?_ _ | refine Ext.drew ?_ | refine Ext.setB ?_ (by first | omega | (simp only [size_alloc, size_setB, size_drew]; omega)) _ | refine Ext.trans ?_ (by assumption))) hRZ, hPZ, hXZ⟩
                                                                    · have hb101p := hb101.h; try simp only [al_ete, al_dfn, Bool.not_eq_true', Bool.not_eq_false', al_ne, Bool.not_not, al_nn] at hb101p
                                                                      refine W_seq ?_
                                                                      refine W_region rfl ?_
                                                                      refine WO_p (PS_eql rfl rfl) ?_
                                                                      refine WO_p (PS_assign_bool rfl) ?_
                                                                      refine WO_nil ?_
                                                                      refine thn_normal ?_
                                                                      refine W_if rfl (fun hb104 => ?_) (fun hb104 => ?_)
                                                                      · have hb104p := hb104.h; try simp only [al_ete, al_dfn, Bool.not_eq_true', Bool.not_eq_false', al_ne, Bool.not_not, al_nn] at hb104p
                                                                        refine W_skip ?_
                                                                        refine thn_normal ?_
                                                                        refine W_condT rfl hb104.h ?_
                                                                        refine W_region rfl ?_
                                                                        refine WO_p (PS_move_ptr rfl) ?_
                                                                        refine WO_call Hvac.call180 (by rfl) (Ret.mono (opSurround_ex scanW C c v B m t f o c' S _ (MS.ext hM (by repeat (first | assumption | exact Ext.refl _ | refine Ext.alloc ?_ _ | refine Ext.drew ?_ | refine Ext.setB ?_ (by first | omega | (simp only [size_alloc, size_setB, size_drew]; omega)) _ | exact Ext.trans (by assumption) (by assumption) | refine Ext.trans ?_ (by assumption)))) hop hAd hk (hAd.pos hkn (by omega) (by omega) (by omega)) y rest g (hRl.ext hM (by repeat (first | assumption | exact Ext.refl _ | refine Ext.alloc ?_ _ | refine Ext.drew ?_ | refine Ext.setB ?_ (by first | omega | (simp only [size_alloc, size_setB, size_drew]; omega)) _ | exact Ext.trans (by assumption) (by assumption) | refine Ext.trans ?_ (by assumption)))) (by omega)) ?_)
                                                                        rintro _ wZ ⟨vZ, mZ, hRZ, hPZ, hXZ⟩
                                                                        rw [← yexec_plain hob (by omega)] at hXZ
                                                                        refine WO_nil ?_
                                                                        refine inBlk_normal ?_
                                                                        first | refine bodyQ_ret0 Hvac.results107 ?_ | refine bodyQ_end0 Hvac.results107 ?_
                                                                        exact ⟨vZ, mZ, MRet.pre (by repeat (first | assumption | exact Ext.refl _ | refine Ext.alloc ?_ _ | refine Ext.drew ?_ | refine Ext.setB ?_ (by first | omega | (simp only [size_alloc, size_setB, size_drew]; omega)) _ | refine Ext.trans ?_ (by assumption))) hRZ, hPZ, hXZ⟩
                                                                      · have hb104p := hb104.h; try simp only [al_ete, al_dfn, Bool.not_eq_true', Bool.not_eq_false', al_ne, Bool.not_not, al_nn] at hb104p
                                                                        refine W_seq ?_
                                                                        refine W_region rfl ?_
                                                                        refine WO_p (PS_eql rfl rfl) ?_
                                                                        refine WO_p (PS_assign_bool rfl) ?_
                                                                        refine WO_nil ?_
                                                                        refine thn_normal ?_
                                                                        refine W_if rfl (fun hb107 => ?_) (fun hb107 => ?_)
                                                                        · have hb107p := hb107.h; try simp only [al_ete, al_dfn, Bool.not_eq_true', Bool.not_eq_false', al_ne, Bool.not_not, al_nn] at hb107p
                                                                          refine W_skip ?_
                                                                          refine thn_normal ?_
                                                                          refine W_condT rfl hb107.h ?_
                                                                          refine W_region rfl ?_
                                                                          refine WO_p (PS_move_ptr rfl) ?_
                                                                          refine WO_call Hvac.call180 (by rfl) (Ret.mono (opSurround_ex scanW C c v B m t f o c' S _ (MS.ext hM (by repeat (first | assumption | exact Ext.refl _ | refine Ext.alloc ?_ _ | refine Ext.drew ?_ | refine Ext.setB ?_ (by first | omega | (simp only [size_alloc, size_setB, size_drew]; omega)) _ | exact Ext.trans (by assumption) (by assumption) | refine Ext.trans ?_ (by assumption)))) hop hAd hk (hAd.pos hkn (by omega) (by omega) (by omega)) y rest g (hRl.ext hM (by repeat (first | assumption | exact Ext.refl _ | refine Ext.alloc ?_ _ | refine Ext.drew ?_ | refine Ext.setB ?_ (by first | omega | (simp only [size_alloc, size_setB, size_drew]; omega)) _ | exact Ext.trans (by assumption) (by assumption) | refine Ext.trans ?_ (by assumption)))) (by omega)) ?_)
                                                                          rintro _ wZ ⟨vZ, mZ, hRZ, hPZ, hXZ⟩
                                                                          rw [← yexec_plain hob (by omega)] at hXZ
                                                                          refine WO_nil ?_
                                                                          refine inBlk_normal ?_
                                                                          first | refine bodyQ_ret0 Hvac.results107 ?_ | refine bodyQ_end0 Hvac.results107 ?_
                                                                          exact ⟨vZ, mZ, MRet.pre (by repeat (first | assumption | exact Ext.refl _ | refine Ext.alloc ?_ _ | refine Ext.drew ?_ | refine Ext.setB ?_ (by first | omega | (simp only [size_alloc, size_setB, size_drew]; omega)) _ | refine Ext.trans ?_ (by assumption))) hRZ, hPZ, hXZ⟩
                                                                        · have hb107p := hb107.h; try simp only [al_ete, al_dfn, Bool.not_eq_true', Bool.not_eq_false', al_ne, Bool.not_not, al_nn] at hb107p
                                                                          refine W_seq ?_
                                                                          refine W_region rfl ?_
                                                                          refine WO_p (PS_eql rfl rfl) ?_
                                                                          refine WO_p (PS_assign_bool rfl) ?_
                                                                          refine WO_nil ?_
                                                                          refine thn_normal ?_
                                                                          refine W_if rfl (fun hb110 => ?_) (fun hb110 => ?_)
                                                                          · have hb110p := hb110.h; try simp only [al_ete, al_dfn, Bool.not_eq_true', Bool.not_eq_false', al_ne, Bool.not_not, al_nn] at hb110p
                                                                            refine W_skip ?_
                                                                            refine thn_normal ?_
                                                                            refine W_condT rfl hb110.h ?_
                                                                            refine W_region rfl ?_
                                                                            refine WO_p (PS_move_ptr rfl) ?_
                                                                            refine WO_call Hvac.call180 (by rfl) (Ret.mono (opSurround_ex scanW C c v B m t f o c' S _ (MS.ext hM (by repeat (first | assumption | exact Ext.refl _ | refine Ext.alloc ?_ _ | refine Ext.drew ?_ | refine Ext.setB ?_ (by first | omega | (simp only [size_alloc, size_setB, size_drew]; omega)) _ | exact Ext.trans (by assumption) (by assumption) | refine Ext.trans ?_ (by assumption)))) hop hAd hk (hAd.pos hkn (by omega) (by omega) (by omega)) y rest g (hRl.ext hM (by repeat (first | assumption | exact Ext.refl _ | refine Ext.alloc ?_ _ | refine Ext.drew ?_ | refine Ext.setB ?_ (by first | omega | (simp only [size_alloc, size_setB, size_drew]; omega)) _ | exact Ext.trans (by assumption) (by assumption) | refine Ext.trans ?_ (by assumption)))) (by omega)) ?_)
                                                                            rintro _ wZ ⟨vZ, mZ, hRZ, hPZ, hXZ⟩
                                                                            rw [← yexec_plain hob (by omega)] at hXZ
                                                                            refine WO_nil ?_
                                                                            refine inBlk_normal ?_
                                                                            first | refine bodyQ_ret0 Hvac.results107 ?_ | refine bodyQ_end0 Hvac.results107 ?_
                                                                            exact ⟨vZ, mZ, MRet.pre (by repeat (first | assumption | exact Ext.refl _ | refine Ext.alloc ?_ _ | refine Ext.drew ?_ | refine Ext.setB ?_ (by first | omega | (simp only [size_alloc, size_setB, size_drew]; omega)) _ | refine Ext.trans ?_ (by assumption))) hRZ, hPZ, hXZ⟩
                                                                          · have hb110p := hb110.h; try simp only [al_ete, al_dfn, Bool.not_eq_true', Bool.not_eq_false', al_ne, Bool.not_not, al_nn] at hb110p
                                                                            refine W_seq ?_
                                                                            refine W_region rfl ?_
                                                                            refine WO_p (PS_eql rfl rfl) ?_
                                                                            refine WO_p (PS_assign_bool rfl) ?_
                                                                            refine WO_nil ?_
                                                                            refine thn_normal ?_
                                                                            refine W_if rfl (fun hb113 => ?_) (fun hb113 => ?_)
                                                                            · have hb113p := hb113.h; try simp only [al_ete, al_dfn, Bool.not_eq_true', Bool.not_eq_false', al_ne, Bool.not_not, al_nn] at hb113p
                                                                              refine W_skip ?_
                                                                              refine thn_normal ?_
                                                                              refine W_condT rfl hb113.h ?_
                                                                              refine W_region rfl ?_
                                                                              refine WO_p (PS_move_ptr rfl) ?_
                                                                              refine WO_call Hvac.call180 (by rfl) (Ret.mono (opSurround_ex scanW C c v B m t f o c' S _ (MS.ext hM (by repeat (first | assumption | exact Ext.refl _ | refine Ext.alloc ?_ _ | refine Ext.drew ?_ | refine Ext.setB ?_ (by first | omega | (simp only [size_alloc, size_setB, size_drew]; omega)) _ | exact Ext.trans (by assumption) (by assumption) | refine Ext.trans ?_ (by assumption)))) hop hAd hk (hAd.pos hkn (by omega) (by omega) (by omega)) y rest g (hRl.ext hM (by repeat (first | assumption | exact Ext.refl _ | refine Ext.alloc ?_ _ | refine Ext.drew ?_ | refine Ext.setB ?_ (by first | omega | (simp only [size_alloc, size_setB, size_drew]; omega)) _ | exact Ext.trans (by assumption) (by assumption) | refine Ext.trans ?_ (by assumption)))) (by omega)) ?_)
                                                                              rintro _ wZ ⟨vZ, mZ, hRZ, hPZ, hXZ⟩
                                                                              rw [← yexec_plain hob (by omega)] at hXZ
                                                                              refine WO_nil ?_
                                                                              refine inBlk_normal ?_
                                                                              first | refine bodyQ_ret0 Hvac.results107 ?_ | refine bodyQ_end0 Hvac.results107 ?_
                                                                              exact ⟨vZ, mZ, MRet.pre (by repeat (first | assumption | exact Ext.refl _ | refine Ext.alloc ?_ _ | refine Ext.drew ?_ | refine Ext.setB ?_ (by first | omega | (simp only [size_alloc, size_setB, size_drew]; omega)) _ | refine Ext.trans ?_ (by assumption))) hRZ, hPZ, hXZ⟩
                                                                            · have hb113p := hb113.h; try simp only [al_ete, al_dfn, Bool.not_eq_true', Bool.not_eq_false', al_ne, Bool.not_not, al_nn] at hb113p
                                                                              refine W_seq ?_
                                                                              refine W_region rfl ?_
                                                                              refine WO_p (PS_eql rfl rfl) ?_
                                                                              refine WO_p (PS_assign_bool rfl) ?_
                                                                              refine WO_nil ?_
                                                                              refine thn_normal ?_
                                                                              refine W_if rfl (fun hb116 => ?_) (fun hb116 => ?_)
                                                                              · have hb116p := hb116.h; try simp only [al_ete, al_dfn, Bool.not_eq_true', Bool.not_eq_false', al_ne, Bool.not_not, al_nn] at hb116p
                                                                                refine W_skip ?_
                                                                                refine thn_normal ?_
                                                                                refine W_condT rfl hb116.h ?_
                                                                                refine W_region rfl ?_
                                                                                refine WO_p (PS_move_ptr rfl) ?_
                                                                                refine WO_call Hvac.call180 (by rfl) (Ret.mono (opSurround_ex scanW C c v B m t f o c' S _ (MS.ext hM (by repeat (first | assumption | exact Ext.refl _ | refine Ext.alloc ?_ _ | refine Ext.drew ?_ | refine Ext.setB ?_ (by first | omega | (simp only [size_alloc, size_setB, size_drew]; omega)) _ | exact Ext.trans (by assumption) (by assumption) | refine Ext.trans ?_ (by assumption)))) hop hAd hk (hAd.pos hkn (by omega) (by omega) (by omega)) y rest g (hRl.ext hM (by repeat (first | assumption | exact Ext.refl _ | refine Ext.alloc ?_ _ | refine Ext.drew ?_ | refine Ext.setB ?_ (by first | omega | (simp only [size_alloc, size_setB, size_drew]; omega)) _ | exact Ext.trans (by assumption) (by assumption) | refine Ext.trans ?_ (by assumption)))) (by omega)) ?_)
                                                                                rintro _ wZ ⟨vZ, mZ, hRZ, hPZ, hXZ⟩
                                                                                rw [← yexec_plain hob (by omega)] at hXZ
                                                                                refine WO_nil ?_
                                                                                refine inBlk_normal ?_
                                                                                first | refine bodyQ_ret0 Hvac.results107 ?_ | refine bodyQ_end0 Hvac.results107 ?_
                                                                                exact ⟨vZ, mZ, MRet.pre (by repeat (first | assumption | exact Ext.refl _ | refine Ext.alloc ?_ _ | refine Ext.drew ?_ | refine Ext.setB ?_ (by first | omega | (simp only [size_alloc, size_setB, size_drew]; omega)) _ | refine Ext.trans ?_ (by assumption))) hRZ, hPZ, hXZ⟩
                                                                              · have hb116p := hb116.h; try simp only [al_ete, al_dfn, Bool.not_eq_true', Bool.not_eq_false', al_ne, Bool.not_not, al_nn] at hb116p
                                                                                refine W_seq ?_
                                                                                refine W_region rfl ?_
                                                                                refine WO_p (PS_eql rfl rfl) ?_
                                                                                refine WO_p (PS_assign_bool rfl) ?_
                                                                                refine WO_nil ?_
                                                                                refine thn_normal ?_
                                                                                refine W_if rfl (fun hb119 => ?_) (fun hb119 => ?_)
                                                                                · have hb119p := hb119.h; try simp only [al_ete, al_dfn, Bool.not_eq_true', Bool.not_eq_false', al_ne, Bool.not_not, al_nn] at hb119p
                                                                                  refine W_skip ?_
                                                                                  refine thn_normal ?_
                                                                                  refine W_condT rfl hb119.h ?_
                                                                                  refine W_region rfl ?_
                                                                                  refine WO_p (PS_move_ptr rfl) ?_
                                                                                  refine WO_call Hvac.call180 (by rfl) (Ret.mono (opSurround_ex scanW C c v B m t f o c' S _ (MS.ext hM (by repeat (first | assumption | exact Ext.refl _ | refine Ext.alloc ?_ _ | refine Ext.drew ?_ | refine Ext.setB ?_ (by first | omega | (simp only [size_alloc, size_setB, size_drew]; omega)) _ | exact Ext.trans (by assumption) (by assumption) | refine Ext.trans ?_ (by assumption)))) hop hAd hk (hAd.pos hkn (by omega) (by omega) (by omega)) y rest g (hRl.ext hM (by repeat (first | assumption | exact Ext.refl _ | refine Ext.alloc ?_ _ | refine Ext.drew ?_ | refine Ext.setB ?_ (by first | omega | (simp only [size_alloc, size_setB, size_drew]; omega)) _ | exact Ext.trans (by assumption) (by assumption) | refine Ext.trans ?_ (by assumption)))) (by omega)) ?_)
                                                                                  rintro _ wZ ⟨vZ, mZ, hRZ, hPZ, hXZ⟩
                                                                                  rw [← yexec_plain hob (by omega)] at hXZ
                                                                                  refine WO_nil ?_
                                                                                  refine inBlk_normal ?_
                                                                                  first | refine bodyQ_ret0 Hvac.results107 ?_ | refine bodyQ_end0 Hvac.results107 ?_
                                                                                  exact ⟨vZ, mZ, MRet.pre (by repeat (first | assumption | exact Ext.refl _ | refine Ext.alloc ?_ _ | refine Ext.drew ?_ | refine Ext.setB ?_ (by first | omega | (simp only [size_alloc, size_setB, size_drew]; omega)) _ | refine Ext.trans ?_ (by assumption))) hRZ, hPZ, hXZ⟩
                                                                                · have hb119p := hb119.h; try simp only [al_ete, al_dfn, Bool.not_eq_true', Bool.not_eq_false', al_ne, Bool.not_not, al_nn] at hb119p
                                                                                  refine W_seq ?_
                                                                                  refine W_region rfl ?_
                                                                                  refine WO_p (PS_eql rfl rfl) ?_
                                                                                  refine WO_p (PS_assign_bool rfl) ?_
                                                                                  refine WO_nil ?_
                                                                                  refine thn_normal ?_
                                                                                  refine W_if rfl (fun hb122 => ?_) (fun hb122 => ?_)
                                                                                  · have hb122p := hb122.h; try simp only [al_ete, al_dfn, Bool.not_eq_true', Bool.not_eq_false', al_ne, Bool.not_not, al_nn] at hb122p
                                                                                    refine W_skip ?_
                                                                                    refine thn_normal ?_
                                                                                    refine W_condT rfl hb122.h ?_
                                                                                    refine W_region rfl ?_
                                                                                    refine WO_p (PS_move_ptr rfl) ?_
                                                                                    refine WO_call Hvac.call180 (by rfl) (Ret.mono (opSurround_ex scanW C c v B m t f o c' S _ (MS.ext hM (by repeat (first | assumption | exact Ext.refl _ | refine Ext.alloc ?_ _ | refine Ext.drew ?_ | refine Ext.setB ?_ (by first | omega | (simp only [size_alloc, size_setB, size_drew]; omega)) _ | exact Ext.trans (by assumption) (by assumption) | refine Ext.trans ?_ (by assumption)))) hop hAd hk (hAd.pos hkn (by omega) (by omega) (by omega)) y rest g (hRl.ext hM (by repeat (first | assumption | exact Ext.refl _ | refine Ext.alloc ?_ _ | refine Ext.drew ?_ | refine Ext.setB ?_ (by first | omega | (simp only [size_alloc, size_setB, size_drew]; omega)) _ | exact Ext.trans (by assumption) (by assumption) | refine Ext.trans ?_ (by assumption)))) (by omega)) ?_)
                                                                                    rintro _ wZ ⟨vZ, mZ, hRZ, hPZ, hXZ⟩
                                                                                    rw [← yexec_plain hob (by omega)] at hXZ
                                                                                    refine WO_nil ?_
                                                                                    refine inBlk_normal ?_
                                                                                    first | refine bodyQ_ret0 Hvac.results107 ?_ | refine bodyQ_end0 Hvac.results107 ?_
                                                                                    exact ⟨vZ, mZ, MRet.pre (by repeat (first | assumption | exact Ext.refl _ | refine Ext.alloc ?_ _ | refine Ext.drew ?_ | refine Ext.setB ?_ (by first | omega | (simp only [size_alloc, size_setB, size_drew]; omega)) _ | refine Ext.trans ?_ (by assumption))) hRZ, hPZ, hXZ⟩
                                                                                  · have hb122p := hb122.h; try simp only [al_ete, al_dfn, Bool.not_eq_true', Bool.not_eq_false', al_ne, Bool.not_not, al_nn] at hb122p
                                                                                    refine W_region rfl ?_
                                                                                    refine WO_p (PS_eql rfl rfl) ?_
                                                                                    refine WO_p (PS_assign_bool rfl) ?_
                                                                                    refine WO_nil ?_
                                                                                    refine thn_normal ?_
                                                                                    refine W_if rfl (fun hb125 => ?_) (fun hb125 => ?_)
                                                                                    · have hb125p := hb125.h; try simp only [al_ete, al_dfn, Bool.not_eq_true', Bool.not_eq_false', al_ne, Bool.not_not, al_nn] at hb125p
                                                                                      refine W_region rfl ?_
                                                                                      refine WO_p (PS_move_ptr rfl) ?_
                                                                                      refine WO_call Hvac.call180 (by rfl) (Ret.mono (opSurround_ex scanW C c v B m t f o c' S _ (MS.ext hM (by repeat (first | assumption | exact Ext.refl _ | refine Ext.alloc ?_ _ | refine Ext.drew ?_ | refine Ext.setB ?_ (by first | omega | (simp only [size_alloc, size_setB, size_drew]; omega)) _ | exact Ext.trans (by assumption) (by assumption) | refine Ext.trans ?_ (by assumption)))) hop hAd hk (hAd.pos hkn (by omega) (by omega) (by omega)) y rest g (hRl.ext hM (by repeat (first | assumption | exact Ext.refl _ | refine Ext.alloc ?_ _ | refine Ext.drew ?_ | refine Ext.setB ?_ (by first | omega | (simp only [size_alloc, size_setB, size_drew]; omega)) _ | exact Ext.trans (by assumption) (by assumption) | refine Ext.trans ?_ (by assumption)))) (by omega)) ?_)
                                                                                      rintro _ wZ ⟨vZ, mZ, hRZ, hPZ, hXZ⟩
                                                                                      rw [← yexec_plain hob (by omega)] at hXZ
                                                                                      refine WO_nil ?_
                                                                                      refine inBlk_normal ?_
                                                                                      first | refine bodyQ_ret0 Hvac.results107 ?_ | refine bodyQ_end0 Hvac.results107 ?_
                                                                                      exact ⟨vZ, mZ, MRet.pre (by repeat (first | assumption | exact Ext.refl _ | refine Ext.alloc ?_ _ | refine Ext.drew ?_ | refine Ext.setB ?_ (by first | omega | (simp only [size_alloc, size_setB, size_drew]; omega)) _ | refine Ext.trans ?_ (by assumption))) hRZ, hPZ, hXZ⟩
                                                                                    · have hb125p := hb125.h; try simp only [al_ete, al_dfn, Bool.not_eq_true', Bool.not_eq_false', al_ne, Bool.not_not, al_nn] at hb125p
                                                                                      refine W_seq ?_
                                                                                      refine W_seq ?_
                                                                                      refine W_region rfl ?_
                                                                                      refine WO_p (PS_eql rfl rfl) ?_
                                                                                      refine WO_p (PS_assign_bool rfl) ?_
                                                                                      refine WO_nil ?_
                                                                                      refine thn_normal ?_
                                                                                      refine W_if rfl (fun hb128 => ?_) (fun hb128 => ?_)
                                                                                      · have hb128p := hb128.h; try simp only [al_ete, al_dfn, Bool.not_eq_true', Bool.not_eq_false', al_ne, Bool.not_not, al_nn] at hb128p
                                                                                        refine W_skip ?_
                                                                                        refine thn_normal ?_
                                                                                        refine W_condT rfl hb128.h ?_
                                                                                        refine W_region rfl ?_
                                                                                        refine WO_p (PS_move_ptr rfl) ?_
                                                                                        refine WO_call Hvac.call181 (by rfl) (Ret.mono (opCopy_ex scanW C c v B m t f o c' S _ (MS.ext hM (by repeat (first | assumption | exact Ext.refl _ | refine Ext.alloc ?_ _ | refine Ext.drew ?_ | refine Ext.setB ?_ (by first | omega | (simp only [size_alloc, size_setB, size_drew]; omega)) _ | exact Ext.trans (by assumption) (by assumption) | refine Ext.trans ?_ (by assumption)))) hop hAd hk (hAd.pos hkn (by omega) (by omega) (by omega)) y rest g (hRl.ext hM (by repeat (first | assumption | exact Ext.refl _ | refine Ext.alloc ?_ _ | refine Ext.drew ?_ | refine Ext.setB ?_ (by first | omega | (simp only [size_alloc, size_setB, size_drew]; omega)) _ | exact Ext.trans (by assumption) (by assumption) | refine Ext.trans ?_ (by assumption)))) (by omega)) ?_)
                                                                                        rintro _ wZ ⟨vZ, mZ, hRZ, hPZ, hXZ⟩
                                                                                        rw [← yexec_plain hob (by omega)] at hXZ
                                                                                        refine WO_nil ?_
                                                                                        refine inBlk_normal ?_
                                                                                        first | refine bodyQ_ret0 Hvac.results107 ?_ | refine bodyQ_end0 Hvac.results107 ?_
                                                                                        exact ⟨vZ, mZ, MRet.pre (by repeat (first | assumption | exact Ext.refl _ | refine Ext.alloc ?_ _ | refine Ext.drew ?_ | refine Ext.setB ?_ (by first | omega | (simp only [size_alloc, size_setB, size_drew]; omega)) _ | refine Ext.trans ?_ (by assumption))) hRZ, hPZ, hXZ⟩
                                                                                      · have hb128p := hb128.h; try simp only [al_ete, al_dfn, Bool.not_eq_true', Bool.not_eq_false', al_ne, Bool.not_not, al_nn] at hb128p
                                                                                        refine W_seq ?_
                                                                                        refine W_region rfl ?_
                                                                                        refine WO_p (PS_eql rfl rfl) ?_
                                                                                        refine WO_p (PS_assign_bool rfl) ?_
                                                                                        refine WO_nil ?_
                                                                                        refine thn_normal ?_
                                                                                        refine W_if rfl (fun hb131 => ?_) (fun hb131 => ?_)
                                                                                        · have hb131p := hb131.h; try simp only [al_ete, al_dfn, Bool.not_eq_true', Bool.not_eq_false', al_ne, Bool.not_not, al_nn] at hb131p
                                                                                          refine W_skip ?_
                                                                                          refine thn_normal ?_
                                                                                          refine W_condT rfl hb131.h ?_
                                                                                          refine W_region rfl ?_
                                                                                          refine WO_p (PS_move_ptr rfl) ?_
                                                                                          refine WO_call Hvac.call181 (by rfl) (Ret.mono (opCopy_ex scanW C c v B m t f o c' S _ (MS.ext hM (by repeat (first | assumption | exact Ext.refl _ | refine Ext.alloc ?_ _ | refine Ext.drew ?_ | refine Ext.setB ?_ (by first | omega | (simp only [size_alloc, size_setB, size_drew]; omega)) _ | exact Ext.trans (by assumption) (by assumption) | refine Ext.trans ?_ (by assumption)))) hop hAd hk (hAd.pos hkn (by omega) (by omega) (by omega)) y rest g (hRl.ext hM (by repeat (first | assumption | exact Ext.refl _ | refine Ext.alloc ?_ _ | refine Ext.drew ?_ | refine Ext.setB ?_ (by first | omega | (simp only [size_alloc, size_setB, size_drew]; omega)) _ | exact Ext.trans (by assumption) (by assumption) | refine Ext.trans ?_ (by assumption)))) (by omega)) ?_)
                                                                                          rintro _ wZ ⟨vZ, mZ, hRZ, hPZ, hXZ⟩
                                                                                          rw [← yexec_plain hob (by omega)] at hXZ
                                                                                          refine WO_nil ?_
                                                                                          refine inBlk_normal ?_
                                                                                          first | refine bodyQ_ret0 Hvac.results107 ?_ | refine bodyQ_end0 Hvac.results107 ?_
                                                                                          exact ⟨vZ, mZ, MRet.pre (by repeat (first | assumption | exact Ext.refl _ | refine Ext.alloc ?_ _ | refine Ext.drew ?_ | refine Ext.setB ?_ (by first | omega | (simp only [size_alloc, size_setB, size_drew]; omega)) _ | refine Ext.trans ?_ (by assumption))) hRZ, hPZ, hXZ⟩
                                                                                        · have hb131p := hb131.h; try simp only [al_ete, al_dfn, Bool.not_eq_true', Bool.not_eq_false', al_ne, Bool.not_not, al_nn] at hb131p
                                                                                          refine W_seq ?_
                                                                                          refine W_region rfl ?_
                                                                                          refine WO_p (PS_eql rfl rfl) ?_
                                                                                          refine WO_p (PS_assign_bool rfl) ?_
                                                                                          refine WO_nil ?_
                                                                                          refine thn_normal ?_
                                                                                          refine W_if rfl (fun hb134 => ?_) (fun hb134 => ?_)
                                                                                          · have hb134p := hb134.h; try simp only [al_ete, al_dfn, Bool.not_eq_true', Bool.not_eq_false', al_ne, Bool.not_not, al_nn] at hb134p
                                                                                            refine W_skip ?_
                                                                                            refine thn_normal ?_
                                                                                            refine W_condT rfl hb134.h ?_
                                                                                            refine W_region rfl ?_
                                                                                            refine WO_p (PS_move_ptr rfl) ?_
                                                                                            refine WO_call Hvac.call181 (by rfl) (Ret.mono (opCopy_ex scanW C c v B m t f o c' S _ (MS.ext hM (by repeat (first | assumption | exact Ext.refl _ | refine Ext.alloc ?_ _ | refine Ext.drew ?_ | refine Ext.setB ?_ (by first | omega | (simp only [size_alloc, size_setB, size_drew]; omega)) _ | exact Ext.trans (by assumption) (by assumption) | refine Ext.trans ?_ (by assumption)))) hop hAd hk (hAd.pos hkn (by omega) (by omega) (by omega)) y rest g (hRl.ext hM (by repeat (first | assumption | exact Ext.refl _ | refine Ext.alloc ?_ _ | refine Ext.drew ?_ | refine Ext.setB ?_ (by first | omega | (simp only [size_alloc, size_setB, size_drew]; omega)) _ | exact Ext.trans (by assumption) (by assumption) | refine Ext.trans ?_ (by assumption)))) (by omega)) ?_)
                                                                                            rintro _ wZ ⟨vZ, mZ, hRZ, hPZ, hXZ⟩
                                                                                            rw [← yexec_plain hob (by omega)] at hXZ
                                                                                            refine WO_nil ?_
                                                                                            refine inBlk_normal ?_
                                                                                            first | refine bodyQ_ret0 Hvac.results107 ?_ | refine bodyQ_end0 Hvac.results107 ?_
                                                                                            exact ⟨vZ, mZ, MRet.pre (by repeat (first | assumption | exact Ext.refl _ | refine Ext.alloc ?_ _ | refine Ext.drew ?_ | refine Ext.setB ?_ (by first | omega | (simp only [size_alloc, size_setB, size_drew]; omega)) _ | refine Ext.trans ?_ (by assumption))) hRZ, hPZ, hXZ⟩
                                                                                          · have hb134p := hb134.h; try simp only [al_ete, al_dfn, Bool.not_eq_true', Bool.not_eq_false', al_ne, Bool.not_not, al_nn] at hb134p
                                                                                            refine W_seq ?_
                                                                                            refine W_region rfl ?_
                                                                                            refine WO_p (PS_eql rfl rfl) ?_
                                                                                            refine WO_p (PS_assign_bool rfl) ?_
                                                                                            refine WO_nil ?_
                                                                                            refine thn_normal ?_
                                                                                            refine W_if rfl (fun hb137 => ?_) (fun hb137 => ?_)
                                                                                            · have hb137p := hb137.h; try simp only [al_ete, al_dfn, Bool.not_eq_true', Bool.not_eq_false', al_ne, Bool.not_not, al_nn] at hb137p
                                                                                              refine W_skip ?_
                                                                                              refine thn_normal ?_
                                                                                              refine W_condT rfl hb137.h ?_
                                                                                              refine W_region rfl ?_
                                                                                              refine WO_p (PS_move_ptr rfl) ?_
                                                                                              refine WO_call Hvac.call181 (by rfl) (Ret.mono (opCopy_ex scanW C c v B m t f o c' S _ (MS.ext hM (by repeat (first | assumption | exact Ext.refl _ | refine Ext.alloc ?_ _ | refine Ext.drew ?_ | refine Ext.setB ?_ (by first | omega | (simp only [size_alloc, size_setB, size_drew]; omega)) _ | exact Ext.trans (by assumption) (by assumption) | refine Ext.trans ?_ (by assumption)))) hop hAd hk (hAd.pos hkn (by omega) (by omega) (by omega)) y rest g (hRl.ext hM (by repeat (first | assumption | exact Ext.refl _ | refine Ext.alloc ?_ _ | refine Ext.drew ?_ | refine Ext.setB ?_ (by first | omega | (simp only [size_alloc, size_setB, size_drew]; omega)) _ | exact Ext.trans (by assumption) (by assumption) | refine Ext.trans ?_ (by assumption)))) (by omega)) ?_)
                                                                                              rintro _ wZ ⟨vZ, mZ, hRZ, hPZ, hXZ⟩
                                                                                              rw [← yexec_plain hob (by omega)] at hXZ
                                                                                              refine WO_nil ?_
                                                                                              refine inBlk_normal ?_
                                                                                              first | refine bodyQ_ret0 Hvac.results107 ?_ | refine bodyQ_end0 Hvac.results107 ?_
                                                                                              exact ⟨vZ, mZ, MRet.pre (by repeat (first | assumption | exact Ext.refl _ | refine Ext.alloc ?_ _ | refine Ext.drew ?_ | refine Ext.setB ?_ (by first | omega | (simp only [size_alloc, size_setB, size_drew]; omega)) _ | refine Ext.trans ?_ (by assumption))) hRZ, hPZ, hXZ⟩
                                                                                            · have hb137p := hb137.h; try simp only [al_ete, al_dfn, Bool.not_eq_true', Bool.not_eq_false', al_ne, Bool.not_not, al_nn] at hb137p
                                                                                              refine W_region rfl ?_
                                                                                              refine WO_p (PS_eql rfl rfl) ?_
                                                                                              refine WO_p (PS_assign_bool rfl) ?_
                                                                                              refine WO_nil ?_
                                                                                              refine thn_normal ?_
                                                                                              refine W_if rfl (fun hb140 => ?_) (fun hb140 => ?_)
                                                                                              · have hb140p := hb140.h; try simp only [al_ete, al_dfn, Bool.not_eq_true', Bool.not_eq_false', al_ne, Bool.not_not, al_nn] at hb140p
                                                                                                refine W_region rfl ?_
                                                                                                refine WO_p (PS_move_ptr rfl) ?_
                                                                                                refine WO_call Hvac.call181 (by rfl) (Ret.mono (opCopy_ex scanW C c v B m t f o c' S _ (MS.ext hM (by repeat (first | assumption | exact Ext.refl _ | refine Ext.alloc ?_ _ | refine Ext.drew ?_ | refine Ext.setB ?_ (by first | omega | (simp only [size_alloc, size_setB, size_drew]; omega)) _ | exact Ext.trans (by assumption) (by assumption) | refine Ext.trans ?_ (by assumption)))) hop hAd hk (hAd.pos hkn (by omega) (by omega) (by omega)) y rest g (hRl.ext hM (by repeat (first | assumption | exact Ext.refl _ | refine Ext.alloc ?_ _ | refine Ext.drew ?_ | refine Ext.setB ?_ (by first | omega | (simp only [size_alloc, size_setB, size_drew]; omega)) _ | exact Ext.trans (by assumption) (by assumption) | refine Ext.trans ?_ (by assumption)))) (by omega)) ?_)
                                                                                                rintro _ wZ ⟨vZ, mZ, hRZ, hPZ, hXZ⟩
                                                                                                rw [← yexec_plain hob (by omega)] at hXZ
                                                                                                refine WO_nil ?_
                                                                                                refine inBlk_normal ?_
                                                                                                first | refine bodyQ_ret0 Hvac.results107 ?_ | refine bodyQ_end0 Hvac.results107 ?_
                                                                                                exact ⟨vZ, mZ, MRet.pre (by repeat (first | assumption | exact Ext.refl _ | refine Ext.alloc ?_ _ | refine Ext.drew ?_ | refine Ext.setB ?_ (by first | omega | (simp only [size_alloc, size_setB, size_drew]; omega)) _ | refine Ext.trans ?_ (by assumption))) hRZ, hPZ, hXZ⟩
                                                                                              · have hb140p := hb140.h; try simp only [al_ete, al_dfn, Bool.not_eq_true', Bool.not_eq_false', al_ne, Bool.not_not, al_nn] at hb140p
                                                                                                refine W_seq ?_
                                                                                                refine W_seq ?_
                                                                                                refine W_region rfl ?_
                                                                                                refine WO_p (PS_eql rfl rfl) ?_
                                                                                                refine WO_p (PS_assign_bool rfl) ?_
                                                                                                refine WO_nil ?_
                                                                                                refine thn_normal ?_
                                                                                                refine W_if rfl (fun hb143 => ?_) (fun hb143 => ?_)
                                                                                                · have hb143p := hb143.h; try simp only [al_ete, al_dfn, Bool.not_eq_true', Bool.not_eq_false', al_ne, Bool.not_not, al_nn] at hb143p
                                                                                                  refine W_skip ?_
                                                                                                  refine thn_normal ?_
                                                                                                  refine W_condT rfl hb143.h ?_
                                                                                                  refine W_region rfl ?_
                                                                                                  refine WO_p (PS_move_ptr rfl) ?_
                                                                                                  refine WO_call Hvac.call182 (by rfl) (Ret.mono (opBlock_ex scanW C c v B m t f o c' S _ (MS.ext hM (by repeat (first | assumption | exact Ext.refl _ | refine Ext.alloc ?_ _ | refine Ext.drew ?_ | refine Ext.setB ?_ (by first | omega | (simp only [size_alloc, size_setB, size_drew]; omega)) _ | exact Ext.trans (by assumption) (by assumption) | refine Ext.trans ?_ (by assumption)))) hop hAd hk (hAd.pos hkn (by omega) (by omega) (by omega)) y rest g (hRl.ext hM (by repeat (first | assumption | exact Ext.refl _ | refine Ext.alloc ?_ _ | refine Ext.drew ?_ | refine Ext.setB ?_ (by first | omega | (simp only [size_alloc, size_setB, size_drew]; omega)) _ | exact Ext.trans (by assumption) (by assumption) | refine Ext.trans ?_ (by assumption)))) (by omega) hAd.ri.ti.eh) ?_)
                                                                                                  rintro _ wZ ⟨vZ, mZ, hRZ, hPZ, hXZ⟩
                                                                                                  rw [← yexec_plain hob (by omega)] at hXZ
                                                                                                  refine WO_nil ?_
                                                                                                  refine inBlk_normal ?_
                                                                                                  first | refine bodyQ_ret0 Hvac.results107 ?_ | refine bodyQ_end0 Hvac.results107 ?_
                                                                                                  exact ⟨vZ, mZ, MRet.pre (by repeat (first | assumption | exact Ext.refl _ | refine Ext.alloc ?_ _ | refine Ext.drew ?_ | refine Ext.setB ?_ (by first | omega | (simp only [size_alloc, size_setB, size_drew]; omega)) _ | refine Ext.trans ?_ (by assumption))) hRZ, hPZ, hXZ⟩
                                                                                                · have hb143p := hb143.h; try simp only [al_ete, al_dfn, Bool.not_eq_true', Bool.not_eq_false', al_ne, Bool.not_not, al_nn] at hb143p
                                                                                                  refine W_seq ?_
                                                                                                  refine W_region rfl ?_
                                                                                                  refine WO_p (PS_eql rfl rfl) ?_
                                                                                                  refine WO_p (PS_assign_bool rfl) ?_
                                                                                                  refine WO_nil ?_
                                                                                                  refine thn_normal ?_
                                                                                                  refine W_if rfl (fun hb146 => ?_) (fun hb146 => ?_)
                                                                                                  · have hb146p := hb146.h; try simp only [al_ete, al_dfn, Bool.not_eq_true', Bool.not_eq_false', al_ne, Bool.not_not, al_nn] at hb146p
                                                                                                    refine W_skip ?_
                                                                                                    refine thn_normal ?_
                                                                                                    refine W_condT rfl hb146.h ?_
                                                                                                    refine W_region rfl ?_
                                                                                                    refine WO_p (PS_move_ptr rfl) ?_
                                                                                                    refine WO_call Hvac.call182 (by rfl) (Ret.mono (opBlock_ex scanW C c v B m t f o c' S _ (MS.ext hM (by repeat (first | assumption | exact Ext.refl _ | refine Ext.alloc ?_ _ | refine Ext.drew ?_ | refine Ext.setB ?_ (by first | omega | (simp only [size_alloc, size_setB, size_drew]; omega)) _ | exact Ext.trans (by assumption) (by assumption) | refine Ext.trans ?_ (by assumption)))) hop hAd hk (hAd.pos hkn (by omega) (by omega) (by omega)) y rest g (hRl.ext hM (by repeat (first | assumption | exact Ext.refl _ | refine Ext.alloc ?_ _ | refine Ext.drew ?_ | refine Ext.setB ?_ (by first | omega | (simp only [size_alloc, size_setB, size_drew]; omega)) _ | exact Ext.trans (by assumption) (by assumption) | refine Ext.trans ?_ (by assumption)))) (by omega) hAd.ri.ti.eh) ?_)
                                                                                                    rintro _ wZ ⟨vZ, mZ, hRZ, hPZ, hXZ⟩
                                                                                                    rw [← yexec_plain hob (by omega)] at hXZ
                                                                                                    refine WO_nil ?_
                                                                                                    refine inBlk_normal ?_
                                                                                                    first | refine bodyQ_ret0 Hvac.results107 ?_ | refine bodyQ_end0 Hvac.results107 ?_
                                                                                                    exact ⟨vZ, mZ, MRet.pre (by repeat (first | assumption | exact Ext.refl _ | refine Ext.alloc ?_ _ | refine Ext.drew ?_ | refine Ext.setB ?_ (by first | omega | (simp only [size_alloc, size_setB, size_drew]; omega)) _ | refine Ext.trans ?_ (by assumption))) hRZ, hPZ, hXZ⟩
                                                                                                  · have hb146p := hb146.h; try simp only [al_ete, al_dfn, Bool.not_eq_true', Bool.not_eq_false', al_ne, Bool.not_not, al_nn] at hb146p
                                                                                                    refine W_seq ?_
                                                                                                    refine W_region rfl ?_
                                                                                                    refine WO_p (PS_eql rfl rfl) ?_
                                                                                                    refine WO_p (PS_assign_bool rfl) ?_
                                                                                                    refine WO_nil ?_
                                                                                                    refine thn_normal ?_
                                                                                                    refine W_if rfl (fun hb149 => ?_) (fun hb149 => ?_)
                                                                                                    · have hb149p := hb149.h; try simp only [al_ete, al_dfn, Bool.not_eq_true', Bool.not_eq_false', al_ne, Bool.not_not, al_nn] at hb149p
                                                                                                      refine W_skip ?_
                                                                                                      refine thn_normal ?_
                                                                                                      refine W_condT rfl hb149.h ?_
                                                                                                      refine W_region rfl ?_
                                                                                                      refine WO_p (PS_move_ptr rfl) ?_
                                                                                                      refine WO_call Hvac.call182 (by rfl) (Ret.mono (opBlock_ex scanW C c v B m t f o c' S _ (MS.ext hM (by repeat (first | assumption | exact Ext.refl _ | refine Ext.alloc ?_ _ | refine Ext.drew ?_ | refine Ext.setB ?_ (by first | omega | (simp only [size_alloc, size_setB, size_drew]; omega)) _ | exact Ext.trans (by assumption) (by assumption) | refine Ext.trans ?_ (by assumption)))) hop hAd hk (hAd.pos hkn (by omega) (by omega) (by omega)) y rest g (hRl.ext hM (by repeat (first | assumption | exact Ext.refl _ | refine Ext.alloc ?_ _ | refine Ext.drew ?_ | refine Ext.setB ?_ (by first | omega | (simp only [size_alloc, size_setB, size_drew]; omega)) _ | exact Ext.trans (by assumption) (by assumption) | refine Ext.trans ?_ (by assumption)))) (by omega) hAd.ri.ti.eh) ?_)
                                                                                                      rintro _ wZ ⟨vZ, mZ, hRZ, hPZ, hXZ⟩
                                                                                                      rw [← yexec_plain hob (by omega)] at hXZ
                                                                                                      refine WO_nil ?_
                                                                                                      refine inBlk_normal ?_
                                                                                                      first | refine bodyQ_ret0 Hvac.results107 ?_ | refine bodyQ_end0 Hvac.results107 ?_
                                                                                                      exact ⟨vZ, mZ, MRet.pre (by repeat (first | assumption | exact Ext.refl _ | refine Ext.alloc ?_ _ | refine Ext.drew ?_ | refine Ext.setB ?_ (by first | omega | (simp only [size_alloc, size_setB, size_drew]; omega)) _ | refine Ext.trans ?_ (by assumption))) hRZ, hPZ, hXZ⟩
                                                                                                    · have hb149p := hb149.h; try simp only [al_ete, al_dfn, Bool.not_eq_true', Bool.not_eq_false', al_ne, Bool.not_not, al_nn] at hb149p
                                                                                                      refine W_seq ?_
                                                                                                      refine W_region rfl ?_
                                                                                                      refine WO_p (PS_eql rfl rfl) ?_
                                                                                                      refine WO_p (PS_assign_bool rfl) ?_
                                                                                                      refine WO_nil ?_
                                                                                                      refine thn_normal ?_
                                                                                                      refine W_if rfl (fun hb152 => ?_) (fun hb152 => ?_)
                                                                                                      · have hb152p := hb152.h; try simp only [al_ete, al_dfn, Bool.not_eq_true', Bool.not_eq_false', al_ne, Bool.not_not, al_nn] at hb152p
                                                                                                        refine W_skip ?_
                                                                                                        refine thn_normal ?_
                                                                                                        refine W_condT rfl hb152.h ?_
                                                                                                        refine W_region rfl ?_
                                                                                                        refine WO_p (PS_move_ptr rfl) ?_
                                                                                                        refine WO_call Hvac.call182 (by rfl) (Ret.mono (opBlock_ex scanW C c v B m t f o c' S _ (MS.ext hM (by repeat (first | assumption | exact Ext.refl _ | refine Ext.alloc ?_ _ | refine Ext.drew ?_ | refine Ext.setB ?_ (by first | omega | (simp only [size_alloc, size_setB, size_drew]; omega)) _ | exact Ext.trans (by assumption) (by assumption) | refine Ext.trans ?_ (by assumption)))) hop hAd hk (hAd.pos hkn (by omega) (by omega) (by omega)) y rest g (hRl.ext hM (by repeat (first | assumption | exact Ext.refl _ | refine Ext.alloc ?_ _ | refine Ext.drew ?_ | refine Ext.setB ?_ (by first | omega | (simp only [size_alloc, size_setB, size_drew]; omega)) _ | exact Ext.trans (by assumption) (by assumption) | refine Ext.trans ?_ (by assumption)))) (by omega) hAd.ri.ti.eh) ?_)
                                                                                                        rintro _ wZ ⟨vZ, mZ, hRZ, hPZ, hXZ⟩
                                                                                                        rw [← yexec_plain hob (by omega)] at hXZ
                                                                                                        refine WO_nil ?_
                                                                                                        refine inBlk_normal ?_
                                                                                                        first | refine bodyQ_ret0 Hvac.results107 ?_ | refine bodyQ_end0 Hvac.results107 ?_
                                                                                                        exact ⟨vZ, mZ, MRet.pre (by repeat (first | assumption | exact Ext.refl _ | refine Ext.alloc ?_ _ | refine Ext.drew ?_ | refine Ext.setB ?_ (by first | omega | (simp only [size_alloc, size_setB, size_drew]; omega)) _ | refine Ext.trans ?_ (by assumption))) hRZ, hPZ, hXZ⟩
                                                                                                      · have hb152p := hb152.h; try simp only [al_ete, al_dfn, Bool.not_eq_true', Bool.not_eq_false', al_ne, Bool.not_not, al_nn] at hb152p
                                                                                                        refine W_seq ?_
                                                                                                        refine W_region rfl ?_
                                                                                                        refine WO_p (PS_eql rfl rfl) ?_
                                                                                                        refine WO_p (PS_assign_bool rfl) ?_
                                                                                                        refine WO_nil ?_
                                                                                                        refine thn_normal ?_
                                                                                                        refine W_if rfl (fun hb155 => ?_) (fun hb155 => ?_)
                                                                                                        · have hb155p := hb155.h; try simp only [al_ete, al_dfn, Bool.not_eq_true', Bool.not_eq_false', al_ne, Bool.not_not, al_nn] at hb155p
                                                                                                          refine W_skip ?_
                                                                                                          refine thn_normal ?_
                                                                                                          refine W_condT rfl hb155.h ?_
                                                                                                          refine W_region rfl ?_
                                                                                                          refine WO_p (PS_move_ptr rfl) ?_
                                                                                                          refine WO_call Hvac.call182 (by rfl) (Ret.mono (opBlock_ex scanW C c v B m t f o c' S _ (MS.ext hM (by repeat (first | assumption | exact Ext.refl _ | refine Ext.alloc ?_ _ | refine Ext.drew ?_ | refine Ext.setB ?_ (by first | omega | (simp only [size_alloc, size_setB, size_drew]; omega)) _ | exact Ext.trans (by assumption) (by assumption) | refine Ext.trans ?_ (by assumption)))) hop hAd hk (hAd.pos hkn (by omega) (by omega) (by omega)) y rest g (hRl.ext hM (by repeat (first | assumption | exact Ext.refl _ | refine Ext.alloc ?_ _ | refine Ext.drew ?_ | refine Ext.setB ?_ (by first | omega | (simp only [size_alloc, size_setB, size_drew]; omega)) _ | exact Ext.trans (by assumption) (by assumption) | refine Ext.trans ?_ (by assumption)))) (by omega) hAd.ri.ti.eh) ?_)
                                                                                                          rintro _ wZ ⟨vZ, mZ, hRZ, hPZ, hXZ⟩
                                                                                                          rw [← yexec_plain hob (by omega)] at hXZ
                                                                                                          refine WO_nil ?_
                                                                                                          refine inBlk_normal ?_
                                                                                                          first | refine bodyQ_ret0 Hvac.results107 ?_ | refine bodyQ_end0 Hvac.results107 ?_
                                                                                                          exact ⟨vZ, mZ, MRet.pre (by repeat (first | assumption | exact Ext.refl _ | refine Ext.alloc ?_ _ | refine Ext.drew ?_ | refine Ext.setB ?_ (by first | omega | (simp only [size_alloc, size_setB, size_drew]; omega)) _ | refine Ext.trans ?_ (by assumption))) hRZ, hPZ, hXZ⟩
                                                                                                        · have hb155p := hb155.h; try simp only [al_ete, al_dfn, Bool.not_eq_true', Bool.not_eq_false', al_ne, Bool.not_not, al_nn] at hb155p
                                                                                                          refine W_seq ?_
                                                                                                          refine W_region rfl ?_
                                                                                                          refine WO_p (PS_eql rfl rfl) ?_
                                                                                                          refine WO_p (PS_assign_bool rfl) ?_
                                                                                                          refine WO_nil ?_
                                                                                                          refine thn_normal ?_
                                                                                                          refine W_if rfl (fun hb158 => ?_) (fun hb158 => ?_)
                                                                                                          · have hb158p := hb158.h; try simp only [al_ete, al_dfn, Bool.not_eq_true', Bool.not_eq_false', al_ne, Bool.not_not, al_nn] at hb158p
                                                                                                            refine W_skip ?_
                                                                                                            refine thn_normal ?_
                                                                                                            refine W_condT rfl hb158.h ?_
                                                                                                            refine W_region rfl ?_
                                                                                                            refine WO_p (PS_move_ptr rfl) ?_
                                                                                                            refine WO_call Hvac.call182 (by rfl) (Ret.mono (opBlock_ex scanW C c v B m t f o c' S _ (MS.ext hM (by repeat (first | assumption | exact Ext.refl _ | refine Ext.alloc ?_ _ | refine Ext.drew ?_ | refine Ext.setB ?_ (by first | omega | (simp only [size_alloc, size_setB, size_drew]; omega)) _ | exact Ext.trans (by assumption) (by assumption) | refine Ext.trans ?_ (by assumption)))) hop hAd hk (hAd.pos hkn (by omega) (by omega) (by omega)) y rest g (hRl.ext hM (by repeat (first | assumption | exact Ext.refl _ | refine Ext.alloc ?_ _ | refine Ext.drew ?_ | refine Ext.setB ?_ (by first | omega | (simp only [size_alloc, size_setB, size_drew]; omega)) _ | exact Ext.trans (by assumption) (by assumption) | refine Ext.trans ?_ (by assumption)))) (by omega) hAd.ri.ti.eh) ?_)
                                                                                                            rintro _ wZ ⟨vZ, mZ, hRZ, hPZ, hXZ⟩
                                                                                                            rw [← yexec_plain hob (by omega)] at hXZ
                                                                                                            refine WO_nil ?_
                                                                                                            refine inBlk_normal ?_
                                                                                                            first | refine bodyQ_ret0 Hvac.results107 ?_ | refine bodyQ_end0 Hvac.results107 ?_
                                                                                                            exact ⟨vZ, mZ, MRet.pre (by repeat (first | assumption | exact Ext.refl _ | refine Ext.alloc ?_ _ | refine Ext.drew ?_ | refine Ext.setB ?_ (by first | omega | (simp only [size_alloc, size_setB, size_drew]; omega)) _ | refine Ext.trans ?_ (by assumption))) hRZ, hPZ, hXZ⟩
                                                                                                          · have hb158p := hb158.h; try simp only [al_ete, al_dfn, Bool.not_eq_true', Bool.not_eq_false', al_ne, Bool.not_not, al_nn] at hb158p
                                                                                                            refine W_seq ?_
                                                                                                            refine W_region rfl ?_
                                                                                                            refine WO_p (PS_eql rfl rfl) ?_
                                                                                                            refine WO_p (PS_assign_bool rfl) ?_
                                                                                                            refine WO_nil ?_
                                                                                                            refine thn_normal ?_
                                                                                                            refine W_if rfl (fun hb161 => ?_) (fun hb161 => ?_)
                                                                                                            · have hb161p := hb161.h; try simp only [al_ete, al_dfn, Bool.not_eq_true', Bool.not_eq_false', al_ne, Bool.not_not, al_nn] at hb161p
                                                                                                              refine W_skip ?_
                                                                                                              refine thn_normal ?_
                                                                                                              refine W_condT rfl hb161.h ?_
                                                                                                              refine W_region rfl ?_
                                                                                                              refine WO_p (PS_move_ptr rfl) ?_
                                                                                                              refine WO_call Hvac.call182 (by rfl) (Ret.mono (opBlock_ex scanW C c v B m t f o c' S _ (MS.ext hM (by repeat (first | assumption | exact Ext.refl _ | refine Ext.alloc ?_ _ | refine Ext.drew ?_ | refine Ext.setB ?_ (by first | omega | (simp only [size_alloc, size_setB, size_drew]; omega)) _ | exact Ext.trans (by assumption) (by assumption) | refine Ext.trans ?_ (by assumption)))) hop hAd hk (hAd.pos hkn (by omega) (by omega) (by omega)) y rest g (hRl.ext hM (by repeat (first | assumption | exact Ext.refl _ | refine Ext.alloc ?_ _ | refine Ext.drew ?_ | refine Ext.setB ?_ (by first | omega | (simp only [size_alloc, size_setB, size_drew]; omega)) _ | exact Ext.trans (by assumption) (by assumption) | refine Ext.trans ?_ (by assumption)))) (by omega) hAd.ri.ti.eh) ?_)
                                                                                                              rintro _ wZ ⟨vZ, mZ, hRZ, hPZ, hXZ⟩
                                                                                                              rw [← yexec_plain hob (by omega)] at hXZ
                                                                                                              refine WO_nil ?_
                                                                                                              refine inBlk_normal ?_
                                                                                                              first | refine bodyQ_ret0 Hvac.results107 ?_ | refine bodyQ_end0 Hvac.results107 ?_
                                                                                                              exact ⟨vZ, mZ, MRet.pre (by repeat (first | assumption | exact Ext.refl _ | refine Ext.alloc ?_ _ | refine Ext.drew ?_ | refine Ext.setB ?_ (by first | omega | (simp only [size_alloc, size_setB, size_drew]; omega)) _ | refine Ext.trans ?_ (by assumption))) hRZ, hPZ, hXZ⟩
                                                                                                            · have hb161p := hb161.h; try simp only [al_ete, al_dfn, Bool.not_eq_true', Bool.not_eq_false', al_ne, Bool.not_not, al_nn] at hb161p
                                                                                                              refine W_region rfl ?_
                                                                                                              refine WO_p (PS_eql rfl rfl) ?_
                                                                                                              refine WO_p (PS_assign_bool rfl) ?_
                                                                                                              refine WO_nil ?_
                                                                                                              refine thn_normal ?_
                                                                                                              refine W_if rfl (fun hb164 => ?_) (fun hb164 => ?_)
                                                                                                              · have hb164p := hb164.h; try simp only [al_ete, al_dfn, Bool.not_eq_true', Bool.not_eq_false', al_ne, Bool.not_not, al_nn] at hb164p
                                                                                                                refine W_region rfl ?_
                                                                                                                refine WO_p (PS_move_ptr rfl) ?_
                                                                                                                refine WO_call Hvac.call182 (by rfl) (Ret.mono (opBlock_ex scanW C c v B m t f o c' S _ (MS.ext hM (by repeat (first | assumption | exact Ext.refl _ | refine Ext.alloc ?_ _ | refine Ext.drew ?_ | refine Ext.setB ?_ (by first | omega | (simp only [size_alloc, size_setB, size_drew]; omega)) _ | exact Ext.trans (by assumption) (by assumption) | refine Ext.trans ?_ (by assumption)))) hop hAd hk (hAd.pos hkn (by omega) (by omega) (by omega)) y rest g (hRl.ext hM (by repeat (first | assumption | exact Ext.refl _ | refine Ext.alloc ?_ _ | refine Ext.drew ?_ | refine Ext.setB ?_ (by first | omega | (simp only [size_alloc, size_setB, size_drew]; omega)) _ | exact Ext.trans (by assumption) (by assumption) | refine Ext.trans ?_ (by assumption)))) (by omega) hAd.ri.ti.eh) ?_)
                                                                                                                rintro _ wZ ⟨vZ, mZ, hRZ, hPZ, hXZ⟩
                                                                                                                rw [← yexec_plain hob (by omega)] at hXZ
                                                                                                                refine WO_nil ?_
                                                                                                                refine inBlk_normal ?_
                                                                                                                first | refine bodyQ_ret0 Hvac.results107 ?_ | refine bodyQ_end0 Hvac.results107 ?_
                                                                                                                exact ⟨vZ, mZ, MRet.pre (by repeat (first | assumption | exact Ext.refl _ | refine Ext.alloc ?_ _ | refine Ext.drew ?_ | refine Ext.setB ?_ (by first | omega | (simp only [size_alloc, size_setB, size_drew]; omega)) _ | refine Ext.trans ?_ (by assumption))) hRZ, hPZ, hXZ⟩
                                                                                                              · have hb164p := hb164.h; try simp only [al_ete, al_dfn, Bool.not_eq_true', Bool.not_eq_false', al_ne, Bool.not_not, al_nn] at hb164p
                                                                                                                refine W_seq ?_
                                                                                                                refine W_seq ?_
                                                                                                                refine W_region rfl ?_
                                                                                                                refine WO_p (PS_eql rfl rfl) ?_
                                                                                                                refine WO_p (PS_assign_bool rfl) ?_
                                                                                                                refine WO_nil ?_
                                                                                                                refine thn_normal ?_
                                                                                                                refine W_if rfl (fun hb167 => ?_) (fun hb167 => ?_)
                                                                                                                · have hb167p := hb167.h; try simp only [al_ete, al_dfn, Bool.not_eq_true', Bool.not_eq_false', al_ne, Bool.not_not, al_nn] at hb167p
                                                                                                                  refine W_skip ?_
                                                                                                                  refine thn_normal ?_
                                                                                                                  refine W_condT rfl hb167.h ?_
                                                                                                                  refine W_region rfl ?_
                                                                                                                  refine WO_p (PS_move_ptr rfl) ?_
                                                                                                                  refine WO_call Hvac.call183 (by rfl) (Ret.mono (opMemory_ex scanW C c v B m t f o c' S _ (MS.ext hM (by repeat (first | assumption | exact Ext.refl _ | refine Ext.alloc ?_ _ | refine Ext.drew ?_ | refine Ext.setB ?_ (by first | omega | (simp only [size_alloc, size_setB, size_drew]; omega)) _ | exact Ext.trans (by assumption) (by assumption) | refine Ext.trans ?_ (by assumption)))) hop hAd hk (hAd.pos hkn (by omega) (by omega) (by omega)) y rest g (hRl.ext hM (by repeat (first | assumption | exact Ext.refl _ | refine Ext.alloc ?_ _ | refine Ext.drew ?_ | refine Ext.setB ?_ (by first | omega | (simp only [size_alloc, size_setB, size_drew]; omega)) _ | exact Ext.trans (by assumption) (by assumption) | refine Ext.trans ?_ (by assumption)))) (by omega)) ?_)
                                                                                                                  rintro _ wZ ⟨vZ, mZ, hRZ, hPZ, hXZ⟩
                                                                                                                  rw [← yexec_plain hob (by omega)] at hXZ
                                                                                                                  refine WO_nil ?_
                                                                                                                  refine inBlk_normal ?_
                                                                                                                  first | refine bodyQ_ret0 Hvac.results107 ?_ | refine bodyQ_end0 Hvac.results107 ?_
                                                                                                                  exact ⟨vZ, mZ, MRet.pre (by repeat (first | assumption | exact Ext.refl _ | refine Ext.alloc ?_ _ | refine Ext.drew ?_ | refine Ext.setB ?_ (by first | omega | (simp only [size_alloc, size_setB, size_drew]; omega)) _ | refine Ext.trans ?_ (by assumption))) hRZ, hPZ, hXZ⟩
                                                                                                                · have hb167p := hb167.h; try simp only [al_ete, al_dfn, Bool.not_eq_true', Bool.not_eq_false', al_ne, Bool.not_not, al_nn] at hb167p
                                                                                                                  refine W_seq ?_
                                                                                                                  refine W_region rfl ?_
                                                                                                                  refine WO_p (PS_eql rfl rfl) ?_
                                                                                                                  refine WO_p (PS_assign_bool rfl) ?_
                                                                                                                  refine WO_nil ?_
                                                                                                                  refine thn_normal ?_
                                                                                                                  refine W_if rfl (fun hb170 => ?_) (fun hb170 => ?_)
                                                                                                                  · have hb170p := hb170.h; try simp only [al_ete, al_dfn, Bool.not_eq_true', Bool.not_eq_false', al_ne, Bool.not_not, al_nn] at hb170p
                                                                                                                    refine W_skip ?_
                                                                                                                    refine thn_normal ?_
                                                                                                                    refine W_condT rfl hb170.h ?_
                                                                                                                    refine W_region rfl ?_
                                                                                                                    refine WO_p (PS_move_ptr rfl) ?_
                                                                                                                    refine WO_call Hvac.call183 (by rfl) (Ret.mono (opMemory_ex scanW C c v B m t f o c' S _ (MS.ext hM (by repeat (first | assumption | exact Ext.refl _ | refine Ext.alloc ?_ _ | refine Ext.drew ?_ | refine Ext.setB ?_ (by first | omega | (simp only [size_alloc, size_setB, size_drew]; omega)) _ | exact Ext.trans (by assumption) (by assumption) | refine Ext.trans ?_ (by assumption)))) hop hAd hk (hAd.pos hkn (by omega) (by omega) (by omega)) y rest g (hRl.ext hM (by repeat (first | assumption | exact Ext.refl _ | refine Ext.alloc ?_ _ | refine Ext.drew ?_ | refine Ext.setB ?_ (by first | omega | (simp only [size_alloc, size_setB, size_drew]; omega)) _ | exact Ext.trans (by assumption) (by assumption) | refine Ext.trans ?_ (by assumption)))) (by omega)) ?_)
                                                                                                                    rintro _ wZ ⟨vZ, mZ, hRZ, hPZ, hXZ⟩
                                                                                                                    rw [← yexec_plain hob (by omega)] at hXZ
                                                                                                                    refine WO_nil ?_
                                                                                                                    refine inBlk_normal ?_
                                                                                                                    first | refine bodyQ_ret0 Hvac.results107 ?_ | refine bodyQ_end0 Hvac.results107 ?_
                                                                                                                    exact ⟨vZ, mZ, MRet.pre (by repeat (first | assumption | exact Ext.refl _ | refine Ext.alloc ?_ _ | refine Ext.drew ?_ | refine Ext.setB ?_ (by first | omega | (simp only [size_alloc, size_setB, size_drew]; omega)) _ | refine Ext.trans ?_ (by assumption))) hRZ, hPZ, hXZ⟩
                                                                                                                  · have hb170p := hb170.h; try simp only [al_ete, al_dfn, Bool.not_eq_true', Bool.not_eq_false', al_ne, Bool.not_not, al_nn] at hb170p
                                                                                                                    refine W_region rfl ?_
                                                                                                                    refine WO_p (PS_eql rfl rfl) ?_
                                                                                                                    refine WO_p (PS_assign_bool rfl) ?_
                                                                                                                    refine WO_nil ?_
                                                                                                                    refine thn_normal ?_
                                                                                                                    refine W_if rfl (fun hb173 => ?_) (fun hb173 => ?_)
                                                                                                                    · have hb173p := hb173.h; try simp only [al_ete, al_dfn, Bool.not_eq_true', Bool.not_eq_false', al_ne, Bool.not_not, al_nn] at hb173p
                                                                                                                      refine W_region rfl ?_
                                                                                                                      refine WO_p (PS_move_ptr rfl) ?_
                                                                                                                      refine WO_call Hvac.call183 (by rfl) (Ret.mono (opMemory_ex scanW C c v B m t f o c' S _ (MS.ext hM (by repeat (first | assumption | exact Ext.refl _ | refine Ext.alloc ?_ _ | refine Ext.drew ?_ | refine Ext.setB ?_ (by first | omega | (simp only [size_alloc, size_setB, size_drew]; omega)) _ | exact Ext.trans (by assumption) (by assumption) | refine Ext.trans ?_ (by assumption)))) hop hAd hk (hAd.pos hkn (by omega) (by omega) (by omega)) y rest g (hRl.ext hM (by repeat (first | assumption | exact Ext.refl _ | refine Ext.alloc ?_ _ | refine Ext.drew ?_ | refine Ext.setB ?_ (by first | omega | (simp only [size_alloc, size_setB, size_drew]; omega)) _ | exact Ext.trans (by assumption) (by assumption) | refine Ext.trans ?_ (by assumption)))) (by omega)) ?_)
                                                                                                                      rintro _ wZ ⟨vZ, mZ, hRZ, hPZ, hXZ⟩
                                                                                                                      rw [← yexec_plain hob (by omega)] at hXZ
                                                                                                                      refine WO_nil ?_
                                                                                                                      refine inBlk_normal ?_
                                                                                                                      first | refine bodyQ_ret0 Hvac.results107 ?_ | refine bodyQ_end0 Hvac.results107 ?_
                                                                                                                      exact ⟨vZ, mZ, MRet.pre (by repeat (first | assumption | exact Ext.refl _ | refine Ext.alloc ?_ _ | refine Ext.drew ?_ | refine Ext.setB ?_ (by first | omega | (simp only [size_alloc, size_setB, size_drew]; omega)) _ | refine Ext.trans ?_ (by assumption))) hRZ, hPZ, hXZ⟩
                                                                                                                    · have hb173p := hb173.h; try simp only [al_ete, al_dfn, Bool.not_eq_true', Bool.not_eq_false', al_ne, Bool.not_not, al_nn] at hb173p
                                                                                                                      refine W_seq ?_
                                                                                                                      refine W_seq ?_
                                                                                                                      refine W_region rfl ?_
                                                                                                                      refine WO_p (PS_eql rfl rfl) ?_
                                                                                                                      refine WO_p (PS_assign_bool rfl) ?_
                                                                                                                      refine WO_nil ?_
                                                                                                                      refine thn_normal ?_
                                                                                                                      refine W_if rfl (fun hb176 => ?_) (fun hb176 => ?_)
                                                                                                                      · have hb176p := hb176.h; try simp only [al_ete, al_dfn, Bool.not_eq_true', Bool.not_eq_false', al_ne, Bool.not_not, al_nn] at hb176p
                                                                                                                        refine W_skip ?_
                                                                                                                        refine thn_normal ?_
                                                                                                                        refine W_condT rfl hb176.h ?_
                                                                                                                        refine W_region rfl ?_
                                                                                                                        refine WO_p (PS_move_ptr rfl) ?_
                                                                                                                        refine WO_call Hvac.call184 (by rfl) (Ret.mono (opStorage_ex scanW C c v B m t f o c' S _ (MS.ext hM (by repeat (first | assumption | exact Ext.refl _ | refine Ext.alloc ?_ _ | refine Ext.drew ?_ | refine Ext.setB ?_ (by first | omega | (simp only [size_alloc, size_setB, size_drew]; omega)) _ | exact Ext.trans (by assumption) (by assumption) | refine Ext.trans ?_ (by assumption)))) hop hAd hk (hAd.pos hkn (by omega) (by omega) (by omega)) y rest g (hRl.ext hM (by repeat (first | assumption | exact Ext.refl _ | refine Ext.alloc ?_ _ | refine Ext.drew ?_ | refine Ext.setB ?_ (by first | omega | (simp only [size_alloc, size_setB, size_drew]; omega)) _ | exact Ext.trans (by assumption) (by assumption) | refine Ext.trans ?_ (by assumption)))) (by omega)) ?_)
                                                                                                                        rintro _ wZ ⟨vZ, mZ, hRZ, hPZ, hXZ⟩
                                                                                                                        rw [← yexec_plain hob (by omega)] at hXZ
                                                                                                                        refine WO_nil ?_
                                                                                                                        refine inBlk_normal ?_
                                                                                                                        first | refine bodyQ_ret0 Hvac.results107 ?_ | refine bodyQ_end0 Hvac.results107 ?_
                                                                                                                        exact ⟨vZ, mZ, MRet.pre (by repeat (first | assumption | exact Ext.refl _ | refine Ext.alloc ?_ _ | refine Ext.drew ?_ | refine Ext.setB ?_ (by first | omega | (simp only [size_alloc, size_setB, size_drew]; omega)) _ | refine Ext.trans ?_ (by assumption))) hRZ, hPZ, hXZ⟩
                                                                                                                      · have hb176p := hb176.h; try simp only [al_ete, al_dfn, Bool.not_eq_true', Bool.not_eq_false', al_ne, Bool.not_not, al_nn] at hb176p
                                                                                                                        refine W_region rfl ?_
                                                                                                                        refine WO_p (PS_eql rfl rfl) ?_
                                                                                                                        refine WO_p (PS_assign_bool rfl) ?_
                                                                                                                        refine WO_nil ?_
                                                                                                                        refine thn_normal ?_
                                                                                                                        refine W_if rfl (fun hb179 => ?_) (fun hb179 => ?_)
                                                                                                                        · have hb179p := hb179.h; try simp only [al_ete, al_dfn, Bool.not_eq_true', Bool.not_eq_false', al_ne, Bool.not_not, al_nn] at hb179p
                                                                                                                          refine W_region rfl ?_
                                                                                                                          refine WO_p (PS_move_ptr rfl) ?_
                                                                                                                          refine WO_call Hvac.call184 (by rfl) (Ret.mono (opStorage_ex scanW C c v B m t f o c' S _ (MS.ext hM (by repeat (first | assumption | exact Ext.refl _ | refine Ext.alloc ?_ _ | refine Ext.drew ?_ | refine Ext.setB ?_ (by first | omega | (simp only [size_alloc, size_setB, size_drew]; omega)) _ | exact Ext.trans (by assumption) (by assumption) | refine Ext.trans ?_ (by assumption)))) hop hAd hk (hAd.pos hkn (by omega) (by omega) (by omega)) y rest g (hRl.ext hM (by repeat (first | assumption | exact Ext.refl _ | refine Ext.alloc ?_ _ | refine Ext.drew ?_ | refine Ext.setB ?_ (by first | omega | (simp only [size_alloc, size_setB, size_drew]; omega)) _ | exact Ext.trans (by assumption) (by assumption) | refine Ext.trans ?_ (by assumption)))) (by omega)) ?_)
                                                                                                                          rintro _ wZ ⟨vZ, mZ, hRZ, hPZ, hXZ⟩
                                                                                                                          rw [← yexec_plain hob (by omega)] at hXZ
                                                                                                                          refine WO_nil ?_
                                                                                                                          refine inBlk_normal ?_
                                                                                                                          first | refine bodyQ_ret0 Hvac.results107 ?_ | refine bodyQ_end0 Hvac.results107 ?_
                                                                                                                          exact ⟨vZ, mZ, MRet.pre (by repeat (first | assumption | exact Ext.refl _ | refine Ext.alloc ?_ _ | refine Ext.drew ?_ | refine Ext.setB ?_ (by first | omega | (simp only [size_alloc, size_setB, size_drew]; omega)) _ | refine Ext.trans ?_ (by assumption))) hRZ, hPZ, hXZ⟩
                                                                                                                        · have hb179p := hb179.h; try simp only [al_ete, al_dfn, Bool.not_eq_true', Bool.not_eq_false', al_ne, Bool.not_not, al_nn] at hb179p
                                                                                                                          refine W_seq ?_
                                                                                                                          refine W_seq ?_
                                                                                                                          refine W_region rfl ?_
                                                                                                                          refine WO_p (PS_eql rfl rfl) ?_
                                                                                                                          refine WO_p (PS_assign_bool rfl) ?_
                                                                                                                          refine WO_nil ?_
                                                                                                                          refine thn_normal ?_
                                                                                                                          refine W_if rfl (fun hb182 => ?_) (fun hb182 => ?_)
                                                                                                                          · have hb182p := hb182.h; try simp only [al_ete, al_dfn, Bool.not_eq_true', Bool.not_eq_false', al_ne, Bool.not_not, al_nn] at hb182p
                                                                                                                            refine W_skip ?_
                                                                                                                            refine thn_normal ?_
                                                                                                                            refine W_condT rfl hb182.h ?_
                                                                                                                            refine W_region rfl ?_
                                                                                                                            refine WO_p (PS_move_ptr rfl) ?_
                                                                                                                            refine WO_call Hvac.call185 (by rfl) (Ret.mono (opJump_ex scanW C c v B m t f o c' S _ (MS.ext hM (by repeat (first | assumption | exact Ext.refl _ | refine Ext.alloc ?_ _ | refine Ext.drew ?_ | refine Ext.setB ?_ (by first | omega | (simp only [size_alloc, size_setB, size_drew]; omega)) _ | exact Ext.trans (by assumption) (by assumption) | refine Ext.trans ?_ (by assumption)))) hop hAd hk (hAd.pos hkn (by omega) (by omega) (by omega)) y rest g (hRl.ext hM (by repeat (first | assumption | exact Ext.refl _ | refine Ext.alloc ?_ _ | refine Ext.drew ?_ | refine Ext.setB ?_ (by first | omega | (simp only [size_alloc, size_setB, size_drew]; omega)) _ | exact Ext.trans (by assumption) (by assumption) | refine Ext.trans ?_ (by assumption)))) (by omega)) ?_)
                                                                                                                            rintro _ wZ ⟨vZ, mZ, hRZ, hPZ, hXZ⟩
                                                                                                                            rw [← yexec_plain hob (by omega)] at hXZ
                                                                                                                            refine WO_nil ?_
                                                                                                                            refine inBlk_normal ?_
                                                                                                                            first | refine bodyQ_ret0 Hvac.results107 ?_ | refine bodyQ_end0 Hvac.results107 ?_
                                                                                                                            exact ⟨vZ, mZ, MRet.pre (by repeat (first | assumption | exact Ext.refl _ | refine Ext.alloc ?_ _ | refine Ext.drew ?_ | refine Ext.setB ?_ (by first | omega | (simp only [size_alloc, size_setB, size_drew]; omega)) _ | refine Ext.trans ?_ (by assumption))) hRZ, hPZ, hXZ⟩
                                                                                                                          · have hb182p := hb182.h; try simp only [al_ete, al_dfn, Bool.not_eq_true', Bool.not_eq_false', al_ne, Bool.not_not, al_nn] at hb182p
                                                                                                                            refine W_seq ?_
                                                                                                                            refine W_region rfl ?_
                                                                                                                            refine WO_p (PS_eql rfl rfl) ?_
                                                                                                                            refine WO_p (PS_assign_bool rfl) ?_
                                                                                                                            refine WO_nil ?_
                                                                                                                            refine thn_normal ?_
                                                                                                                            refine W_if rfl (fun hb185 => ?_) (fun hb185 => ?_)
                                                                                                                            · have hb185p := hb185.h; try simp only [al_ete, al_dfn, Bool.not_eq_true', Bool.not_eq_false', al_ne, Bool.not_not, al_nn] at hb185p
                                                                                                                              refine W_skip ?_
                                                                                                                              refine thn_normal ?_
                                                                                                                              refine W_condT rfl hb185.h ?_
                                                                                                                              refine W_region rfl ?_
                                                                                                                              refine WO_p (PS_move_ptr rfl) ?_
                                                                                                                              refine WO_call Hvac.call185 (by rfl) (Ret.mono (opJump_ex scanW C c v B m t f o c' S _ (MS.ext hM (by repeat (first | assumption | exact Ext.refl _ | refine Ext.alloc ?_ _ | refine Ext.drew ?_ | refine Ext.setB ?_ (by first | omega | (simp only [size_alloc, size_setB, size_drew]; omega)) _ | exact Ext.trans (by assumption) (by assumption) | refine Ext.trans ?_ (by assumption)))) hop hAd hk (hAd.pos hkn (by omega) (by omega) (by omega)) y rest g (hRl.ext hM (by repeat (first | assumption | exact Ext.refl _ | refine Ext.alloc ?_ _ | refine Ext.drew ?_ | refine Ext.setB ?_ (by first | omega | (simp only [size_alloc, size_setB, size_drew]; omega)) _ | exact Ext.trans (by assumption) (by assumption) | refine Ext.trans ?_ (by assumption)))) (by omega)) ?_)
                                                                                                                              rintro _ wZ ⟨vZ, mZ, hRZ, hPZ, hXZ⟩
                                                                                                                              rw [← yexec_plain hob (by omega)] at hXZ
                                                                                                                              refine WO_nil ?_
                                                                                                                              refine inBlk_normal ?_
                                                                                                                              first | refine bodyQ_ret0 Hvac.results107 ?_ | refine bodyQ_end0 Hvac.results107 ?_
                                                                                                                              exact ⟨vZ, mZ, MRet.pre (by repeat (first | assumption | exact Ext.refl _ | refine Ext.alloc ?_ _ | refine Ext.drew ?_ | refine Ext.setB ?_ (by first | omega | (simp only [size_alloc, size_setB, size_drew]; omega)) _ | refine Ext.trans ?_ (by assumption))) hRZ, hPZ, hXZ⟩
                                                                                                                            · have hb185p := hb185.h; try simp only [al_ete, al_dfn, Bool.not_eq_true', Bool.not_eq_false', al_ne, Bool.not_not, al_nn] at hb185p
                                                                                                                              refine W_region rfl ?_
                                                                                                                              refine WO_p (PS_eql rfl rfl) ?_
                                                                                                                              refine WO_p (PS_assign_bool rfl) ?_
                                                                                                                              refine WO_nil ?_
                                                                                                                              refine thn_normal ?_
                                                                                                                              refine W_if rfl (fun hb188 => ?_) (fun hb188 => ?_)
                                                                                                                              · have hb188p := hb188.h; try simp only [al_ete, al_dfn, Bool.not_eq_true', Bool.not_eq_false', al_ne, Bool.not_not, al_nn] at hb188p
                                                                                                                                refine W_region rfl ?_
                                                                                                                                refine WO_p (PS_move_ptr rfl) ?_
                                                                                                                                refine WO_call Hvac.call185 (by rfl) (Ret.mono (opJump_ex scanW C c v B m t f o c' S _ (MS.ext hM (by repeat (first | assumption | exact Ext.refl _ | refine Ext.alloc ?_ _ | refine Ext.drew ?_ | refine Ext.setB ?_ (by first | omega | (simp only [size_alloc, size_setB, size_drew]; omega)) _ | exact Ext.trans (by assumption) (by assumption) | refine Ext.trans ?_ (by assumption)))) hop hAd hk (hAd.pos hkn (by omega) (by omega) (by omega)) y rest g (hRl.ext hM (by repeat (first | assumption | exact Ext.refl _ | refine Ext.alloc ?_ _ | refine Ext.drew ?_ | refine Ext.setB ?_ (by first | omega | (simp only [size_alloc, size_setB, size_drew]; omega)) _ | exact Ext.trans (by assumption) (by assumption) | refine Ext.trans ?_ (by assumption)))) (by omega)) ?_)
                                                                                                                                rintro _ wZ ⟨vZ, mZ, hRZ, hPZ, hXZ⟩
                                                                                                                                rw [← yexec_plain hob (by omega)] at hXZ
                                                                                                                                refine WO_nil ?_
                                                                                                                                refine inBlk_normal ?_
                                                                                                                                first | refine bodyQ_ret0 Hvac.results107 ?_ | refine bodyQ_end0 Hvac.results107 ?_
                                                                                                                                exact ⟨vZ, mZ, MRet.pre (by repeat (first | assumption | exact Ext.refl _ | refine Ext.alloc ?_ _ | refine Ext.drew ?_ | refine Ext.setB ?_ (by first | omega | (simp only [size_alloc, size_setB, size_drew]; omega)) _ | refine Ext.trans ?_ (by assumption))) hRZ, hPZ, hXZ⟩
                                                                                                                              · have hb188p := hb188.h; try simp only [al_ete, al_dfn, Bool.not_eq_true', Bool.not_eq_false', al_ne, Bool.not_not, al_nn] at hb188p
                                                                                                                                refine W_seq ?_
                                                                                                                                refine W_seq ?_
                                                                                                                                refine W_region rfl ?_
                                                                                                                                refine WO_p (PS_eql rfl rfl) ?_
                                                                                                                                refine WO_p (PS_assign_bool rfl) ?_
                                                                                                                                refine WO_nil ?_
                                                                                                                                refine thn_normal ?_
                                                                                                                                refine W_if rfl (fun hb191 => ?_) (fun hb191 => ?_)
                                                                                                                                · have hb191p := hb191.h; try simp only [al_ete, al_dfn, Bool.not_eq_true', Bool.not_eq_false', al_ne, Bool.not_not, al_nn] at hb191p
                                                                                                                                  refine W_skip ?_
                                                                                                                                  refine thn_normal ?_
                                                                                                                                  refine W_condT rfl hb191.h ?_
                                                                                                                                  refine W_region rfl ?_
                                                                                                                                  refine WO_p (PS_move_ptr rfl) ?_
                                                                                                                                  refine WO_call Hvac.call186 (by rfl) (Ret.mono (opCreate_ex C c v B m t f o c' S _ (MS.ext hM (by repeat (first | assumption | exact Ext.refl _ | refine Ext.alloc ?_ _ | refine Ext.drew ?_ | refine Ext.setB ?_ (by first | omega | (simp only [size_alloc, size_setB, size_drew]; omega)) _ | exact Ext.trans (by assumption) (by assumption) | refine Ext.trans ?_ (by assumption)))) hop hAd hk (hAd.pos hkn (by omega) (by omega) (by omega)) y rest g (hRl.ext hM (by repeat (first | assumption | exact Ext.refl _ | refine Ext.alloc ?_ _ | refine Ext.drew ?_ | refine Ext.setB ?_ (by first | omega | (simp only [size_alloc, size_setB, size_drew]; omega)) _ | exact Ext.trans (by assumption) (by assumption) | refine Ext.trans ?_ (by assumption)))) (by omega)) ?_)
                                                                                                                                  rintro _ wZ ⟨vZ, mZ, hRZ, hPZ, hXZ⟩
                                                                                                                                  rw [← yexec_cr (by omega)] at hXZ
                                                                                                                                  refine WO_nil ?_
                                                                                                                                  refine inBlk_normal ?_
                                                                                                                                  first | refine bodyQ_ret0 Hvac.results107 ?_ | refine bodyQ_end0 Hvac.results107 ?_
                                                                                                                                  exact ⟨vZ, mZ, MRet.pre (by repeat (first | assumption | exact Ext.refl _ | refine Ext.alloc ?_ _ | refine Ext.drew ?_ | refine Ext.setB ?_ (by first | omega | (simp only [size_alloc, size_setB, size_drew]; omega)) _ | refine Ext.trans ?_ (by assumption))) hRZ, hPZ, hXZ⟩
                                                                                                                                · have hb191p := hb191.h; try simp only [al_ete, al_dfn, Bool.not_eq_true', Bool.not_eq_false', al_ne, Bool.not_not, al_nn] at hb191p
                                                                                                                                  refine W_region rfl ?_
                                                                                                                                  refine WO_p (PS_eql rfl rfl) ?_
                                                                                                                                  refine WO_p (PS_assign_bool rfl) ?_
                                                                                                                                  refine WO_nil ?_
                                                                                                                                  refine thn_normal ?_
                                                                                                                                  refine W_if rfl (fun hb194 => ?_) (fun hb194 => ?_)
                                                                                                                                  · have hb194p := hb194.h; try simp only [al_ete, al_dfn, Bool.not_eq_true', Bool.not_eq_false', al_ne, Bool.not_not, al_nn] at hb194p
                                                                                                                                    refine W_region rfl ?_
                                                                                                                                    refine WO_p (PS_move_ptr rfl) ?_
                                                                                                                                    refine WO_call Hvac.call186 (by rfl) (Ret.mono (opCreate_ex C c v B m t f o c' S _ (MS.ext hM (by repeat (first | assumption | exact Ext.refl _ | refine Ext.alloc ?_ _ | refine Ext.drew ?_ | refine Ext.setB ?_ (by first | omega | (simp only [size_alloc, size_setB, size_drew]; omega)) _ | exact Ext.trans (by assumption) (by assumption) | refine Ext.trans ?_ (by assumption)))) hop hAd hk (hAd.pos hkn (by omega) (by omega) (by omega)) y rest g (hRl.ext hM (by repeat (first | assumption | exact Ext.refl _ | refine Ext.alloc ?_ _ | refine Ext.drew ?_ | refine Ext.setB ?_ (by first | omega | (simp only [size_alloc, size_setB, size_drew]; omega)) _ | exact Ext.trans (by assumption) (by assumption) | refine Ext.trans ?_ (by assumption)))) (by omega)) ?_)
                                                                                                                                    rintro _ wZ ⟨vZ, mZ, hRZ, hPZ, hXZ⟩
                                                                                                                                    rw [← yexec_cr (by omega)] at hXZ
                                                                                                                                    refine WO_nil ?_
                                                                                                                                    refine inBlk_normal ?_
                                                                                                                                    first | refine bodyQ_ret0 Hvac.results107 ?_ | refine bodyQ_end0 Hvac.results107 ?_
                                                                                                                                    exact ⟨vZ, mZ, MRet.pre (by repeat (first | assumption | exact Ext.refl _ | refine Ext.alloc ?_ _ | refine Ext.drew ?_ | refine Ext.setB ?_ (by first | omega | (simp only [size_alloc, size_setB, size_drew]; omega)) _ | refine Ext.trans ?_ (by assumption))) hRZ, hPZ, hXZ⟩
                                                                                                                                  · have hb194p := hb194.h; try simp only [al_ete, al_dfn, Bool.not_eq_true', Bool.not_eq_false', al_ne, Bool.not_not, al_nn] at hb194p
                                                                                                                                    refine W_seq ?_
                                                                                                                                    refine W_seq ?_
                                                                                                                                    refine W_region rfl ?_
                                                                                                                                    refine WO_p (PS_eql rfl rfl) ?_
                                                                                                                                    refine WO_p (PS_assign_bool rfl) ?_
                                                                                                                                    refine WO_nil ?_
                                                                                                                                    refine thn_normal ?_
                                                                                                                                    refine W_if rfl (fun hb197 => ?_) (fun hb197 => ?_)
                                                                                                                                    · have hb197p := hb197.h; try simp only [al_ete, al_dfn, Bool.not_eq_true', Bool.not_eq_false', al_ne, Bool.not_not, al_nn] at hb197p
                                                                                                                                      refine W_skip ?_
                                                                                                                                      refine thn_normal ?_
                                                                                                                                      refine W_condT rfl hb197.h ?_
                                                                                                                                      refine W_region rfl ?_
                                                                                                                                      refine WO_p (PS_move_ptr rfl) ?_
                                                                                                                                      refine WO_call Hvac.call187 (by rfl) (Ret.mono (opTransient_ex scanW C c v B m t f o c' S _ (MS.ext hM (by repeat (first | assumption | exact Ext.refl _ | refine Ext.alloc ?_ _ | refine Ext.drew ?_ | refine Ext.setB ?_ (by first | omega | (simp only [size_alloc, size_setB, size_drew]; omega)) _ | exact Ext.trans (by assumption) (by assumption) | refine Ext.trans ?_ (by assumption)))) hop hAd hk (hAd.pos hkn (by omega) (by omega) (by omega)) y rest g (hRl.ext hM (by repeat (first | assumption | exact Ext.refl _ | refine Ext.alloc ?_ _ | refine Ext.drew ?_ | refine Ext.setB ?_ (by first | omega | (simp only [size_alloc, size_setB, size_drew]; omega)) _ | exact Ext.trans (by assumption) (by assumption) | refine Ext.trans ?_ (by assumption)))) (by omega)) ?_)
                                                                                                                                      rintro _ wZ ⟨vZ, mZ, hRZ, hPZ, hXZ⟩
                                                                                                                                      rw [← yexec_plain hob (by omega)] at hXZ
                                                                                                                                      refine WO_nil ?_
                                                                                                                                      refine inBlk_normal ?_
                                                                                                                                      first | refine bodyQ_ret0 Hvac.results107 ?_ | refine bodyQ_end0 Hvac.results107 ?_
                                                                                                                                      exact ⟨vZ, mZ, MRet.pre (by repeat (first | assumption | exact Ext.refl _ | refine Ext.alloc ?_ _ | refine Ext.drew ?_ | refine Ext.setB ?_ (by first | omega | (simp only [size_alloc, size_setB, size_drew]; omega)) _ | refine Ext.trans ?_ (by assumption))) hRZ, hPZ, hXZ⟩
                                                                                                                                    · have hb197p := hb197.h; try simp only [al_ete, al_dfn, Bool.not_eq_true', Bool.not_eq_false', al_ne, Bool.not_not, al_nn] at hb197p
                                                                                                                                      refine W_region rfl ?_
                                                                                                                                      refine WO_p (PS_eql rfl rfl) ?_
                                                                                                                                      refine WO_p (PS_assign_bool rfl) ?_
                                                                                                                                      refine WO_nil ?_
                                                                                                                                      refine thn_normal ?_
                                                                                                                                      refine W_if rfl (fun hb200 => ?_) (fun hb200 => ?_)
                                                                                                                                      · have hb200p := hb200.h; try simp only [al_ete, al_dfn, Bool.not_eq_true', Bool.not_eq_false', al_ne, Bool.not_not, al_nn] at hb200p
                                                                                                                                        refine W_region rfl ?_
                                                                                                                                        refine WO_p (PS_move_ptr rfl) ?_
                                                                                                                                        refine WO_call Hvac.call187 (by rfl) (Ret.mono (opTransient_ex scanW C c v B m t f o c' S _ (MS.ext hM (by repeat (first | assumption | exact Ext.refl _ | refine Ext.alloc ?_ _ | refine Ext.drew ?_ | refine Ext.setB ?_ (by first | omega | (simp only [size_alloc, size_setB, size_drew]; omega)) _ | exact Ext.trans (by assumption) (by assumption) | refine Ext.trans ?_ (by assumption)))) hop hAd hk (hAd.pos hkn (by omega) (by omega) (by omega)) y rest g (hRl.ext hM (by repeat (first | assumption | exact Ext.refl _ | refine Ext.alloc ?_ _ | refine Ext.drew ?_ | refine Ext.setB ?_ (by first | omega | (simp only [size_alloc, size_setB, size_drew]; omega)) _ | exact Ext.trans (by assumption) (by assumption) | refine Ext.trans ?_ (by assumption)))) (by omega)) ?_)
                                                                                                                                        rintro _ wZ ⟨vZ, mZ, hRZ, hPZ, hXZ⟩
                                                                                                                                        rw [← yexec_plain hob (by omega)] at hXZ
                                                                                                                                        refine WO_nil ?_
                                                                                                                                        refine inBlk_normal ?_
                                                                                                                                        first | refine bodyQ_ret0 Hvac.results107 ?_ | refine bodyQ_end0 Hvac.results107 ?_
                                                                                                                                        exact ⟨vZ, mZ, MRet.pre (by repeat (first | assumption | exact Ext.refl _ | refine Ext.alloc ?_ _ | refine Ext.drew ?_ | refine Ext.setB ?_ (by first | omega | (simp only [size_alloc, size_setB, size_drew]; omega)) _ | refine Ext.trans ?_ (by assumption))) hRZ, hPZ, hXZ⟩
                                                                                                                                      · have hb200p := hb200.h; try simp only [al_ete, al_dfn, Bool.not_eq_true', Bool.not_eq_false', al_ne, Bool.not_not, al_nn] at hb200p
                                                                                                                                        refine W_seq ?_
                                                                                                                                        refine W_region rfl ?_
                                                                                                                                        refine WO_p (PS_eql rfl rfl) ?_
                                                                                                                                        refine WO_p (PS_assign_bool rfl) ?_
                                                                                                                                        refine WO_nil ?_
                                                                                                                                        refine thn_normal ?_
                                                                                                                                        refine W_if rfl (fun hb203 => ?_) (fun hb203 => ?_)
                                                                                                                                        · have hb203p := hb203.h; try simp only [al_ete, al_dfn, Bool.not_eq_true', Bool.not_eq_false', al_ne, Bool.not_not, al_nn] at hb203p
                                                                                                                                          refine W_region rfl ?_
                                                                                                                                          refine WO_p (PS_move_ptr rfl) ?_
                                                                                                                                          refine WO_call Hvac.call188 (by rfl) (Ret.mono (opDestruct_ex scanW C c v B m t f o c' S _ (MS.ext hM (by repeat (first | assumption | exact Ext.refl _ | refine Ext.alloc ?_ _ | refine Ext.drew ?_ | refine Ext.setB ?_ (by first | omega | (simp only [size_alloc, size_setB, size_drew]; omega)) _ | exact Ext.trans (by assumption) (by assumption) | refine Ext.trans ?_ (by assumption)))) hop hAd hk (hAd.pos hkn (by omega) (by omega) (by omega)) y rest g (hRl.ext hM (by repeat (first | assumption | exact Ext.refl _ | refine Ext.alloc ?_ _ | refine Ext.drew ?_ | refine Ext.setB ?_ (by first | omega | (simp only [size_alloc, size_setB, size_drew]; omega)) _ | exact Ext.trans (by assumption) (by assumption) | refine Ext.trans ?_ (by assumption)))) (by omega)) ?_)
                                                                                                                                          rintro _ wZ ⟨vZ, mZ, hRZ, hPZ, hXZ⟩
                                                                                                                                          rw [← yexec_des (by omega)] at hXZ
                                                                                                                                          refine WO_nil ?_
                                                                                                                                          refine inBlk_normal ?_
                                                                                                                                          first | refine bodyQ_ret0 Hvac.results107 ?_ | refine bodyQ_end0 Hvac.results107 ?_
                                                                                                                                          exact ⟨vZ, mZ, MRet.pre (by repeat (first | assumption | exact Ext.refl _ | refine Ext.alloc ?_ _ | refine Ext.drew ?_ | refine Ext.setB ?_ (by first | omega | (simp only [size_alloc, size_setB, size_drew]; omega)) _ | refine Ext.trans ?_ (by assumption))) hRZ, hPZ, hXZ⟩
                                                                                                                                        · have hb203p := hb203.h; try simp only [al_ete, al_dfn, Bool.not_eq_true', Bool.not_eq_false', al_ne, Bool.not_not, al_nn] at hb203p
                                                                                                                                          refine W_seq ?_
                                                                                                                                          refine W_seq ?_
                                                                                                                                          refine W_region rfl ?_
                                                                                                                                          refine WO_p (PS_eql rfl rfl) ?_
                                                                                                                                          refine WO_p (PS_assign_bool rfl) ?_
                                                                                                                                          refine WO_nil ?_
                                                                                                                                          refine thn_normal ?_
                                                                                                                                          refine W_if rfl (fun hb206 => ?_) (fun hb206 => ?_)
                                                                                                                                          · have hb206p := hb206.h; try simp only [al_ete, al_dfn, Bool.not_eq_true', Bool.not_eq_false', al_ne, Bool.not_not, al_nn] at hb206p
                                                                                                                                            refine W_skip ?_
                                                                                                                                            refine thn_normal ?_
                                                                                                                                            refine W_condT rfl hb206.h ?_
                                                                                                                                            refine W_region rfl ?_
                                                                                                                                            refine WO_p (PS_move_ptr rfl) ?_
                                                                                                                                            refine WO_call Hvac.call189 (by rfl) (Ret.mono (opCall_ex C c v B m t f o c' S _ (MS.ext hM (by repeat (first | assumption | exact Ext.refl _ | refine Ext.alloc ?_ _ | refine Ext.drew ?_ | refine Ext.setB ?_ (by first | omega | (simp only [size_alloc, size_setB, size_drew]; omega)) _ | exact Ext.trans (by assumption) (by assumption) | refine Ext.trans ?_ (by assumption)))) hop hAd hk (hAd.pos hkn (by omega) (by omega) (by omega)) y rest g (hRl.ext hM (by repeat (first | assumption | exact Ext.refl _ | refine Ext.alloc ?_ _ | refine Ext.drew ?_ | refine Ext.setB ?_ (by first | omega | (simp only [size_alloc, size_setB, size_drew]; omega)) _ | exact Ext.trans (by assumption) (by assumption) | refine Ext.trans ?_ (by assumption)))) (by omega)) ?_)
                                                                                                                                            rintro _ wZ ⟨vZ, mZ, hRZ, hPZ, hXZ⟩
                                                                                                                                            rw [← yexec_call (by omega)] at hXZ
                                                                                                                                            refine WO_nil ?_
                                                                                                                                            refine inBlk_normal ?_
                                                                                                                                            first | refine bodyQ_ret0 Hvac.results107 ?_ | refine bodyQ_end0 Hvac.results107 ?_
                                                                                                                                            exact ⟨vZ, mZ, MRet.pre (by repeat (first | assumption | exact Ext.refl _ | refine Ext.alloc ?_ _ | refine Ext.drew ?_ | refine Ext.setB ?_ (by first | omega | (simp only [size_alloc, size_setB, size_drew]; omega)) _ | refine Ext.trans ?_ (by assumption))) hRZ, hPZ, hXZ⟩
                                                                                                                                          · have hb206p := hb206.h; try simp only [al_ete, al_dfn, Bool.not_eq_true', Bool.not_eq_false', al_ne, Bool.not_not, al_nn] at hb206p
                                                                                                                                            refine W_seq ?_
                                                                                                                                            refine W_region rfl ?_
                                                                                                                                            refine WO_p (PS_eql rfl rfl) ?_
                                                                                                                                            refine WO_p (PS_assign_bool rfl) ?_
                                                                                                                                            refine WO_nil ?_
                                                                                                                                            refine thn_normal ?_
                                                                                                                                            refine W_if rfl (fun hb209 => ?_) (fun hb209 => ?_)
                                                                                                                                            · have hb209p := hb209.h; try simp only [al_ete, al_dfn, Bool.not_eq_true', Bool.not_eq_false', al_ne, Bool.not_not, al_nn] at hb209p
                                                                                                                                              refine W_skip ?_
                                                                                                                                              refine thn_normal ?_
                                                                                                                                              refine W_condT rfl hb209.h ?_
                                                                                                                                              refine W_region rfl ?_
                                                                                                                                              refine WO_p (PS_move_ptr rfl) ?_
                                                                                                                                              refine WO_call Hvac.call189 (by rfl) (Ret.mono (opCall_ex C c v B m t f o c' S _ (MS.ext hM (by repeat (first | assumption | exact Ext.refl _ | refine Ext.alloc ?_ _ | refine Ext.drew ?_ | refine Ext.setB ?_ (by first | omega | (simp only [size_alloc, size_setB, size_drew]; omega)) _ | exact Ext.trans (by assumption) (by assumption) | refine Ext.trans ?_ (by assumption)))) hop hAd hk (hAd.pos hkn (by omega) (by omega) (by omega)) y rest g (hRl.ext hM (by repeat (first | assumption | exact Ext.refl _ | refine Ext.alloc ?_ _ | refine Ext.drew ?_ | refine Ext.setB ?_ (by first | omega | (simp only [size_alloc, size_setB, size_drew]; omega)) _ | exact Ext.trans (by assumption) (by assumption) | refine Ext.trans ?_ (by assumption)))) (by omega)) ?_)
                                                                                                                                              rintro _ wZ ⟨vZ, mZ, hRZ, hPZ, hXZ⟩
                                                                                                                                              rw [← yexec_call (by omega)] at hXZ
                                                                                                                                              refine WO_nil ?_
                                                                                                                                              refine inBlk_normal ?_
                                                                                                                                              first | refine bodyQ_ret0 Hvac.results107 ?_ | refine bodyQ_end0 Hvac.results107 ?_
                                                                                                                                              exact ⟨vZ, mZ, MRet.pre (by repeat (first | assumption | exact Ext.refl _ | refine Ext.alloc ?_ _ | refine Ext.drew ?_ | refine Ext.setB ?_ (by first | omega | (simp only [size_alloc, size_setB, size_drew]; omega)) _ | refine Ext.trans ?_ (by assumption))) hRZ, hPZ, hXZ⟩
                                                                                                                                            · have hb209p := hb209.h; try simp only [al_ete, al_dfn, Bool.not_eq_true', Bool.not_eq_false', al_ne, Bool.not_not, al_nn] at hb209p
                                                                                                                                              refine W_seq ?_
                                                                                                                                              refine W_region rfl ?_
                                                                                                                                              refine WO_p (PS_eql rfl rfl) ?_
                                                                                                                                              refine WO_p (PS_assign_bool rfl) ?_
                                                                                                                                              refine WO_nil ?_
                                                                                                                                              refine thn_normal ?_
                                                                                                                                              refine W_if rfl (fun hb212 => ?_) (fun hb212 => ?_)
                                                                                                                                              · have hb212p := hb212.h; try simp only [al_ete, al_dfn, Bool.not_eq_true', Bool.not_eq_false', al_ne, Bool.not_not, al_nn] at hb212p
                                                                                                                                                refine W_skip ?_
                                                                                                                                                refine thn_normal ?_
                                                                                                                                                refine W_condT rfl hb212.h ?_
                                                                                                                                                refine W_region rfl ?_
                                                                                                                                                refine WO_p (PS_move_ptr rfl) ?_
                                                                                                                                                refine WO_call Hvac.call189 (by rfl) (Ret.mono (opCall_ex C c v B m t f o c' S _ (MS.ext hM (by repeat (first | assumption | exact Ext.refl _ | refine Ext.alloc ?_ _ | refine Ext.drew ?_ | refine Ext.setB ?_ (by first | omega | (simp only [size_alloc, size_setB, size_drew]; omega)) _ | exact Ext.trans (by assumption) (by assumption) | refine Ext.trans ?_ (by assumption)))) hop hAd hk (hAd.pos hkn (by omega) (by omega) (by omega)) y rest g (hRl.ext hM (by repeat (first | assumption | exact Ext.refl _ | refine Ext.alloc ?_ _ | refine Ext.drew ?_ | refine Ext.setB ?_ (by first | omega | (simp only [size_alloc, size_setB, size_drew]; omega)) _ | exact Ext.trans (by assumption) (by assumption) | refine Ext.trans ?_ (by assumption)))) (by omega)) ?_)
                                                                                                                                                rintro _ wZ ⟨vZ, mZ, hRZ, hPZ, hXZ⟩
                                                                                                                                                rw [← yexec_call (by omega)] at hXZ
                                                                                                                                                refine WO_nil ?_
                                                                                                                                                refine inBlk_normal ?_
                                                                                                                                                first | refine bodyQ_ret0 Hvac.results107 ?_ | refine bodyQ_end0 Hvac.results107 ?_
                                                                                                                                                exact ⟨vZ, mZ, MRet.pre (by repeat (first | assumption | exact Ext.refl _ | refine Ext.alloc ?_ _ | refine Ext.drew ?_ | refine Ext.setB ?_ (by first | omega | (simp only [size_alloc, size_setB, size_drew]; omega)) _ | refine Ext.trans ?_ (by assumption))) hRZ, hPZ, hXZ⟩
                                                                                                                                              · have hb212p := hb212.h; try simp only [al_ete, al_dfn, Bool.not_eq_true', Bool.not_eq_false', al_ne, Bool.not_not, al_nn] at hb212p
                                                                                                                                                refine W_region rfl ?_
                                                                                                                                                refine WO_p (PS_eql rfl rfl) ?_
                                                                                                                                                refine WO_p (PS_assign_bool rfl) ?_
                                                                                                                                                refine WO_nil ?_
                                                                                                                                                refine thn_normal ?_
                                                                                                                                                refine W_if rfl (fun hb215 => ?_) (fun hb215 => ?_)
                                                                                                                                                · have hb215p := hb215.h; try simp only [al_ete, al_dfn, Bool.not_eq_true', Bool.not_eq_false', al_ne, Bool.not_not, al_nn] at hb215p
                                                                                                                                                  refine W_region rfl ?_
                                                                                                                                                  refine WO_p (PS_move_ptr rfl) ?_
                                                                                                                                                  refine WO_call Hvac.call189 (by rfl) (Ret.mono (opCall_ex C c v B m t f o c' S _ (MS.ext hM (by repeat (first | assumption | exact Ext.refl _ | refine Ext.alloc ?_ _ | refine Ext.drew ?_ | refine Ext.setB ?_ (by first | omega | (simp only [size_alloc, size_setB, size_drew]; omega)) _ | exact Ext.trans (by assumption) (by assumption) | refine Ext.trans ?_ (by assumption)))) hop hAd hk (hAd.pos hkn (by omega) (by omega) (by omega)) y rest g (hRl.ext hM (by repeat (first | assumption | exact Ext.refl _ | refine Ext.alloc ?_ _ | refine Ext.drew ?_ | refine Ext.setB ?_ (by first | omega | (simp only [size_alloc, size_setB, size_drew]; omega)) _ | exact Ext.trans (by assumption) (by assumption) | refine Ext.trans ?_ (by assumption)))) (by omega)) ?_)
                                                                                                                                                  rintro _ wZ ⟨vZ, mZ, hRZ, hPZ, hXZ⟩
                                                                                                                                                  rw [← yexec_call (by omega)] at hXZ
                                                                                                                                                  refine WO_nil ?_
                                                                                                                                                  refine inBlk_normal ?_
                                                                                                                                                  first | refine bodyQ_ret0 Hvac.results107 ?_ | refine bodyQ_end0 Hvac.results107 ?_
                                                                                                                                                  exact ⟨vZ, mZ, MRet.pre (by repeat (first | assumption | exact Ext.refl _ | refine Ext.alloc ?_ _ | refine Ext.drew ?_ | refine Ext.setB ?_ (by first | omega | (simp only [size_alloc, size_setB, size_drew]; omega)) _ | refine Ext.trans ?_ (by assumption))) hRZ, hPZ, hXZ⟩
                                                                                                                                                · have hb215p := hb215.h; try simp only [al_ete, al_dfn, Bool.not_eq_true', Bool.not_eq_false', al_ne, Bool.not_not, al_nn] at hb215p
                                                                                                                                                  refine W_seq ?_
                                                                                                                                                  refine W_seq ?_
                                                                                                                                                  refine W_region rfl ?_
                                                                                                                                                  refine WO_p (PS_eql rfl rfl) ?_
                                                                                                                                                  refine WO_p (PS_assign_bool rfl) ?_
                                                                                                                                                  refine WO_nil ?_
                                                                                                                                                  refine thn_normal ?_
                                                                                                                                                  refine W_if rfl (fun hb218 => ?_) (fun hb218 => ?_)
                                                                                                                                                  · have hb218p := hb218.h; try simp only [al_ete, al_dfn, Bool.not_eq_true', Bool.not_eq_false', al_ne, Bool.not_not, al_nn] at hb218p
                                                                                                                                                    refine W_skip ?_
                                                                                                                                                    refine thn_normal ?_
                                                                                                                                                    refine W_condT rfl hb218.h ?_
                                                                                                                                                    refine W_region rfl ?_
                                                                                                                                                    refine WO_p (PS_move_ptr rfl) ?_
                                                                                                                                                    refine WO_call Hvac.call190 (by rfl) (Ret.mono (opEnd_ex scanW C c v B m t f o c' S _ (MS.ext hM (by repeat (first | assumption | exact Ext.refl _ | refine Ext.alloc ?_ _ | refine Ext.drew ?_ | refine Ext.setB ?_ (by first | omega | (simp only [size_alloc, size_setB, size_drew]; omega)) _ | exact Ext.trans (by assumption) (by assumption) | refine Ext.trans ?_ (by assumption)))) hop hAd hk y rest g (hRl.ext hM (by repeat (first | assumption | exact Ext.refl _ | refine Ext.alloc ?_ _ | refine Ext.drew ?_ | refine Ext.setB ?_ (by first | omega | (simp only [size_alloc, size_setB, size_drew]; omega)) _ | exact Ext.trans (by assumption) (by assumption) | refine Ext.trans ?_ (by assumption)))) (by omega)) ?_)
                                                                                                                                                    rintro _ wZ ⟨vZ, mZ, hRZ, hPZ, hXZ⟩
                                                                                                                                                    rw [← yexec_end (ks := khash) (by omega)] at hXZ
                                                                                                                                                    refine WO_nil ?_
                                                                                                                                                    refine inBlk_normal ?_
                                                                                                                                                    first | refine bodyQ_ret0 Hvac.results107 ?_ | refine bodyQ_end0 Hvac.results107 ?_
                                                                                                                                                    exact ⟨vZ, mZ, MRet.pre (by repeat (first | assumption | exact Ext.refl _ | refine Ext.alloc ?_ _ | refine Ext.drew ?_ | refine Ext.setB ?_ (by first | omega | (simp only [size_alloc, size_setB, size_drew]; omega)) _ | refine Ext.trans ?_ (by assumption))) hRZ, hPZ, hXZ⟩
                                                                                                                                                  · have hb218p := hb218.h; try simp only [al_ete, al_dfn, Bool.not_eq_true', Bool.not_eq_false', al_ne, Bool.not_not, al_nn] at hb218p
                                                                                                                                                    refine W_seq ?_
                                                                                                                                                    refine W_region rfl ?_
                                                                                                                                                    refine WO_p (PS_eql rfl rfl) ?_
                                                                                                                                                    refine WO_p (PS_assign_bool rfl) ?_
                                                                                                                                                    refine WO_nil ?_
                                                                                                                                                    refine thn_normal ?_
                                                                                                                                                    refine W_if rfl (fun hb221 => ?_) (fun hb221 => ?_)
                                                                                                                                                    · have hb221p := hb221.h; try simp only [al_ete, al_dfn, Bool.not_eq_true', Bool.not_eq_false', al_ne, Bool.not_not, al_nn] at hb221p
                                                                                                                                                      refine W_skip ?_
                                                                                                                                                      refine thn_normal ?_
                                                                                                                                                      refine W_condT rfl hb221.h ?_
                                                                                                                                                      refine W_region rfl ?_
                                                                                                                                                      refine WO_p (PS_move_ptr rfl) ?_
                                                                                                                                                      refine WO_call Hvac.call190 (by rfl) (Ret.mono (opEnd_ex scanW C c v B m t f o c' S _ (MS.ext hM (by repeat (first | assumption | exact Ext.refl _ | refine Ext.alloc ?_ _ | refine Ext.drew ?_ | refine Ext.setB ?_ (by first | omega | (simp only [size_alloc, size_setB, size_drew]; omega)) _ | exact Ext.trans (by assumption) (by assumption) | refine Ext.trans ?_ (by assumption)))) hop hAd hk y rest g (hRl.ext hM (by repeat (first | assumption | exact Ext.refl _ | refine Ext.alloc ?_ _ | refine Ext.drew ?_ | refine Ext.setB ?_ (by first | omega | (simp only [size_alloc, size_setB, size_drew]; omega)) _ | exact Ext.trans (by assumption) (by assumption) | refine Ext.trans ?_ (by assumption)))) (by omega)) ?_)
                                                                                                                                                      rintro _ wZ ⟨vZ, mZ, hRZ, hPZ, hXZ⟩
                                                                                                                                                      rw [← yexec_end (ks := khash) (by omega)] at hXZ
                                                                                                                                                      refine WO_nil ?_
                                                                                                                                                      refine inBlk_normal ?_
                                                                                                                                                      first | refine bodyQ_ret0 Hvac.results107 ?_ | refine bodyQ_end0 Hvac.results107 ?_
                                                                                                                                                      exact ⟨vZ, mZ, MRet.pre (by repeat (first | assumption | exact Ext.refl _ | refine Ext.alloc ?_ _ | refine Ext.drew ?_ | refine Ext.setB ?_ (by first | omega | (simp only [size_alloc, size_setB, size_drew]; omega)) _ | refine Ext.trans ?_ (by assumption))) hRZ, hPZ, hXZ⟩
                                                                                                                                                    · have hb221p := hb221.h; try simp only [al_ete, al_dfn, Bool.not_eq_true', Bool.not_eq_false', al_ne, Bool.not_not, al_nn] at hb221p
                                                                                                                                                      refine W_region rfl ?_
                                                                                                                                                      refine WO_p (PS_eql rfl rfl) ?_
                                                                                                                                                      refine WO_p (PS_assign_bool rfl) ?_
                                                                                                                                                      refine WO_nil ?_
                                                                                                                                                      refine thn_normal ?_
                                                                                                                                                      refine W_if rfl (fun hb224 => ?_) (fun hb224 => ?_)
                                                                                                                                                      · have hb224p := hb224.h; try simp only [al_ete, al_dfn, Bool.not_eq_true', Bool.not_eq_false', al_ne, Bool.not_not, al_nn] at hb224p
                                                                                                                                                        refine W_region rfl ?_
                                                                                                                                                        refine WO_p (PS_move_ptr rfl) ?_
                                                                                                                                                        refine WO_call Hvac.call190 (by rfl) (Ret.mono (opEnd_ex scanW C c v B m t f o c' S _ (MS.ext hM (by repeat (first | assumption | exact Ext.refl _ | refine Ext.alloc ?_ _ | refine Ext.drew ?_ | refine Ext.setB ?_ (by first | omega | (simp only [size_alloc, size_setB, size_drew]; omega)) _ | exact Ext.trans (by assumption) (by assumption) | refine Ext.trans ?_ (by assumption)))) hop hAd hk y rest g (hRl.ext hM (by repeat (first | assumption | exact Ext.refl _ | refine Ext.alloc ?_ _ | refine Ext.drew ?_ | refine Ext.setB ?_ (by first | omega | (simp only [size_alloc, size_setB, size_drew]; omega)) _ | exact Ext.trans (by assumption) (by assumption) | refine Ext.trans ?_ (by assumption)))) (by omega)) ?_)
                                                                                                                                                        rintro _ wZ ⟨vZ, mZ, hRZ, hPZ, hXZ⟩
                                                                                                                                                        rw [← yexec_end (ks := khash) (by omega)] at hXZ
                                                                                                                                                        refine WO_nil ?_
                                                                                                                                                        refine inBlk_normal ?_
                                                                                                                                                        first | refine bodyQ_ret0 Hvac.results107 ?_ | refine bodyQ_end0 Hvac.results107 ?_
                                                                                                                                                        exact ⟨vZ, mZ, MRet.pre (by repeat (first | assumption | exact Ext.refl _ | refine Ext.alloc ?_ _ | refine Ext.drew ?_ | refine Ext.setB ?_ (by first | omega | (simp only [size_alloc, size_setB, size_drew]; omega)) _ | refine Ext.trans ?_ (by assumption))) hRZ, hPZ, hXZ⟩
                                                                                                                                                      · have hb224p := hb224.h; try simp only [al_ete, al_dfn, Bool.not_eq_true', Bool.not_eq_false', al_ne, Bool.not_not, al_nn] at hb224p
                                                                                                                                                        refine W_seq ?_
                                                                                                                                                        refine W_region rfl ?_
                                                                                                                                                        refine WO_p (PS_eql rfl rfl) ?_
                                                                                                                                                        refine WO_p (PS_assign_bool rfl) ?_
                                                                                                                                                        refine WO_nil ?_
                                                                                                                                                        refine thn_normal ?_
                                                                                                                                                        refine W_if rfl (fun hb227 => ?_) (fun hb227 => ?_)
                                                                                                                                                        · have hb227p := hb227.h; try simp only [al_ete, al_dfn, Bool.not_eq_true', Bool.not_eq_false', al_ne, Bool.not_not, al_nn] at hb227p
                                                                                                                                                          refine W_region rfl ?_
                                                                                                                                                          refine WO_p (PS_move_ptr rfl) ?_
                                                                                                                                                          refine WO_call Hvac.call191 (by rfl) (Ret.mono (opPop_ex scanW C c v B m t f o c' S _ (MS.ext hM (by repeat (first | assumption | exact Ext.refl _ | refine Ext.alloc ?_ _ | refine Ext.drew ?_ | refine Ext.setB ?_ (by first | omega | (simp only [size_alloc, size_setB, size_drew]; omega)) _ | exact Ext.trans (by assumption) (by assumption) | refine Ext.trans ?_ (by assumption)))) hop hAd hk (hAd.pos hkn (by omega) (by omega) (by omega)) y rest g (hRl.ext hM (by repeat (first | assumption | exact Ext.refl _ | refine Ext.alloc ?_ _ | refine Ext.drew ?_ | refine Ext.setB ?_ (by first | omega | (simp only [size_alloc, size_setB, size_drew]; omega)) _ | exact Ext.trans (by assumption) (by assumption) | refine Ext.trans ?_ (by assumption)))) (by omega)) ?_)
                                                                                                                                                          rintro _ wZ ⟨vZ, mZ, hRZ, hPZ, hXZ⟩
                                                                                                                                                          rw [← yexec_plain hob (by omega)] at hXZ
                                                                                                                                                          refine WO_nil ?_
                                                                                                                                                          refine inBlk_normal ?_
                                                                                                                                                          first | refine bodyQ_ret0 Hvac.results107 ?_ | refine bodyQ_end0 Hvac.results107 ?_
                                                                                                                                                          exact ⟨vZ, mZ, MRet.pre (by repeat (first | assumption | exact Ext.refl _ | refine Ext.alloc ?_ _ | refine Ext.drew ?_ | refine Ext.setB ?_ (by first | omega | (simp only [size_alloc, size_setB, size_drew]; omega)) _ | refine Ext.trans ?_ (by assumption))) hRZ, hPZ, hXZ⟩
                                                                                                                                                        · have hb227p := hb227.h; try simp only [al_ete, al_dfn, Bool.not_eq_true', Bool.not_eq_false', al_ne, Bool.not_not, al_nn] at hb227p
                                                                                                                                                          refine W_region rfl ?_
                                                                                                                                                          refine WO_p (PS_move_ptr rfl) ?_
                                                                                                                                                          refine WO_p (PS_move_int rfl) ?_
                                                                                                                                                          refine WO_call Hvac.call192 (by rfl) (Ret.mono (execRows_ex C c v B m t f o c' S _ (MS.ext hM (by repeat (first | assumption | exact Ext.refl _ | refine Ext.alloc ?_ _ | refine Ext.drew ?_ | refine Ext.setB ?_ (by first | omega | (simp only [size_alloc, size_setB, size_drew]; omega)) _ | exact Ext.trans (by assumption) (by assumption) | refine Ext.trans ?_ (by assumption)))) hop hAd hk hkn hob y rest g (hRl.ext hM (by repeat (first | assumption | exact Ext.refl _ | refine Ext.alloc ?_ _ | refine Ext.drew ?_ | refine Ext.setB ?_ (by first | omega | (simp only [size_alloc, size_setB, size_drew]; omega)) _ | exact Ext.trans (by assumption) (by assumption) | refine Ext.trans ?_ (by assumption)))) (by omega)) ?_)
                                                                                                                                                          rintro _ wZ ⟨vZ, mZ, hRZ, hPZ, hXZ⟩
                                                                                                                                                          refine WO_nil ?_
                                                                                                                                                          refine inBlk_normal ?_
                                                                                                                                                          first | refine bodyQ_ret0 Hvac.results107 ?_ | refine bodyQ_end0 Hvac.results107 ?_
                                                                                                                                                          exact ⟨vZ, mZ, MRet.pre (by repeat (first | assumption | exact Ext.refl _ | refine Ext.alloc ?_ _ | refine Ext.drew ?_ | refine Ext.setB ?_ (by first | omega | (simp only [size_alloc, size_setB, size_drew]; omega)) _ | refine Ext.trans ?_ (by assumption))) hRZ, hPZ, hXZ⟩

set_option maxRecDepth 10000 in
set_option maxHeartbeats 4000000 in
theorem step_ex [Om] (C : Nat) (c : Array Value) (v : V) (B : VB) (m : Mc) (t : Nat) (f : Fm) (S : Int) (w : World) (hM : MS w C c v B m) (hf : m.frames[t]? = some f) (hI : RI scanW v m t 0 S) (y : PSt) (rest : List PF) (g : PF) (hRl : Rel w v m (y, rest ++ [g])) : Ret Hvac.prog 39 #[.pointer (some ⟨C, 0, none⟩)] w fun u w' => u = .bool true ∧ ∃ v' m', MRet w C B m w' v' m' ∧ OpP scanW m t 0 S v' m' ∧ Rel w' v' m' (ystep khash y rest g) := by
  have hR := hI.run hf
  have hblk := hM.vs.blk
  have hCl := hblk.lt
  have hcs := hM.sz
  have hc_s := hM.rep.s
  have hc_phase := hM.rep.phase
  rw [hI.ph] at hc_phase
  obtain ⟨ht7, hfty, hF⟩ := hM.openF hf
  have hFk := hI.fr t f (Nat.le_refl _) hf
  have hcl : f.code.2.1 ≤ 100000 := by have h1 := hFk.cl; have h2 := (hM.code f (List.mem_of_getElem? hf)).1.len; omega
  have hob : 0 ≤ Mc.opc f ∧ Mc.opc f ≤ 255 := opc_bd (hM.code f (List.mem_of_getElem? hf)).1.by_
  have hib := info_bd (Mc.opc f)
  have hMI := hI.mi
  obtain ⟨Lm, hLm, hFP, hRP⟩ := hRl.top hMI hf
  have hopY : yopcode g = Mc.opc f := hFP.opc
  have htb := tab_at hob
  refine Ret_of_W Hvac.func39 rfl rfl ?_
  refine W_seq ?_
  refine W_region rfl ?_
  refine WO_p (PS_assign_bool rfl) ?_
  refine WO_nil ?_
  refine thn_normal ?_
  refine W_seq ?_
  refine W_seq ?_
  refine W_region rfl ?_
  refine WO_p (PS_move_ptr rfl) ?_
  refine WO_p (PS_nilCheck rfl) ?_
  refine WO_p (PS_fieldAddr 2404 Hvac.runUnderlying70 rfl Hvac.sizeOf5 rfl rfl) ?_
  refine WO_load (.int _ _) Hvac.isAgg5 rfl (Hb.h (by repeat (first | assumption | exact Hb.newY _ _ | refine Hb.alloc ?_ | refine Hb.drew ?_ | refine Hb.ext (by assumption) ?_ | exact Hb.setSameL (by first | omega | (simp only [size_alloc, size_setB, size_drew]; omega)) | exact Hb.setSame (by assumption) | refine Hb.set (by first | omega | (simp only [size_alloc, size_setB, size_drew]; omega)) ?_ ))) (Ce.h (by first | assumption | exact ⟨rfl⟩)) ?_
  refine WO_p (PS_neq rfl rfl) ?_
  refine WO_p (PS_move_bool rfl) ?_
  refine WO_if (t := 13) rfl (fun hb2 => ?_) (fun hb2 => ?_)
  · have hb2p := hb2.h; try simp only [al_ete, al_dfn, Bool.not_eq_true', Bool.not_eq_false', al_ne, Bool.not_not, al_nn] at hb2p
    simp at hb2p --END
  · have hb2p := hb2.h; try simp only [al_ete, al_dfn, Bool.not_eq_true', Bool.not_eq_false', al_ne, Bool.not_not, al_nn] at hb2p
    refine WO_guardT rfl rfl hb2.h ?_
    refine WO_p (PS_move_ptr rfl) ?_
    refine WO_guardT rfl rfl hb2.h ?_
    refine WO_p (PS_nilCheck rfl) ?_
    refine WO_guardT rfl rfl hb2.h ?_
    refine WO_p (PS_fieldAddr 0 Hvac.runUnderlying70 rfl Hvac.sizeOf55 rfl rfl) ?_
    refine WO_guardT rfl rfl hb2.h ?_
    refine WO_load (.pointer _) Hvac.isAgg55 rfl (Hb.h (by repeat (first | assumption | exact Hb.newY _ _ | refine Hb.alloc ?_ | refine Hb.drew ?_ | refine Hb.ext (by assumption) ?_ | exact Hb.setSameL (by first | omega | (simp only [size_alloc, size_setB, size_drew]; omega)) | exact Hb.setSame (by assumption) | refine Hb.set (by first | omega | (simp only [size_alloc, size_setB, size_drew]; omega)) ?_ ))) (Ce.h (by first | assumption | exact ⟨rfl⟩)) ?_
    refine WO_guardT rfl rfl hb2.h ?_
    refine WO_p (PS_eqlnil Hvac.underlying55 rfl) ?_
    refine WO_p (PS_pickF rfl hb2.h rfl) ?_
    refine WO_nil ?_
    refine thn_normal ?_
    refine W_if rfl (fun hb4 => ?_) (fun hb4 => ?_)
    · have hb4p := hb4.h; try simp only [al_ete, al_dfn, Bool.not_eq_true', Bool.not_eq_false', al_ne, Bool.not_not, al_nn] at hb4p
      simp at hb4p --END
    · have hb4p := hb4.h; try simp only [al_ete, al_dfn, Bool.not_eq_true', Bool.not_eq_false', al_ne, Bool.not_not, al_nn] at hb4p
      refine W_skip ?_
      refine thn_normal ?_
      refine W_seq ?_
      refine W_seq ?_
      refine W_region rfl ?_
      refine WO_p (PS_move_ptr rfl) ?_
      refine WO_call Hvac.call103 (by rfl) (Ret.mono (runNtv_ex scanW C c v B m t f S _ (MS.ext hM (by repeat (first | assumption | exact Ext.refl _ | refine Ext.alloc ?_ _ | refine Ext.drew ?_ | refine Ext.setB ?_ (by first | omega | (simp only [size_alloc, size_setB, size_drew]; omega)) _ | exact Ext.trans (by assumption) (by assumption) | refine Ext.trans ?_ (by assumption)))) hf hI y rest g (hRl.ext hM (by repeat (first | assumption | exact Ext.refl _ | refine Ext.alloc ?_ _ | refine Ext.drew ?_ | refine Ext.setB ?_ (by first | omega | (simp only [size_alloc, size_setB, size_drew]; omega)) _ | exact Ext.trans (by assumption) (by assumption) | refine Ext.trans ?_ (by assumption))))) ?_)
      rintro u3 w3 hN3
      have hq3 : ∃ q, u3 = .bool q := hN3.elim (fun h => ⟨_, h.1⟩) (fun h => ⟨_, h.1⟩)
      obtain ⟨q3, rfl⟩ := hq3
      refine WO_nil ?_
      refine thn_normal ?_
      refine W_if rfl (fun hb6 => ?_) (fun hb6 => ?_)
      · have hb6p := hb6.h; try simp only [al_ete, al_dfn, Bool.not_eq_true', Bool.not_eq_false', al_ne, Bool.not_not, al_nn] at hb6p
        have hq : q3 = true := by simpa using hb6p
        subst hq
        rcases hN3 with ⟨he, _, _⟩ | ⟨_, hn3, v3, m3, hR3, hP3, hX3⟩
        · cases he
        refine W_seq ?_
        refine W_region rfl ?_
        refine WO_p (PS_assign_bool rfl) ?_
        refine WO_nil ?_
        refine thn_normal ?_
        refine W_ret ?_
        refine thn_ret ?_
        refine bodyQ_ret1 Hvac.results39 rfl (.bool _) rfl ?_
        exact ⟨rfl, v3, m3, MRet.pre (by repeat (first | assumption | exact Ext.refl _ | refine Ext.alloc ?_ _ | refine Ext.drew ?_ | refine Ext.setB ?_ (by first | omega | (simp only [size_alloc, size_setB, size_drew]; omega)) _ | exact Ext.trans (by assumption) (by assumption) | refine Ext.trans ?_ (by assumption))) hR3, EndP.op hI hM.ty hf (Int.le_refl _) hP3, by rw [ystep_nat hn3]; exact hX3⟩
      · have hb6p := hb6.h; try simp only [al_ete, al_dfn, Bool.not_eq_true', Bool.not_eq_false', al_ne, Bool.not_not, al_nn] at hb6p
        have hq : q3 = false := by simpa using hb6p
        subst hq
        have hE3 := hN3.elim (fun h => h.2.2) (fun h => by cases h.1)
        have hn0 := hN3.elim (fun h => h.2.1) (fun h => by cases h.1)
        have hz3 := hE3.1
        refine W_skip ?_
        refine thn_normal ?_
        refine W_seq ?_
        refine W_region rfl ?_
        refine WO_p (PS_move_ptr rfl) ?_
        refine WO_call Hvac.call104 (by rfl) (Ret.mono (opcode_spec C c v B m t f _ (MS.ext hM (by repeat (first | assumption | exact Ext.refl _ | refine Ext.alloc ?_ _ | refine Ext.drew ?_ | refine Ext.setB ?_ (by first | omega | (simp only [size_alloc, size_setB, size_drew]; omega)) _ | exact Ext.trans (by assumption) (by assumption) | refine Ext.trans ?_ (by assumption)))) hR hcl) ?_)
        rintro _ w104_6 ⟨hE104_6, rfl⟩
        have hz104_6 := hE104_6.1
        try simp only [size_alloc, size_setB, size_drew] at hz104_6
        refine WO_p (PS_assign_int rfl) ?_
        refine WO_nil ?_
        refine thn_normal ?_
        refine W_seq ?_
        refine W_region rfl ?_
        refine WO_p (PS_move_int rfl) ?_
        refine WO_call Hvac.call105 (by rfl) (Ret.mono (info_spec _ _ hob) ?_)
        rintro _ w105_7 ⟨hE105_7, rfl⟩
        have hz105_7 := hE105_7.1
        try simp only [size_alloc, size_setB, size_drew] at hz105_7
        refine WO_p (PS_move_tuple rfl) ?_
        refine WO_p (PS_extract_int rfl rfl) ?_
        refine WO_p (PS_extract_int rfl rfl) ?_
        refine WO_p (PS_extract_int rfl rfl) ?_
        refine WO_p (PS_extract_bool rfl rfl) ?_
        refine WO_p (PS_assign_int rfl) ?_
        refine WO_p (PS_assign_int rfl) ?_
        refine WO_p (PS_assign_int rfl) ?_
        refine WO_p (PS_assign_bool rfl) ?_
        refine WO_nil ?_
        refine thn_normal ?_
        refine W_seq ?_
        refine W_seq ?_
        refine W_region rfl ?_
        refine WO_p (PS_move_ptr rfl) ?_
        refine WO_p (PS_move_int rfl) ?_
        refine WO_p (PS_move_int rfl) ?_
        refine WO_p (PS_move_int rfl) ?_
        refine WO_p (PS_move_int rfl) ?_
        refine WO_p (PS_move_bool rfl) ?_
        refine WO_call Hvac.call106 (by rfl) (Ret.mono (admit_ex scanW C c v B m t f S (Mc.opc f) _ _ _ _ _ (MS.ext hM (by repeat (first | assumption | exact Ext.refl _ | refine Ext.alloc ?_ _ | refine Ext.drew ?_ | refine Ext.setB ?_ (by first | omega | (simp only [size_alloc, size_setB, size_drew]; omega)) _ | exact Ext.trans (by assumption) (by assumption) | refine Ext.trans ?_ (by assumption)))) hf hI hob hib.1 hib.2.1 hib.2.2 htb.1 htb.2.1 rfl htb.2.2.1 rfl y rest g (hRl.ext hM (by repeat (first | assumption | exact Ext.refl _ | refine Ext.alloc ?_ _ | refine Ext.drew ?_ | refine Ext.setB ?_ (by first | omega | (simp only [size_alloc, size_setB, size_drew]; omega)) _ | exact Ext.trans (by assumption) (by assumption) | refine Ext.trans ?_ (by assumption))))) ?_)
        rintro u7 w7 hA7
        have hq7 : ∃ q, u7 = .bool q := hA7.elim (fun h => ⟨_, h.1⟩) (fun h => ⟨_, h.1⟩)
        obtain ⟨q7, rfl⟩ := hq7
        refine WO_nil ?_
        refine thn_normal ?_
        refine W_if rfl (fun hb11 => ?_) (fun hb11 => ?_)
        · have hb11p := hb11.h; try simp only [al_ete, al_dfn, Bool.not_eq_true', Bool.not_eq_false', al_ne, Bool.not_not, al_nn] at hb11p
          have hq : q7 = true := by simpa using hb11p
          subst hq
          rcases hA7 with ⟨he, _⟩ | ⟨_, hkn, htk, hgv, hrf, m8, cc, ⟨c8, B8, hM8, hS8⟩, hAd, hgg, hX8⟩
          · cases he
          have hz8 := hS8.keep.sz
          refine W_region rfl ?_
          refine WO_p (PS_move_ptr rfl) ?_
          refine WO_p (PS_move_int rfl) ?_
          refine WO_call Hvac.call107 (by rfl) (Ret.mono (exec_ex C c8 v B8 m8 t { f with gas := f.gas - cc } (Mc.opc f) cc S _ (MS.ext hM8 (by repeat (first | assumption | exact Ext.refl _ | refine Ext.alloc ?_ _ | refine Ext.drew ?_ | refine Ext.setB ?_ (by first | omega | (simp only [size_alloc, size_setB, size_drew]; omega)) _ | exact Ext.trans (by assumption) (by assumption) | refine Ext.trans ?_ (by assumption)))) rfl hAd ⟨htk, hgv⟩ hkn hob y rest (yGo y g (Mc.opc f)) (Rel.ext hX8 hM8 (by repeat (first | assumption | exact Ext.refl _ | refine Ext.alloc ?_ _ | refine Ext.drew ?_ | refine Ext.setB ?_ (by first | omega | (simp only [size_alloc, size_setB, size_drew]; omega)) _ | exact Ext.trans (by assumption) (by assumption) | refine Ext.trans ?_ (by assumption))))) ?_)
          rintro _ w9 ⟨v9, m9, hR9, hP9, hX9⟩
          refine WO_nil ?_
          refine thn_normal ?_
          refine W_seq ?_
          refine W_region rfl ?_
          refine WO_p (PS_assign_bool rfl) ?_
          refine WO_nil ?_
          refine thn_normal ?_
          refine W_ret ?_
          refine bodyQ_ret1 Hvac.results39 rfl (.bool _) rfl ?_
          exact ⟨rfl, v9, m9, MRet.trans (MStep.ext (by repeat (first | assumption | exact Ext.refl _ | refine Ext.alloc ?_ _ | refine Ext.drew ?_ | refine Ext.setB ?_ (by first | omega | (simp only [size_alloc, size_setB, size_drew]; omega)) _ | exact Ext.trans (by assumption) (by assumption) | refine Ext.trans ?_ (by assumption)))) (MRet.trans hS8 (MRet.pre (by repeat (first | assumption | exact Ext.refl _ | refine Ext.alloc ?_ _ | refine Ext.drew ?_ | refine Ext.setB ?_ (by first | omega | (simp only [size_alloc, size_setB, size_drew]; omega)) _ | exact Ext.trans (by assumption) (by assumption) | refine Ext.trans ?_ (by assumption))) hR9)), hP9.of_pay hgg, by rw [ystep_exec hn0 (by rw [hopY]; exact hrf), hopY]; rw [← hopY] at hX9 ⊢; exact hX9⟩
        · have hb11p := hb11.h; try simp only [al_ete, al_dfn, Bool.not_eq_true', Bool.not_eq_false', al_ne, Bool.not_not, al_nn] at hb11p
          have hq : q7 = false := by simpa using hb11p
          subst hq
          obtain ⟨v7, m7, hR7, hP7, hne7, hX7⟩ := hA7.elim (fun h => h.2) (fun h => by cases h.1)
          refine W_skip ?_
          refine thn_normal ?_
          refine W_seq ?_
          refine W_region rfl ?_
          refine WO_p (PS_assign_bool rfl) ?_
          refine WO_nil ?_
          refine thn_normal ?_
          refine W_ret ?_
          refine bodyQ_ret1 Hvac.results39 rfl (.bool _) rfl ?_
          exact ⟨rfl, v7, m7, MRet.pre (by repeat (first | assumption | exact Ext.refl _ | refine Ext.alloc ?_ _ | refine Ext.drew ?_ | refine Ext.setB ?_ (by first | omega | (simp only [size_alloc, size_setB, size_drew]; omega)) _ | exact Ext.trans (by assumption) (by assumption) | refine Ext.trans ?_ (by assumption))) hR7, EndP.op hI hM.ty hf (Int.le_refl _) hP7, by rw [ystep_ref hn0 (by rw [hopY]; exact hne7), hopY]; exact hX7⟩

end Go.Proofs.YgvacwGreat
