import Derived.Test.YgvacwGreatHu
namespace Go.Proofs.YgvacwGreat
set_option linter.unusedSimpArgs false
set_option linter.unusedVariables false
def ynative_ (y : PSt) (rest : List PF) (f : PF) : PSt × List PF :=
  if (ynatc f.nat f.inputY).2 = false ∨ f.gas < (ynatc f.nat f.inputY).1 then yleave y rest f 2 []
  else yleave y rest { f with gas := f.gas - (ynatc f.nat f.inputY).1 } 0 (ynatr f.nat f.inputY)

set_option maxRecDepth 10000 in
set_option maxHeartbeats 400000 in
theorem yNatRun_spec [Om] (w : World) (hO : OmB w) (p : Option Addr) (sn sc : Nat) (I : List Int) (hI : AB w (p, sn, sc) I) (hsn : sn ≤ 1000000) (k : Nat) (hk : k ≤ 255) : Ret Hvac.prog 109 #[.int .u8 (k : Int), .slice p sn sc] w fun u w' => Ext w w' ∧ ∃ s' : SV, u = .slice s'.1 s'.2.1 s'.2.2 ∧ PB w' s' (ynatr k I) := by
  have hIb := hI.by_
  have hIl := hI.len
  dsimp only at hIl
  have h0 := ylenV_le I 0 (by decide)
  have h1 := ylenV_le I 1 (by decide)
  have h2 := ylenV_le I 2 (by decide)
  have hsp := sz_ynpow hIb
  have hz1 := sz_bvc hIb 96 (ylenV I 0)
  have hz2 := sz_bvc hIb (96 + ylenV I 0) (ylenV I 1)
  have hz3 : sz (ynmod I) ≤ ylenV I 2 := sz_bvc hIb _ _
  refine Ret_of_W Hvac.func109 rfl rfl ?_
  refine W_seq ?_
  refine W_region rfl ?_
  refine WO_p (PS_assign_slice rfl) ?_
  refine WO_nil ?_
  refine thn_normal ?_
  refine W_seq ?_
  refine W_seq ?_
  refine W_region rfl ?_
  refine WO_p (PS_move_int rfl) ?_
  refine WO_p (PS_eql rfl rfl) ?_
  refine WO_nil ?_
  refine thn_normal ?_
  refine W_if rfl (fun hb2 => ?_) (fun hb2 => ?_)
  · have hb2p := hb2.h; try simp only [al_ete, al_dfn, Bool.not_eq_true', Bool.not_eq_false', al_ne, Bool.not_not, al_nn] at hb2p
    have hk4 : k = 4 := by omega
    refine W_seq ?_
    refine W_region rfl ?_
    refine WO_p (PS_move_slice rfl) ?_
    refine WO_call Hvac.call31 (by rfl) (Ret.mono (yBytesOf_spec _ (OmB.ext hO (by repeat (first | assumption | exact Ext.refl _ | refine Ext.alloc ?_ _ | refine Ext.drew ?_ | refine Ext.setB ?_ (by first | omega | (simp only [size_alloc, size_setB, size_drew]; omega)) _ | exact Ext.trans (by assumption) (by assumption) | refine Ext.trans ?_ (by assumption)))) _ _ _ _ (by first | assumption | exact AB.ext (by assumption) (by repeat (first | assumption | exact Ext.refl _ | refine Ext.alloc ?_ _ | refine Ext.drew ?_ | refine Ext.setB ?_ (by first | omega | (simp only [size_alloc, size_setB, size_drew]; omega)) _ | exact Ext.trans (by assumption) (by assumption) | refine Ext.trans ?_ (by assumption))) | exact PB.ab (by assumption) | exact PB.ab (PB.ext (by assumption) (by repeat (first | assumption | exact Ext.refl _ | refine Ext.alloc ?_ _ | refine Ext.drew ?_ | refine Ext.setB ?_ (by first | omega | (simp only [size_alloc, size_setB, size_drew]; omega)) _ | exact Ext.trans (by assumption) (by assumption) | refine Ext.trans ?_ (by assumption))))) (by omega)) ?_)
    rintro _ w31_2 ⟨hE31_2, s17, rfl, hN17⟩
    have hz31_2 := hE31_2.1
    try simp only [size_alloc, size_setB, size_drew] at hz31_2
    refine WO_p (PS_assign_slice rfl) ?_
    refine WO_nil ?_
    refine thn_normal ?_
    refine W_ret ?_
    refine thn_ret ?_
    refine bodyQ_ret1 Hvac.results109 rfl (.slice _ _ _) rfl ?_
    have e9 : ynatr k I = I := (by unfold ynatr; rw [if_pos hk4]); rw [e9]; exact ⟨(by repeat (first | assumption | exact Ext.refl _ | refine Ext.alloc ?_ _ | refine Ext.drew ?_ | refine Ext.setB ?_ (by first | omega | (simp only [size_alloc, size_setB, size_drew]; omega)) _ | refine Ext.trans ?_ (by assumption))), s17, rfl, hN17⟩
  · have hb2p := hb2.h; try simp only [al_ete, al_dfn, Bool.not_eq_true', Bool.not_eq_false', al_ne, Bool.not_not, al_nn] at hb2p
    have hk4 : ¬ k = 4 := by omega
    refine W_skip ?_
    refine thn_normal ?_
    refine W_seq ?_
    refine W_region rfl ?_
    refine WO_p (PS_move_slice rfl) ?_
    refine WO_call Hvac.call193 (by rfl) (Ret.mono (yLengths_spec _ (OmB.ext hO (by repeat (first | assumption | exact Ext.refl _ | refine Ext.alloc ?_ _ | refine Ext.drew ?_ | refine Ext.setB ?_ (by first | omega | (simp only [size_alloc, size_setB, size_drew]; omega)) _ | exact Ext.trans (by assumption) (by assumption) | refine Ext.trans ?_ (by assumption)))) _ _ _ _ (by first | assumption | exact AB.ext (by assumption) (by repeat (first | assumption | exact Ext.refl _ | refine Ext.alloc ?_ _ | refine Ext.drew ?_ | refine Ext.setB ?_ (by first | omega | (simp only [size_alloc, size_setB, size_drew]; omega)) _ | exact Ext.trans (by assumption) (by assumption) | refine Ext.trans ?_ (by assumption))) | exact PB.ab (by assumption) | exact PB.ab (PB.ext (by assumption) (by repeat (first | assumption | exact Ext.refl _ | refine Ext.alloc ?_ _ | refine Ext.drew ?_ | refine Ext.setB ?_ (by first | omega | (simp only [size_alloc, size_setB, size_drew]; omega)) _ | exact Ext.trans (by assumption) (by assumption) | refine Ext.trans ?_ (by assumption))))) hsn) ?_)
    rintro _ w193_3 ⟨hE193_3, rfl⟩
    have hz193_3 := hE193_3.1
    try simp only [size_alloc, size_setB, size_drew] at hz193_3
    refine WO_p (PS_move_tuple rfl) ?_
    refine WO_p (PS_extract_int rfl rfl) ?_
    refine WO_p (PS_extract_int rfl rfl) ?_
    refine WO_p (PS_extract_int rfl rfl) ?_
    refine WO_p (PS_extract_bool rfl rfl) ?_
    refine WO_p (PS_assign_int rfl) ?_
    refine WO_p (PS_assign_int rfl) ?_
    refine WO_p (PS_assign_int rfl) ?_
    refine WO_p (PS_assign_bool rfl) ?_
    refine WO_nil ?_
    refine thn_normal ?_
    refine W_seq ?_
    refine W_seq ?_
    refine W_region rfl ?_
    refine WO_p (PS_move_int rfl) ?_
    refine WO_p (PS_neq rfl rfl) ?_
    refine WO_p (PS_move_bool rfl) ?_
    refine WO_if (t := 27) rfl (fun hb7 => ?_) (fun hb7 => ?_)
    · have hb7p := hb7.h; try simp only [al_ete, al_dfn, Bool.not_eq_true', Bool.not_eq_false', al_ne, Bool.not_not, al_nn] at hb7p
      have hk5 : ¬ (k = 5 ∧ ylenOk I) := fun h9 => by omega
      refine WO_guardF rfl rfl hb7.h ?_
      refine WO_guardF rfl rfl hb7.h ?_
      refine WO_p (PS_pickT rfl hb7.h rfl) ?_
      refine WO_nil ?_
      refine thn_normal ?_
      refine W_condT rfl rfl ?_
      refine W_seq ?_
      refine W_region rfl ?_
      refine WO_p (PS_assign_slice rfl) ?_
      refine WO_nil ?_
      refine thn_normal ?_
      refine W_ret ?_
      refine thn_ret ?_
      refine bodyQ_ret1 Hvac.results109 rfl (.slice _ _ _) rfl ?_
      have e9 : ynatr k I = [] := (by unfold ynatr; rw [if_neg hk4, if_neg hk5]); rw [e9]; exact ⟨(by repeat (first | assumption | exact Ext.refl _ | refine Ext.alloc ?_ _ | refine Ext.drew ?_ | refine Ext.setB ?_ (by first | omega | (simp only [size_alloc, size_setB, size_drew]; omega)) _ | refine Ext.trans ?_ (by assumption))), (none, 0, 0), rfl, PB.nil _⟩
    · have hb7p := hb7.h; try simp only [al_ete, al_dfn, Bool.not_eq_true', Bool.not_eq_false', al_ne, Bool.not_not, al_nn] at hb7p
      have hk55 : k = 5 := by omega
      refine WO_guardT rfl rfl hb7.h ?_
      refine WO_p (PS_move_bool rfl) ?_
      refine WO_guardT rfl rfl hb7.h ?_
      refine WO_p (PS_not rfl) ?_
      refine WO_p (PS_pickF rfl hb7.h rfl) ?_
      refine WO_nil ?_
      refine thn_normal ?_
      refine W_if rfl (fun hb9 => ?_) (fun hb9 => ?_)
      · have hb9p := hb9.h; try simp only [al_ete, al_dfn, Bool.not_eq_true', Bool.not_eq_false', al_ne, Bool.not_not, al_nn] at hb9p
        have hno : ¬ ylenOk I := by simpa using hb9p
        have hk5 : ¬ (k = 5 ∧ ylenOk I) := fun h9 => hno h9.2
        refine W_seq ?_
        refine W_region rfl ?_
        refine WO_p (PS_assign_slice rfl) ?_
        refine WO_nil ?_
        refine thn_normal ?_
        refine W_ret ?_
        refine thn_ret ?_
        refine bodyQ_ret1 Hvac.results109 rfl (.slice _ _ _) rfl ?_
        have e9 : ynatr k I = [] := (by unfold ynatr; rw [if_neg hk4, if_neg hk5]); rw [e9]; exact ⟨(by repeat (first | assumption | exact Ext.refl _ | refine Ext.alloc ?_ _ | refine Ext.drew ?_ | refine Ext.setB ?_ (by first | omega | (simp only [size_alloc, size_setB, size_drew]; omega)) _ | refine Ext.trans ?_ (by assumption))), (none, 0, 0), rfl, PB.nil _⟩
      · have hb9p := hb9.h; try simp only [al_ete, al_dfn, Bool.not_eq_true', Bool.not_eq_false', al_ne, Bool.not_not, al_nn] at hb9p
        have hok : ylenOk I := by simpa using hb9p
        refine W_skip ?_
        refine thn_normal ?_
        refine W_seq ?_
        refine W_region rfl ?_
        refine WO_p (PS_move_slice rfl) ?_
        refine WO_p (PS_move_int rfl) ?_
        refine WO_call Hvac.call195 (by rfl) (Ret.mono (yPart_spec _ (OmB.ext hO (by repeat (first | assumption | exact Ext.refl _ | refine Ext.alloc ?_ _ | refine Ext.drew ?_ | refine Ext.setB ?_ (by first | omega | (simp only [size_alloc, size_setB, size_drew]; omega)) _ | exact Ext.trans (by assumption) (by assumption) | refine Ext.trans ?_ (by assumption)))) _ _ _ _ (by first | assumption | exact AB.ext (by assumption) (by repeat (first | assumption | exact Ext.refl _ | refine Ext.alloc ?_ _ | refine Ext.drew ?_ | refine Ext.setB ?_ (by first | omega | (simp only [size_alloc, size_setB, size_drew]; omega)) _ | exact Ext.trans (by assumption) (by assumption) | refine Ext.trans ?_ (by assumption))) | exact PB.ab (by assumption) | exact PB.ab (PB.ext (by assumption) (by repeat (first | assumption | exact Ext.refl _ | refine Ext.alloc ?_ _ | refine Ext.drew ?_ | refine Ext.setB ?_ (by first | omega | (simp only [size_alloc, size_setB, size_drew]; omega)) _ | exact Ext.trans (by assumption) (by assumption) | refine Ext.trans ?_ (by assumption))))) hsn (96) (ylenV I 0) (by omega) (by omega)) ?_)
        rintro _ w195_9 ⟨hE195_9, s195_9, rfl, hN195_9⟩
        have hz195_9 := hE195_9.1
        try simp only [size_alloc, size_setB, size_drew] at hz195_9
        have hl195_9 := PB.len hN195_9
        rw [ycut_len2] at hl195_9
        refine WO_call Hvac.call29 (by rfl) (Ret.mono (nBE_spec (OmB.ext hO (by repeat (first | assumption | exact Ext.refl _ | refine Ext.alloc ?_ _ | refine Ext.drew ?_ | refine Ext.setB ?_ (by first | omega | (simp only [size_alloc, size_setB, size_drew]; omega)) _ | exact Ext.trans (by assumption) (by assumption) | refine Ext.trans ?_ (by assumption)))) (by first | assumption | exact AB.ext (by assumption) (by repeat (first | assumption | exact Ext.refl _ | refine Ext.alloc ?_ _ | refine Ext.drew ?_ | refine Ext.setB ?_ (by first | omega | (simp only [size_alloc, size_setB, size_drew]; omega)) _ | exact Ext.trans (by assumption) (by assumption) | refine Ext.trans ?_ (by assumption))) | exact PB.ab (by assumption) | exact PB.ab (PB.ext (by assumption) (by repeat (first | assumption | exact Ext.refl _ | refine Ext.alloc ?_ _ | refine Ext.drew ?_ | refine Ext.setB ?_ (by first | omega | (simp only [size_alloc, size_setB, size_drew]; omega)) _ | exact Ext.trans (by assumption) (by assumption) | refine Ext.trans ?_ (by assumption))))) (by omega)) ?_)
        rintro _ w29_10 ⟨hE29_10, s9, rfl, hN9⟩
        have hz29_10 := hE29_10.1
        try simp only [size_alloc, size_setB, size_drew] at hz29_10
        refine WO_p (PS_assign_slice rfl) ?_
        refine WO_nil ?_
        refine thn_normal ?_
        refine W_seq ?_
        refine W_region rfl ?_
        refine WO_p (PS_move_slice rfl) ?_
        refine WO_p (PS_move_slice rfl) ?_
        refine WO_p (PS_move_int rfl) ?_
        refine WO_p (PS_add_u64n rfl rfl (by omega) (by omega)) ?_
        rw [show (96 : Int) + (ylenV I 0 : Int) = ((96 + ylenV I 0 : Nat) : Int) by omega]
        refine WO_p (PS_move_int rfl) ?_
        refine WO_call Hvac.call195 (by rfl) (Ret.mono (yPart_spec _ (OmB.ext hO (by repeat (first | assumption | exact Ext.refl _ | refine Ext.alloc ?_ _ | refine Ext.drew ?_ | refine Ext.setB ?_ (by first | omega | (simp only [size_alloc, size_setB, size_drew]; omega)) _ | exact Ext.trans (by assumption) (by assumption) | refine Ext.trans ?_ (by assumption)))) _ _ _ _ (by first | assumption | exact AB.ext (by assumption) (by repeat (first | assumption | exact Ext.refl _ | refine Ext.alloc ?_ _ | refine Ext.drew ?_ | refine Ext.setB ?_ (by first | omega | (simp only [size_alloc, size_setB, size_drew]; omega)) _ | exact Ext.trans (by assumption) (by assumption) | refine Ext.trans ?_ (by assumption))) | exact PB.ab (by assumption) | exact PB.ab (PB.ext (by assumption) (by repeat (first | assumption | exact Ext.refl _ | refine Ext.alloc ?_ _ | refine Ext.drew ?_ | refine Ext.setB ?_ (by first | omega | (simp only [size_alloc, size_setB, size_drew]; omega)) _ | exact Ext.trans (by assumption) (by assumption) | refine Ext.trans ?_ (by assumption))))) hsn (96 + ylenV I 0) (ylenV I 1) (by omega) (by omega)) ?_)
        rintro _ w195_11 ⟨hE195_11, s195_11, rfl, hN195_11⟩
        have hz195_11 := hE195_11.1
        try simp only [size_alloc, size_setB, size_drew] at hz195_11
        have hl195_11 := PB.len hN195_11
        rw [ycut_len2] at hl195_11
        refine WO_call Hvac.call29 (by rfl) (Ret.mono (nBE_spec (OmB.ext hO (by repeat (first | assumption | exact Ext.refl _ | refine Ext.alloc ?_ _ | refine Ext.drew ?_ | refine Ext.setB ?_ (by first | omega | (simp only [size_alloc, size_setB, size_drew]; omega)) _ | exact Ext.trans (by assumption) (by assumption) | refine Ext.trans ?_ (by assumption)))) (by first | assumption | exact AB.ext (by assumption) (by repeat (first | assumption | exact Ext.refl _ | refine Ext.alloc ?_ _ | refine Ext.drew ?_ | refine Ext.setB ?_ (by first | omega | (simp only [size_alloc, size_setB, size_drew]; omega)) _ | exact Ext.trans (by assumption) (by assumption) | refine Ext.trans ?_ (by assumption))) | exact PB.ab (by assumption) | exact PB.ab (PB.ext (by assumption) (by repeat (first | assumption | exact Ext.refl _ | refine Ext.alloc ?_ _ | refine Ext.drew ?_ | refine Ext.setB ?_ (by first | omega | (simp only [size_alloc, size_setB, size_drew]; omega)) _ | exact Ext.trans (by assumption) (by assumption) | refine Ext.trans ?_ (by assumption))))) (by omega)) ?_)
        rintro _ w29_12 ⟨hE29_12, s41, rfl, hN41⟩
        have hz29_12 := hE29_12.1
        try simp only [size_alloc, size_setB, size_drew] at hz29_12
        refine WO_p (PS_move_slice rfl) ?_
        refine WO_p (PS_move_int rfl) ?_
        refine WO_p (PS_add_u64n rfl rfl (by omega) (by omega)) ?_
        refine WO_p (PS_move_int rfl) ?_
        refine WO_p (PS_add_u64n rfl rfl (by omega) (by omega)) ?_
        rw [show (96 : Int) + (ylenV I 0 : Int) + (ylenV I 1 : Int) = ((96 + ylenV I 0 + ylenV I 1 : Nat) : Int) by omega]
        refine WO_p (PS_move_int rfl) ?_
        refine WO_call Hvac.call195 (by rfl) (Ret.mono (yPart_spec _ (OmB.ext hO (by repeat (first | assumption | exact Ext.refl _ | refine Ext.alloc ?_ _ | refine Ext.drew ?_ | refine Ext.setB ?_ (by first | omega | (simp only [size_alloc, size_setB, size_drew]; omega)) _ | exact Ext.trans (by assumption) (by assumption) | refine Ext.trans ?_ (by assumption)))) _ _ _ _ (by first | assumption | exact AB.ext (by assumption) (by repeat (first | assumption | exact Ext.refl _ | refine Ext.alloc ?_ _ | refine Ext.drew ?_ | refine Ext.setB ?_ (by first | omega | (simp only [size_alloc, size_setB, size_drew]; omega)) _ | exact Ext.trans (by assumption) (by assumption) | refine Ext.trans ?_ (by assumption))) | exact PB.ab (by assumption) | exact PB.ab (PB.ext (by assumption) (by repeat (first | assumption | exact Ext.refl _ | refine Ext.alloc ?_ _ | refine Ext.drew ?_ | refine Ext.setB ?_ (by first | omega | (simp only [size_alloc, size_setB, size_drew]; omega)) _ | exact Ext.trans (by assumption) (by assumption) | refine Ext.trans ?_ (by assumption))))) hsn (96 + ylenV I 0 + ylenV I 1) (ylenV I 2) (by omega) (by omega)) ?_)
        rintro _ w195_13 ⟨hE195_13, s195_13, rfl, hN195_13⟩
        have hz195_13 := hE195_13.1
        try simp only [size_alloc, size_setB, size_drew] at hz195_13
        have hl195_13 := PB.len hN195_13
        rw [ycut_len2] at hl195_13
        refine WO_call Hvac.call29 (by rfl) (Ret.mono (nBE_spec (OmB.ext hO (by repeat (first | assumption | exact Ext.refl _ | refine Ext.alloc ?_ _ | refine Ext.drew ?_ | refine Ext.setB ?_ (by first | omega | (simp only [size_alloc, size_setB, size_drew]; omega)) _ | exact Ext.trans (by assumption) (by assumption) | refine Ext.trans ?_ (by assumption)))) (by first | assumption | exact AB.ext (by assumption) (by repeat (first | assumption | exact Ext.refl _ | refine Ext.alloc ?_ _ | refine Ext.drew ?_ | refine Ext.setB ?_ (by first | omega | (simp only [size_alloc, size_setB, size_drew]; omega)) _ | exact Ext.trans (by assumption) (by assumption) | refine Ext.trans ?_ (by assumption))) | exact PB.ab (by assumption) | exact PB.ab (PB.ext (by assumption) (by repeat (first | assumption | exact Ext.refl _ | refine Ext.alloc ?_ _ | refine Ext.drew ?_ | refine Ext.setB ?_ (by first | omega | (simp only [size_alloc, size_setB, size_drew]; omega)) _ | exact Ext.trans (by assumption) (by assumption) | refine Ext.trans ?_ (by assumption))))) (by omega)) ?_)
        rintro _ w29_14 ⟨hE29_14, s49, rfl, hN49⟩
        have hz29_14 := hE29_14.1
        try simp only [size_alloc, size_setB, size_drew] at hz29_14
        replace hN49 : NN w29_14 s49 (ynmod I) := hN49
        refine WO_call Hvac.call196 (by rfl) (Ret.mono (yModExp_spec _ (OmB.ext hO (by repeat (first | assumption | exact Ext.refl _ | refine Ext.alloc ?_ _ | refine Ext.drew ?_ | refine Ext.setB ?_ (by first | omega | (simp only [size_alloc, size_setB, size_drew]; omega)) _ | exact Ext.trans (by assumption) (by assumption) | refine Ext.trans ?_ (by assumption)))) _ _ _ _ (by first | assumption | exact NN.ext (by assumption) (by repeat (first | assumption | exact Ext.refl _ | refine Ext.alloc ?_ _ | refine Ext.drew ?_ | refine Ext.setB ?_ (by first | omega | (simp only [size_alloc, size_setB, size_drew]; omega)) _ | exact Ext.trans (by assumption) (by assumption) | refine Ext.trans ?_ (by assumption)))) (by first | omega | (rw [sz_zero]; omega)) _ _ _ _ (by first | assumption | exact NN.ext (by assumption) (by repeat (first | assumption | exact Ext.refl _ | refine Ext.alloc ?_ _ | refine Ext.drew ?_ | refine Ext.setB ?_ (by first | omega | (simp only [size_alloc, size_setB, size_drew]; omega)) _ | exact Ext.trans (by assumption) (by assumption) | refine Ext.trans ?_ (by assumption)))) (by first | omega | (rw [sz_zero]; omega)) _ _ _ _ (by first | assumption | exact NN.ext (by assumption) (by repeat (first | assumption | exact Ext.refl _ | refine Ext.alloc ?_ _ | refine Ext.drew ?_ | refine Ext.setB ?_ (by first | omega | (simp only [size_alloc, size_setB, size_drew]; omega)) _ | exact Ext.trans (by assumption) (by assumption) | refine Ext.trans ?_ (by assumption)))) (by first | omega | (rw [sz_zero]; omega))) ?_)
        rintro _ w26 ⟨hE26, s10, rfl, hN10⟩
        have hz26 := hE26.1
        try simp only [size_alloc, size_setB, size_drew] at hz26
        obtain ⟨pP, nP, cP⟩ := s10
        replace hN10 : NN w26 (pP, nP, cP) (ynpow I) := hN10
        obtain ⟨P9, hP9⟩ : ∃ P9, P9 = ynpow I := ⟨_, rfl⟩
        rw [← hP9] at hN10 hsp
        have hlp := NN.szl hN10
        subst hlp
        dsimp only
        generalize hm9 : ylenV I 2 = m9 at *
        refine WO_p (PS_assign_slice rfl) ?_
        refine WO_nil ?_
        refine thn_normal ?_
        refine W_seq ?_
        refine W_region rfl ?_
        refine WO_p (PS_move_int rfl) ?_
        refine WO_make (z := .int .u8 0) Hvac.underlying32 info5 rfl rfl rfl (by omega) (by omega) (by show (1:Int) * _ ≤ _; omega) (by omega) ?_
        rw [Int.toNat_natCast, show madeCells (Value.int IntKind.u8 0).cells (m9 * Hvac.t5.size) = ic .u8 (List.replicate (m9) 0) from by rw [show Hvac.t5.size = 1 from rfl, Nat.mul_one]; exact made_ic .u8 _]
        apply WO_gen4; intro w27 hw27
        have hb27 : Hb w27 w26.heap.size (.cells (ic .u8 (List.replicate (m9) 0)) 5 (0, 0)) := by rw [hw27]; exact Hb.newY _ _
        have hE27 : Ext w w27 := by rw [hw27]; exact (by repeat (first | assumption | exact Ext.refl _ | refine Ext.alloc ?_ _ | refine Ext.drew ?_ | refine Ext.setB ?_ (by first | omega | (simp only [size_alloc, size_setB, size_drew]; omega)) _ | exact Ext.trans (by assumption) (by assumption) | refine Ext.trans ?_ (by assumption)))
        have hF27 : Ext w26 w27 := by rw [hw27]; exact (by repeat (first | assumption | exact Ext.refl _ | refine Ext.alloc ?_ _ | refine Ext.drew ?_ | refine Ext.setB ?_ (by first | omega | (simp only [size_alloc, size_setB, size_drew]; omega)) _ | exact Ext.trans (by assumption) (by assumption) | refine Ext.trans ?_ (by assumption)))
        clear hw27
        have hz27 := hE27.1
        have hz28 := hF27.1
        have hgM : w.heap.size ≤ w26.heap.size := by omega
        have hfrM := hO.fresh hgM
        obtain ⟨bM, hbMe⟩ : ∃ bM, bM = w26.heap.size := ⟨_, rfl⟩
        rw [← hbMe] at hb27 hfrM ⊢
        have hbMl := hb27.lt
        refine WO_p (PS_assign_slice rfl) ?_
        refine WO_nil ?_
        refine thn_normal ?_
        refine W_seq ?_
        refine W_seq ?_
        refine W_region rfl ?_
        refine WO_p (PS_move_slice rfl) ?_
        refine WO_p (PS_lenS Hvac.runUnderlying92 rfl) ?_
        refine WO_p (PS_move_int rfl) ?_
        refine WO_nil ?_
        refine thn_normal ?_
        refine W_block ?_
        refine W_loopN (fun k9 ρ w' => ∃ (j : Nat) (M : List Int), j + k9 = sz (P9) ∧ By M (m9) ∧ (∀ q, q < m9 → M.getD q 0 = if m9 - 1 - q < j then (dg (P9)).getD (m9 - 1 - q) 0 else 0) ∧ Fr [(7, .int .u64 (m9 : Int)), (11, .slice (some ⟨bM, 0, none⟩) (m9) (m9)), (53, .slice pP (sz (P9)) cP), (54, .int .i64 (sz (P9) : Int)), (55, .int .i64 j)] ρ ∧ Ext w w' ∧ Hb w' bM (.cells (ic .u8 M) 5 (0, 0)) ∧ Ext w26 w') (sz (P9)) ?_ ?_
        · exact ⟨0, List.replicate (m9) 0, by omega, rep_by _, fun q h => by rw [gd_rep, if_neg (by omega)], ⟨rfl, rfl, rfl, rfl, rfl, trivial⟩, (by repeat (first | assumption | exact Ext.refl _ | refine Ext.alloc ?_ _ | refine Ext.drew ?_ | refine Ext.setB ?_ (by first | omega | (simp only [size_alloc, size_setB, size_drew]; omega)) _ | refine Ext.trans ?_ (by assumption))), hb27, (by repeat (first | assumption | exact Ext.refl _ | refine Ext.alloc ?_ _ | refine Ext.drew ?_ | refine Ext.setB ?_ (by first | omega | (simp only [size_alloc, size_setB, size_drew]; omega)) _ | refine Ext.trans ?_ (by assumption)))⟩
        intro k50 ρ50 w50 hI50
        obtain ⟨j, M, hjk, hL, hdone, hFr50, hE50, hbMk, hF28⟩ := hI50
        refine W_env _ hFr50 ?_
        have hz50 := hE50.1
        have hbMk_l := hbMk.lt
        have hF28_z := hF28.1
        refine W_seq ?_
        refine W_region rfl ?_
        refine WO_p (PS_lss rfl rfl) ?_
        refine WO_nil ?_
        refine thn_normal ?_
        refine W_seq ?_
        refine W_if rfl (fun hb18 => ?_) (fun hb18 => ?_)
        · have hb18p := hb18.h; try simp only [al_ete, al_dfn, Bool.not_eq_true', Bool.not_eq_false', al_ne, Bool.not_not, al_nn] at hb18p
          obtain ⟨bP, rP, fzP, hpP, hoP, hbP, hrsP, hXP⟩ := PB.row hN10 (by show 0 < sz (P9); omega)
          dsimp only at hpP hrsP hXP
          subst hpP
          have hbPl := hbP.lt
          have hbPk := hbP.ext hF28
          have hcP : Ce rP (0 + (j : Int).toNat * 1) (.int .u8 ((dg (P9)).getD j 0)) := by rw [Int.toNat_natCast]; exact xt_ce1 hXP (dg_len _) (by omega)
          have hrP : 0 + (j : Int).toNat * 1 < rP.size := by rw [Int.toNat_natCast]; omega
          have hgb := gd_by (dg_by (P9)) j
          refine W_skip ?_
          refine thn_normal ?_
          refine W_seq ?_
          refine W_block ?_
          refine W_seq ?_
          refine W_region rfl ?_
          refine WO_p (PS_move_int rfl) ?_
          refine WO_p (PS_indexS Hvac.runUnderlying92 Hvac.sizeOf5 rfl rfl (by omega) (by omega)) ?_
          refine WO_load (.int _ _) Hvac.isAgg5 rfl (Hb.h (by repeat (first | assumption | exact Hb.newY _ _ | refine Hb.alloc ?_ | refine Hb.drew ?_ | refine Hb.ext (by assumption) ?_ | exact Hb.setSameL (by first | omega | (simp only [size_alloc, size_setB, size_drew]; omega)) | exact Hb.setSame (by assumption) | refine Hb.set (by first | omega | (simp only [size_alloc, size_setB, size_drew]; omega)) ?_ ))) (Ce.h (by first | assumption | exact ⟨rfl⟩)) ?_
          refine WO_p (PS_assign_int rfl) ?_
          refine WO_p (PS_assign_int rfl) ?_
          refine WO_nil ?_
          refine thn_normal ?_
          refine W_region rfl ?_
          refine WO_p (PS_move_slice rfl) ?_
          refine WO_p (PS_move_int rfl) ?_
          refine WO_p (PS_conv_i64n Hvac.runUnderlying26 Hvac.runUnderlying3 rfl (by omega) (by omega)) ?_
          refine WO_p (PS_sub_i64n rfl rfl (by omega) (by omega)) ?_
          refine WO_p (PS_move_int rfl) ?_
          refine WO_p (PS_sub_i64n rfl rfl (by omega) (by omega)) ?_
          refine WO_p (PS_move_int rfl) ?_
          refine WO_p (PS_indexS Hvac.runUnderlying32 Hvac.sizeOf5 rfl rfl (by omega) (by omega)) ?_
          refine WO_store1 Hvac.sizeOf5 rfl (v := .int _ _) rfl (Hb.h (by repeat (first | assumption | exact Hb.newY _ _ | refine Hb.alloc ?_ | refine Hb.drew ?_ | refine Hb.ext (by assumption) ?_ | exact Hb.setSameL (by first | omega | (simp only [size_alloc, size_setB, size_drew]; omega)) | exact Hb.setSame (by assumption) | refine Hb.set (by first | omega | (simp only [size_alloc, size_setB, size_drew]; omega)) ?_ ))) rfl (by rw [size_ic, hL.1]; omega) rfl ?_
          rw [show ((m9 : Int) - 1 - (j : Int)).toNat = m9 - 1 - j by omega, ic_set]
          refine WO_nil ?_
          refine inBlk_normal ?_
          refine thn_normal ?_
          refine W_region rfl ?_
          refine WO_p (PS_add_i64n rfl rfl (by omega) (by omega)) ?_
          refine WO_p (PS_move_int rfl) ?_
          refine WO_nil ?_
          refine thn_normal ?_
          exact ⟨k50 - 1, by omega, j + 1, _, by omega, set_by hL hgb, fun q hq => by
            rw [gd_set _ _ _ _ (by rw [hL.1]; omega)]
            split
            · rename_i e; rw [e, if_pos (by omega), show m9 - 1 - (m9 - 1 - j) = j by omega]
            · rw [hdone q hq]
              by_cases h9 : m9 - 1 - q < j
              · rw [if_pos h9, if_pos (by omega)]
              · rw [if_neg h9, if_neg (by omega)], ⟨rfl, rfl, rfl, rfl, congrArg (Value.int .i64) (by omega), trivial⟩, (by repeat (first | assumption | exact Ext.refl _ | refine Ext.alloc ?_ _ | refine Ext.drew ?_ | refine Ext.setB ?_ (by first | omega | (simp only [size_alloc, size_setB, size_drew]; omega)) _ | refine Ext.trans ?_ (by assumption))), Hb.setSame hbMk, (by repeat (first | assumption | exact Ext.refl _ | refine Ext.alloc ?_ _ | refine Ext.drew ?_ | refine Ext.setB ?_ (by first | omega | (simp only [size_alloc, size_setB, size_drew]; omega)) _ | refine Ext.trans ?_ (by assumption)))⟩
        · have hb18p := hb18.h; try simp only [al_ete, al_dfn, Bool.not_eq_true', Bool.not_eq_false', al_ne, Bool.not_not, al_nn] at hb18p
          refine W_exit ?_
          refine thn_exit ?_
          refine thn_exit ?_
          refine inBlk_exit ?_
          refine thn_normal ?_
          refine W_seq ?_
          refine W_region rfl ?_
          refine WO_p (PS_move_slice rfl) ?_
          refine WO_p (PS_assign_slice rfl) ?_
          refine WO_nil ?_
          refine thn_normal ?_
          refine W_ret ?_
          refine bodyQ_ret1 Hvac.results109 rfl (.slice _ _ _) rfl ?_
          have hje : j = sz (P9) := (by omega); have hMe : M = be (m9) (P9) := gd_ext (by rw [hL.1, be_len]) (fun q hq => (by rw [hL.1] at hq; rw [hdone q hq, be_gd _ _ _ hq, ← dg_gd]; split; (rfl); (rw [gd_ge (by rw [dg_len]; omega)]))); have e9 : ynatr k I = be (m9) P9 := (by rw [hP9, ← hm9]; unfold ynatr; rw [if_neg hk4, if_pos ⟨hk55, hok⟩]); rw [e9, ← hMe]; exact ⟨(by repeat (first | assumption | exact Ext.refl _ | refine Ext.alloc ?_ _ | refine Ext.drew ?_ | refine Ext.setB ?_ (by first | omega | (simp only [size_alloc, size_setB, size_drew]; omega)) _ | refine Ext.trans ?_ (by assumption))), (some ⟨bM, 0, none⟩, m9, m9), rfl, PB.newY hbMk hfrM hL.2 hL.1⟩

end Go.Proofs.YgvacwGreat
