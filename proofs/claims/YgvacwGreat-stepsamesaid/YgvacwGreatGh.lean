import Derived.Test.YgvacwGreatGg
namespace Go.Proofs.YgvacwGreat
set_option linter.unusedSimpArgs false
set_option linter.unusedVariables false
theorem ycut_len (src : List Int) (off n : Nat) : (ycut src off n).length = n := by simp [ycut]
theorem ycut_get {src : List Int} {off n i : Nat} (h : i < n) : (ycut src off n)[i]? = some (src.getD (off + i) 0) := by simp [ycut, h]
theorem ycut_by {src : List Int} (h : ∀ x ∈ src, 0 ≤ x ∧ x ≤ 255) (off n : Nat) : ∀ x ∈ ycut src off n, 0 ≤ x ∧ x ≤ 255 := by
  intro x hx
  simp only [ycut, List.mem_map, List.mem_range] at hx
  obtain ⟨i, _, rfl⟩ := hx
  exact gd_by h (off + i)
theorem ycut_past {src : List Int} {off n : Nat} (h : src.length ≤ off) : ycut src off n = List.replicate n 0 := by
  apply List.ext_getElem?
  intro i
  rcases Nat.lt_or_ge i n with hi | hi
  · rw [ycut_get hi, List.getElem?_replicate, if_pos hi, gd_ge (by omega)]
  · rw [List.getElem?_eq_none (by rw [ycut_len]; exact hi), List.getElem?_eq_none (by simpa using hi)]
theorem ycut_copy {src : List Int} {off n m : Nat} (h : off < src.length) (hm : Nat.min (src.length - off) n = m) : (List.replicate n (0 : Int)).take 0 ++ (src.drop off).take m ++ (List.replicate n 0).drop (0 + ((src.drop off).take m).length) = ycut src off n := by
  have hm' : m ≤ n ∧ m ≤ src.length - off ∧ (m = n ∨ m = src.length - off) := by
    have : Nat.min (src.length - off) n = min (src.length - off) n := rfl
    omega
  have hl : ((src.drop off).take m).length = m := by rw [List.length_take, List.length_drop]; omega
  rw [List.take_zero, List.nil_append, hl, Nat.zero_add]
  apply List.ext_getElem?
  intro i
  rcases Nat.lt_or_ge i m with hi | hi
  · rw [List.getElem?_append_left (by omega), List.getElem?_take, if_pos hi, List.getElem?_drop, ycut_get (by omega), List.getD_eq_getElem?_getD, List.getElem?_eq_getElem (by omega)]; rfl
  · rw [List.getElem?_append_right (by omega), hl, List.getElem?_drop]
    rcases Nat.lt_or_ge i n with h2 | h2
    · rw [List.getElem?_replicate, if_pos (by omega), ycut_get h2, gd_ge (by omega)]
    · rw [List.getElem?_eq_none (by rw [List.length_replicate]; omega), List.getElem?_eq_none (by rw [ycut_len]; exact h2)]
theorem xt_part2 {r : Array Value} {o n k m : Nat} {L : List Int} (h : Xt r o (o + n) (ic .u8 L)) (hL : L.length = n) (hkm : k + m ≤ n) : r.extract (o + k) (o + k + m) = ic .u8 ((L.drop k).take m) := by
  have h2 : Xt (ic .u8 L) k (k + m) (ic .u8 ((L.drop k).take m)) := ⟨by
    simp [ic, List.extract_toArray, List.extract_eq_take_drop, List.map_take, List.map_drop]⟩
  exact (h.sub h2 hkm).h

set_option maxRecDepth 10000 in
set_option maxHeartbeats 4000000 in
theorem yWrites_spec [Om] (w : World) (hO : OmB w) (F fo : Nat) (x : YFr) (f : PF) (hF : FrS w F fo x f) (hP : PFB f) (o : Int) (ho : 0 ≤ o ∧ o ≤ 255) : Ret Hvac.prog 112 #[.pointer (some ⟨F, fo, none⟩), .int .u8 o] w fun u w' => Ext w w' ∧ u = .bool (ywrites f o) := by
  refine Ret_of_W Hvac.func112 rfl rfl ?_
  refine W_seq ?_
  refine W_region rfl ?_
  refine WO_p (PS_assign_bool rfl) ?_
  refine WO_nil ?_
  refine thn_normal ?_
  refine W_seq ?_
  refine W_region rfl ?_
  refine WO_p (PS_move_int rfl) ?_
  refine WO_p (PS_eql rfl rfl) ?_
  refine WO_p (PS_move_bool rfl) ?_
  refine WO_if (t := 7) rfl (fun hb2 => ?_) (fun hb2 => ?_)
  · have hb2p := hb2.h; try simp only [al_ete, al_dfn, Bool.not_eq_true', Bool.not_eq_false', al_ne, Bool.not_not, al_nn] at hb2p
    have ho5 : o = 85 := by omega
    refine WO_guardF rfl rfl hb2.h ?_
    refine WO_guardF rfl rfl hb2.h ?_
    refine WO_p (PS_pickT rfl hb2.h rfl) ?_
    refine WO_p (PS_move_bool rfl) ?_
    refine WO_guardF rfl rfl rfl ?_
    refine WO_guardF rfl rfl rfl ?_
    refine WO_p (PS_pickT rfl rfl rfl) ?_
    refine WO_p (PS_move_bool rfl) ?_
    refine WO_guardF rfl rfl rfl ?_
    refine WO_guardF rfl rfl rfl ?_
    refine WO_guardF rfl rfl rfl ?_
    refine WO_guardU rfl rfl ?_
    refine WO_guardU rfl rfl ?_
    refine WO_guardF rfl rfl rfl ?_
    refine WO_p (PS_pickT rfl rfl rfl) ?_
    refine WO_p (PS_move_bool rfl) ?_
    refine WO_guardF rfl rfl rfl ?_
    refine WO_guardF rfl rfl rfl ?_
    refine WO_p (PS_pickT rfl rfl rfl) ?_
    refine WO_p (PS_move_bool rfl) ?_
    refine WO_guardF rfl rfl rfl ?_
    refine WO_guardF rfl rfl rfl ?_
    refine WO_p (PS_pickT rfl rfl rfl) ?_
    refine WO_p (PS_move_bool rfl) ?_
    refine WO_guardF rfl rfl rfl ?_
    refine WO_guardF rfl rfl rfl ?_
    refine WO_guardF rfl rfl rfl ?_
    refine WO_guardU rfl rfl ?_
    refine WO_guardU rfl rfl ?_
    refine WO_guardU rfl rfl ?_
    refine WO_guardU rfl rfl ?_
    refine WO_guardF rfl rfl rfl ?_
    refine WO_p (PS_pickT rfl rfl rfl) ?_
    refine WO_p (PS_assign_bool rfl) ?_
    refine WO_nil ?_
    refine thn_normal ?_
    refine W_ret ?_
    refine bodyQ_ret1 Hvac.results112 rfl (.bool _) rfl ?_
    refine ⟨(by repeat (first | assumption | exact Ext.refl _ | refine Ext.alloc ?_ _ | refine Ext.drew ?_ | refine Ext.setB ?_ (by first | omega | (simp only [size_alloc, size_setB, size_drew]; omega)) _ | refine Ext.trans ?_ (by assumption))), congrArg Value.bool ?_⟩
    unfold ywrites
    first | exact (al_et (by omega)).symm | exact (al_ef (by omega)).symm | (subst ho5; simp)
  · have hb2p := hb2.h; try simp only [al_ete, al_dfn, Bool.not_eq_true', Bool.not_eq_false', al_ne, Bool.not_not, al_nn] at hb2p
    refine WO_guardT rfl rfl hb2.h ?_
    refine WO_p (PS_move_int rfl) ?_
    refine WO_guardT rfl rfl hb2.h ?_
    refine WO_p (PS_eql rfl rfl) ?_
    refine WO_p (PS_pickF rfl hb2.h rfl) ?_
    refine WO_p (PS_move_bool rfl) ?_
    refine WO_if (t := 11) rfl (fun hb4 => ?_) (fun hb4 => ?_)
    · have hb4p := hb4.h; try simp only [al_ete, al_dfn, Bool.not_eq_true', Bool.not_eq_false', al_ne, Bool.not_not, al_nn] at hb4p
      have ho5 : o = 93 := by omega
      refine WO_guardF rfl rfl hb4.h ?_
      refine WO_guardF rfl rfl hb4.h ?_
      refine WO_p (PS_pickT rfl hb4.h rfl) ?_
      refine WO_p (PS_move_bool rfl) ?_
      refine WO_guardF rfl rfl rfl ?_
      refine WO_guardF rfl rfl rfl ?_
      refine WO_guardF rfl rfl rfl ?_
      refine WO_guardU rfl rfl ?_
      refine WO_guardU rfl rfl ?_
      refine WO_guardF rfl rfl rfl ?_
      refine WO_p (PS_pickT rfl rfl rfl) ?_
      refine WO_p (PS_move_bool rfl) ?_
      refine WO_guardF rfl rfl rfl ?_
      refine WO_guardF rfl rfl rfl ?_
      refine WO_p (PS_pickT rfl rfl rfl) ?_
      refine WO_p (PS_move_bool rfl) ?_
      refine WO_guardF rfl rfl rfl ?_
      refine WO_guardF rfl rfl rfl ?_
      refine WO_p (PS_pickT rfl rfl rfl) ?_
      refine WO_p (PS_move_bool rfl) ?_
      refine WO_guardF rfl rfl rfl ?_
      refine WO_guardF rfl rfl rfl ?_
      refine WO_guardF rfl rfl rfl ?_
      refine WO_guardU rfl rfl ?_
      refine WO_guardU rfl rfl ?_
      refine WO_guardU rfl rfl ?_
      refine WO_guardU rfl rfl ?_
      refine WO_guardF rfl rfl rfl ?_
      refine WO_p (PS_pickT rfl rfl rfl) ?_
      refine WO_p (PS_assign_bool rfl) ?_
      refine WO_nil ?_
      refine thn_normal ?_
      refine W_ret ?_
      refine bodyQ_ret1 Hvac.results112 rfl (.bool _) rfl ?_
      refine ⟨(by repeat (first | assumption | exact Ext.refl _ | refine Ext.alloc ?_ _ | refine Ext.drew ?_ | refine Ext.setB ?_ (by first | omega | (simp only [size_alloc, size_setB, size_drew]; omega)) _ | refine Ext.trans ?_ (by assumption))), congrArg Value.bool ?_⟩
      unfold ywrites
      first | exact (al_et (by omega)).symm | exact (al_ef (by omega)).symm | (subst ho5; simp)
    · have hb4p := hb4.h; try simp only [al_ete, al_dfn, Bool.not_eq_true', Bool.not_eq_false', al_ne, Bool.not_not, al_nn] at hb4p
      refine WO_guardT rfl rfl hb4.h ?_
      refine WO_p (PS_move_int rfl) ?_
      refine WO_guardT rfl rfl hb4.h ?_
      refine WO_p (PS_eql rfl rfl) ?_
      refine WO_p (PS_pickF rfl hb4.h rfl) ?_
      refine WO_p (PS_move_bool rfl) ?_
      refine WO_if (t := 15) rfl (fun hb6 => ?_) (fun hb6 => ?_)
      · have hb6p := hb6.h; try simp only [al_ete, al_dfn, Bool.not_eq_true', Bool.not_eq_false', al_ne, Bool.not_not, al_nn] at hb6p
        have ho5 : o = 255 := by omega
        refine WO_guardF rfl rfl hb6.h ?_
        refine WO_guardF rfl rfl hb6.h ?_
        refine WO_guardF rfl rfl hb6.h ?_
        refine WO_guardU rfl rfl ?_
        refine WO_guardU rfl rfl ?_
        refine WO_guardF rfl rfl hb6.h ?_
        refine WO_p (PS_pickT rfl hb6.h rfl) ?_
        refine WO_p (PS_move_bool rfl) ?_
        refine WO_guardF rfl rfl rfl ?_
        refine WO_guardF rfl rfl rfl ?_
        refine WO_p (PS_pickT rfl rfl rfl) ?_
        refine WO_p (PS_move_bool rfl) ?_
        refine WO_guardF rfl rfl rfl ?_
        refine WO_guardF rfl rfl rfl ?_
        refine WO_p (PS_pickT rfl rfl rfl) ?_
        refine WO_p (PS_move_bool rfl) ?_
        refine WO_guardF rfl rfl rfl ?_
        refine WO_guardF rfl rfl rfl ?_
        refine WO_guardF rfl rfl rfl ?_
        refine WO_guardU rfl rfl ?_
        refine WO_guardU rfl rfl ?_
        refine WO_guardU rfl rfl ?_
        refine WO_guardU rfl rfl ?_
        refine WO_guardF rfl rfl rfl ?_
        refine WO_p (PS_pickT rfl rfl rfl) ?_
        refine WO_p (PS_assign_bool rfl) ?_
        refine WO_nil ?_
        refine thn_normal ?_
        refine W_ret ?_
        refine bodyQ_ret1 Hvac.results112 rfl (.bool _) rfl ?_
        refine ⟨(by repeat (first | assumption | exact Ext.refl _ | refine Ext.alloc ?_ _ | refine Ext.drew ?_ | refine Ext.setB ?_ (by first | omega | (simp only [size_alloc, size_setB, size_drew]; omega)) _ | refine Ext.trans ?_ (by assumption))), congrArg Value.bool ?_⟩
        unfold ywrites
        first | exact (al_et (by omega)).symm | exact (al_ef (by omega)).symm | (subst ho5; simp)
      · have hb6p := hb6.h; try simp only [al_ete, al_dfn, Bool.not_eq_true', Bool.not_eq_false', al_ne, Bool.not_not, al_nn] at hb6p
        refine WO_guardT rfl rfl hb6.h ?_
        refine WO_p (PS_move_int rfl) ?_
        refine WO_guardT rfl rfl hb6.h ?_
        refine WO_p (PS_geq rfl rfl) ?_
        refine WO_guardT rfl rfl hb6.h ?_
        refine WO_p (PS_move_bool rfl) ?_
        refine WO_if (t := 18) rfl (fun hb8 => ?_) (fun hb8 => ?_)
        · have hb8p := hb8.h; try simp only [al_ete, al_dfn, Bool.not_eq_true', Bool.not_eq_false', al_ne, Bool.not_not, al_nn] at hb8p
          refine WO_guardT rfl rfl hb8.h ?_
          refine WO_p (PS_move_int rfl) ?_
          refine WO_guardT rfl rfl hb8.h ?_
          refine WO_p (PS_leq rfl rfl) ?_
          refine WO_guardT rfl rfl hb6.h ?_
          refine WO_p (PS_pickT rfl hb8.h rfl) ?_
          refine WO_p (PS_pickF rfl hb6.h rfl) ?_
          refine WO_p (PS_move_bool rfl) ?_
          refine WO_if (t := 23) rfl (fun hb10 => ?_) (fun hb10 => ?_)
          · have hb10p := hb10.h; try simp only [al_ete, al_dfn, Bool.not_eq_true', Bool.not_eq_false', al_ne, Bool.not_not, al_nn] at hb10p
            refine WO_guardF rfl rfl hb10.h ?_
            refine WO_guardF rfl rfl hb10.h ?_
            refine WO_p (PS_pickT rfl hb10.h rfl) ?_
            refine WO_p (PS_move_bool rfl) ?_
            refine WO_guardF rfl rfl rfl ?_
            refine WO_guardF rfl rfl rfl ?_
            refine WO_p (PS_pickT rfl rfl rfl) ?_
            refine WO_p (PS_move_bool rfl) ?_
            refine WO_guardF rfl rfl rfl ?_
            refine WO_guardF rfl rfl rfl ?_
            refine WO_guardF rfl rfl rfl ?_
            refine WO_guardU rfl rfl ?_
            refine WO_guardU rfl rfl ?_
            refine WO_guardU rfl rfl ?_
            refine WO_guardU rfl rfl ?_
            refine WO_guardF rfl rfl rfl ?_
            refine WO_p (PS_pickT rfl rfl rfl) ?_
            refine WO_p (PS_assign_bool rfl) ?_
            refine WO_nil ?_
            refine thn_normal ?_
            refine W_ret ?_
            refine bodyQ_ret1 Hvac.results112 rfl (.bool _) rfl ?_
            refine ⟨(by repeat (first | assumption | exact Ext.refl _ | refine Ext.alloc ?_ _ | refine Ext.drew ?_ | refine Ext.setB ?_ (by first | omega | (simp only [size_alloc, size_setB, size_drew]; omega)) _ | refine Ext.trans ?_ (by assumption))), congrArg Value.bool ?_⟩
            unfold ywrites
            first | exact (al_et (by omega)).symm | exact (al_ef (by omega)).symm | (subst ho5; simp)
          · have hb10p := hb10.h; try simp only [al_ete, al_dfn, Bool.not_eq_true', Bool.not_eq_false', al_ne, Bool.not_not, al_nn] at hb10p
            refine WO_guardT rfl rfl hb10.h ?_
            refine WO_p (PS_move_int rfl) ?_
            refine WO_guardT rfl rfl hb10.h ?_
            refine WO_p (PS_eql rfl rfl) ?_
            refine WO_p (PS_pickF rfl hb10.h rfl) ?_
            refine WO_p (PS_move_bool rfl) ?_
            refine WO_if (t := 27) rfl (fun hb12 => ?_) (fun hb12 => ?_)
            · have hb12p := hb12.h; try simp only [al_ete, al_dfn, Bool.not_eq_true', Bool.not_eq_false', al_ne, Bool.not_not, al_nn] at hb12p
              have ho5 : o = 240 := by omega
              refine WO_guardF rfl rfl hb12.h ?_
              refine WO_guardF rfl rfl hb12.h ?_
              refine WO_p (PS_pickT rfl hb12.h rfl) ?_
              refine WO_p (PS_move_bool rfl) ?_
              refine WO_guardF rfl rfl rfl ?_
              refine WO_guardF rfl rfl rfl ?_
              refine WO_guardF rfl rfl rfl ?_
              refine WO_guardU rfl rfl ?_
              refine WO_guardU rfl rfl ?_
              refine WO_guardU rfl rfl ?_
              refine WO_guardU rfl rfl ?_
              refine WO_guardF rfl rfl rfl ?_
              refine WO_p (PS_pickT rfl rfl rfl) ?_
              refine WO_p (PS_assign_bool rfl) ?_
              refine WO_nil ?_
              refine thn_normal ?_
              refine W_ret ?_
              refine bodyQ_ret1 Hvac.results112 rfl (.bool _) rfl ?_
              refine ⟨(by repeat (first | assumption | exact Ext.refl _ | refine Ext.alloc ?_ _ | refine Ext.drew ?_ | refine Ext.setB ?_ (by first | omega | (simp only [size_alloc, size_setB, size_drew]; omega)) _ | refine Ext.trans ?_ (by assumption))), congrArg Value.bool ?_⟩
              unfold ywrites
              first | exact (al_et (by omega)).symm | exact (al_ef (by omega)).symm | (subst ho5; simp)
            · have hb12p := hb12.h; try simp only [al_ete, al_dfn, Bool.not_eq_true', Bool.not_eq_false', al_ne, Bool.not_not, al_nn] at hb12p
              refine WO_guardT rfl rfl hb12.h ?_
              refine WO_p (PS_move_int rfl) ?_
              refine WO_guardT rfl rfl hb12.h ?_
              refine WO_p (PS_eql rfl rfl) ?_
              refine WO_p (PS_pickF rfl hb12.h rfl) ?_
              refine WO_p (PS_move_bool rfl) ?_
              refine WO_if (t := 31) rfl (fun hb14 => ?_) (fun hb14 => ?_)
              · have hb14p := hb14.h; try simp only [al_ete, al_dfn, Bool.not_eq_true', Bool.not_eq_false', al_ne, Bool.not_not, al_nn] at hb14p
                have ho5 : o = 245 := by omega
                refine WO_guardF rfl rfl hb14.h ?_
                refine WO_guardF rfl rfl hb14.h ?_
                refine WO_guardF rfl rfl hb14.h ?_
                refine WO_guardU rfl rfl ?_
                refine WO_guardU rfl rfl ?_
                refine WO_guardU rfl rfl ?_
                refine WO_guardU rfl rfl ?_
                refine WO_guardF rfl rfl hb14.h ?_
                refine WO_p (PS_pickT rfl hb14.h rfl) ?_
                refine WO_p (PS_assign_bool rfl) ?_
                refine WO_nil ?_
                refine thn_normal ?_
                refine W_ret ?_
                refine bodyQ_ret1 Hvac.results112 rfl (.bool _) rfl ?_
                refine ⟨(by repeat (first | assumption | exact Ext.refl _ | refine Ext.alloc ?_ _ | refine Ext.drew ?_ | refine Ext.setB ?_ (by first | omega | (simp only [size_alloc, size_setB, size_drew]; omega)) _ | refine Ext.trans ?_ (by assumption))), congrArg Value.bool ?_⟩
                unfold ywrites
                first | exact (al_et (by omega)).symm | exact (al_ef (by omega)).symm | (subst ho5; simp)
              · have hb14p := hb14.h; try simp only [al_ete, al_dfn, Bool.not_eq_true', Bool.not_eq_false', al_ne, Bool.not_not, al_nn] at hb14p
                refine WO_guardT rfl rfl hb14.h ?_
                refine WO_p (PS_move_int rfl) ?_
                refine WO_guardT rfl rfl hb14.h ?_
                refine WO_p (PS_eql rfl rfl) ?_
                refine WO_guardT rfl rfl hb14.h ?_
                refine WO_p (PS_move_bool rfl) ?_
                refine WO_if (t := 34) rfl (fun hb16 => ?_) (fun hb16 => ?_)
                · have hb16p := hb16.h; try simp only [al_ete, al_dfn, Bool.not_eq_true', Bool.not_eq_false', al_ne, Bool.not_not, al_nn] at hb16p
                  have ho5 : o = 241 := by omega
                  refine WO_guardT rfl rfl hb16.h ?_
                  refine WO_p (PS_move_ptr rfl) ?_
                  refine WO_guardT rfl rfl hb16.h ?_
                  refine WO_call Hvac.call47 (by rfl) (Ret.mono (yArg_spec _ (OmB.ext hO (by repeat (first | assumption | exact Ext.refl _ | refine Ext.alloc ?_ _ | refine Ext.drew ?_ | refine Ext.setB ?_ (by first | omega | (simp only [size_alloc, size_setB, size_drew]; omega)) _ | exact Ext.trans (by assumption) (by assumption) | refine Ext.trans ?_ (by assumption)))) _ _ _ _ (by first | assumption | exact FrS.ext (by assumption) (by repeat (first | assumption | exact Ext.refl _ | refine Ext.alloc ?_ _ | refine Ext.drew ?_ | refine Ext.setB ?_ (by first | omega | (simp only [size_alloc, size_setB, size_drew]; omega)) _ | exact Ext.trans (by assumption) (by assumption) | refine Ext.trans ?_ (by assumption)))) hP _ (by decide)) ?_)
                  rintro _ w47_16 ⟨hE47_16, s47_16, rfl, hN47_16, hs47_16⟩
                  have hz47_16 := hE47_16.1
                  try simp only [size_alloc, size_setB, size_drew] at hz47_16
                  refine WO_guardT rfl rfl hb16.h ?_
                  refine WO_call Hvac.call91 (by rfl) (Ret.mono (yIsZero_spec _ (OmB.ext hO (by repeat (first | assumption | exact Ext.refl _ | refine Ext.alloc ?_ _ | refine Ext.drew ?_ | refine Ext.setB ?_ (by first | omega | (simp only [size_alloc, size_setB, size_drew]; omega)) _ | exact Ext.trans (by assumption) (by assumption) | refine Ext.trans ?_ (by assumption)))) _ _ _ _ (by first | exact NN.nil _ | assumption | exact NN.ext (by assumption) (by repeat (first | assumption | exact Ext.refl _ | refine Ext.alloc ?_ _ | refine Ext.drew ?_ | refine Ext.setB ?_ (by first | omega | (simp only [size_alloc, size_setB, size_drew]; omega)) _ | exact Ext.trans (by assumption) (by assumption) | refine Ext.trans ?_ (by assumption)))) (by first | assumption | omega | (rw [sz_zero]; omega))) ?_)
                  rintro _ w91_17 ⟨hE91_17, rfl⟩
                  have hz91_17 := hE91_17.1
                  try simp only [size_alloc, size_setB, size_drew] at hz91_17
                  refine WO_guardT rfl rfl hb16.h ?_
                  refine WO_p (PS_not rfl) ?_
                  refine WO_guardT rfl rfl hb14.h ?_
                  refine WO_p (PS_pickT rfl hb16.h rfl) ?_
                  refine WO_p (PS_pickF rfl hb14.h rfl) ?_
                  refine WO_p (PS_assign_bool rfl) ?_
                  refine WO_nil ?_
                  refine thn_normal ?_
                  refine W_ret ?_
                  refine bodyQ_ret1 Hvac.results112 rfl (.bool _) rfl ?_
                  refine ⟨(by repeat (first | assumption | exact Ext.refl _ | refine Ext.alloc ?_ _ | refine Ext.drew ?_ | refine Ext.setB ?_ (by first | omega | (simp only [size_alloc, size_setB, size_drew]; omega)) _ | refine Ext.trans ?_ (by assumption))), congrArg Value.bool ?_⟩
                  unfold ywrites
                  first | exact (al_et (by omega)).symm | exact (al_ef (by omega)).symm | (subst ho5; simp)
                · have hb16p := hb16.h; try simp only [al_ete, al_dfn, Bool.not_eq_true', Bool.not_eq_false', al_ne, Bool.not_not, al_nn] at hb16p
                  refine WO_guardF rfl rfl hb16.h ?_
                  refine WO_guardF rfl rfl hb16.h ?_
                  refine WO_guardF rfl rfl hb16.h ?_
                  refine WO_guardF rfl rfl hb16.h ?_
                  refine WO_guardT rfl rfl hb14.h ?_
                  refine WO_p (PS_pickF rfl hb16.h rfl) ?_
                  refine WO_p (PS_pickF rfl hb14.h rfl) ?_
                  refine WO_p (PS_assign_bool rfl) ?_
                  refine WO_nil ?_
                  refine thn_normal ?_
                  refine W_ret ?_
                  refine bodyQ_ret1 Hvac.results112 rfl (.bool _) rfl ?_
                  refine ⟨(by repeat (first | assumption | exact Ext.refl _ | refine Ext.alloc ?_ _ | refine Ext.drew ?_ | refine Ext.setB ?_ (by first | omega | (simp only [size_alloc, size_setB, size_drew]; omega)) _ | refine Ext.trans ?_ (by assumption))), congrArg Value.bool ?_⟩
                  unfold ywrites
                  first | exact (al_et (by omega)).symm | exact (al_ef (by omega)).symm | (subst ho5; simp)
        · have hb8p := hb8.h; try simp only [al_ete, al_dfn, Bool.not_eq_true', Bool.not_eq_false', al_ne, Bool.not_not, al_nn] at hb8p
          refine WO_guardF rfl rfl hb8.h ?_
          refine WO_guardF rfl rfl hb8.h ?_
          refine WO_guardT rfl rfl hb6.h ?_
          refine WO_p (PS_pickF rfl hb8.h rfl) ?_
          refine WO_p (PS_pickF rfl hb6.h rfl) ?_
          refine WO_p (PS_move_bool rfl) ?_
          refine WO_guardT rfl rfl rfl ?_
          refine WO_p (PS_move_int rfl) ?_
          refine WO_guardT rfl rfl rfl ?_
          refine WO_p (PS_eql rfl rfl) ?_
          refine WO_p (PS_pickF rfl rfl rfl) ?_
          refine WO_p (PS_move_bool rfl) ?_
          refine WO_if (t := 27) rfl (fun hb22 => ?_) (fun hb22 => ?_)
          · have hb22p := hb22.h; try simp only [al_ete, al_dfn, Bool.not_eq_true', Bool.not_eq_false', al_ne, Bool.not_not, al_nn] at hb22p
            exfalso; omega
          · have hb22p := hb22.h; try simp only [al_ete, al_dfn, Bool.not_eq_true', Bool.not_eq_false', al_ne, Bool.not_not, al_nn] at hb22p
            refine WO_guardT rfl rfl hb22.h ?_
            refine WO_p (PS_move_int rfl) ?_
            refine WO_guardT rfl rfl hb22.h ?_
            refine WO_p (PS_eql rfl rfl) ?_
            refine WO_p (PS_pickF rfl hb22.h rfl) ?_
            refine WO_p (PS_move_bool rfl) ?_
            refine WO_if (t := 31) rfl (fun hb24 => ?_) (fun hb24 => ?_)
            · have hb24p := hb24.h; try simp only [al_ete, al_dfn, Bool.not_eq_true', Bool.not_eq_false', al_ne, Bool.not_not, al_nn] at hb24p
              exfalso; omega
            · have hb24p := hb24.h; try simp only [al_ete, al_dfn, Bool.not_eq_true', Bool.not_eq_false', al_ne, Bool.not_not, al_nn] at hb24p
              refine WO_guardT rfl rfl hb24.h ?_
              refine WO_p (PS_move_int rfl) ?_
              refine WO_guardT rfl rfl hb24.h ?_
              refine WO_p (PS_eql rfl rfl) ?_
              refine WO_guardT rfl rfl hb24.h ?_
              refine WO_p (PS_move_bool rfl) ?_
              refine WO_if (t := 34) rfl (fun hb26 => ?_) (fun hb26 => ?_)
              · have hb26p := hb26.h; try simp only [al_ete, al_dfn, Bool.not_eq_true', Bool.not_eq_false', al_ne, Bool.not_not, al_nn] at hb26p
                exfalso; omega
              · have hb26p := hb26.h; try simp only [al_ete, al_dfn, Bool.not_eq_true', Bool.not_eq_false', al_ne, Bool.not_not, al_nn] at hb26p
                refine WO_guardF rfl rfl hb26.h ?_
                refine WO_guardF rfl rfl hb26.h ?_
                refine WO_guardF rfl rfl hb26.h ?_
                refine WO_guardF rfl rfl hb26.h ?_
                refine WO_guardT rfl rfl hb24.h ?_
                refine WO_p (PS_pickF rfl hb26.h rfl) ?_
                refine WO_p (PS_pickF rfl hb24.h rfl) ?_
                refine WO_p (PS_assign_bool rfl) ?_
                refine WO_nil ?_
                refine thn_normal ?_
                refine W_ret ?_
                refine bodyQ_ret1 Hvac.results112 rfl (.bool _) rfl ?_
                refine ⟨(by repeat (first | assumption | exact Ext.refl _ | refine Ext.alloc ?_ _ | refine Ext.drew ?_ | refine Ext.setB ?_ (by first | omega | (simp only [size_alloc, size_setB, size_drew]; omega)) _ | refine Ext.trans ?_ (by assumption))), congrArg Value.bool ?_⟩
                unfold ywrites
                first | exact (al_et (by omega)).symm | exact (al_ef (by omega)).symm | (subst ho5; simp)

set_option maxRecDepth 10000 in
set_option maxHeartbeats 4000000 in
theorem yCut_spec [Om] (w : World) (hO : OmB w) (p : Option Addr) (sn sc : Nat) (L : List Int) (hs : AB w (p, sn, sc) L) (hsn : sn ≤ 100000000) (ap : Option Addr) (an acY a : Nat) (ha : NN w (ap, an, acY) a) (za : sz a ≤ 1000) (np : Option Addr) (nn nc n : Nat) (hn : NN w (np, nn, nc) n) (zn : sz n ≤ 1000) (hn8 : n ≤ 100000000) : Ret Hvac.prog 120 #[.slice p sn sc, .slice ap an acY, .slice np nn nc] w fun u w' => Ext w w' ∧ ∃ s' : SV, u = .slice s'.1 s'.2.1 s'.2.2 ∧ PB w' s' (ycut L a n) := by
  have hLn := hs.len
  have hLc := hs.cap
  dsimp only at hLn hLc
  have hsm : ysmall n = n := ysmall_eq (by omega)
  refine Ret_of_W Hvac.func120 rfl rfl ?_
  refine W_seq ?_
  refine W_region rfl ?_
  refine WO_p (PS_assign_slice rfl) ?_
  refine WO_nil ?_
  refine thn_normal ?_
  refine W_seq ?_
  refine W_region rfl ?_
  refine WO_p (PS_move_slice rfl) ?_
  refine WO_call Hvac.call37 (by rfl) (Ret.mono (small_spec2 _ (OmB.ext hO (by repeat (first | assumption | exact Ext.refl _ | refine Ext.alloc ?_ _ | refine Ext.drew ?_ | refine Ext.setB ?_ (by first | omega | (simp only [size_alloc, size_setB, size_drew]; omega)) _ | exact Ext.trans (by assumption) (by assumption) | refine Ext.trans ?_ (by assumption)))) _ _ _ _ (by first | exact NN.nil _ | assumption | exact NN.ext (by assumption) (by repeat (first | assumption | exact Ext.refl _ | refine Ext.alloc ?_ _ | refine Ext.drew ?_ | refine Ext.setB ?_ (by first | omega | (simp only [size_alloc, size_setB, size_drew]; omega)) _ | exact Ext.trans (by assumption) (by assumption) | refine Ext.trans ?_ (by assumption)))) (by first | assumption | omega | (rw [sz_zero]; omega))) ?_)
  rintro _ w37_0 ⟨hE37_0, rfl⟩
  have hz37_0 := hE37_0.1
  try simp only [size_alloc, size_setB, size_drew] at hz37_0
  rw [hsm]
  refine WO_make (z := .int .u8 0) Hvac.underlying32 info5 rfl rfl rfl (by omega) (by omega) (by show (1:Int) * _ ≤ _; omega) (by omega) ?_
  rw [show ((n:Int)).toNat = n from Int.toNat_natCast _, show madeCells (Value.int IntKind.u8 0).cells (n * Hvac.t5.size) = ic .u8 (List.replicate n 0) from by rw [show Hvac.t5.size = 1 from rfl, Nat.mul_one]; exact made_ic .u8 _]
  refine WO_p (PS_assign_slice rfl) ?_
  refine WO_nil ?_
  refine thn_normal ?_
  refine W_seq ?_
  refine W_region rfl ?_
  refine WO_p (PS_move_slice rfl) ?_
  refine WO_p (PS_move_slice rfl) ?_
  refine WO_p (PS_lenS Hvac.runUnderlying32 rfl) ?_
  refine WO_call Hvac.call110 (by rfl) (Ret.mono (place_spec _ (OmB.ext hO (by repeat (first | assumption | exact Ext.refl _ | refine Ext.alloc ?_ _ | refine Ext.drew ?_ | refine Ext.setB ?_ (by first | omega | (simp only [size_alloc, size_setB, size_drew]; omega)) _ | exact Ext.trans (by assumption) (by assumption) | refine Ext.trans ?_ (by assumption)))) _ _ _ _ (by first | exact NN.nil _ | assumption | exact NN.ext (by assumption) (by repeat (first | assumption | exact Ext.refl _ | refine Ext.alloc ?_ _ | refine Ext.drew ?_ | refine Ext.setB ?_ (by first | omega | (simp only [size_alloc, size_setB, size_drew]; omega)) _ | exact Ext.trans (by assumption) (by assumption) | refine Ext.trans ?_ (by assumption)))) (by first | assumption | omega | (rw [sz_zero]; omega)) _ (by omega)) ?_)
  rintro _ w110_1 ⟨hE110_1, rfl⟩
  have hz110_1 := hE110_1.1
  try simp only [size_alloc, size_setB, size_drew] at hz110_1
  refine WO_p (PS_move_tuple rfl) ?_
  refine WO_p (PS_extract_int rfl rfl) ?_
  refine WO_p (PS_extract_bool rfl rfl) ?_
  refine WO_p (PS_assign_int rfl) ?_
  refine WO_p (PS_assign_bool rfl) ?_
  refine WO_nil ?_
  refine thn_normal ?_
  refine W_seq ?_
  refine W_seq ?_
  refine W_region rfl ?_
  refine WO_p (PS_move_bool rfl) ?_
  refine WO_nil ?_
  refine thn_normal ?_
  refine W_if rfl (fun hb4 => ?_) (fun hb4 => ?_)
  · have hb4p := hb4.h; try simp only [al_ete, al_dfn, Bool.not_eq_true', Bool.not_eq_false', al_ne, Bool.not_not, al_nn] at hb4p
    have hal : a < sn := by simpa using hb4p
    have hif : (if a < sn then (a : Int) else 0) = a := if_pos hal
    rw [hif]
    obtain ⟨b, o, r, T, fz, hp, hb, hrs, hX⟩ := hs.row (by show 0 < sn; omega)
    dsimp only at hp hrs hX
    subst hp
    obtain ⟨m, hm⟩ : ∃ m, Nat.min (sn - a) n = m := ⟨_, rfl⟩
    have hmin0 : m ≤ sn - a ∧ m ≤ n := by rw [← hm]; exact ⟨Nat.min_le_left _ _, Nat.min_le_right _ _⟩
    refine W_region rfl ?_
    refine WO_p (PS_move_slice rfl) ?_
    refine WO_p (PS_move_slice rfl) ?_
    refine WO_p (PS_move_int rfl) ?_
    refine WO_p (PS_slS_l Hvac.runUnderlying32 Hvac.sizeOf5 rfl rfl (by omega) (by omega) (by omega)) ?_
    refine WO_copy m (vs := ic .u8 ((L.drop a).take m)) Hvac.runUnderlying32 Hvac.sizeOf5 rfl rfl (Hb.h (by repeat (first | assumption | exact Hb.newY _ _ | refine Hb.alloc ?_ | refine Hb.drew ?_ | refine Hb.ext (by assumption) ?_ | exact Hb.setSameL (by first | omega | (simp only [size_alloc, size_setB, size_drew]; omega)) | exact Hb.setSame (by assumption) | refine Hb.set (by first | omega | (simp only [size_alloc, size_setB, size_drew]; omega)) ?_ ))) (Hb.h (Hb.ext (by repeat (first | assumption | exact Ext.refl _ | refine Ext.alloc ?_ _ | refine Ext.drew ?_ | refine Ext.setB ?_ (by first | omega | (simp only [size_alloc, size_setB, size_drew]; omega)) _ | exact Ext.trans (by assumption) (by assumption) | refine Ext.trans ?_ (by assumption))) hb)) (by rw [← hm]; first | rfl | (congr 1; omega)) (by rw [size_ic, List.length_replicate]; omega) (by omega) (by have h9 := xt_part2 (k := a) (m := m) hX (by omega) (by omega); rw [Nat.mul_one]; first | exact h9 | (simp only [hif, Int.toNat_natCast, Nat.mul_one]; exact h9)) oneCell_ic ?_
    rw [show (ic .u8 ((L.drop a).take m)).toList = ((L.drop a).take m).map (Value.int .u8) from rfl, splice_ic _ _ _ _ (by rw [List.length_replicate, List.length_take, List.length_drop]; omega), ycut_copy (by omega) (by rw [hLn]; exact hm)]
    refine WO_nil ?_
    refine thn_normal ?_
    refine W_seq ?_
    refine W_region rfl ?_
    refine WO_p (PS_move_slice rfl) ?_
    refine WO_p (PS_assign_slice rfl) ?_
    refine WO_nil ?_
    refine thn_normal ?_
    refine W_ret ?_
    refine bodyQ_ret1 Hvac.results120 rfl (.slice _ _ _) rfl ?_
    have hby := ycut_by hs.by_ a n
    first
    | (have h9 : a < sn := hal
       exact ⟨(by repeat (first | assumption | exact Ext.refl _ | refine Ext.alloc ?_ _ | refine Ext.drew ?_ | refine Ext.setB ?_ (by first | omega | (simp only [size_alloc, size_setB, size_drew]; omega)) _ | refine Ext.trans ?_ (by assumption))), (some ⟨_, 0, none⟩, n, n), rfl, PB.newY (Hb.mk (Hb.h (by repeat (first | assumption | exact Hb.newY _ _ | refine Hb.alloc ?_ | refine Hb.drew ?_ | refine Hb.ext (by assumption) ?_ | exact Hb.setSameL (by first | omega | (simp only [size_alloc, size_setB, size_drew]; omega)) | exact Hb.setSame (by assumption) | refine Hb.set (by first | omega | (simp only [size_alloc, size_setB, size_drew]; omega)) ?_ )))) (hO.fresh (by omega)) hby (ycut_len L a n)⟩)
    | (rw [ycut_past (by omega)] at hby ⊢
       exact ⟨(by repeat (first | assumption | exact Ext.refl _ | refine Ext.alloc ?_ _ | refine Ext.drew ?_ | refine Ext.setB ?_ (by first | omega | (simp only [size_alloc, size_setB, size_drew]; omega)) _ | refine Ext.trans ?_ (by assumption))), (some ⟨_, 0, none⟩, n, n), rfl, PB.newY (Hb.mk (Hb.h (by repeat (first | assumption | exact Hb.newY _ _ | refine Hb.alloc ?_ | refine Hb.drew ?_ | refine Hb.ext (by assumption) ?_ | exact Hb.setSameL (by first | omega | (simp only [size_alloc, size_setB, size_drew]; omega)) | exact Hb.setSame (by assumption) | refine Hb.set (by first | omega | (simp only [size_alloc, size_setB, size_drew]; omega)) ?_ )))) (hO.fresh (by omega)) hby (by simp)⟩)
  · have hb4p := hb4.h; try simp only [al_ete, al_dfn, Bool.not_eq_true', Bool.not_eq_false', al_ne, Bool.not_not, al_nn] at hb4p
    have hal : ¬ a < sn := by simpa using hb4p
    refine W_skip ?_
    refine thn_normal ?_
    refine W_seq ?_
    refine W_region rfl ?_
    refine WO_p (PS_move_slice rfl) ?_
    refine WO_p (PS_assign_slice rfl) ?_
    refine WO_nil ?_
    refine thn_normal ?_
    refine W_ret ?_
    refine bodyQ_ret1 Hvac.results120 rfl (.slice _ _ _) rfl ?_
    have hby := ycut_by hs.by_ a n
    first
    | (have h9 : a < sn := hal
       exact ⟨(by repeat (first | assumption | exact Ext.refl _ | refine Ext.alloc ?_ _ | refine Ext.drew ?_ | refine Ext.setB ?_ (by first | omega | (simp only [size_alloc, size_setB, size_drew]; omega)) _ | refine Ext.trans ?_ (by assumption))), (some ⟨_, 0, none⟩, n, n), rfl, PB.newY (Hb.mk (Hb.h (by repeat (first | assumption | exact Hb.newY _ _ | refine Hb.alloc ?_ | refine Hb.drew ?_ | refine Hb.ext (by assumption) ?_ | exact Hb.setSameL (by first | omega | (simp only [size_alloc, size_setB, size_drew]; omega)) | exact Hb.setSame (by assumption) | refine Hb.set (by first | omega | (simp only [size_alloc, size_setB, size_drew]; omega)) ?_ )))) (hO.fresh (by omega)) hby (ycut_len L a n)⟩)
    | (rw [ycut_past (by omega)] at hby ⊢
       exact ⟨(by repeat (first | assumption | exact Ext.refl _ | refine Ext.alloc ?_ _ | refine Ext.drew ?_ | refine Ext.setB ?_ (by first | omega | (simp only [size_alloc, size_setB, size_drew]; omega)) _ | refine Ext.trans ?_ (by assumption))), (some ⟨_, 0, none⟩, n, n), rfl, PB.newY (Hb.mk (Hb.h (by repeat (first | assumption | exact Hb.newY _ _ | refine Hb.alloc ?_ | refine Hb.drew ?_ | refine Hb.ext (by assumption) ?_ | exact Hb.setSameL (by first | omega | (simp only [size_alloc, size_setB, size_drew]; omega)) | exact Hb.setSame (by assumption) | refine Hb.set (by first | omega | (simp only [size_alloc, size_setB, size_drew]; omega)) ?_ )))) (hO.fresh (by omega)) hby (by simp)⟩)

end Go.Proofs.YgvacwGreat
