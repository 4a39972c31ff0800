import Derived.Test.YgvacwGreatGe
namespace Go.Proofs.YgvacwGreat
set_option linter.unusedSimpArgs false
set_option linter.unusedVariables false
/-! what an instruction is -/
def yfam (o : Int) : Int :=
  if o = 0 ∨ o = 243 ∨ o = 253 then 31
  else if (1 ≤ o ∧ o ≤ 11) ∨ (16 ≤ o ∧ o ≤ 29) ∨ o = 32 then 1
  else if (48 ≤ o ∧ o ≤ 72) ∨ (80 ≤ o ∧ o ≤ 83) ∨ o = 89 ∨ (94 ≤ o ∧ o ≤ 159) then 2
  else if (86 ≤ o ∧ o ≤ 88) ∨ o = 90 ∨ o = 91 then 4
  else if o = 84 ∨ o = 85 ∨ o = 92 ∨ o = 93 ∨ (160 ≤ o ∧ o ≤ 164) then 8
  else if o = 240 ∨ o = 241 ∨ o = 242 ∨ o = 244 ∨ o = 245 ∨ o = 250 ∨ o = 255 then 16 else 0
def ytakes (o : Int) : Int := if yfam o = 0 then 0 else if 128 ≤ o ∧ o ≤ 143 then o - 127 else if 144 ≤ o ∧ o ≤ 159 then o - 142 else if 160 ≤ o ∧ o ≤ 164 then o - 158 else if o = 0 ∨ o = 91 then 0 else if o = 255 ∨ o = 80 ∨ o = 86 then 1 else if o = 8 ∨ o = 9 ∨ o = 240 then 3 else if o = 21 ∨ o = 25 ∨ o = 49 ∨ o = 53 ∨ o = 59 ∨ o = 63 ∨ o = 64 ∨ o = 81 ∨ o = 84 ∨ o = 92 then 1 else if o = 82 ∨ o = 83 ∨ o = 85 ∨ o = 93 ∨ o = 87 ∨ o = 243 ∨ o = 253 then 2 else if o = 55 ∨ o = 57 ∨ o = 62 ∨ o = 94 then 3 else if o = 60 then 4 else if o = 245 then 4 else if o = 241 ∨ o = 242 then 7 else if o = 244 ∨ o = 250 then 6 else if yfam o = 1 then 2 else 0
def ygives (o : Int) : Int := if yfam o = 0 then 0 else if 128 ≤ o ∧ o ≤ 143 then o - 126 else if 144 ≤ o ∧ o ≤ 159 then o - 142 else if 160 ≤ o ∧ o ≤ 164 then 0 else if o = 0 ∨ o = 91 then 0 else if o = 255 ∨ o = 80 ∨ o = 86 then 0 else if o = 8 ∨ o = 9 ∨ o = 240 then 1 else if o = 21 ∨ o = 25 ∨ o = 49 ∨ o = 53 ∨ o = 59 ∨ o = 63 ∨ o = 64 ∨ o = 81 ∨ o = 84 ∨ o = 92 then 1 else if o = 82 ∨ o = 83 ∨ o = 85 ∨ o = 93 ∨ o = 87 ∨ o = 243 ∨ o = 253 then 0 else if o = 55 ∨ o = 57 ∨ o = 62 ∨ o = 94 then 0 else if o = 60 then 0 else if o = 245 then 1 else if o = 241 ∨ o = 242 then 1 else if o = 244 ∨ o = 250 then 1 else if yfam o = 1 then 1 else 1
def yknown (o : Int) : Bool := if yfam o = 0 then false else true
theorem ytakes_bd {o : Int} (h : 0 ≤ o ∧ o ≤ 255) : 0 ≤ ytakes o ∧ ytakes o ≤ 17 := by unfold ytakes; repeat (first | omega | split)
theorem ygives_bd {o : Int} (h : 0 ≤ o ∧ o ≤ 255) : 0 ≤ ygives o ∧ ygives o ≤ 17 := by unfold ygives; repeat (first | omega | split)

set_option maxRecDepth 10000 in
set_option maxHeartbeats 4000000 in
theorem family_spec (o : Int) (w : World) (ho : 0 ≤ o ∧ o ≤ 255) : Ret Hvac.prog 49 #[.int .u8 o] w fun u w' => Ext w w' ∧ u = .int .u8 (yfam o) := by
  refine Ret_of_W Hvac.func49 rfl rfl ?_
  refine W_seq ?_
  refine W_region rfl ?_
  refine WO_p (PS_assign_int rfl) ?_
  refine WO_nil ?_
  refine thn_normal ?_
  refine W_seq ?_
  refine W_block ?_
  refine W_seq ?_
  refine W_seq ?_
  refine W_region rfl ?_
  refine WO_p (PS_move_int rfl) ?_
  refine WO_p (PS_eql rfl rfl) ?_
  refine WO_p (PS_assign_bool rfl) ?_
  refine WO_nil ?_
  refine thn_normal ?_
  refine W_if rfl (fun hb2 => ?_) (fun hb2 => ?_)
  · have hb2p := hb2.h; try simp only [al_ete, al_dfn, Bool.not_eq_true', Bool.not_eq_false', al_ne, Bool.not_not, al_nn] at hb2p
    have ho5 : o = 0 := by omega
    refine W_skip ?_
    refine thn_normal ?_
    refine W_condT rfl hb2.h ?_
    refine W_seq ?_
    refine W_region rfl ?_
    refine WO_p (PS_assign_int rfl) ?_
    refine WO_nil ?_
    refine thn_normal ?_
    refine W_ret ?_
    refine inBlk_ret ?_
    refine thn_ret ?_
    refine bodyQ_ret1 Hvac.results49 rfl (.int _ _) rfl ?_
    first
    | (subst ho5; exact ⟨(by repeat (first | assumption | exact Ext.refl _ | refine Ext.alloc ?_ _ | refine Ext.drew ?_ | refine Ext.setB ?_ (by first | omega | (simp only [size_alloc, size_setB, size_drew]; omega)) _ | refine Ext.trans ?_ (by assumption))), rfl⟩)
    | (refine ⟨(by repeat (first | assumption | exact Ext.refl _ | refine Ext.alloc ?_ _ | refine Ext.drew ?_ | refine Ext.setB ?_ (by first | omega | (simp only [size_alloc, size_setB, size_drew]; omega)) _ | refine Ext.trans ?_ (by assumption))), congrArg (Value.int .u8) ?_⟩
       unfold yfam
       repeat (first | rw [if_pos (by omega)] | rw [if_neg (by omega)]))
  · have hb2p := hb2.h; try simp only [al_ete, al_dfn, Bool.not_eq_true', Bool.not_eq_false', al_ne, Bool.not_not, al_nn] at hb2p
    refine W_seq ?_
    refine W_region rfl ?_
    refine WO_p (PS_move_int rfl) ?_
    refine WO_p (PS_eql rfl rfl) ?_
    refine WO_p (PS_assign_bool rfl) ?_
    refine WO_nil ?_
    refine thn_normal ?_
    refine W_if rfl (fun hb4 => ?_) (fun hb4 => ?_)
    · have hb4p := hb4.h; try simp only [al_ete, al_dfn, Bool.not_eq_true', Bool.not_eq_false', al_ne, Bool.not_not, al_nn] at hb4p
      have ho5 : o = 243 := by omega
      refine W_skip ?_
      refine thn_normal ?_
      refine W_condT rfl hb4.h ?_
      refine W_seq ?_
      refine W_region rfl ?_
      refine WO_p (PS_assign_int rfl) ?_
      refine WO_nil ?_
      refine thn_normal ?_
      refine W_ret ?_
      refine inBlk_ret ?_
      refine thn_ret ?_
      refine bodyQ_ret1 Hvac.results49 rfl (.int _ _) rfl ?_
      first
      | (subst ho5; exact ⟨(by repeat (first | assumption | exact Ext.refl _ | refine Ext.alloc ?_ _ | refine Ext.drew ?_ | refine Ext.setB ?_ (by first | omega | (simp only [size_alloc, size_setB, size_drew]; omega)) _ | refine Ext.trans ?_ (by assumption))), rfl⟩)
      | (refine ⟨(by repeat (first | assumption | exact Ext.refl _ | refine Ext.alloc ?_ _ | refine Ext.drew ?_ | refine Ext.setB ?_ (by first | omega | (simp only [size_alloc, size_setB, size_drew]; omega)) _ | refine Ext.trans ?_ (by assumption))), congrArg (Value.int .u8) ?_⟩
         unfold yfam
         repeat (first | rw [if_pos (by omega)] | rw [if_neg (by omega)]))
    · have hb4p := hb4.h; try simp only [al_ete, al_dfn, Bool.not_eq_true', Bool.not_eq_false', al_ne, Bool.not_not, al_nn] at hb4p
      refine W_region rfl ?_
      refine WO_p (PS_move_int rfl) ?_
      refine WO_p (PS_eql rfl rfl) ?_
      refine WO_p (PS_assign_bool rfl) ?_
      refine WO_nil ?_
      refine thn_normal ?_
      refine W_if rfl (fun hb6 => ?_) (fun hb6 => ?_)
      · have hb6p := hb6.h; try simp only [al_ete, al_dfn, Bool.not_eq_true', Bool.not_eq_false', al_ne, Bool.not_not, al_nn] at hb6p
        have ho5 : o = 253 := by omega
        refine W_seq ?_
        refine W_region rfl ?_
        refine WO_p (PS_assign_int rfl) ?_
        refine WO_nil ?_
        refine thn_normal ?_
        refine W_ret ?_
        refine inBlk_ret ?_
        refine thn_ret ?_
        refine bodyQ_ret1 Hvac.results49 rfl (.int _ _) rfl ?_
        first
        | (subst ho5; exact ⟨(by repeat (first | assumption | exact Ext.refl _ | refine Ext.alloc ?_ _ | refine Ext.drew ?_ | refine Ext.setB ?_ (by first | omega | (simp only [size_alloc, size_setB, size_drew]; omega)) _ | refine Ext.trans ?_ (by assumption))), rfl⟩)
        | (refine ⟨(by repeat (first | assumption | exact Ext.refl _ | refine Ext.alloc ?_ _ | refine Ext.drew ?_ | refine Ext.setB ?_ (by first | omega | (simp only [size_alloc, size_setB, size_drew]; omega)) _ | refine Ext.trans ?_ (by assumption))), congrArg (Value.int .u8) ?_⟩
           unfold yfam
           repeat (first | rw [if_pos (by omega)] | rw [if_neg (by omega)]))
      · have hb6p := hb6.h; try simp only [al_ete, al_dfn, Bool.not_eq_true', Bool.not_eq_false', al_ne, Bool.not_not, al_nn] at hb6p
        refine W_seq ?_
        refine W_seq ?_
        refine W_region rfl ?_
        refine WO_p (PS_move_int rfl) ?_
        refine WO_p (PS_geq rfl rfl) ?_
        refine WO_p (PS_move_bool rfl) ?_
        refine WO_if (t := 13) rfl (fun hb8 => ?_) (fun hb8 => ?_)
        · have hb8p := hb8.h; try simp only [al_ete, al_dfn, Bool.not_eq_true', Bool.not_eq_false', al_ne, Bool.not_not, al_nn] at hb8p
          refine WO_guardT rfl rfl hb8.h ?_
          refine WO_p (PS_move_int rfl) ?_
          refine WO_guardT rfl rfl hb8.h ?_
          refine WO_p (PS_leq rfl rfl) ?_
          refine WO_p (PS_pickT rfl hb8.h rfl) ?_
          refine WO_p (PS_assign_bool rfl) ?_
          refine WO_nil ?_
          refine thn_normal ?_
          refine W_if rfl (fun hb10 => ?_) (fun hb10 => ?_)
          · have hb10p := hb10.h; try simp only [al_ete, al_dfn, Bool.not_eq_true', Bool.not_eq_false', al_ne, Bool.not_not, al_nn] at hb10p
            refine W_skip ?_
            refine thn_normal ?_
            refine W_condT rfl hb10.h ?_
            refine W_seq ?_
            refine W_region rfl ?_
            refine WO_p (PS_assign_int rfl) ?_
            refine WO_nil ?_
            refine thn_normal ?_
            refine W_ret ?_
            refine inBlk_ret ?_
            refine thn_ret ?_
            refine bodyQ_ret1 Hvac.results49 rfl (.int _ _) rfl ?_
            first
            | (subst ho5; exact ⟨(by repeat (first | assumption | exact Ext.refl _ | refine Ext.alloc ?_ _ | refine Ext.drew ?_ | refine Ext.setB ?_ (by first | omega | (simp only [size_alloc, size_setB, size_drew]; omega)) _ | refine Ext.trans ?_ (by assumption))), rfl⟩)
            | (refine ⟨(by repeat (first | assumption | exact Ext.refl _ | refine Ext.alloc ?_ _ | refine Ext.drew ?_ | refine Ext.setB ?_ (by first | omega | (simp only [size_alloc, size_setB, size_drew]; omega)) _ | refine Ext.trans ?_ (by assumption))), congrArg (Value.int .u8) ?_⟩
               unfold yfam
               repeat (first | rw [if_pos (by omega)] | rw [if_neg (by omega)]))
          · have hb10p := hb10.h; try simp only [al_ete, al_dfn, Bool.not_eq_true', Bool.not_eq_false', al_ne, Bool.not_not, al_nn] at hb10p
            refine W_seq ?_
            refine W_region rfl ?_
            refine WO_p (PS_move_int rfl) ?_
            refine WO_p (PS_geq rfl rfl) ?_
            refine WO_p (PS_move_bool rfl) ?_
            refine WO_if (t := 19) rfl (fun hb12 => ?_) (fun hb12 => ?_)
            · have hb12p := hb12.h; try simp only [al_ete, al_dfn, Bool.not_eq_true', Bool.not_eq_false', al_ne, Bool.not_not, al_nn] at hb12p
              refine WO_guardT rfl rfl hb12.h ?_
              refine WO_p (PS_move_int rfl) ?_
              refine WO_guardT rfl rfl hb12.h ?_
              refine WO_p (PS_leq rfl rfl) ?_
              refine WO_p (PS_pickT rfl hb12.h rfl) ?_
              refine WO_p (PS_assign_bool rfl) ?_
              refine WO_nil ?_
              refine thn_normal ?_
              refine W_if rfl (fun hb14 => ?_) (fun hb14 => ?_)
              · have hb14p := hb14.h; try simp only [al_ete, al_dfn, Bool.not_eq_true', Bool.not_eq_false', al_ne, Bool.not_not, al_nn] at hb14p
                refine W_skip ?_
                refine thn_normal ?_
                refine W_condT rfl hb14.h ?_
                refine W_seq ?_
                refine W_region rfl ?_
                refine WO_p (PS_assign_int rfl) ?_
                refine WO_nil ?_
                refine thn_normal ?_
                refine W_ret ?_
                refine inBlk_ret ?_
                refine thn_ret ?_
                refine bodyQ_ret1 Hvac.results49 rfl (.int _ _) rfl ?_
                first
                | (subst ho5; exact ⟨(by repeat (first | assumption | exact Ext.refl _ | refine Ext.alloc ?_ _ | refine Ext.drew ?_ | refine Ext.setB ?_ (by first | omega | (simp only [size_alloc, size_setB, size_drew]; omega)) _ | refine Ext.trans ?_ (by assumption))), rfl⟩)
                | (refine ⟨(by repeat (first | assumption | exact Ext.refl _ | refine Ext.alloc ?_ _ | refine Ext.drew ?_ | refine Ext.setB ?_ (by first | omega | (simp only [size_alloc, size_setB, size_drew]; omega)) _ | refine Ext.trans ?_ (by assumption))), congrArg (Value.int .u8) ?_⟩
                   unfold yfam
                   repeat (first | rw [if_pos (by omega)] | rw [if_neg (by omega)]))
              · have hb14p := hb14.h; try simp only [al_ete, al_dfn, Bool.not_eq_true', Bool.not_eq_false', al_ne, Bool.not_not, al_nn] at hb14p
                refine W_region rfl ?_
                refine WO_p (PS_move_int rfl) ?_
                refine WO_p (PS_eql rfl rfl) ?_
                refine WO_p (PS_assign_bool rfl) ?_
                refine WO_nil ?_
                refine thn_normal ?_
                refine W_if rfl (fun hb16 => ?_) (fun hb16 => ?_)
                · have hb16p := hb16.h; try simp only [al_ete, al_dfn, Bool.not_eq_true', Bool.not_eq_false', al_ne, Bool.not_not, al_nn] at hb16p
                  have ho5 : o = 32 := by omega
                  refine W_seq ?_
                  refine W_region rfl ?_
                  refine WO_p (PS_assign_int rfl) ?_
                  refine WO_nil ?_
                  refine thn_normal ?_
                  refine W_ret ?_
                  refine inBlk_ret ?_
                  refine thn_ret ?_
                  refine bodyQ_ret1 Hvac.results49 rfl (.int _ _) rfl ?_
                  first
                  | (subst ho5; exact ⟨(by repeat (first | assumption | exact Ext.refl _ | refine Ext.alloc ?_ _ | refine Ext.drew ?_ | refine Ext.setB ?_ (by first | omega | (simp only [size_alloc, size_setB, size_drew]; omega)) _ | refine Ext.trans ?_ (by assumption))), rfl⟩)
                  | (refine ⟨(by repeat (first | assumption | exact Ext.refl _ | refine Ext.alloc ?_ _ | refine Ext.drew ?_ | refine Ext.setB ?_ (by first | omega | (simp only [size_alloc, size_setB, size_drew]; omega)) _ | refine Ext.trans ?_ (by assumption))), congrArg (Value.int .u8) ?_⟩
                     unfold yfam
                     repeat (first | rw [if_pos (by omega)] | rw [if_neg (by omega)]))
                · have hb16p := hb16.h; try simp only [al_ete, al_dfn, Bool.not_eq_true', Bool.not_eq_false', al_ne, Bool.not_not, al_nn] at hb16p
                  refine W_seq ?_
                  refine W_seq ?_
                  refine W_region rfl ?_
                  refine WO_p (PS_move_int rfl) ?_
                  refine WO_p (PS_geq rfl rfl) ?_
                  refine WO_p (PS_move_bool rfl) ?_
                  refine WO_if (t := 28) rfl (fun hb18 => ?_) (fun hb18 => ?_)
                  · have hb18p := hb18.h; try simp only [al_ete, al_dfn, Bool.not_eq_true', Bool.not_eq_false', al_ne, Bool.not_not, al_nn] at hb18p
                    refine WO_guardT rfl rfl hb18.h ?_
                    refine WO_p (PS_move_int rfl) ?_
                    refine WO_guardT rfl rfl hb18.h ?_
                    refine WO_p (PS_leq rfl rfl) ?_
                    refine WO_p (PS_pickT rfl hb18.h rfl) ?_
                    refine WO_p (PS_assign_bool rfl) ?_
                    refine WO_nil ?_
                    refine thn_normal ?_
                    refine W_if rfl (fun hb20 => ?_) (fun hb20 => ?_)
                    · have hb20p := hb20.h; try simp only [al_ete, al_dfn, Bool.not_eq_true', Bool.not_eq_false', al_ne, Bool.not_not, al_nn] at hb20p
                      refine W_skip ?_
                      refine thn_normal ?_
                      refine W_condT rfl hb20.h ?_
                      refine W_seq ?_
                      refine W_region rfl ?_
                      refine WO_p (PS_assign_int rfl) ?_
                      refine WO_nil ?_
                      refine thn_normal ?_
                      refine W_ret ?_
                      refine inBlk_ret ?_
                      refine thn_ret ?_
                      refine bodyQ_ret1 Hvac.results49 rfl (.int _ _) rfl ?_
                      first
                      | (subst ho5; exact ⟨(by repeat (first | assumption | exact Ext.refl _ | refine Ext.alloc ?_ _ | refine Ext.drew ?_ | refine Ext.setB ?_ (by first | omega | (simp only [size_alloc, size_setB, size_drew]; omega)) _ | refine Ext.trans ?_ (by assumption))), rfl⟩)
                      | (refine ⟨(by repeat (first | assumption | exact Ext.refl _ | refine Ext.alloc ?_ _ | refine Ext.drew ?_ | refine Ext.setB ?_ (by first | omega | (simp only [size_alloc, size_setB, size_drew]; omega)) _ | refine Ext.trans ?_ (by assumption))), congrArg (Value.int .u8) ?_⟩
                         unfold yfam
                         repeat (first | rw [if_pos (by omega)] | rw [if_neg (by omega)]))
                    · have hb20p := hb20.h; try simp only [al_ete, al_dfn, Bool.not_eq_true', Bool.not_eq_false', al_ne, Bool.not_not, al_nn] at hb20p
                      refine W_seq ?_
                      refine W_region rfl ?_
                      refine WO_p (PS_move_int rfl) ?_
                      refine WO_p (PS_geq rfl rfl) ?_
                      refine WO_p (PS_move_bool rfl) ?_
                      refine WO_if (t := 34) rfl (fun hb22 => ?_) (fun hb22 => ?_)
                      · have hb22p := hb22.h; try simp only [al_ete, al_dfn, Bool.not_eq_true', Bool.not_eq_false', al_ne, Bool.not_not, al_nn] at hb22p
                        refine WO_guardT rfl rfl hb22.h ?_
                        refine WO_p (PS_move_int rfl) ?_
                        refine WO_guardT rfl rfl hb22.h ?_
                        refine WO_p (PS_leq rfl rfl) ?_
                        refine WO_p (PS_pickT rfl hb22.h rfl) ?_
                        refine WO_p (PS_assign_bool rfl) ?_
                        refine WO_nil ?_
                        refine thn_normal ?_
                        refine W_if rfl (fun hb24 => ?_) (fun hb24 => ?_)
                        · have hb24p := hb24.h; try simp only [al_ete, al_dfn, Bool.not_eq_true', Bool.not_eq_false', al_ne, Bool.not_not, al_nn] at hb24p
                          refine W_skip ?_
                          refine thn_normal ?_
                          refine W_condT rfl hb24.h ?_
                          refine W_seq ?_
                          refine W_region rfl ?_
                          refine WO_p (PS_assign_int rfl) ?_
                          refine WO_nil ?_
                          refine thn_normal ?_
                          refine W_ret ?_
                          refine inBlk_ret ?_
                          refine thn_ret ?_
                          refine bodyQ_ret1 Hvac.results49 rfl (.int _ _) rfl ?_
                          first
                          | (subst ho5; exact ⟨(by repeat (first | assumption | exact Ext.refl _ | refine Ext.alloc ?_ _ | refine Ext.drew ?_ | refine Ext.setB ?_ (by first | omega | (simp only [size_alloc, size_setB, size_drew]; omega)) _ | refine Ext.trans ?_ (by assumption))), rfl⟩)
                          | (refine ⟨(by repeat (first | assumption | exact Ext.refl _ | refine Ext.alloc ?_ _ | refine Ext.drew ?_ | refine Ext.setB ?_ (by first | omega | (simp only [size_alloc, size_setB, size_drew]; omega)) _ | refine Ext.trans ?_ (by assumption))), congrArg (Value.int .u8) ?_⟩
                             unfold yfam
                             repeat (first | rw [if_pos (by omega)] | rw [if_neg (by omega)]))
                        · have hb24p := hb24.h; try simp only [al_ete, al_dfn, Bool.not_eq_true', Bool.not_eq_false', al_ne, Bool.not_not, al_nn] at hb24p
                          refine W_seq ?_
                          refine W_region rfl ?_
                          refine WO_p (PS_move_int rfl) ?_
                          refine WO_p (PS_eql rfl rfl) ?_
                          refine WO_p (PS_assign_bool rfl) ?_
                          refine WO_nil ?_
                          refine thn_normal ?_
                          refine W_if rfl (fun hb26 => ?_) (fun hb26 => ?_)
                          · have hb26p := hb26.h; try simp only [al_ete, al_dfn, Bool.not_eq_true', Bool.not_eq_false', al_ne, Bool.not_not, al_nn] at hb26p
                            have ho5 : o = 89 := by omega
                            refine W_skip ?_
                            refine thn_normal ?_
                            refine W_condT rfl hb26.h ?_
                            refine W_seq ?_
                            refine W_region rfl ?_
                            refine WO_p (PS_assign_int rfl) ?_
                            refine WO_nil ?_
                            refine thn_normal ?_
                            refine W_ret ?_
                            refine inBlk_ret ?_
                            refine thn_ret ?_
                            refine bodyQ_ret1 Hvac.results49 rfl (.int _ _) rfl ?_
                            first
                            | (subst ho5; exact ⟨(by repeat (first | assumption | exact Ext.refl _ | refine Ext.alloc ?_ _ | refine Ext.drew ?_ | refine Ext.setB ?_ (by first | omega | (simp only [size_alloc, size_setB, size_drew]; omega)) _ | refine Ext.trans ?_ (by assumption))), rfl⟩)
                            | (refine ⟨(by repeat (first | assumption | exact Ext.refl _ | refine Ext.alloc ?_ _ | refine Ext.drew ?_ | refine Ext.setB ?_ (by first | omega | (simp only [size_alloc, size_setB, size_drew]; omega)) _ | refine Ext.trans ?_ (by assumption))), congrArg (Value.int .u8) ?_⟩
                               unfold yfam
                               repeat (first | rw [if_pos (by omega)] | rw [if_neg (by omega)]))
                          · have hb26p := hb26.h; try simp only [al_ete, al_dfn, Bool.not_eq_true', Bool.not_eq_false', al_ne, Bool.not_not, al_nn] at hb26p
                            refine W_region rfl ?_
                            refine WO_p (PS_move_int rfl) ?_
                            refine WO_p (PS_geq rfl rfl) ?_
                            refine WO_p (PS_move_bool rfl) ?_
                            refine WO_if (t := 42) rfl (fun hb28 => ?_) (fun hb28 => ?_)
                            · have hb28p := hb28.h; try simp only [al_ete, al_dfn, Bool.not_eq_true', Bool.not_eq_false', al_ne, Bool.not_not, al_nn] at hb28p
                              refine WO_guardT rfl rfl hb28.h ?_
                              refine WO_p (PS_move_int rfl) ?_
                              refine WO_guardT rfl rfl hb28.h ?_
                              refine WO_p (PS_leq rfl rfl) ?_
                              refine WO_p (PS_pickT rfl hb28.h rfl) ?_
                              refine WO_p (PS_assign_bool rfl) ?_
                              refine WO_nil ?_
                              refine thn_normal ?_
                              refine W_if rfl (fun hb30 => ?_) (fun hb30 => ?_)
                              · have hb30p := hb30.h; try simp only [al_ete, al_dfn, Bool.not_eq_true', Bool.not_eq_false', al_ne, Bool.not_not, al_nn] at hb30p
                                refine W_seq ?_
                                refine W_region rfl ?_
                                refine WO_p (PS_assign_int rfl) ?_
                                refine WO_nil ?_
                                refine thn_normal ?_
                                refine W_ret ?_
                                refine inBlk_ret ?_
                                refine thn_ret ?_
                                refine bodyQ_ret1 Hvac.results49 rfl (.int _ _) rfl ?_
                                first
                                | (subst ho5; exact ⟨(by repeat (first | assumption | exact Ext.refl _ | refine Ext.alloc ?_ _ | refine Ext.drew ?_ | refine Ext.setB ?_ (by first | omega | (simp only [size_alloc, size_setB, size_drew]; omega)) _ | refine Ext.trans ?_ (by assumption))), rfl⟩)
                                | (refine ⟨(by repeat (first | assumption | exact Ext.refl _ | refine Ext.alloc ?_ _ | refine Ext.drew ?_ | refine Ext.setB ?_ (by first | omega | (simp only [size_alloc, size_setB, size_drew]; omega)) _ | refine Ext.trans ?_ (by assumption))), congrArg (Value.int .u8) ?_⟩
                                   unfold yfam
                                   repeat (first | rw [if_pos (by omega)] | rw [if_neg (by omega)]))
                              · have hb30p := hb30.h; try simp only [al_ete, al_dfn, Bool.not_eq_true', Bool.not_eq_false', al_ne, Bool.not_not, al_nn] at hb30p
                                refine W_seq ?_
                                refine W_seq ?_
                                refine W_region rfl ?_
                                refine WO_p (PS_move_int rfl) ?_
                                refine WO_p (PS_geq rfl rfl) ?_
                                refine WO_p (PS_move_bool rfl) ?_
                                refine WO_if (t := 49) rfl (fun hb32 => ?_) (fun hb32 => ?_)
                                · have hb32p := hb32.h; try simp only [al_ete, al_dfn, Bool.not_eq_true', Bool.not_eq_false', al_ne, Bool.not_not, al_nn] at hb32p
                                  refine WO_guardT rfl rfl hb32.h ?_
                                  refine WO_p (PS_move_int rfl) ?_
                                  refine WO_guardT rfl rfl hb32.h ?_
                                  refine WO_p (PS_leq rfl rfl) ?_
                                  refine WO_p (PS_pickT rfl hb32.h rfl) ?_
                                  refine WO_p (PS_assign_bool rfl) ?_
                                  refine WO_nil ?_
                                  refine thn_normal ?_
                                  refine W_if rfl (fun hb34 => ?_) (fun hb34 => ?_)
                                  · have hb34p := hb34.h; try simp only [al_ete, al_dfn, Bool.not_eq_true', Bool.not_eq_false', al_ne, Bool.not_not, al_nn] at hb34p
                                    exfalso; omega
                                  · have hb34p := hb34.h; try simp only [al_ete, al_dfn, Bool.not_eq_true', Bool.not_eq_false', al_ne, Bool.not_not, al_nn] at hb34p
                                    refine W_seq ?_
                                    refine W_region rfl ?_
                                    refine WO_p (PS_move_int rfl) ?_
                                    refine WO_p (PS_eql rfl rfl) ?_
                                    refine WO_p (PS_assign_bool rfl) ?_
                                    refine WO_nil ?_
                                    refine thn_normal ?_
                                    refine W_if rfl (fun hb36 => ?_) (fun hb36 => ?_)
                                    · have hb36p := hb36.h; try simp only [al_ete, al_dfn, Bool.not_eq_true', Bool.not_eq_false', al_ne, Bool.not_not, al_nn] at hb36p
                                      exfalso; omega
                                    · have hb36p := hb36.h; try simp only [al_ete, al_dfn, Bool.not_eq_true', Bool.not_eq_false', al_ne, Bool.not_not, al_nn] at hb36p
                                      refine W_region rfl ?_
                                      refine WO_p (PS_move_int rfl) ?_
                                      refine WO_p (PS_eql rfl rfl) ?_
                                      refine WO_p (PS_assign_bool rfl) ?_
                                      refine WO_nil ?_
                                      refine thn_normal ?_
                                      refine W_if rfl (fun hb38 => ?_) (fun hb38 => ?_)
                                      · have hb38p := hb38.h; try simp only [al_ete, al_dfn, Bool.not_eq_true', Bool.not_eq_false', al_ne, Bool.not_not, al_nn] at hb38p
                                        exfalso; omega
                                      · have hb38p := hb38.h; try simp only [al_ete, al_dfn, Bool.not_eq_true', Bool.not_eq_false', al_ne, Bool.not_not, al_nn] at hb38p
                                        refine W_seq ?_
                                        refine W_seq ?_
                                        refine W_region rfl ?_
                                        refine WO_p (PS_move_int rfl) ?_
                                        refine WO_p (PS_eql rfl rfl) ?_
                                        refine WO_p (PS_assign_bool rfl) ?_
                                        refine WO_nil ?_
                                        refine thn_normal ?_
                                        refine W_if rfl (fun hb40 => ?_) (fun hb40 => ?_)
                                        · have hb40p := hb40.h; try simp only [al_ete, al_dfn, Bool.not_eq_true', Bool.not_eq_false', al_ne, Bool.not_not, al_nn] at hb40p
                                          exfalso; omega
                                        · have hb40p := hb40.h; try simp only [al_ete, al_dfn, Bool.not_eq_true', Bool.not_eq_false', al_ne, Bool.not_not, al_nn] at hb40p
                                          refine W_seq ?_
                                          refine W_region rfl ?_
                                          refine WO_p (PS_move_int rfl) ?_
                                          refine WO_p (PS_eql rfl rfl) ?_
                                          refine WO_p (PS_assign_bool rfl) ?_
                                          refine WO_nil ?_
                                          refine thn_normal ?_
                                          refine W_if rfl (fun hb42 => ?_) (fun hb42 => ?_)
                                          · have hb42p := hb42.h; try simp only [al_ete, al_dfn, Bool.not_eq_true', Bool.not_eq_false', al_ne, Bool.not_not, al_nn] at hb42p
                                            exfalso; omega
                                          · have hb42p := hb42.h; try simp only [al_ete, al_dfn, Bool.not_eq_true', Bool.not_eq_false', al_ne, Bool.not_not, al_nn] at hb42p
                                            refine W_seq ?_
                                            refine W_region rfl ?_
                                            refine WO_p (PS_move_int rfl) ?_
                                            refine WO_p (PS_eql rfl rfl) ?_
                                            refine WO_p (PS_assign_bool rfl) ?_
                                            refine WO_nil ?_
                                            refine thn_normal ?_
                                            refine W_if rfl (fun hb44 => ?_) (fun hb44 => ?_)
                                            · have hb44p := hb44.h; try simp only [al_ete, al_dfn, Bool.not_eq_true', Bool.not_eq_false', al_ne, Bool.not_not, al_nn] at hb44p
                                              exfalso; omega
                                            · have hb44p := hb44.h; try simp only [al_ete, al_dfn, Bool.not_eq_true', Bool.not_eq_false', al_ne, Bool.not_not, al_nn] at hb44p
                                              refine W_seq ?_
                                              refine W_region rfl ?_
                                              refine WO_p (PS_move_int rfl) ?_
                                              refine WO_p (PS_eql rfl rfl) ?_
                                              refine WO_p (PS_assign_bool rfl) ?_
                                              refine WO_nil ?_
                                              refine thn_normal ?_
                                              refine W_if rfl (fun hb46 => ?_) (fun hb46 => ?_)
                                              · have hb46p := hb46.h; try simp only [al_ete, al_dfn, Bool.not_eq_true', Bool.not_eq_false', al_ne, Bool.not_not, al_nn] at hb46p
                                                exfalso; omega
                                              · have hb46p := hb46.h; try simp only [al_ete, al_dfn, Bool.not_eq_true', Bool.not_eq_false', al_ne, Bool.not_not, al_nn] at hb46p
                                                refine W_region rfl ?_
                                                refine WO_p (PS_move_int rfl) ?_
                                                refine WO_p (PS_geq rfl rfl) ?_
                                                refine WO_p (PS_move_bool rfl) ?_
                                                refine WO_if (t := 68) rfl (fun hb48 => ?_) (fun hb48 => ?_)
                                                · have hb48p := hb48.h; try simp only [al_ete, al_dfn, Bool.not_eq_true', Bool.not_eq_false', al_ne, Bool.not_not, al_nn] at hb48p
                                                  refine WO_guardT rfl rfl hb48.h ?_
                                                  refine WO_p (PS_move_int rfl) ?_
                                                  refine WO_guardT rfl rfl hb48.h ?_
                                                  refine WO_p (PS_leq rfl rfl) ?_
                                                  refine WO_p (PS_pickT rfl hb48.h rfl) ?_
                                                  refine WO_p (PS_assign_bool rfl) ?_
                                                  refine WO_nil ?_
                                                  refine thn_normal ?_
                                                  refine W_if rfl (fun hb50 => ?_) (fun hb50 => ?_)
                                                  · have hb50p := hb50.h; try simp only [al_ete, al_dfn, Bool.not_eq_true', Bool.not_eq_false', al_ne, Bool.not_not, al_nn] at hb50p
                                                    refine W_seq ?_
                                                    refine W_region rfl ?_
                                                    refine WO_p (PS_assign_int rfl) ?_
                                                    refine WO_nil ?_
                                                    refine thn_normal ?_
                                                    refine W_ret ?_
                                                    refine inBlk_ret ?_
                                                    refine thn_ret ?_
                                                    refine bodyQ_ret1 Hvac.results49 rfl (.int _ _) rfl ?_
                                                    first
                                                    | (subst ho5; exact ⟨(by repeat (first | assumption | exact Ext.refl _ | refine Ext.alloc ?_ _ | refine Ext.drew ?_ | refine Ext.setB ?_ (by first | omega | (simp only [size_alloc, size_setB, size_drew]; omega)) _ | refine Ext.trans ?_ (by assumption))), rfl⟩)
                                                    | (refine ⟨(by repeat (first | assumption | exact Ext.refl _ | refine Ext.alloc ?_ _ | refine Ext.drew ?_ | refine Ext.setB ?_ (by first | omega | (simp only [size_alloc, size_setB, size_drew]; omega)) _ | refine Ext.trans ?_ (by assumption))), congrArg (Value.int .u8) ?_⟩
                                                       unfold yfam
                                                       repeat (first | rw [if_pos (by omega)] | rw [if_neg (by omega)]))
                                                  · have hb50p := hb50.h; try simp only [al_ete, al_dfn, Bool.not_eq_true', Bool.not_eq_false', al_ne, Bool.not_not, al_nn] at hb50p
                                                    refine W_seq ?_
                                                    refine W_seq ?_
                                                    refine W_region rfl ?_
                                                    refine WO_p (PS_move_int rfl) ?_
                                                    refine WO_p (PS_eql rfl rfl) ?_
                                                    refine WO_p (PS_assign_bool rfl) ?_
                                                    refine WO_nil ?_
                                                    refine thn_normal ?_
                                                    refine W_if rfl (fun hb52 => ?_) (fun hb52 => ?_)
                                                    · have hb52p := hb52.h; try simp only [al_ete, al_dfn, Bool.not_eq_true', Bool.not_eq_false', al_ne, Bool.not_not, al_nn] at hb52p
                                                      have ho5 : o = 240 := by omega
                                                      refine W_skip ?_
                                                      refine thn_normal ?_
                                                      refine W_condT rfl hb52.h ?_
                                                      refine W_seq ?_
                                                      refine W_region rfl ?_
                                                      refine WO_p (PS_assign_int rfl) ?_
                                                      refine WO_nil ?_
                                                      refine thn_normal ?_
                                                      refine W_ret ?_
                                                      refine inBlk_ret ?_
                                                      refine thn_ret ?_
                                                      refine bodyQ_ret1 Hvac.results49 rfl (.int _ _) rfl ?_
                                                      first
                                                      | (subst ho5; exact ⟨(by repeat (first | assumption | exact Ext.refl _ | refine Ext.alloc ?_ _ | refine Ext.drew ?_ | refine Ext.setB ?_ (by first | omega | (simp only [size_alloc, size_setB, size_drew]; omega)) _ | refine Ext.trans ?_ (by assumption))), rfl⟩)
                                                      | (refine ⟨(by repeat (first | assumption | exact Ext.refl _ | refine Ext.alloc ?_ _ | refine Ext.drew ?_ | refine Ext.setB ?_ (by first | omega | (simp only [size_alloc, size_setB, size_drew]; omega)) _ | refine Ext.trans ?_ (by assumption))), congrArg (Value.int .u8) ?_⟩
                                                         unfold yfam
                                                         repeat (first | rw [if_pos (by omega)] | rw [if_neg (by omega)]))
                                                    · have hb52p := hb52.h; try simp only [al_ete, al_dfn, Bool.not_eq_true', Bool.not_eq_false', al_ne, Bool.not_not, al_nn] at hb52p
                                                      refine W_seq ?_
                                                      refine W_region rfl ?_
                                                      refine WO_p (PS_move_int rfl) ?_
                                                      refine WO_p (PS_eql rfl rfl) ?_
                                                      refine WO_p (PS_assign_bool rfl) ?_
                                                      refine WO_nil ?_
                                                      refine thn_normal ?_
                                                      refine W_if rfl (fun hb54 => ?_) (fun hb54 => ?_)
                                                      · have hb54p := hb54.h; try simp only [al_ete, al_dfn, Bool.not_eq_true', Bool.not_eq_false', al_ne, Bool.not_not, al_nn] at hb54p
                                                        have ho5 : o = 241 := by omega
                                                        refine W_skip ?_
                                                        refine thn_normal ?_
                                                        refine W_condT rfl hb54.h ?_
                                                        refine W_seq ?_
                                                        refine W_region rfl ?_
                                                        refine WO_p (PS_assign_int rfl) ?_
                                                        refine WO_nil ?_
                                                        refine thn_normal ?_
                                                        refine W_ret ?_
                                                        refine inBlk_ret ?_
                                                        refine thn_ret ?_
                                                        refine bodyQ_ret1 Hvac.results49 rfl (.int _ _) rfl ?_
                                                        first
                                                        | (subst ho5; exact ⟨(by repeat (first | assumption | exact Ext.refl _ | refine Ext.alloc ?_ _ | refine Ext.drew ?_ | refine Ext.setB ?_ (by first | omega | (simp only [size_alloc, size_setB, size_drew]; omega)) _ | refine Ext.trans ?_ (by assumption))), rfl⟩)
                                                        | (refine ⟨(by repeat (first | assumption | exact Ext.refl _ | refine Ext.alloc ?_ _ | refine Ext.drew ?_ | refine Ext.setB ?_ (by first | omega | (simp only [size_alloc, size_setB, size_drew]; omega)) _ | refine Ext.trans ?_ (by assumption))), congrArg (Value.int .u8) ?_⟩
                                                           unfold yfam
                                                           repeat (first | rw [if_pos (by omega)] | rw [if_neg (by omega)]))
                                                      · have hb54p := hb54.h; try simp only [al_ete, al_dfn, Bool.not_eq_true', Bool.not_eq_false', al_ne, Bool.not_not, al_nn] at hb54p
                                                        refine W_seq ?_
                                                        refine W_region rfl ?_
                                                        refine WO_p (PS_move_int rfl) ?_
                                                        refine WO_p (PS_eql rfl rfl) ?_
                                                        refine WO_p (PS_assign_bool rfl) ?_
                                                        refine WO_nil ?_
                                                        refine thn_normal ?_
                                                        refine W_if rfl (fun hb56 => ?_) (fun hb56 => ?_)
                                                        · have hb56p := hb56.h; try simp only [al_ete, al_dfn, Bool.not_eq_true', Bool.not_eq_false', al_ne, Bool.not_not, al_nn] at hb56p
                                                          have ho5 : o = 242 := by omega
                                                          refine W_skip ?_
                                                          refine thn_normal ?_
                                                          refine W_condT rfl hb56.h ?_
                                                          refine W_seq ?_
                                                          refine W_region rfl ?_
                                                          refine WO_p (PS_assign_int rfl) ?_
                                                          refine WO_nil ?_
                                                          refine thn_normal ?_
                                                          refine W_ret ?_
                                                          refine inBlk_ret ?_
                                                          refine thn_ret ?_
                                                          refine bodyQ_ret1 Hvac.results49 rfl (.int _ _) rfl ?_
                                                          first
                                                          | (subst ho5; exact ⟨(by repeat (first | assumption | exact Ext.refl _ | refine Ext.alloc ?_ _ | refine Ext.drew ?_ | refine Ext.setB ?_ (by first | omega | (simp only [size_alloc, size_setB, size_drew]; omega)) _ | refine Ext.trans ?_ (by assumption))), rfl⟩)
                                                          | (refine ⟨(by repeat (first | assumption | exact Ext.refl _ | refine Ext.alloc ?_ _ | refine Ext.drew ?_ | refine Ext.setB ?_ (by first | omega | (simp only [size_alloc, size_setB, size_drew]; omega)) _ | refine Ext.trans ?_ (by assumption))), congrArg (Value.int .u8) ?_⟩
                                                             unfold yfam
                                                             repeat (first | rw [if_pos (by omega)] | rw [if_neg (by omega)]))
                                                        · have hb56p := hb56.h; try simp only [al_ete, al_dfn, Bool.not_eq_true', Bool.not_eq_false', al_ne, Bool.not_not, al_nn] at hb56p
                                                          refine W_seq ?_
                                                          refine W_region rfl ?_
                                                          refine WO_p (PS_move_int rfl) ?_
                                                          refine WO_p (PS_eql rfl rfl) ?_
                                                          refine WO_p (PS_assign_bool rfl) ?_
                                                          refine WO_nil ?_
                                                          refine thn_normal ?_
                                                          refine W_if rfl (fun hb58 => ?_) (fun hb58 => ?_)
                                                          · have hb58p := hb58.h; try simp only [al_ete, al_dfn, Bool.not_eq_true', Bool.not_eq_false', al_ne, Bool.not_not, al_nn] at hb58p
                                                            have ho5 : o = 244 := by omega
                                                            refine W_skip ?_
                                                            refine thn_normal ?_
                                                            refine W_condT rfl hb58.h ?_
                                                            refine W_seq ?_
                                                            refine W_region rfl ?_
                                                            refine WO_p (PS_assign_int rfl) ?_
                                                            refine WO_nil ?_
                                                            refine thn_normal ?_
                                                            refine W_ret ?_
                                                            refine inBlk_ret ?_
                                                            refine thn_ret ?_
                                                            refine bodyQ_ret1 Hvac.results49 rfl (.int _ _) rfl ?_
                                                            first
                                                            | (subst ho5; exact ⟨(by repeat (first | assumption | exact Ext.refl _ | refine Ext.alloc ?_ _ | refine Ext.drew ?_ | refine Ext.setB ?_ (by first | omega | (simp only [size_alloc, size_setB, size_drew]; omega)) _ | refine Ext.trans ?_ (by assumption))), rfl⟩)
                                                            | (refine ⟨(by repeat (first | assumption | exact Ext.refl _ | refine Ext.alloc ?_ _ | refine Ext.drew ?_ | refine Ext.setB ?_ (by first | omega | (simp only [size_alloc, size_setB, size_drew]; omega)) _ | refine Ext.trans ?_ (by assumption))), congrArg (Value.int .u8) ?_⟩
                                                               unfold yfam
                                                               repeat (first | rw [if_pos (by omega)] | rw [if_neg (by omega)]))
                                                          · have hb58p := hb58.h; try simp only [al_ete, al_dfn, Bool.not_eq_true', Bool.not_eq_false', al_ne, Bool.not_not, al_nn] at hb58p
                                                            refine W_seq ?_
                                                            refine W_region rfl ?_
                                                            refine WO_p (PS_move_int rfl) ?_
                                                            refine WO_p (PS_eql rfl rfl) ?_
                                                            refine WO_p (PS_assign_bool rfl) ?_
                                                            refine WO_nil ?_
                                                            refine thn_normal ?_
                                                            refine W_if rfl (fun hb60 => ?_) (fun hb60 => ?_)
                                                            · have hb60p := hb60.h; try simp only [al_ete, al_dfn, Bool.not_eq_true', Bool.not_eq_false', al_ne, Bool.not_not, al_nn] at hb60p
                                                              have ho5 : o = 245 := by omega
                                                              refine W_skip ?_
                                                              refine thn_normal ?_
                                                              refine W_condT rfl hb60.h ?_
                                                              refine W_seq ?_
                                                              refine W_region rfl ?_
                                                              refine WO_p (PS_assign_int rfl) ?_
                                                              refine WO_nil ?_
                                                              refine thn_normal ?_
                                                              refine W_ret ?_
                                                              refine inBlk_ret ?_
                                                              refine thn_ret ?_
                                                              refine bodyQ_ret1 Hvac.results49 rfl (.int _ _) rfl ?_
                                                              first
                                                              | (subst ho5; exact ⟨(by repeat (first | assumption | exact Ext.refl _ | refine Ext.alloc ?_ _ | refine Ext.drew ?_ | refine Ext.setB ?_ (by first | omega | (simp only [size_alloc, size_setB, size_drew]; omega)) _ | refine Ext.trans ?_ (by assumption))), rfl⟩)
                                                              | (refine ⟨(by repeat (first | assumption | exact Ext.refl _ | refine Ext.alloc ?_ _ | refine Ext.drew ?_ | refine Ext.setB ?_ (by first | omega | (simp only [size_alloc, size_setB, size_drew]; omega)) _ | refine Ext.trans ?_ (by assumption))), congrArg (Value.int .u8) ?_⟩
                                                                 unfold yfam
                                                                 repeat (first | rw [if_pos (by omega)] | rw [if_neg (by omega)]))
                                                            · have hb60p := hb60.h; try simp only [al_ete, al_dfn, Bool.not_eq_true', Bool.not_eq_false', al_ne, Bool.not_not, al_nn] at hb60p
                                                              refine W_seq ?_
                                                              refine W_region rfl ?_
                                                              refine WO_p (PS_move_int rfl) ?_
                                                              refine WO_p (PS_eql rfl rfl) ?_
                                                              refine WO_p (PS_assign_bool rfl) ?_
                                                              refine WO_nil ?_
                                                              refine thn_normal ?_
                                                              refine W_if rfl (fun hb62 => ?_) (fun hb62 => ?_)
                                                              · have hb62p := hb62.h; try simp only [al_ete, al_dfn, Bool.not_eq_true', Bool.not_eq_false', al_ne, Bool.not_not, al_nn] at hb62p
                                                                have ho5 : o = 250 := by omega
                                                                refine W_skip ?_
                                                                refine thn_normal ?_
                                                                refine W_condT rfl hb62.h ?_
                                                                refine W_seq ?_
                                                                refine W_region rfl ?_
                                                                refine WO_p (PS_assign_int rfl) ?_
                                                                refine WO_nil ?_
                                                                refine thn_normal ?_
                                                                refine W_ret ?_
                                                                refine inBlk_ret ?_
                                                                refine thn_ret ?_
                                                                refine bodyQ_ret1 Hvac.results49 rfl (.int _ _) rfl ?_
                                                                first
                                                                | (subst ho5; exact ⟨(by repeat (first | assumption | exact Ext.refl _ | refine Ext.alloc ?_ _ | refine Ext.drew ?_ | refine Ext.setB ?_ (by first | omega | (simp only [size_alloc, size_setB, size_drew]; omega)) _ | refine Ext.trans ?_ (by assumption))), rfl⟩)
                                                                | (refine ⟨(by repeat (first | assumption | exact Ext.refl _ | refine Ext.alloc ?_ _ | refine Ext.drew ?_ | refine Ext.setB ?_ (by first | omega | (simp only [size_alloc, size_setB, size_drew]; omega)) _ | refine Ext.trans ?_ (by assumption))), congrArg (Value.int .u8) ?_⟩
                                                                   unfold yfam
                                                                   repeat (first | rw [if_pos (by omega)] | rw [if_neg (by omega)]))
                                                              · have hb62p := hb62.h; try simp only [al_ete, al_dfn, Bool.not_eq_true', Bool.not_eq_false', al_ne, Bool.not_not, al_nn] at hb62p
                                                                refine W_region rfl ?_
                                                                refine WO_p (PS_move_int rfl) ?_
                                                                refine WO_p (PS_eql rfl rfl) ?_
                                                                refine WO_p (PS_assign_bool rfl) ?_
                                                                refine WO_nil ?_
                                                                refine thn_normal ?_
                                                                refine W_if rfl (fun hb64 => ?_) (fun hb64 => ?_)
                                                                · have hb64p := hb64.h; try simp only [al_ete, al_dfn, Bool.not_eq_true', Bool.not_eq_false', al_ne, Bool.not_not, al_nn] at hb64p
                                                                  have ho5 : o = 255 := by omega
                                                                  refine W_seq ?_
                                                                  refine W_region rfl ?_
                                                                  refine WO_p (PS_assign_int rfl) ?_
                                                                  refine WO_nil ?_
                                                                  refine thn_normal ?_
                                                                  refine W_ret ?_
                                                                  refine inBlk_ret ?_
                                                                  refine thn_ret ?_
                                                                  refine bodyQ_ret1 Hvac.results49 rfl (.int _ _) rfl ?_
                                                                  first
                                                                  | (subst ho5; exact ⟨(by repeat (first | assumption | exact Ext.refl _ | refine Ext.alloc ?_ _ | refine Ext.drew ?_ | refine Ext.setB ?_ (by first | omega | (simp only [size_alloc, size_setB, size_drew]; omega)) _ | refine Ext.trans ?_ (by assumption))), rfl⟩)
                                                                  | (refine ⟨(by repeat (first | assumption | exact Ext.refl _ | refine Ext.alloc ?_ _ | refine Ext.drew ?_ | refine Ext.setB ?_ (by first | omega | (simp only [size_alloc, size_setB, size_drew]; omega)) _ | refine Ext.trans ?_ (by assumption))), congrArg (Value.int .u8) ?_⟩
                                                                     unfold yfam
                                                                     repeat (first | rw [if_pos (by omega)] | rw [if_neg (by omega)]))
                                                                · have hb64p := hb64.h; try simp only [al_ete, al_dfn, Bool.not_eq_true', Bool.not_eq_false', al_ne, Bool.not_not, al_nn] at hb64p
                                                                  refine W_skip ?_
                                                                  refine inBlk_normal ?_
                                                                  refine thn_normal ?_
                                                                  refine W_seq ?_
                                                                  refine W_region rfl ?_
                                                                  refine WO_p (PS_assign_int rfl) ?_
                                                                  refine WO_nil ?_
                                                                  refine thn_normal ?_
                                                                  refine W_ret ?_
                                                                  refine bodyQ_ret1 Hvac.results49 rfl (.int _ _) rfl ?_
                                                                  first
                                                                  | (subst ho5; exact ⟨(by repeat (first | assumption | exact Ext.refl _ | refine Ext.alloc ?_ _ | refine Ext.drew ?_ | refine Ext.setB ?_ (by first | omega | (simp only [size_alloc, size_setB, size_drew]; omega)) _ | refine Ext.trans ?_ (by assumption))), rfl⟩)
                                                                  | (refine ⟨(by repeat (first | assumption | exact Ext.refl _ | refine Ext.alloc ?_ _ | refine Ext.drew ?_ | refine Ext.setB ?_ (by first | omega | (simp only [size_alloc, size_setB, size_drew]; omega)) _ | refine Ext.trans ?_ (by assumption))), congrArg (Value.int .u8) ?_⟩
                                                                     unfold yfam
                                                                     repeat (first | rw [if_pos (by omega)] | rw [if_neg (by omega)]))
                                                · have hb48p := hb48.h; try simp only [al_ete, al_dfn, Bool.not_eq_true', Bool.not_eq_false', al_ne, Bool.not_not, al_nn] at hb48p
                                                  exfalso; omega
                                · have hb32p := hb32.h; try simp only [al_ete, al_dfn, Bool.not_eq_true', Bool.not_eq_false', al_ne, Bool.not_not, al_nn] at hb32p
                                  exfalso; omega
                            · have hb28p := hb28.h; try simp only [al_ete, al_dfn, Bool.not_eq_true', Bool.not_eq_false', al_ne, Bool.not_not, al_nn] at hb28p
                              refine WO_guardF rfl rfl hb28.h ?_
                              refine WO_guardF rfl rfl hb28.h ?_
                              refine WO_p (PS_pickF rfl hb28.h rfl) ?_
                              refine WO_p (PS_assign_bool rfl) ?_
                              refine WO_nil ?_
                              refine thn_normal ?_
                              refine W_condF rfl rfl ?_
                              refine W_seq ?_
                              refine W_seq ?_
                              refine W_region rfl ?_
                              refine WO_p (PS_move_int rfl) ?_
                              refine WO_p (PS_geq rfl rfl) ?_
                              refine WO_p (PS_move_bool rfl) ?_
                              refine WO_if (t := 49) rfl (fun hb66 => ?_) (fun hb66 => ?_)
                              · have hb66p := hb66.h; try simp only [al_ete, al_dfn, Bool.not_eq_true', Bool.not_eq_false', al_ne, Bool.not_not, al_nn] at hb66p
                                refine WO_guardT rfl rfl hb66.h ?_
                                refine WO_p (PS_move_int rfl) ?_
                                refine WO_guardT rfl rfl hb66.h ?_
                                refine WO_p (PS_leq rfl rfl) ?_
                                refine WO_p (PS_pickT rfl hb66.h rfl) ?_
                                refine WO_p (PS_assign_bool rfl) ?_
                                refine WO_nil ?_
                                refine thn_normal ?_
                                refine W_if rfl (fun hb68 => ?_) (fun hb68 => ?_)
                                · have hb68p := hb68.h; try simp only [al_ete, al_dfn, Bool.not_eq_true', Bool.not_eq_false', al_ne, Bool.not_not, al_nn] at hb68p
                                  refine W_skip ?_
                                  refine thn_normal ?_
                                  refine W_condT rfl hb68.h ?_
                                  refine W_seq ?_
                                  refine W_region rfl ?_
                                  refine WO_p (PS_assign_int rfl) ?_
                                  refine WO_nil ?_
                                  refine thn_normal ?_
                                  refine W_ret ?_
                                  refine inBlk_ret ?_
                                  refine thn_ret ?_
                                  refine bodyQ_ret1 Hvac.results49 rfl (.int _ _) rfl ?_
                                  first
                                  | (subst ho5; exact ⟨(by repeat (first | assumption | exact Ext.refl _ | refine Ext.alloc ?_ _ | refine Ext.drew ?_ | refine Ext.setB ?_ (by first | omega | (simp only [size_alloc, size_setB, size_drew]; omega)) _ | refine Ext.trans ?_ (by assumption))), rfl⟩)
                                  | (refine ⟨(by repeat (first | assumption | exact Ext.refl _ | refine Ext.alloc ?_ _ | refine Ext.drew ?_ | refine Ext.setB ?_ (by first | omega | (simp only [size_alloc, size_setB, size_drew]; omega)) _ | refine Ext.trans ?_ (by assumption))), congrArg (Value.int .u8) ?_⟩
                                     unfold yfam
                                     repeat (first | rw [if_pos (by omega)] | rw [if_neg (by omega)]))
                                · have hb68p := hb68.h; try simp only [al_ete, al_dfn, Bool.not_eq_true', Bool.not_eq_false', al_ne, Bool.not_not, al_nn] at hb68p
                                  refine W_seq ?_
                                  refine W_region rfl ?_
                                  refine WO_p (PS_move_int rfl) ?_
                                  refine WO_p (PS_eql rfl rfl) ?_
                                  refine WO_p (PS_assign_bool rfl) ?_
                                  refine WO_nil ?_
                                  refine thn_normal ?_
                                  refine W_if rfl (fun hb70 => ?_) (fun hb70 => ?_)
                                  · have hb70p := hb70.h; try simp only [al_ete, al_dfn, Bool.not_eq_true', Bool.not_eq_false', al_ne, Bool.not_not, al_nn] at hb70p
                                    have ho5 : o = 90 := by omega
                                    refine W_skip ?_
                                    refine thn_normal ?_
                                    refine W_condT rfl hb70.h ?_
                                    refine W_seq ?_
                                    refine W_region rfl ?_
                                    refine WO_p (PS_assign_int rfl) ?_
                                    refine WO_nil ?_
                                    refine thn_normal ?_
                                    refine W_ret ?_
                                    refine inBlk_ret ?_
                                    refine thn_ret ?_
                                    refine bodyQ_ret1 Hvac.results49 rfl (.int _ _) rfl ?_
                                    first
                                    | (subst ho5; exact ⟨(by repeat (first | assumption | exact Ext.refl _ | refine Ext.alloc ?_ _ | refine Ext.drew ?_ | refine Ext.setB ?_ (by first | omega | (simp only [size_alloc, size_setB, size_drew]; omega)) _ | refine Ext.trans ?_ (by assumption))), rfl⟩)
                                    | (refine ⟨(by repeat (first | assumption | exact Ext.refl _ | refine Ext.alloc ?_ _ | refine Ext.drew ?_ | refine Ext.setB ?_ (by first | omega | (simp only [size_alloc, size_setB, size_drew]; omega)) _ | refine Ext.trans ?_ (by assumption))), congrArg (Value.int .u8) ?_⟩
                                       unfold yfam
                                       repeat (first | rw [if_pos (by omega)] | rw [if_neg (by omega)]))
                                  · have hb70p := hb70.h; try simp only [al_ete, al_dfn, Bool.not_eq_true', Bool.not_eq_false', al_ne, Bool.not_not, al_nn] at hb70p
                                    refine W_region rfl ?_
                                    refine WO_p (PS_move_int rfl) ?_
                                    refine WO_p (PS_eql rfl rfl) ?_
                                    refine WO_p (PS_assign_bool rfl) ?_
                                    refine WO_nil ?_
                                    refine thn_normal ?_
                                    refine W_if rfl (fun hb72 => ?_) (fun hb72 => ?_)
                                    · have hb72p := hb72.h; try simp only [al_ete, al_dfn, Bool.not_eq_true', Bool.not_eq_false', al_ne, Bool.not_not, al_nn] at hb72p
                                      have ho5 : o = 91 := by omega
                                      refine W_seq ?_
                                      refine W_region rfl ?_
                                      refine WO_p (PS_assign_int rfl) ?_
                                      refine WO_nil ?_
                                      refine thn_normal ?_
                                      refine W_ret ?_
                                      refine inBlk_ret ?_
                                      refine thn_ret ?_
                                      refine bodyQ_ret1 Hvac.results49 rfl (.int _ _) rfl ?_
                                      first
                                      | (subst ho5; exact ⟨(by repeat (first | assumption | exact Ext.refl _ | refine Ext.alloc ?_ _ | refine Ext.drew ?_ | refine Ext.setB ?_ (by first | omega | (simp only [size_alloc, size_setB, size_drew]; omega)) _ | refine Ext.trans ?_ (by assumption))), rfl⟩)
                                      | (refine ⟨(by repeat (first | assumption | exact Ext.refl _ | refine Ext.alloc ?_ _ | refine Ext.drew ?_ | refine Ext.setB ?_ (by first | omega | (simp only [size_alloc, size_setB, size_drew]; omega)) _ | refine Ext.trans ?_ (by assumption))), congrArg (Value.int .u8) ?_⟩
                                         unfold yfam
                                         repeat (first | rw [if_pos (by omega)] | rw [if_neg (by omega)]))
                                    · have hb72p := hb72.h; try simp only [al_ete, al_dfn, Bool.not_eq_true', Bool.not_eq_false', al_ne, Bool.not_not, al_nn] at hb72p
                                      refine W_seq ?_
                                      refine W_seq ?_
                                      refine W_region rfl ?_
                                      refine WO_p (PS_move_int rfl) ?_
                                      refine WO_p (PS_eql rfl rfl) ?_
                                      refine WO_p (PS_assign_bool rfl) ?_
                                      refine WO_nil ?_
                                      refine thn_normal ?_
                                      refine W_if rfl (fun hb74 => ?_) (fun hb74 => ?_)
                                      · have hb74p := hb74.h; try simp only [al_ete, al_dfn, Bool.not_eq_true', Bool.not_eq_false', al_ne, Bool.not_not, al_nn] at hb74p
                                        exfalso; omega
                                      · have hb74p := hb74.h; try simp only [al_ete, al_dfn, Bool.not_eq_true', Bool.not_eq_false', al_ne, Bool.not_not, al_nn] at hb74p
                                        refine W_seq ?_
                                        refine W_region rfl ?_
                                        refine WO_p (PS_move_int rfl) ?_
                                        refine WO_p (PS_eql rfl rfl) ?_
                                        refine WO_p (PS_assign_bool rfl) ?_
                                        refine WO_nil ?_
                                        refine thn_normal ?_
                                        refine W_if rfl (fun hb76 => ?_) (fun hb76 => ?_)
                                        · have hb76p := hb76.h; try simp only [al_ete, al_dfn, Bool.not_eq_true', Bool.not_eq_false', al_ne, Bool.not_not, al_nn] at hb76p
                                          exfalso; omega
                                        · have hb76p := hb76.h; try simp only [al_ete, al_dfn, Bool.not_eq_true', Bool.not_eq_false', al_ne, Bool.not_not, al_nn] at hb76p
                                          refine W_seq ?_
                                          refine W_region rfl ?_
                                          refine WO_p (PS_move_int rfl) ?_
                                          refine WO_p (PS_eql rfl rfl) ?_
                                          refine WO_p (PS_assign_bool rfl) ?_
                                          refine WO_nil ?_
                                          refine thn_normal ?_
                                          refine W_if rfl (fun hb78 => ?_) (fun hb78 => ?_)
                                          · have hb78p := hb78.h; try simp only [al_ete, al_dfn, Bool.not_eq_true', Bool.not_eq_false', al_ne, Bool.not_not, al_nn] at hb78p
                                            have ho5 : o = 92 := by omega
                                            refine W_skip ?_
                                            refine thn_normal ?_
                                            refine W_condT rfl hb78.h ?_
                                            refine W_seq ?_
                                            refine W_region rfl ?_
                                            refine WO_p (PS_assign_int rfl) ?_
                                            refine WO_nil ?_
                                            refine thn_normal ?_
                                            refine W_ret ?_
                                            refine inBlk_ret ?_
                                            refine thn_ret ?_
                                            refine bodyQ_ret1 Hvac.results49 rfl (.int _ _) rfl ?_
                                            first
                                            | (subst ho5; exact ⟨(by repeat (first | assumption | exact Ext.refl _ | refine Ext.alloc ?_ _ | refine Ext.drew ?_ | refine Ext.setB ?_ (by first | omega | (simp only [size_alloc, size_setB, size_drew]; omega)) _ | refine Ext.trans ?_ (by assumption))), rfl⟩)
                                            | (refine ⟨(by repeat (first | assumption | exact Ext.refl _ | refine Ext.alloc ?_ _ | refine Ext.drew ?_ | refine Ext.setB ?_ (by first | omega | (simp only [size_alloc, size_setB, size_drew]; omega)) _ | refine Ext.trans ?_ (by assumption))), congrArg (Value.int .u8) ?_⟩
                                               unfold yfam
                                               repeat (first | rw [if_pos (by omega)] | rw [if_neg (by omega)]))
                                          · have hb78p := hb78.h; try simp only [al_ete, al_dfn, Bool.not_eq_true', Bool.not_eq_false', al_ne, Bool.not_not, al_nn] at hb78p
                                            have ho5 : o = 93 := by omega
                                            refine W_seq ?_
                                            refine W_region rfl ?_
                                            refine WO_p (PS_move_int rfl) ?_
                                            refine WO_p (PS_eql rfl rfl) ?_
                                            refine WO_p (PS_assign_bool rfl) ?_
                                            refine WO_nil ?_
                                            refine thn_normal ?_
                                            refine W_if rfl (fun hb80 => ?_) (fun hb80 => ?_)
                                            · have hb80p := hb80.h; try simp only [al_ete, al_dfn, Bool.not_eq_true', Bool.not_eq_false', al_ne, Bool.not_not, al_nn] at hb80p
                                              refine W_skip ?_
                                              refine thn_normal ?_
                                              refine W_condT rfl hb80.h ?_
                                              refine W_seq ?_
                                              refine W_region rfl ?_
                                              refine WO_p (PS_assign_int rfl) ?_
                                              refine WO_nil ?_
                                              refine thn_normal ?_
                                              refine W_ret ?_
                                              refine inBlk_ret ?_
                                              refine thn_ret ?_
                                              refine bodyQ_ret1 Hvac.results49 rfl (.int _ _) rfl ?_
                                              first
                                              | (subst ho5; exact ⟨(by repeat (first | assumption | exact Ext.refl _ | refine Ext.alloc ?_ _ | refine Ext.drew ?_ | refine Ext.setB ?_ (by first | omega | (simp only [size_alloc, size_setB, size_drew]; omega)) _ | refine Ext.trans ?_ (by assumption))), rfl⟩)
                                              | (refine ⟨(by repeat (first | assumption | exact Ext.refl _ | refine Ext.alloc ?_ _ | refine Ext.drew ?_ | refine Ext.setB ?_ (by first | omega | (simp only [size_alloc, size_setB, size_drew]; omega)) _ | refine Ext.trans ?_ (by assumption))), congrArg (Value.int .u8) ?_⟩
                                                 unfold yfam
                                                 repeat (first | rw [if_pos (by omega)] | rw [if_neg (by omega)]))
                                            · have hb80p := hb80.h; try simp only [al_ete, al_dfn, Bool.not_eq_true', Bool.not_eq_false', al_ne, Bool.not_not, al_nn] at hb80p
                                              exfalso; omega
                              · have hb66p := hb66.h; try simp only [al_ete, al_dfn, Bool.not_eq_true', Bool.not_eq_false', al_ne, Bool.not_not, al_nn] at hb66p
                                refine WO_guardF rfl rfl hb66.h ?_
                                refine WO_guardF rfl rfl hb66.h ?_
                                refine WO_p (PS_pickF rfl hb66.h rfl) ?_
                                refine WO_p (PS_assign_bool rfl) ?_
                                refine WO_nil ?_
                                refine thn_normal ?_
                                refine W_condF rfl rfl ?_
                                refine W_seq ?_
                                refine W_region rfl ?_
                                refine WO_p (PS_move_int rfl) ?_
                                refine WO_p (PS_eql rfl rfl) ?_
                                refine WO_p (PS_assign_bool rfl) ?_
                                refine WO_nil ?_
                                refine thn_normal ?_
                                refine W_if rfl (fun hb82 => ?_) (fun hb82 => ?_)
                                · have hb82p := hb82.h; try simp only [al_ete, al_dfn, Bool.not_eq_true', Bool.not_eq_false', al_ne, Bool.not_not, al_nn] at hb82p
                                  exfalso; omega
                                · have hb82p := hb82.h; try simp only [al_ete, al_dfn, Bool.not_eq_true', Bool.not_eq_false', al_ne, Bool.not_not, al_nn] at hb82p
                                  refine W_region rfl ?_
                                  refine WO_p (PS_move_int rfl) ?_
                                  refine WO_p (PS_eql rfl rfl) ?_
                                  refine WO_p (PS_assign_bool rfl) ?_
                                  refine WO_nil ?_
                                  refine thn_normal ?_
                                  refine W_if rfl (fun hb84 => ?_) (fun hb84 => ?_)
                                  · have hb84p := hb84.h; try simp only [al_ete, al_dfn, Bool.not_eq_true', Bool.not_eq_false', al_ne, Bool.not_not, al_nn] at hb84p
                                    exfalso; omega
                                  · have hb84p := hb84.h; try simp only [al_ete, al_dfn, Bool.not_eq_true', Bool.not_eq_false', al_ne, Bool.not_not, al_nn] at hb84p
                                    refine W_seq ?_
                                    refine W_seq ?_
                                    refine W_region rfl ?_
                                    refine WO_p (PS_move_int rfl) ?_
                                    refine WO_p (PS_eql rfl rfl) ?_
                                    refine WO_p (PS_assign_bool rfl) ?_
                                    refine WO_nil ?_
                                    refine thn_normal ?_
                                    refine W_if rfl (fun hb86 => ?_) (fun hb86 => ?_)
                                    · have hb86p := hb86.h; try simp only [al_ete, al_dfn, Bool.not_eq_true', Bool.not_eq_false', al_ne, Bool.not_not, al_nn] at hb86p
                                      have ho5 : o = 84 := by omega
                                      refine W_skip ?_
                                      refine thn_normal ?_
                                      refine W_condT rfl hb86.h ?_
                                      refine W_seq ?_
                                      refine W_region rfl ?_
                                      refine WO_p (PS_assign_int rfl) ?_
                                      refine WO_nil ?_
                                      refine thn_normal ?_
                                      refine W_ret ?_
                                      refine inBlk_ret ?_
                                      refine thn_ret ?_
                                      refine bodyQ_ret1 Hvac.results49 rfl (.int _ _) rfl ?_
                                      first
                                      | (subst ho5; exact ⟨(by repeat (first | assumption | exact Ext.refl _ | refine Ext.alloc ?_ _ | refine Ext.drew ?_ | refine Ext.setB ?_ (by first | omega | (simp only [size_alloc, size_setB, size_drew]; omega)) _ | refine Ext.trans ?_ (by assumption))), rfl⟩)
                                      | (refine ⟨(by repeat (first | assumption | exact Ext.refl _ | refine Ext.alloc ?_ _ | refine Ext.drew ?_ | refine Ext.setB ?_ (by first | omega | (simp only [size_alloc, size_setB, size_drew]; omega)) _ | refine Ext.trans ?_ (by assumption))), congrArg (Value.int .u8) ?_⟩
                                         unfold yfam
                                         repeat (first | rw [if_pos (by omega)] | rw [if_neg (by omega)]))
                                    · have hb86p := hb86.h; try simp only [al_ete, al_dfn, Bool.not_eq_true', Bool.not_eq_false', al_ne, Bool.not_not, al_nn] at hb86p
                                      have ho5 : o = 85 := by omega
                                      refine W_seq ?_
                                      refine W_region rfl ?_
                                      refine WO_p (PS_move_int rfl) ?_
                                      refine WO_p (PS_eql rfl rfl) ?_
                                      refine WO_p (PS_assign_bool rfl) ?_
                                      refine WO_nil ?_
                                      refine thn_normal ?_
                                      refine W_if rfl (fun hb88 => ?_) (fun hb88 => ?_)
                                      · have hb88p := hb88.h; try simp only [al_ete, al_dfn, Bool.not_eq_true', Bool.not_eq_false', al_ne, Bool.not_not, al_nn] at hb88p
                                        refine W_skip ?_
                                        refine thn_normal ?_
                                        refine W_condT rfl hb88.h ?_
                                        refine W_seq ?_
                                        refine W_region rfl ?_
                                        refine WO_p (PS_assign_int rfl) ?_
                                        refine WO_nil ?_
                                        refine thn_normal ?_
                                        refine W_ret ?_
                                        refine inBlk_ret ?_
                                        refine thn_ret ?_
                                        refine bodyQ_ret1 Hvac.results49 rfl (.int _ _) rfl ?_
                                        first
                                        | (subst ho5; exact ⟨(by repeat (first | assumption | exact Ext.refl _ | refine Ext.alloc ?_ _ | refine Ext.drew ?_ | refine Ext.setB ?_ (by first | omega | (simp only [size_alloc, size_setB, size_drew]; omega)) _ | refine Ext.trans ?_ (by assumption))), rfl⟩)
                                        | (refine ⟨(by repeat (first | assumption | exact Ext.refl _ | refine Ext.alloc ?_ _ | refine Ext.drew ?_ | refine Ext.setB ?_ (by first | omega | (simp only [size_alloc, size_setB, size_drew]; omega)) _ | refine Ext.trans ?_ (by assumption))), congrArg (Value.int .u8) ?_⟩
                                           unfold yfam
                                           repeat (first | rw [if_pos (by omega)] | rw [if_neg (by omega)]))
                                      · have hb88p := hb88.h; try simp only [al_ete, al_dfn, Bool.not_eq_true', Bool.not_eq_false', al_ne, Bool.not_not, al_nn] at hb88p
                                        exfalso; omega
                      · have hb22p := hb22.h; try simp only [al_ete, al_dfn, Bool.not_eq_true', Bool.not_eq_false', al_ne, Bool.not_not, al_nn] at hb22p
                        refine WO_guardF rfl rfl hb22.h ?_
                        refine WO_guardF rfl rfl hb22.h ?_
                        refine WO_p (PS_pickF rfl hb22.h rfl) ?_
                        refine WO_p (PS_assign_bool rfl) ?_
                        refine WO_nil ?_
                        refine thn_normal ?_
                        refine W_condF rfl rfl ?_
                        refine W_seq ?_
                        refine W_region rfl ?_
                        refine WO_p (PS_move_int rfl) ?_
                        refine WO_p (PS_eql rfl rfl) ?_
                        refine WO_p (PS_assign_bool rfl) ?_
                        refine WO_nil ?_
                        refine thn_normal ?_
                        refine W_if rfl (fun hb90 => ?_) (fun hb90 => ?_)
                        · have hb90p := hb90.h; try simp only [al_ete, al_dfn, Bool.not_eq_true', Bool.not_eq_false', al_ne, Bool.not_not, al_nn] at hb90p
                          exfalso; omega
                        · have hb90p := hb90.h; try simp only [al_ete, al_dfn, Bool.not_eq_true', Bool.not_eq_false', al_ne, Bool.not_not, al_nn] at hb90p
                          refine W_region rfl ?_
                          refine WO_p (PS_move_int rfl) ?_
                          refine WO_p (PS_geq rfl rfl) ?_
                          refine WO_p (PS_move_bool rfl) ?_
                          refine WO_if (t := 42) rfl (fun hb92 => ?_) (fun hb92 => ?_)
                          · have hb92p := hb92.h; try simp only [al_ete, al_dfn, Bool.not_eq_true', Bool.not_eq_false', al_ne, Bool.not_not, al_nn] at hb92p
                            exfalso; omega
                          · have hb92p := hb92.h; try simp only [al_ete, al_dfn, Bool.not_eq_true', Bool.not_eq_false', al_ne, Bool.not_not, al_nn] at hb92p
                            refine WO_guardF rfl rfl hb92.h ?_
                            refine WO_guardF rfl rfl hb92.h ?_
                            refine WO_p (PS_pickF rfl hb92.h rfl) ?_
                            refine WO_p (PS_assign_bool rfl) ?_
                            refine WO_nil ?_
                            refine thn_normal ?_
                            refine W_condF rfl rfl ?_
                            refine W_seq ?_
                            refine W_seq ?_
                            refine W_region rfl ?_
                            refine WO_p (PS_move_int rfl) ?_
                            refine WO_p (PS_geq rfl rfl) ?_
                            refine WO_p (PS_move_bool rfl) ?_
                            refine WO_if (t := 49) rfl (fun hb94 => ?_) (fun hb94 => ?_)
                            · have hb94p := hb94.h; try simp only [al_ete, al_dfn, Bool.not_eq_true', Bool.not_eq_false', al_ne, Bool.not_not, al_nn] at hb94p
                              exfalso; omega
                            · have hb94p := hb94.h; try simp only [al_ete, al_dfn, Bool.not_eq_true', Bool.not_eq_false', al_ne, Bool.not_not, al_nn] at hb94p
                              refine WO_guardF rfl rfl hb94.h ?_
                              refine WO_guardF rfl rfl hb94.h ?_
                              refine WO_p (PS_pickF rfl hb94.h rfl) ?_
                              refine WO_p (PS_assign_bool rfl) ?_
                              refine WO_nil ?_
                              refine thn_normal ?_
                              refine W_condF rfl rfl ?_
                              refine W_seq ?_
                              refine W_region rfl ?_
                              refine WO_p (PS_move_int rfl) ?_
                              refine WO_p (PS_eql rfl rfl) ?_
                              refine WO_p (PS_assign_bool rfl) ?_
                              refine WO_nil ?_
                              refine thn_normal ?_
                              refine W_if rfl (fun hb96 => ?_) (fun hb96 => ?_)
                              · have hb96p := hb96.h; try simp only [al_ete, al_dfn, Bool.not_eq_true', Bool.not_eq_false', al_ne, Bool.not_not, al_nn] at hb96p
                                exfalso; omega
                              · have hb96p := hb96.h; try simp only [al_ete, al_dfn, Bool.not_eq_true', Bool.not_eq_false', al_ne, Bool.not_not, al_nn] at hb96p
                                refine W_region rfl ?_
                                refine WO_p (PS_move_int rfl) ?_
                                refine WO_p (PS_eql rfl rfl) ?_
                                refine WO_p (PS_assign_bool rfl) ?_
                                refine WO_nil ?_
                                refine thn_normal ?_
                                refine W_if rfl (fun hb98 => ?_) (fun hb98 => ?_)
                                · have hb98p := hb98.h; try simp only [al_ete, al_dfn, Bool.not_eq_true', Bool.not_eq_false', al_ne, Bool.not_not, al_nn] at hb98p
                                  exfalso; omega
                                · have hb98p := hb98.h; try simp only [al_ete, al_dfn, Bool.not_eq_true', Bool.not_eq_false', al_ne, Bool.not_not, al_nn] at hb98p
                                  refine W_seq ?_
                                  refine W_seq ?_
                                  refine W_region rfl ?_
                                  refine WO_p (PS_move_int rfl) ?_
                                  refine WO_p (PS_eql rfl rfl) ?_
                                  refine WO_p (PS_assign_bool rfl) ?_
                                  refine WO_nil ?_
                                  refine thn_normal ?_
                                  refine W_if rfl (fun hb100 => ?_) (fun hb100 => ?_)
                                  · have hb100p := hb100.h; try simp only [al_ete, al_dfn, Bool.not_eq_true', Bool.not_eq_false', al_ne, Bool.not_not, al_nn] at hb100p
                                    exfalso; omega
                                  · have hb100p := hb100.h; try simp only [al_ete, al_dfn, Bool.not_eq_true', Bool.not_eq_false', al_ne, Bool.not_not, al_nn] at hb100p
                                    refine W_seq ?_
                                    refine W_region rfl ?_
                                    refine WO_p (PS_move_int rfl) ?_
                                    refine WO_p (PS_eql rfl rfl) ?_
                                    refine WO_p (PS_assign_bool rfl) ?_
                                    refine WO_nil ?_
                                    refine thn_normal ?_
                                    refine W_if rfl (fun hb102 => ?_) (fun hb102 => ?_)
                                    · have hb102p := hb102.h; try simp only [al_ete, al_dfn, Bool.not_eq_true', Bool.not_eq_false', al_ne, Bool.not_not, al_nn] at hb102p
                                      exfalso; omega
                                    · have hb102p := hb102.h; try simp only [al_ete, al_dfn, Bool.not_eq_true', Bool.not_eq_false', al_ne, Bool.not_not, al_nn] at hb102p
                                      refine W_seq ?_
                                      refine W_region rfl ?_
                                      refine WO_p (PS_move_int rfl) ?_
                                      refine WO_p (PS_eql rfl rfl) ?_
                                      refine WO_p (PS_assign_bool rfl) ?_
                                      refine WO_nil ?_
                                      refine thn_normal ?_
                                      refine W_if rfl (fun hb104 => ?_) (fun hb104 => ?_)
                                      · have hb104p := hb104.h; try simp only [al_ete, al_dfn, Bool.not_eq_true', Bool.not_eq_false', al_ne, Bool.not_not, al_nn] at hb104p
                                        exfalso; omega
                                      · have hb104p := hb104.h; try simp only [al_ete, al_dfn, Bool.not_eq_true', Bool.not_eq_false', al_ne, Bool.not_not, al_nn] at hb104p
                                        refine W_seq ?_
                                        refine W_region rfl ?_
                                        refine WO_p (PS_move_int rfl) ?_
                                        refine WO_p (PS_eql rfl rfl) ?_
                                        refine WO_p (PS_assign_bool rfl) ?_
                                        refine WO_nil ?_
                                        refine thn_normal ?_
                                        refine W_if rfl (fun hb106 => ?_) (fun hb106 => ?_)
                                        · have hb106p := hb106.h; try simp only [al_ete, al_dfn, Bool.not_eq_true', Bool.not_eq_false', al_ne, Bool.not_not, al_nn] at hb106p
                                          exfalso; omega
                                        · have hb106p := hb106.h; try simp only [al_ete, al_dfn, Bool.not_eq_true', Bool.not_eq_false', al_ne, Bool.not_not, al_nn] at hb106p
                                          refine W_region rfl ?_
                                          refine WO_p (PS_move_int rfl) ?_
                                          refine WO_p (PS_geq rfl rfl) ?_
                                          refine WO_p (PS_move_bool rfl) ?_
                                          refine WO_if (t := 68) rfl (fun hb108 => ?_) (fun hb108 => ?_)
                                          · have hb108p := hb108.h; try simp only [al_ete, al_dfn, Bool.not_eq_true', Bool.not_eq_false', al_ne, Bool.not_not, al_nn] at hb108p
                                            exfalso; omega
                                          · have hb108p := hb108.h; try simp only [al_ete, al_dfn, Bool.not_eq_true', Bool.not_eq_false', al_ne, Bool.not_not, al_nn] at hb108p
                                            refine WO_guardF rfl rfl hb108.h ?_
                                            refine WO_guardF rfl rfl hb108.h ?_
                                            refine WO_p (PS_pickF rfl hb108.h rfl) ?_
                                            refine WO_p (PS_assign_bool rfl) ?_
                                            refine WO_nil ?_
                                            refine thn_normal ?_
                                            refine W_condF rfl rfl ?_
                                            refine W_seq ?_
                                            refine W_seq ?_
                                            refine W_region rfl ?_
                                            refine WO_p (PS_move_int rfl) ?_
                                            refine WO_p (PS_eql rfl rfl) ?_
                                            refine WO_p (PS_assign_bool rfl) ?_
                                            refine WO_nil ?_
                                            refine thn_normal ?_
                                            refine W_if rfl (fun hb110 => ?_) (fun hb110 => ?_)
                                            · have hb110p := hb110.h; try simp only [al_ete, al_dfn, Bool.not_eq_true', Bool.not_eq_false', al_ne, Bool.not_not, al_nn] at hb110p
                                              exfalso; omega
                                            · have hb110p := hb110.h; try simp only [al_ete, al_dfn, Bool.not_eq_true', Bool.not_eq_false', al_ne, Bool.not_not, al_nn] at hb110p
                                              refine W_seq ?_
                                              refine W_region rfl ?_
                                              refine WO_p (PS_move_int rfl) ?_
                                              refine WO_p (PS_eql rfl rfl) ?_
                                              refine WO_p (PS_assign_bool rfl) ?_
                                              refine WO_nil ?_
                                              refine thn_normal ?_
                                              refine W_if rfl (fun hb112 => ?_) (fun hb112 => ?_)
                                              · have hb112p := hb112.h; try simp only [al_ete, al_dfn, Bool.not_eq_true', Bool.not_eq_false', al_ne, Bool.not_not, al_nn] at hb112p
                                                exfalso; omega
                                              · have hb112p := hb112.h; try simp only [al_ete, al_dfn, Bool.not_eq_true', Bool.not_eq_false', al_ne, Bool.not_not, al_nn] at hb112p
                                                refine W_seq ?_
                                                refine W_region rfl ?_
                                                refine WO_p (PS_move_int rfl) ?_
                                                refine WO_p (PS_eql rfl rfl) ?_
                                                refine WO_p (PS_assign_bool rfl) ?_
                                                refine WO_nil ?_
                                                refine thn_normal ?_
                                                refine W_if rfl (fun hb114 => ?_) (fun hb114 => ?_)
                                                · have hb114p := hb114.h; try simp only [al_ete, al_dfn, Bool.not_eq_true', Bool.not_eq_false', al_ne, Bool.not_not, al_nn] at hb114p
                                                  exfalso; omega
                                                · have hb114p := hb114.h; try simp only [al_ete, al_dfn, Bool.not_eq_true', Bool.not_eq_false', al_ne, Bool.not_not, al_nn] at hb114p
                                                  refine W_seq ?_
                                                  refine W_region rfl ?_
                                                  refine WO_p (PS_move_int rfl) ?_
                                                  refine WO_p (PS_eql rfl rfl) ?_
                                                  refine WO_p (PS_assign_bool rfl) ?_
                                                  refine WO_nil ?_
                                                  refine thn_normal ?_
                                                  refine W_if rfl (fun hb116 => ?_) (fun hb116 => ?_)
                                                  · have hb116p := hb116.h; try simp only [al_ete, al_dfn, Bool.not_eq_true', Bool.not_eq_false', al_ne, Bool.not_not, al_nn] at hb116p
                                                    exfalso; omega
                                                  · have hb116p := hb116.h; try simp only [al_ete, al_dfn, Bool.not_eq_true', Bool.not_eq_false', al_ne, Bool.not_not, al_nn] at hb116p
                                                    refine W_seq ?_
                                                    refine W_region rfl ?_
                                                    refine WO_p (PS_move_int rfl) ?_
                                                    refine WO_p (PS_eql rfl rfl) ?_
                                                    refine WO_p (PS_assign_bool rfl) ?_
                                                    refine WO_nil ?_
                                                    refine thn_normal ?_
                                                    refine W_if rfl (fun hb118 => ?_) (fun hb118 => ?_)
                                                    · have hb118p := hb118.h; try simp only [al_ete, al_dfn, Bool.not_eq_true', Bool.not_eq_false', al_ne, Bool.not_not, al_nn] at hb118p
                                                      exfalso; omega
                                                    · have hb118p := hb118.h; try simp only [al_ete, al_dfn, Bool.not_eq_true', Bool.not_eq_false', al_ne, Bool.not_not, al_nn] at hb118p
                                                      refine W_seq ?_
                                                      refine W_region rfl ?_
                                                      refine WO_p (PS_move_int rfl) ?_
                                                      refine WO_p (PS_eql rfl rfl) ?_
                                                      refine WO_p (PS_assign_bool rfl) ?_
                                                      refine WO_nil ?_
                                                      refine thn_normal ?_
                                                      refine W_if rfl (fun hb120 => ?_) (fun hb120 => ?_)
                                                      · have hb120p := hb120.h; try simp only [al_ete, al_dfn, Bool.not_eq_true', Bool.not_eq_false', al_ne, Bool.not_not, al_nn] at hb120p
                                                        exfalso; omega
                                                      · have hb120p := hb120.h; try simp only [al_ete, al_dfn, Bool.not_eq_true', Bool.not_eq_false', al_ne, Bool.not_not, al_nn] at hb120p
                                                        refine W_region rfl ?_
                                                        refine WO_p (PS_move_int rfl) ?_
                                                        refine WO_p (PS_eql rfl rfl) ?_
                                                        refine WO_p (PS_assign_bool rfl) ?_
                                                        refine WO_nil ?_
                                                        refine thn_normal ?_
                                                        refine W_if rfl (fun hb122 => ?_) (fun hb122 => ?_)
                                                        · have hb122p := hb122.h; try simp only [al_ete, al_dfn, Bool.not_eq_true', Bool.not_eq_false', al_ne, Bool.not_not, al_nn] at hb122p
                                                          exfalso; omega
                                                        · have hb122p := hb122.h; try simp only [al_ete, al_dfn, Bool.not_eq_true', Bool.not_eq_false', al_ne, Bool.not_not, al_nn] at hb122p
                                                          refine W_skip ?_
                                                          refine inBlk_normal ?_
                                                          refine thn_normal ?_
                                                          refine W_seq ?_
                                                          refine W_region rfl ?_
                                                          refine WO_p (PS_assign_int rfl) ?_
                                                          refine WO_nil ?_
                                                          refine thn_normal ?_
                                                          refine W_ret ?_
                                                          refine bodyQ_ret1 Hvac.results49 rfl (.int _ _) rfl ?_
                                                          first
                                                          | (subst ho5; exact ⟨(by repeat (first | assumption | exact Ext.refl _ | refine Ext.alloc ?_ _ | refine Ext.drew ?_ | refine Ext.setB ?_ (by first | omega | (simp only [size_alloc, size_setB, size_drew]; omega)) _ | refine Ext.trans ?_ (by assumption))), rfl⟩)
                                                          | (refine ⟨(by repeat (first | assumption | exact Ext.refl _ | refine Ext.alloc ?_ _ | refine Ext.drew ?_ | refine Ext.setB ?_ (by first | omega | (simp only [size_alloc, size_setB, size_drew]; omega)) _ | refine Ext.trans ?_ (by assumption))), congrArg (Value.int .u8) ?_⟩
                                                             unfold yfam
                                                             repeat (first | rw [if_pos (by omega)] | rw [if_neg (by omega)]))
                  · have hb18p := hb18.h; try simp only [al_ete, al_dfn, Bool.not_eq_true', Bool.not_eq_false', al_ne, Bool.not_not, al_nn] at hb18p
                    refine WO_guardF rfl rfl hb18.h ?_
                    refine WO_guardF rfl rfl hb18.h ?_
                    refine WO_p (PS_pickF rfl hb18.h rfl) ?_
                    refine WO_p (PS_assign_bool rfl) ?_
                    refine WO_nil ?_
                    refine thn_normal ?_
                    refine W_condF rfl rfl ?_
                    refine W_seq ?_
                    refine W_region rfl ?_
                    refine WO_p (PS_move_int rfl) ?_
                    refine WO_p (PS_geq rfl rfl) ?_
                    refine WO_p (PS_move_bool rfl) ?_
                    refine WO_if (t := 34) rfl (fun hb124 => ?_) (fun hb124 => ?_)
                    · have hb124p := hb124.h; try simp only [al_ete, al_dfn, Bool.not_eq_true', Bool.not_eq_false', al_ne, Bool.not_not, al_nn] at hb124p
                      exfalso; omega
                    · have hb124p := hb124.h; try simp only [al_ete, al_dfn, Bool.not_eq_true', Bool.not_eq_false', al_ne, Bool.not_not, al_nn] at hb124p
                      refine WO_guardF rfl rfl hb124.h ?_
                      refine WO_guardF rfl rfl hb124.h ?_
                      refine WO_p (PS_pickF rfl hb124.h rfl) ?_
                      refine WO_p (PS_assign_bool rfl) ?_
                      refine WO_nil ?_
                      refine thn_normal ?_
                      refine W_condF rfl rfl ?_
                      refine W_seq ?_
                      refine W_region rfl ?_
                      refine WO_p (PS_move_int rfl) ?_
                      refine WO_p (PS_eql rfl rfl) ?_
                      refine WO_p (PS_assign_bool rfl) ?_
                      refine WO_nil ?_
                      refine thn_normal ?_
                      refine W_if rfl (fun hb126 => ?_) (fun hb126 => ?_)
                      · have hb126p := hb126.h; try simp only [al_ete, al_dfn, Bool.not_eq_true', Bool.not_eq_false', al_ne, Bool.not_not, al_nn] at hb126p
                        exfalso; omega
                      · have hb126p := hb126.h; try simp only [al_ete, al_dfn, Bool.not_eq_true', Bool.not_eq_false', al_ne, Bool.not_not, al_nn] at hb126p
                        refine W_region rfl ?_
                        refine WO_p (PS_move_int rfl) ?_
                        refine WO_p (PS_geq rfl rfl) ?_
                        refine WO_p (PS_move_bool rfl) ?_
                        refine WO_if (t := 42) rfl (fun hb128 => ?_) (fun hb128 => ?_)
                        · have hb128p := hb128.h; try simp only [al_ete, al_dfn, Bool.not_eq_true', Bool.not_eq_false', al_ne, Bool.not_not, al_nn] at hb128p
                          exfalso; omega
                        · have hb128p := hb128.h; try simp only [al_ete, al_dfn, Bool.not_eq_true', Bool.not_eq_false', al_ne, Bool.not_not, al_nn] at hb128p
                          refine WO_guardF rfl rfl hb128.h ?_
                          refine WO_guardF rfl rfl hb128.h ?_
                          refine WO_p (PS_pickF rfl hb128.h rfl) ?_
                          refine WO_p (PS_assign_bool rfl) ?_
                          refine WO_nil ?_
                          refine thn_normal ?_
                          refine W_condF rfl rfl ?_
                          refine W_seq ?_
                          refine W_seq ?_
                          refine W_region rfl ?_
                          refine WO_p (PS_move_int rfl) ?_
                          refine WO_p (PS_geq rfl rfl) ?_
                          refine WO_p (PS_move_bool rfl) ?_
                          refine WO_if (t := 49) rfl (fun hb130 => ?_) (fun hb130 => ?_)
                          · have hb130p := hb130.h; try simp only [al_ete, al_dfn, Bool.not_eq_true', Bool.not_eq_false', al_ne, Bool.not_not, al_nn] at hb130p
                            exfalso; omega
                          · have hb130p := hb130.h; try simp only [al_ete, al_dfn, Bool.not_eq_true', Bool.not_eq_false', al_ne, Bool.not_not, al_nn] at hb130p
                            refine WO_guardF rfl rfl hb130.h ?_
                            refine WO_guardF rfl rfl hb130.h ?_
                            refine WO_p (PS_pickF rfl hb130.h rfl) ?_
                            refine WO_p (PS_assign_bool rfl) ?_
                            refine WO_nil ?_
                            refine thn_normal ?_
                            refine W_condF rfl rfl ?_
                            refine W_seq ?_
                            refine W_region rfl ?_
                            refine WO_p (PS_move_int rfl) ?_
                            refine WO_p (PS_eql rfl rfl) ?_
                            refine WO_p (PS_assign_bool rfl) ?_
                            refine WO_nil ?_
                            refine thn_normal ?_
                            refine W_if rfl (fun hb132 => ?_) (fun hb132 => ?_)
                            · have hb132p := hb132.h; try simp only [al_ete, al_dfn, Bool.not_eq_true', Bool.not_eq_false', al_ne, Bool.not_not, al_nn] at hb132p
                              exfalso; omega
                            · have hb132p := hb132.h; try simp only [al_ete, al_dfn, Bool.not_eq_true', Bool.not_eq_false', al_ne, Bool.not_not, al_nn] at hb132p
                              refine W_region rfl ?_
                              refine WO_p (PS_move_int rfl) ?_
                              refine WO_p (PS_eql rfl rfl) ?_
                              refine WO_p (PS_assign_bool rfl) ?_
                              refine WO_nil ?_
                              refine thn_normal ?_
                              refine W_if rfl (fun hb134 => ?_) (fun hb134 => ?_)
                              · have hb134p := hb134.h; try simp only [al_ete, al_dfn, Bool.not_eq_true', Bool.not_eq_false', al_ne, Bool.not_not, al_nn] at hb134p
                                exfalso; omega
                              · have hb134p := hb134.h; try simp only [al_ete, al_dfn, Bool.not_eq_true', Bool.not_eq_false', al_ne, Bool.not_not, al_nn] at hb134p
                                refine W_seq ?_
                                refine W_seq ?_
                                refine W_region rfl ?_
                                refine WO_p (PS_move_int rfl) ?_
                                refine WO_p (PS_eql rfl rfl) ?_
                                refine WO_p (PS_assign_bool rfl) ?_
                                refine WO_nil ?_
                                refine thn_normal ?_
                                refine W_if rfl (fun hb136 => ?_) (fun hb136 => ?_)
                                · have hb136p := hb136.h; try simp only [al_ete, al_dfn, Bool.not_eq_true', Bool.not_eq_false', al_ne, Bool.not_not, al_nn] at hb136p
                                  exfalso; omega
                                · have hb136p := hb136.h; try simp only [al_ete, al_dfn, Bool.not_eq_true', Bool.not_eq_false', al_ne, Bool.not_not, al_nn] at hb136p
                                  refine W_seq ?_
                                  refine W_region rfl ?_
                                  refine WO_p (PS_move_int rfl) ?_
                                  refine WO_p (PS_eql rfl rfl) ?_
                                  refine WO_p (PS_assign_bool rfl) ?_
                                  refine WO_nil ?_
                                  refine thn_normal ?_
                                  refine W_if rfl (fun hb138 => ?_) (fun hb138 => ?_)
                                  · have hb138p := hb138.h; try simp only [al_ete, al_dfn, Bool.not_eq_true', Bool.not_eq_false', al_ne, Bool.not_not, al_nn] at hb138p
                                    exfalso; omega
                                  · have hb138p := hb138.h; try simp only [al_ete, al_dfn, Bool.not_eq_true', Bool.not_eq_false', al_ne, Bool.not_not, al_nn] at hb138p
                                    refine W_seq ?_
                                    refine W_region rfl ?_
                                    refine WO_p (PS_move_int rfl) ?_
                                    refine WO_p (PS_eql rfl rfl) ?_
                                    refine WO_p (PS_assign_bool rfl) ?_
                                    refine WO_nil ?_
                                    refine thn_normal ?_
                                    refine W_if rfl (fun hb140 => ?_) (fun hb140 => ?_)
                                    · have hb140p := hb140.h; try simp only [al_ete, al_dfn, Bool.not_eq_true', Bool.not_eq_false', al_ne, Bool.not_not, al_nn] at hb140p
                                      exfalso; omega
                                    · have hb140p := hb140.h; try simp only [al_ete, al_dfn, Bool.not_eq_true', Bool.not_eq_false', al_ne, Bool.not_not, al_nn] at hb140p
                                      refine W_seq ?_
                                      refine W_region rfl ?_
                                      refine WO_p (PS_move_int rfl) ?_
                                      refine WO_p (PS_eql rfl rfl) ?_
                                      refine WO_p (PS_assign_bool rfl) ?_
                                      refine WO_nil ?_
                                      refine thn_normal ?_
                                      refine W_if rfl (fun hb142 => ?_) (fun hb142 => ?_)
                                      · have hb142p := hb142.h; try simp only [al_ete, al_dfn, Bool.not_eq_true', Bool.not_eq_false', al_ne, Bool.not_not, al_nn] at hb142p
                                        exfalso; omega
                                      · have hb142p := hb142.h; try simp only [al_ete, al_dfn, Bool.not_eq_true', Bool.not_eq_false', al_ne, Bool.not_not, al_nn] at hb142p
                                        refine W_region rfl ?_
                                        refine WO_p (PS_move_int rfl) ?_
                                        refine WO_p (PS_geq rfl rfl) ?_
                                        refine WO_p (PS_move_bool rfl) ?_
                                        refine WO_if (t := 68) rfl (fun hb144 => ?_) (fun hb144 => ?_)
                                        · have hb144p := hb144.h; try simp only [al_ete, al_dfn, Bool.not_eq_true', Bool.not_eq_false', al_ne, Bool.not_not, al_nn] at hb144p
                                          exfalso; omega
                                        · have hb144p := hb144.h; try simp only [al_ete, al_dfn, Bool.not_eq_true', Bool.not_eq_false', al_ne, Bool.not_not, al_nn] at hb144p
                                          refine WO_guardF rfl rfl hb144.h ?_
                                          refine WO_guardF rfl rfl hb144.h ?_
                                          refine WO_p (PS_pickF rfl hb144.h rfl) ?_
                                          refine WO_p (PS_assign_bool rfl) ?_
                                          refine WO_nil ?_
                                          refine thn_normal ?_
                                          refine W_condF rfl rfl ?_
                                          refine W_seq ?_
                                          refine W_seq ?_
                                          refine W_region rfl ?_
                                          refine WO_p (PS_move_int rfl) ?_
                                          refine WO_p (PS_eql rfl rfl) ?_
                                          refine WO_p (PS_assign_bool rfl) ?_
                                          refine WO_nil ?_
                                          refine thn_normal ?_
                                          refine W_if rfl (fun hb146 => ?_) (fun hb146 => ?_)
                                          · have hb146p := hb146.h; try simp only [al_ete, al_dfn, Bool.not_eq_true', Bool.not_eq_false', al_ne, Bool.not_not, al_nn] at hb146p
                                            exfalso; omega
                                          · have hb146p := hb146.h; try simp only [al_ete, al_dfn, Bool.not_eq_true', Bool.not_eq_false', al_ne, Bool.not_not, al_nn] at hb146p
                                            refine W_seq ?_
                                            refine W_region rfl ?_
                                            refine WO_p (PS_move_int rfl) ?_
                                            refine WO_p (PS_eql rfl rfl) ?_
                                            refine WO_p (PS_assign_bool rfl) ?_
                                            refine WO_nil ?_
                                            refine thn_normal ?_
                                            refine W_if rfl (fun hb148 => ?_) (fun hb148 => ?_)
                                            · have hb148p := hb148.h; try simp only [al_ete, al_dfn, Bool.not_eq_true', Bool.not_eq_false', al_ne, Bool.not_not, al_nn] at hb148p
                                              exfalso; omega
                                            · have hb148p := hb148.h; try simp only [al_ete, al_dfn, Bool.not_eq_true', Bool.not_eq_false', al_ne, Bool.not_not, al_nn] at hb148p
                                              refine W_seq ?_
                                              refine W_region rfl ?_
                                              refine WO_p (PS_move_int rfl) ?_
                                              refine WO_p (PS_eql rfl rfl) ?_
                                              refine WO_p (PS_assign_bool rfl) ?_
                                              refine WO_nil ?_
                                              refine thn_normal ?_
                                              refine W_if rfl (fun hb150 => ?_) (fun hb150 => ?_)
                                              · have hb150p := hb150.h; try simp only [al_ete, al_dfn, Bool.not_eq_true', Bool.not_eq_false', al_ne, Bool.not_not, al_nn] at hb150p
                                                exfalso; omega
                                              · have hb150p := hb150.h; try simp only [al_ete, al_dfn, Bool.not_eq_true', Bool.not_eq_false', al_ne, Bool.not_not, al_nn] at hb150p
                                                refine W_seq ?_
                                                refine W_region rfl ?_
                                                refine WO_p (PS_move_int rfl) ?_
                                                refine WO_p (PS_eql rfl rfl) ?_
                                                refine WO_p (PS_assign_bool rfl) ?_
                                                refine WO_nil ?_
                                                refine thn_normal ?_
                                                refine W_if rfl (fun hb152 => ?_) (fun hb152 => ?_)
                                                · have hb152p := hb152.h; try simp only [al_ete, al_dfn, Bool.not_eq_true', Bool.not_eq_false', al_ne, Bool.not_not, al_nn] at hb152p
                                                  exfalso; omega
                                                · have hb152p := hb152.h; try simp only [al_ete, al_dfn, Bool.not_eq_true', Bool.not_eq_false', al_ne, Bool.not_not, al_nn] at hb152p
                                                  refine W_seq ?_
                                                  refine W_region rfl ?_
                                                  refine WO_p (PS_move_int rfl) ?_
                                                  refine WO_p (PS_eql rfl rfl) ?_
                                                  refine WO_p (PS_assign_bool rfl) ?_
                                                  refine WO_nil ?_
                                                  refine thn_normal ?_
                                                  refine W_if rfl (fun hb154 => ?_) (fun hb154 => ?_)
                                                  · have hb154p := hb154.h; try simp only [al_ete, al_dfn, Bool.not_eq_true', Bool.not_eq_false', al_ne, Bool.not_not, al_nn] at hb154p
                                                    exfalso; omega
                                                  · have hb154p := hb154.h; try simp only [al_ete, al_dfn, Bool.not_eq_true', Bool.not_eq_false', al_ne, Bool.not_not, al_nn] at hb154p
                                                    refine W_seq ?_
                                                    refine W_region rfl ?_
                                                    refine WO_p (PS_move_int rfl) ?_
                                                    refine WO_p (PS_eql rfl rfl) ?_
                                                    refine WO_p (PS_assign_bool rfl) ?_
                                                    refine WO_nil ?_
                                                    refine thn_normal ?_
                                                    refine W_if rfl (fun hb156 => ?_) (fun hb156 => ?_)
                                                    · have hb156p := hb156.h; try simp only [al_ete, al_dfn, Bool.not_eq_true', Bool.not_eq_false', al_ne, Bool.not_not, al_nn] at hb156p
                                                      exfalso; omega
                                                    · have hb156p := hb156.h; try simp only [al_ete, al_dfn, Bool.not_eq_true', Bool.not_eq_false', al_ne, Bool.not_not, al_nn] at hb156p
                                                      refine W_region rfl ?_
                                                      refine WO_p (PS_move_int rfl) ?_
                                                      refine WO_p (PS_eql rfl rfl) ?_
                                                      refine WO_p (PS_assign_bool rfl) ?_
                                                      refine WO_nil ?_
                                                      refine thn_normal ?_
                                                      refine W_if rfl (fun hb158 => ?_) (fun hb158 => ?_)
                                                      · have hb158p := hb158.h; try simp only [al_ete, al_dfn, Bool.not_eq_true', Bool.not_eq_false', al_ne, Bool.not_not, al_nn] at hb158p
                                                        exfalso; omega
                                                      · have hb158p := hb158.h; try simp only [al_ete, al_dfn, Bool.not_eq_true', Bool.not_eq_false', al_ne, Bool.not_not, al_nn] at hb158p
                                                        refine W_skip ?_
                                                        refine inBlk_normal ?_
                                                        refine thn_normal ?_
                                                        refine W_seq ?_
                                                        refine W_region rfl ?_
                                                        refine WO_p (PS_assign_int rfl) ?_
                                                        refine WO_nil ?_
                                                        refine thn_normal ?_
                                                        refine W_ret ?_
                                                        refine bodyQ_ret1 Hvac.results49 rfl (.int _ _) rfl ?_
                                                        first
                                                        | (subst ho5; exact ⟨(by repeat (first | assumption | exact Ext.refl _ | refine Ext.alloc ?_ _ | refine Ext.drew ?_ | refine Ext.setB ?_ (by first | omega | (simp only [size_alloc, size_setB, size_drew]; omega)) _ | refine Ext.trans ?_ (by assumption))), rfl⟩)
                                                        | (refine ⟨(by repeat (first | assumption | exact Ext.refl _ | refine Ext.alloc ?_ _ | refine Ext.drew ?_ | refine Ext.setB ?_ (by first | omega | (simp only [size_alloc, size_setB, size_drew]; omega)) _ | refine Ext.trans ?_ (by assumption))), congrArg (Value.int .u8) ?_⟩
                                                           unfold yfam
                                                           repeat (first | rw [if_pos (by omega)] | rw [if_neg (by omega)]))
            · have hb12p := hb12.h; try simp only [al_ete, al_dfn, Bool.not_eq_true', Bool.not_eq_false', al_ne, Bool.not_not, al_nn] at hb12p
              refine WO_guardF rfl rfl hb12.h ?_
              refine WO_guardF rfl rfl hb12.h ?_
              refine WO_p (PS_pickF rfl hb12.h rfl) ?_
              refine WO_p (PS_assign_bool rfl) ?_
              refine WO_nil ?_
              refine thn_normal ?_
              refine W_condF rfl rfl ?_
              refine W_region rfl ?_
              refine WO_p (PS_move_int rfl) ?_
              refine WO_p (PS_eql rfl rfl) ?_
              refine WO_p (PS_assign_bool rfl) ?_
              refine WO_nil ?_
              refine thn_normal ?_
              refine W_if rfl (fun hb160 => ?_) (fun hb160 => ?_)
              · have hb160p := hb160.h; try simp only [al_ete, al_dfn, Bool.not_eq_true', Bool.not_eq_false', al_ne, Bool.not_not, al_nn] at hb160p
                exfalso; omega
              · have hb160p := hb160.h; try simp only [al_ete, al_dfn, Bool.not_eq_true', Bool.not_eq_false', al_ne, Bool.not_not, al_nn] at hb160p
                refine W_seq ?_
                refine W_seq ?_
                refine W_region rfl ?_
                refine WO_p (PS_move_int rfl) ?_
                refine WO_p (PS_geq rfl rfl) ?_
                refine WO_p (PS_move_bool rfl) ?_
                refine WO_if (t := 28) rfl (fun hb162 => ?_) (fun hb162 => ?_)
                · have hb162p := hb162.h; try simp only [al_ete, al_dfn, Bool.not_eq_true', Bool.not_eq_false', al_ne, Bool.not_not, al_nn] at hb162p
                  exfalso; omega
                · have hb162p := hb162.h; try simp only [al_ete, al_dfn, Bool.not_eq_true', Bool.not_eq_false', al_ne, Bool.not_not, al_nn] at hb162p
                  refine WO_guardF rfl rfl hb162.h ?_
                  refine WO_guardF rfl rfl hb162.h ?_
                  refine WO_p (PS_pickF rfl hb162.h rfl) ?_
                  refine WO_p (PS_assign_bool rfl) ?_
                  refine WO_nil ?_
                  refine thn_normal ?_
                  refine W_condF rfl rfl ?_
                  refine W_seq ?_
                  refine W_region rfl ?_
                  refine WO_p (PS_move_int rfl) ?_
                  refine WO_p (PS_geq rfl rfl) ?_
                  refine WO_p (PS_move_bool rfl) ?_
                  refine WO_if (t := 34) rfl (fun hb164 => ?_) (fun hb164 => ?_)
                  · have hb164p := hb164.h; try simp only [al_ete, al_dfn, Bool.not_eq_true', Bool.not_eq_false', al_ne, Bool.not_not, al_nn] at hb164p
                    exfalso; omega
                  · have hb164p := hb164.h; try simp only [al_ete, al_dfn, Bool.not_eq_true', Bool.not_eq_false', al_ne, Bool.not_not, al_nn] at hb164p
                    refine WO_guardF rfl rfl hb164.h ?_
                    refine WO_guardF rfl rfl hb164.h ?_
                    refine WO_p (PS_pickF rfl hb164.h rfl) ?_
                    refine WO_p (PS_assign_bool rfl) ?_
                    refine WO_nil ?_
                    refine thn_normal ?_
                    refine W_condF rfl rfl ?_
                    refine W_seq ?_
                    refine W_region rfl ?_
                    refine WO_p (PS_move_int rfl) ?_
                    refine WO_p (PS_eql rfl rfl) ?_
                    refine WO_p (PS_assign_bool rfl) ?_
                    refine WO_nil ?_
                    refine thn_normal ?_
                    refine W_if rfl (fun hb166 => ?_) (fun hb166 => ?_)
                    · have hb166p := hb166.h; try simp only [al_ete, al_dfn, Bool.not_eq_true', Bool.not_eq_false', al_ne, Bool.not_not, al_nn] at hb166p
                      exfalso; omega
                    · have hb166p := hb166.h; try simp only [al_ete, al_dfn, Bool.not_eq_true', Bool.not_eq_false', al_ne, Bool.not_not, al_nn] at hb166p
                      refine W_region rfl ?_
                      refine WO_p (PS_move_int rfl) ?_
                      refine WO_p (PS_geq rfl rfl) ?_
                      refine WO_p (PS_move_bool rfl) ?_
                      refine WO_if (t := 42) rfl (fun hb168 => ?_) (fun hb168 => ?_)
                      · have hb168p := hb168.h; try simp only [al_ete, al_dfn, Bool.not_eq_true', Bool.not_eq_false', al_ne, Bool.not_not, al_nn] at hb168p
                        exfalso; omega
                      · have hb168p := hb168.h; try simp only [al_ete, al_dfn, Bool.not_eq_true', Bool.not_eq_false', al_ne, Bool.not_not, al_nn] at hb168p
                        refine WO_guardF rfl rfl hb168.h ?_
                        refine WO_guardF rfl rfl hb168.h ?_
                        refine WO_p (PS_pickF rfl hb168.h rfl) ?_
                        refine WO_p (PS_assign_bool rfl) ?_
                        refine WO_nil ?_
                        refine thn_normal ?_
                        refine W_condF rfl rfl ?_
                        refine W_seq ?_
                        refine W_seq ?_
                        refine W_region rfl ?_
                        refine WO_p (PS_move_int rfl) ?_
                        refine WO_p (PS_geq rfl rfl) ?_
                        refine WO_p (PS_move_bool rfl) ?_
                        refine WO_if (t := 49) rfl (fun hb170 => ?_) (fun hb170 => ?_)
                        · have hb170p := hb170.h; try simp only [al_ete, al_dfn, Bool.not_eq_true', Bool.not_eq_false', al_ne, Bool.not_not, al_nn] at hb170p
                          exfalso; omega
                        · have hb170p := hb170.h; try simp only [al_ete, al_dfn, Bool.not_eq_true', Bool.not_eq_false', al_ne, Bool.not_not, al_nn] at hb170p
                          refine WO_guardF rfl rfl hb170.h ?_
                          refine WO_guardF rfl rfl hb170.h ?_
                          refine WO_p (PS_pickF rfl hb170.h rfl) ?_
                          refine WO_p (PS_assign_bool rfl) ?_
                          refine WO_nil ?_
                          refine thn_normal ?_
                          refine W_condF rfl rfl ?_
                          refine W_seq ?_
                          refine W_region rfl ?_
                          refine WO_p (PS_move_int rfl) ?_
                          refine WO_p (PS_eql rfl rfl) ?_
                          refine WO_p (PS_assign_bool rfl) ?_
                          refine WO_nil ?_
                          refine thn_normal ?_
                          refine W_if rfl (fun hb172 => ?_) (fun hb172 => ?_)
                          · have hb172p := hb172.h; try simp only [al_ete, al_dfn, Bool.not_eq_true', Bool.not_eq_false', al_ne, Bool.not_not, al_nn] at hb172p
                            exfalso; omega
                          · have hb172p := hb172.h; try simp only [al_ete, al_dfn, Bool.not_eq_true', Bool.not_eq_false', al_ne, Bool.not_not, al_nn] at hb172p
                            refine W_region rfl ?_
                            refine WO_p (PS_move_int rfl) ?_
                            refine WO_p (PS_eql rfl rfl) ?_
                            refine WO_p (PS_assign_bool rfl) ?_
                            refine WO_nil ?_
                            refine thn_normal ?_
                            refine W_if rfl (fun hb174 => ?_) (fun hb174 => ?_)
                            · have hb174p := hb174.h; try simp only [al_ete, al_dfn, Bool.not_eq_true', Bool.not_eq_false', al_ne, Bool.not_not, al_nn] at hb174p
                              exfalso; omega
                            · have hb174p := hb174.h; try simp only [al_ete, al_dfn, Bool.not_eq_true', Bool.not_eq_false', al_ne, Bool.not_not, al_nn] at hb174p
                              refine W_seq ?_
                              refine W_seq ?_
                              refine W_region rfl ?_
                              refine WO_p (PS_move_int rfl) ?_
                              refine WO_p (PS_eql rfl rfl) ?_
                              refine WO_p (PS_assign_bool rfl) ?_
                              refine WO_nil ?_
                              refine thn_normal ?_
                              refine W_if rfl (fun hb176 => ?_) (fun hb176 => ?_)
                              · have hb176p := hb176.h; try simp only [al_ete, al_dfn, Bool.not_eq_true', Bool.not_eq_false', al_ne, Bool.not_not, al_nn] at hb176p
                                exfalso; omega
                              · have hb176p := hb176.h; try simp only [al_ete, al_dfn, Bool.not_eq_true', Bool.not_eq_false', al_ne, Bool.not_not, al_nn] at hb176p
                                refine W_seq ?_
                                refine W_region rfl ?_
                                refine WO_p (PS_move_int rfl) ?_
                                refine WO_p (PS_eql rfl rfl) ?_
                                refine WO_p (PS_assign_bool rfl) ?_
                                refine WO_nil ?_
                                refine thn_normal ?_
                                refine W_if rfl (fun hb178 => ?_) (fun hb178 => ?_)
                                · have hb178p := hb178.h; try simp only [al_ete, al_dfn, Bool.not_eq_true', Bool.not_eq_false', al_ne, Bool.not_not, al_nn] at hb178p
                                  exfalso; omega
                                · have hb178p := hb178.h; try simp only [al_ete, al_dfn, Bool.not_eq_true', Bool.not_eq_false', al_ne, Bool.not_not, al_nn] at hb178p
                                  refine W_seq ?_
                                  refine W_region rfl ?_
                                  refine WO_p (PS_move_int rfl) ?_
                                  refine WO_p (PS_eql rfl rfl) ?_
                                  refine WO_p (PS_assign_bool rfl) ?_
                                  refine WO_nil ?_
                                  refine thn_normal ?_
                                  refine W_if rfl (fun hb180 => ?_) (fun hb180 => ?_)
                                  · have hb180p := hb180.h; try simp only [al_ete, al_dfn, Bool.not_eq_true', Bool.not_eq_false', al_ne, Bool.not_not, al_nn] at hb180p
                                    exfalso; omega
                                  · have hb180p := hb180.h; try simp only [al_ete, al_dfn, Bool.not_eq_true', Bool.not_eq_false', al_ne, Bool.not_not, al_nn] at hb180p
                                    refine W_seq ?_
                                    refine W_region rfl ?_
                                    refine WO_p (PS_move_int rfl) ?_
                                    refine WO_p (PS_eql rfl rfl) ?_
                                    refine WO_p (PS_assign_bool rfl) ?_
                                    refine WO_nil ?_
                                    refine thn_normal ?_
                                    refine W_if rfl (fun hb182 => ?_) (fun hb182 => ?_)
                                    · have hb182p := hb182.h; try simp only [al_ete, al_dfn, Bool.not_eq_true', Bool.not_eq_false', al_ne, Bool.not_not, al_nn] at hb182p
                                      exfalso; omega
                                    · have hb182p := hb182.h; try simp only [al_ete, al_dfn, Bool.not_eq_true', Bool.not_eq_false', al_ne, Bool.not_not, al_nn] at hb182p
                                      refine W_region rfl ?_
                                      refine WO_p (PS_move_int rfl) ?_
                                      refine WO_p (PS_geq rfl rfl) ?_
                                      refine WO_p (PS_move_bool rfl) ?_
                                      refine WO_if (t := 68) rfl (fun hb184 => ?_) (fun hb184 => ?_)
                                      · have hb184p := hb184.h; try simp only [al_ete, al_dfn, Bool.not_eq_true', Bool.not_eq_false', al_ne, Bool.not_not, al_nn] at hb184p
                                        exfalso; omega
                                      · have hb184p := hb184.h; try simp only [al_ete, al_dfn, Bool.not_eq_true', Bool.not_eq_false', al_ne, Bool.not_not, al_nn] at hb184p
                                        refine WO_guardF rfl rfl hb184.h ?_
                                        refine WO_guardF rfl rfl hb184.h ?_
                                        refine WO_p (PS_pickF rfl hb184.h rfl) ?_
                                        refine WO_p (PS_assign_bool rfl) ?_
                                        refine WO_nil ?_
                                        refine thn_normal ?_
                                        refine W_condF rfl rfl ?_
                                        refine W_seq ?_
                                        refine W_seq ?_
                                        refine W_region rfl ?_
                                        refine WO_p (PS_move_int rfl) ?_
                                        refine WO_p (PS_eql rfl rfl) ?_
                                        refine WO_p (PS_assign_bool rfl) ?_
                                        refine WO_nil ?_
                                        refine thn_normal ?_
                                        refine W_if rfl (fun hb186 => ?_) (fun hb186 => ?_)
                                        · have hb186p := hb186.h; try simp only [al_ete, al_dfn, Bool.not_eq_true', Bool.not_eq_false', al_ne, Bool.not_not, al_nn] at hb186p
                                          exfalso; omega
                                        · have hb186p := hb186.h; try simp only [al_ete, al_dfn, Bool.not_eq_true', Bool.not_eq_false', al_ne, Bool.not_not, al_nn] at hb186p
                                          refine W_seq ?_
                                          refine W_region rfl ?_
                                          refine WO_p (PS_move_int rfl) ?_
                                          refine WO_p (PS_eql rfl rfl) ?_
                                          refine WO_p (PS_assign_bool rfl) ?_
                                          refine WO_nil ?_
                                          refine thn_normal ?_
                                          refine W_if rfl (fun hb188 => ?_) (fun hb188 => ?_)
                                          · have hb188p := hb188.h; try simp only [al_ete, al_dfn, Bool.not_eq_true', Bool.not_eq_false', al_ne, Bool.not_not, al_nn] at hb188p
                                            exfalso; omega
                                          · have hb188p := hb188.h; try simp only [al_ete, al_dfn, Bool.not_eq_true', Bool.not_eq_false', al_ne, Bool.not_not, al_nn] at hb188p
                                            refine W_seq ?_
                                            refine W_region rfl ?_
                                            refine WO_p (PS_move_int rfl) ?_
                                            refine WO_p (PS_eql rfl rfl) ?_
                                            refine WO_p (PS_assign_bool rfl) ?_
                                            refine WO_nil ?_
                                            refine thn_normal ?_
                                            refine W_if rfl (fun hb190 => ?_) (fun hb190 => ?_)
                                            · have hb190p := hb190.h; try simp only [al_ete, al_dfn, Bool.not_eq_true', Bool.not_eq_false', al_ne, Bool.not_not, al_nn] at hb190p
                                              exfalso; omega
                                            · have hb190p := hb190.h; try simp only [al_ete, al_dfn, Bool.not_eq_true', Bool.not_eq_false', al_ne, Bool.not_not, al_nn] at hb190p
                                              refine W_seq ?_
                                              refine W_region rfl ?_
                                              refine WO_p (PS_move_int rfl) ?_
                                              refine WO_p (PS_eql rfl rfl) ?_
                                              refine WO_p (PS_assign_bool rfl) ?_
                                              refine WO_nil ?_
                                              refine thn_normal ?_
                                              refine W_if rfl (fun hb192 => ?_) (fun hb192 => ?_)
                                              · have hb192p := hb192.h; try simp only [al_ete, al_dfn, Bool.not_eq_true', Bool.not_eq_false', al_ne, Bool.not_not, al_nn] at hb192p
                                                exfalso; omega
                                              · have hb192p := hb192.h; try simp only [al_ete, al_dfn, Bool.not_eq_true', Bool.not_eq_false', al_ne, Bool.not_not, al_nn] at hb192p
                                                refine W_seq ?_
                                                refine W_region rfl ?_
                                                refine WO_p (PS_move_int rfl) ?_
                                                refine WO_p (PS_eql rfl rfl) ?_
                                                refine WO_p (PS_assign_bool rfl) ?_
                                                refine WO_nil ?_
                                                refine thn_normal ?_
                                                refine W_if rfl (fun hb194 => ?_) (fun hb194 => ?_)
                                                · have hb194p := hb194.h; try simp only [al_ete, al_dfn, Bool.not_eq_true', Bool.not_eq_false', al_ne, Bool.not_not, al_nn] at hb194p
                                                  exfalso; omega
                                                · have hb194p := hb194.h; try simp only [al_ete, al_dfn, Bool.not_eq_true', Bool.not_eq_false', al_ne, Bool.not_not, al_nn] at hb194p
                                                  refine W_seq ?_
                                                  refine W_region rfl ?_
                                                  refine WO_p (PS_move_int rfl) ?_
                                                  refine WO_p (PS_eql rfl rfl) ?_
                                                  refine WO_p (PS_assign_bool rfl) ?_
                                                  refine WO_nil ?_
                                                  refine thn_normal ?_
                                                  refine W_if rfl (fun hb196 => ?_) (fun hb196 => ?_)
                                                  · have hb196p := hb196.h; try simp only [al_ete, al_dfn, Bool.not_eq_true', Bool.not_eq_false', al_ne, Bool.not_not, al_nn] at hb196p
                                                    exfalso; omega
                                                  · have hb196p := hb196.h; try simp only [al_ete, al_dfn, Bool.not_eq_true', Bool.not_eq_false', al_ne, Bool.not_not, al_nn] at hb196p
                                                    refine W_region rfl ?_
                                                    refine WO_p (PS_move_int rfl) ?_
                                                    refine WO_p (PS_eql rfl rfl) ?_
                                                    refine WO_p (PS_assign_bool rfl) ?_
                                                    refine WO_nil ?_
                                                    refine thn_normal ?_
                                                    refine W_if rfl (fun hb198 => ?_) (fun hb198 => ?_)
                                                    · have hb198p := hb198.h; try simp only [al_ete, al_dfn, Bool.not_eq_true', Bool.not_eq_false', al_ne, Bool.not_not, al_nn] at hb198p
                                                      exfalso; omega
                                                    · have hb198p := hb198.h; try simp only [al_ete, al_dfn, Bool.not_eq_true', Bool.not_eq_false', al_ne, Bool.not_not, al_nn] at hb198p
                                                      refine W_skip ?_
                                                      refine inBlk_normal ?_
                                                      refine thn_normal ?_
                                                      refine W_seq ?_
                                                      refine W_region rfl ?_
                                                      refine WO_p (PS_assign_int rfl) ?_
                                                      refine WO_nil ?_
                                                      refine thn_normal ?_
                                                      refine W_ret ?_
                                                      refine bodyQ_ret1 Hvac.results49 rfl (.int _ _) rfl ?_
                                                      first
                                                      | (subst ho5; exact ⟨(by repeat (first | assumption | exact Ext.refl _ | refine Ext.alloc ?_ _ | refine Ext.drew ?_ | refine Ext.setB ?_ (by first | omega | (simp only [size_alloc, size_setB, size_drew]; omega)) _ | refine Ext.trans ?_ (by assumption))), rfl⟩)
                                                      | (refine ⟨(by repeat (first | assumption | exact Ext.refl _ | refine Ext.alloc ?_ _ | refine Ext.drew ?_ | refine Ext.setB ?_ (by first | omega | (simp only [size_alloc, size_setB, size_drew]; omega)) _ | refine Ext.trans ?_ (by assumption))), congrArg (Value.int .u8) ?_⟩
                                                         unfold yfam
                                                         repeat (first | rw [if_pos (by omega)] | rw [if_neg (by omega)]))
        · have hb8p := hb8.h; try simp only [al_ete, al_dfn, Bool.not_eq_true', Bool.not_eq_false', al_ne, Bool.not_not, al_nn] at hb8p
          exfalso; omega

set_option maxRecDepth 10000 in
set_option maxHeartbeats 4000000 in
theorem arity_spec (o : Int) (w : World) (ho : 0 ≤ o ∧ o ≤ 255) : Ret Hvac.prog 111 #[.int .u8 o] w fun u w' => Ext w w' ∧ u = .tuple #[.int .i64 (ytakes o), .int .i64 (ygives o), .bool (yknown o)] := by
  refine Ret_of_W Hvac.func111 rfl rfl ?_
  refine W_seq ?_
  refine W_region rfl ?_
  refine WO_p (PS_assign_int rfl) ?_
  refine WO_p (PS_assign_int rfl) ?_
  refine WO_p (PS_assign_bool rfl) ?_
  refine WO_nil ?_
  refine thn_normal ?_
  refine W_seq ?_
  refine W_block ?_
  refine W_seq ?_
  refine W_region rfl ?_
  refine WO_p (PS_move_int rfl) ?_
  refine WO_call Hvac.call49 (by rfl) (Ret.mono (family_spec _ _ (by omega)) ?_)
  rintro _ w49_0 ⟨hE49_0, rfl⟩
  have hz49_0 := hE49_0.1
  try simp only [size_alloc, size_setB, size_drew] at hz49_0
  refine WO_p (PS_eql rfl rfl) ?_
  refine WO_p (PS_assign_bool rfl) ?_
  refine WO_nil ?_
  refine thn_normal ?_
  refine W_if rfl (fun hb3 => ?_) (fun hb3 => ?_)
  · have hb3p := hb3.h; try simp only [al_ete, al_dfn, Bool.not_eq_true', Bool.not_eq_false', al_ne, Bool.not_not, al_nn] at hb3p
    refine W_seq ?_
    refine W_region rfl ?_
    refine WO_p (PS_assign_int rfl) ?_
    refine WO_p (PS_assign_int rfl) ?_
    refine WO_p (PS_assign_bool rfl) ?_
    refine WO_nil ?_
    refine thn_normal ?_
    refine W_ret ?_
    refine inBlk_ret ?_
    refine thn_ret ?_
    refine bodyQ_ret3 Hvac.results111 rfl rfl rfl (.int _ _) (.int _ _) (.bool _) rfl rfl rfl ?_
    first
    | (subst ho5; exact ⟨(by repeat (first | assumption | exact Ext.refl _ | refine Ext.alloc ?_ _ | refine Ext.drew ?_ | refine Ext.setB ?_ (by first | omega | (simp only [size_alloc, size_setB, size_drew]; omega)) _ | refine Ext.trans ?_ (by assumption))), rfl⟩)
    | (refine ⟨(by repeat (first | assumption | exact Ext.refl _ | refine Ext.alloc ?_ _ | refine Ext.drew ?_ | refine Ext.setB ?_ (by first | omega | (simp only [size_alloc, size_setB, size_drew]; omega)) _ | refine Ext.trans ?_ (by assumption))), ?_⟩
       unfold ytakes ygives yknown
       repeat (first | rw [if_pos (by omega)] | rw [if_neg (by omega)])
       try (simp only [show o - 128 + 1 = o - 127 by omega, show o - 128 + 2 = o - 126 by omega, show o - 144 + 2 = o - 142 by omega, show o - 160 + 2 = o - 158 by omega]))
  · have hb3p := hb3.h; try simp only [al_ete, al_dfn, Bool.not_eq_true', Bool.not_eq_false', al_ne, Bool.not_not, al_nn] at hb3p
    refine W_seq ?_
    refine W_region rfl ?_
    refine WO_p (PS_move_int rfl) ?_
    refine WO_p (PS_geq rfl rfl) ?_
    refine WO_p (PS_move_bool rfl) ?_
    refine WO_if (t := 12) rfl (fun hb5 => ?_) (fun hb5 => ?_)
    · have hb5p := hb5.h; try simp only [al_ete, al_dfn, Bool.not_eq_true', Bool.not_eq_false', al_ne, Bool.not_not, al_nn] at hb5p
      refine WO_guardT rfl rfl hb5.h ?_
      refine WO_p (PS_move_int rfl) ?_
      refine WO_guardT rfl rfl hb5.h ?_
      refine WO_p (PS_leq rfl rfl) ?_
      refine WO_p (PS_pickT rfl hb5.h rfl) ?_
      refine WO_p (PS_assign_bool rfl) ?_
      refine WO_nil ?_
      refine thn_normal ?_
      refine W_if rfl (fun hb7 => ?_) (fun hb7 => ?_)
      · have hb7p := hb7.h; try simp only [al_ete, al_dfn, Bool.not_eq_true', Bool.not_eq_false', al_ne, Bool.not_not, al_nn] at hb7p
        refine W_seq ?_
        refine W_region rfl ?_
        refine WO_p (PS_move_int rfl) ?_
        refine WO_p (PS_sub_u8n rfl rfl (by omega) (by omega)) ?_
        refine WO_p (PS_conv_i64n Hvac.runUnderlying5 Hvac.runUnderlying3 rfl (by omega) (by omega)) ?_
        refine WO_p (PS_add_i64n rfl rfl (by omega) (by omega)) ?_
        refine WO_p (PS_move_int rfl) ?_
        refine WO_p (PS_sub_u8n rfl rfl (by omega) (by omega)) ?_
        refine WO_p (PS_conv_i64n Hvac.runUnderlying5 Hvac.runUnderlying3 rfl (by omega) (by omega)) ?_
        refine WO_p (PS_add_i64n rfl rfl (by omega) (by omega)) ?_
        refine WO_p (PS_assign_int rfl) ?_
        refine WO_p (PS_assign_int rfl) ?_
        refine WO_p (PS_assign_bool rfl) ?_
        refine WO_nil ?_
        refine thn_normal ?_
        refine W_ret ?_
        refine inBlk_ret ?_
        refine thn_ret ?_
        refine bodyQ_ret3 Hvac.results111 rfl rfl rfl (.int _ _) (.int _ _) (.bool _) rfl rfl rfl ?_
        first
        | (subst ho5; exact ⟨(by repeat (first | assumption | exact Ext.refl _ | refine Ext.alloc ?_ _ | refine Ext.drew ?_ | refine Ext.setB ?_ (by first | omega | (simp only [size_alloc, size_setB, size_drew]; omega)) _ | refine Ext.trans ?_ (by assumption))), rfl⟩)
        | (refine ⟨(by repeat (first | assumption | exact Ext.refl _ | refine Ext.alloc ?_ _ | refine Ext.drew ?_ | refine Ext.setB ?_ (by first | omega | (simp only [size_alloc, size_setB, size_drew]; omega)) _ | refine Ext.trans ?_ (by assumption))), ?_⟩
           unfold ytakes ygives yknown
           repeat (first | rw [if_pos (by omega)] | rw [if_neg (by omega)])
           try (simp only [show o - 128 + 1 = o - 127 by omega, show o - 128 + 2 = o - 126 by omega, show o - 144 + 2 = o - 142 by omega, show o - 160 + 2 = o - 158 by omega]))
      · have hb7p := hb7.h; try simp only [al_ete, al_dfn, Bool.not_eq_true', Bool.not_eq_false', al_ne, Bool.not_not, al_nn] at hb7p
        refine W_seq ?_
        refine W_region rfl ?_
        refine WO_p (PS_move_int rfl) ?_
        refine WO_p (PS_geq rfl rfl) ?_
        refine WO_p (PS_move_bool rfl) ?_
        refine WO_if (t := 27) rfl (fun hb9 => ?_) (fun hb9 => ?_)
        · have hb9p := hb9.h; try simp only [al_ete, al_dfn, Bool.not_eq_true', Bool.not_eq_false', al_ne, Bool.not_not, al_nn] at hb9p
          refine WO_guardT rfl rfl hb9.h ?_
          refine WO_p (PS_move_int rfl) ?_
          refine WO_guardT rfl rfl hb9.h ?_
          refine WO_p (PS_leq rfl rfl) ?_
          refine WO_p (PS_pickT rfl hb9.h rfl) ?_
          refine WO_p (PS_assign_bool rfl) ?_
          refine WO_nil ?_
          refine thn_normal ?_
          refine W_if rfl (fun hb11 => ?_) (fun hb11 => ?_)
          · have hb11p := hb11.h; try simp only [al_ete, al_dfn, Bool.not_eq_true', Bool.not_eq_false', al_ne, Bool.not_not, al_nn] at hb11p
            refine W_seq ?_
            refine W_region rfl ?_
            refine WO_p (PS_move_int rfl) ?_
            refine WO_p (PS_sub_u8n rfl rfl (by omega) (by omega)) ?_
            refine WO_p (PS_conv_i64n Hvac.runUnderlying5 Hvac.runUnderlying3 rfl (by omega) (by omega)) ?_
            refine WO_p (PS_add_i64n rfl rfl (by omega) (by omega)) ?_
            refine WO_p (PS_move_int rfl) ?_
            refine WO_p (PS_sub_u8n rfl rfl (by omega) (by omega)) ?_
            refine WO_p (PS_conv_i64n Hvac.runUnderlying5 Hvac.runUnderlying3 rfl (by omega) (by omega)) ?_
            refine WO_p (PS_add_i64n rfl rfl (by omega) (by omega)) ?_
            refine WO_p (PS_assign_int rfl) ?_
            refine WO_p (PS_assign_int rfl) ?_
            refine WO_p (PS_assign_bool rfl) ?_
            refine WO_nil ?_
            refine thn_normal ?_
            refine W_ret ?_
            refine inBlk_ret ?_
            refine thn_ret ?_
            refine bodyQ_ret3 Hvac.results111 rfl rfl rfl (.int _ _) (.int _ _) (.bool _) rfl rfl rfl ?_
            first
            | (subst ho5; exact ⟨(by repeat (first | assumption | exact Ext.refl _ | refine Ext.alloc ?_ _ | refine Ext.drew ?_ | refine Ext.setB ?_ (by first | omega | (simp only [size_alloc, size_setB, size_drew]; omega)) _ | refine Ext.trans ?_ (by assumption))), rfl⟩)
            | (refine ⟨(by repeat (first | assumption | exact Ext.refl _ | refine Ext.alloc ?_ _ | refine Ext.drew ?_ | refine Ext.setB ?_ (by first | omega | (simp only [size_alloc, size_setB, size_drew]; omega)) _ | refine Ext.trans ?_ (by assumption))), ?_⟩
               unfold ytakes ygives yknown
               repeat (first | rw [if_pos (by omega)] | rw [if_neg (by omega)])
               try (simp only [show o - 128 + 1 = o - 127 by omega, show o - 128 + 2 = o - 126 by omega, show o - 144 + 2 = o - 142 by omega, show o - 160 + 2 = o - 158 by omega]))
          · have hb11p := hb11.h; try simp only [al_ete, al_dfn, Bool.not_eq_true', Bool.not_eq_false', al_ne, Bool.not_not, al_nn] at hb11p
            refine W_seq ?_
            refine W_region rfl ?_
            refine WO_p (PS_move_int rfl) ?_
            refine WO_p (PS_geq rfl rfl) ?_
            refine WO_p (PS_move_bool rfl) ?_
            refine WO_if (t := 42) rfl (fun hb13 => ?_) (fun hb13 => ?_)
            · have hb13p := hb13.h; try simp only [al_ete, al_dfn, Bool.not_eq_true', Bool.not_eq_false', al_ne, Bool.not_not, al_nn] at hb13p
              refine WO_guardT rfl rfl hb13.h ?_
              refine WO_p (PS_move_int rfl) ?_
              refine WO_guardT rfl rfl hb13.h ?_
              refine WO_p (PS_leq rfl rfl) ?_
              refine WO_p (PS_pickT rfl hb13.h rfl) ?_
              refine WO_p (PS_assign_bool rfl) ?_
              refine WO_nil ?_
              refine thn_normal ?_
              refine W_if rfl (fun hb15 => ?_) (fun hb15 => ?_)
              · have hb15p := hb15.h; try simp only [al_ete, al_dfn, Bool.not_eq_true', Bool.not_eq_false', al_ne, Bool.not_not, al_nn] at hb15p
                refine W_seq ?_
                refine W_region rfl ?_
                refine WO_p (PS_move_int rfl) ?_
                refine WO_p (PS_sub_u8n rfl rfl (by omega) (by omega)) ?_
                refine WO_p (PS_conv_i64n Hvac.runUnderlying5 Hvac.runUnderlying3 rfl (by omega) (by omega)) ?_
                refine WO_p (PS_add_i64n rfl rfl (by omega) (by omega)) ?_
                refine WO_p (PS_assign_int rfl) ?_
                refine WO_p (PS_assign_int rfl) ?_
                refine WO_p (PS_assign_bool rfl) ?_
                refine WO_nil ?_
                refine thn_normal ?_
                refine W_ret ?_
                refine inBlk_ret ?_
                refine thn_ret ?_
                refine bodyQ_ret3 Hvac.results111 rfl rfl rfl (.int _ _) (.int _ _) (.bool _) rfl rfl rfl ?_
                first
                | (subst ho5; exact ⟨(by repeat (first | assumption | exact Ext.refl _ | refine Ext.alloc ?_ _ | refine Ext.drew ?_ | refine Ext.setB ?_ (by first | omega | (simp only [size_alloc, size_setB, size_drew]; omega)) _ | refine Ext.trans ?_ (by assumption))), rfl⟩)
                | (refine ⟨(by repeat (first | assumption | exact Ext.refl _ | refine Ext.alloc ?_ _ | refine Ext.drew ?_ | refine Ext.setB ?_ (by first | omega | (simp only [size_alloc, size_setB, size_drew]; omega)) _ | refine Ext.trans ?_ (by assumption))), ?_⟩
                   unfold ytakes ygives yknown
                   repeat (first | rw [if_pos (by omega)] | rw [if_neg (by omega)])
                   try (simp only [show o - 128 + 1 = o - 127 by omega, show o - 128 + 2 = o - 126 by omega, show o - 144 + 2 = o - 142 by omega, show o - 160 + 2 = o - 158 by omega]))
              · have hb15p := hb15.h; try simp only [al_ete, al_dfn, Bool.not_eq_true', Bool.not_eq_false', al_ne, Bool.not_not, al_nn] at hb15p
                refine W_skip ?_
                refine inBlk_normal ?_
                refine thn_normal ?_
                refine W_seq ?_
                refine W_seq ?_
                refine W_region rfl ?_
                refine WO_p (PS_move_int rfl) ?_
                refine WO_nil ?_
                refine thn_normal ?_
                refine W_block ?_
                refine W_seq ?_
                refine W_seq ?_
                refine W_region rfl ?_
                refine WO_p (PS_eql rfl rfl) ?_
                refine WO_p (PS_assign_bool rfl) ?_
                refine WO_nil ?_
                refine thn_normal ?_
                refine W_if rfl (fun hb17 => ?_) (fun hb17 => ?_)
                · have hb17p := hb17.h; try simp only [al_ete, al_dfn, Bool.not_eq_true', Bool.not_eq_false', al_ne, Bool.not_not, al_nn] at hb17p
                  exfalso; omega
                · have hb17p := hb17.h; try simp only [al_ete, al_dfn, Bool.not_eq_true', Bool.not_eq_false', al_ne, Bool.not_not, al_nn] at hb17p
                  refine W_region rfl ?_
                  refine WO_p (PS_eql rfl rfl) ?_
                  refine WO_p (PS_assign_bool rfl) ?_
                  refine WO_nil ?_
                  refine thn_normal ?_
                  refine W_if rfl (fun hb19 => ?_) (fun hb19 => ?_)
                  · have hb19p := hb19.h; try simp only [al_ete, al_dfn, Bool.not_eq_true', Bool.not_eq_false', al_ne, Bool.not_not, al_nn] at hb19p
                    exfalso; omega
                  · have hb19p := hb19.h; try simp only [al_ete, al_dfn, Bool.not_eq_true', Bool.not_eq_false', al_ne, Bool.not_not, al_nn] at hb19p
                    refine W_seq ?_
                    refine W_seq ?_
                    refine W_region rfl ?_
                    refine WO_p (PS_eql rfl rfl) ?_
                    refine WO_p (PS_assign_bool rfl) ?_
                    refine WO_nil ?_
                    refine thn_normal ?_
                    refine W_if rfl (fun hb21 => ?_) (fun hb21 => ?_)
                    · have hb21p := hb21.h; try simp only [al_ete, al_dfn, Bool.not_eq_true', Bool.not_eq_false', al_ne, Bool.not_not, al_nn] at hb21p
                      have ho5 : o = 255 := by omega
                      refine W_skip ?_
                      refine thn_normal ?_
                      refine W_condT rfl hb21.h ?_
                      refine W_seq ?_
                      refine W_region rfl ?_
                      refine WO_p (PS_assign_int rfl) ?_
                      refine WO_p (PS_assign_int rfl) ?_
                      refine WO_p (PS_assign_bool rfl) ?_
                      refine WO_nil ?_
                      refine thn_normal ?_
                      refine W_ret ?_
                      refine inBlk_ret ?_
                      refine thn_ret ?_
                      refine bodyQ_ret3 Hvac.results111 rfl rfl rfl (.int _ _) (.int _ _) (.bool _) rfl rfl rfl ?_
                      first
                      | (subst ho5; exact ⟨(by repeat (first | assumption | exact Ext.refl _ | refine Ext.alloc ?_ _ | refine Ext.drew ?_ | refine Ext.setB ?_ (by first | omega | (simp only [size_alloc, size_setB, size_drew]; omega)) _ | refine Ext.trans ?_ (by assumption))), rfl⟩)
                      | (refine ⟨(by repeat (first | assumption | exact Ext.refl _ | refine Ext.alloc ?_ _ | refine Ext.drew ?_ | refine Ext.setB ?_ (by first | omega | (simp only [size_alloc, size_setB, size_drew]; omega)) _ | refine Ext.trans ?_ (by assumption))), ?_⟩
                         unfold ytakes ygives yknown
                         repeat (first | rw [if_pos (by omega)] | rw [if_neg (by omega)])
                         try (simp only [show o - 128 + 1 = o - 127 by omega, show o - 128 + 2 = o - 126 by omega, show o - 144 + 2 = o - 142 by omega, show o - 160 + 2 = o - 158 by omega]))
                    · have hb21p := hb21.h; try simp only [al_ete, al_dfn, Bool.not_eq_true', Bool.not_eq_false', al_ne, Bool.not_not, al_nn] at hb21p
                      refine W_seq ?_
                      refine W_region rfl ?_
                      refine WO_p (PS_eql rfl rfl) ?_
                      refine WO_p (PS_assign_bool rfl) ?_
                      refine WO_nil ?_
                      refine thn_normal ?_
                      refine W_if rfl (fun hb23 => ?_) (fun hb23 => ?_)
                      · have hb23p := hb23.h; try simp only [al_ete, al_dfn, Bool.not_eq_true', Bool.not_eq_false', al_ne, Bool.not_not, al_nn] at hb23p
                        exfalso; omega
                      · have hb23p := hb23.h; try simp only [al_ete, al_dfn, Bool.not_eq_true', Bool.not_eq_false', al_ne, Bool.not_not, al_nn] at hb23p
                        refine W_region rfl ?_
                        refine WO_p (PS_eql rfl rfl) ?_
                        refine WO_p (PS_assign_bool rfl) ?_
                        refine WO_nil ?_
                        refine thn_normal ?_
                        refine W_if rfl (fun hb25 => ?_) (fun hb25 => ?_)
                        · have hb25p := hb25.h; try simp only [al_ete, al_dfn, Bool.not_eq_true', Bool.not_eq_false', al_ne, Bool.not_not, al_nn] at hb25p
                          exfalso; omega
                        · have hb25p := hb25.h; try simp only [al_ete, al_dfn, Bool.not_eq_true', Bool.not_eq_false', al_ne, Bool.not_not, al_nn] at hb25p
                          refine W_seq ?_
                          refine W_seq ?_
                          refine W_region rfl ?_
                          refine WO_p (PS_eql rfl rfl) ?_
                          refine WO_p (PS_assign_bool rfl) ?_
                          refine WO_nil ?_
                          refine thn_normal ?_
                          refine W_if rfl (fun hb27 => ?_) (fun hb27 => ?_)
                          · have hb27p := hb27.h; try simp only [al_ete, al_dfn, Bool.not_eq_true', Bool.not_eq_false', al_ne, Bool.not_not, al_nn] at hb27p
                            exfalso; omega
                          · have hb27p := hb27.h; try simp only [al_ete, al_dfn, Bool.not_eq_true', Bool.not_eq_false', al_ne, Bool.not_not, al_nn] at hb27p
                            refine W_seq ?_
                            refine W_region rfl ?_
                            refine WO_p (PS_eql rfl rfl) ?_
                            refine WO_p (PS_assign_bool rfl) ?_
                            refine WO_nil ?_
                            refine thn_normal ?_
                            refine W_if rfl (fun hb29 => ?_) (fun hb29 => ?_)
                            · have hb29p := hb29.h; try simp only [al_ete, al_dfn, Bool.not_eq_true', Bool.not_eq_false', al_ne, Bool.not_not, al_nn] at hb29p
                              exfalso; omega
                            · have hb29p := hb29.h; try simp only [al_ete, al_dfn, Bool.not_eq_true', Bool.not_eq_false', al_ne, Bool.not_not, al_nn] at hb29p
                              refine W_region rfl ?_
                              refine WO_p (PS_eql rfl rfl) ?_
                              refine WO_p (PS_assign_bool rfl) ?_
                              refine WO_nil ?_
                              refine thn_normal ?_
                              refine W_if rfl (fun hb31 => ?_) (fun hb31 => ?_)
                              · have hb31p := hb31.h; try simp only [al_ete, al_dfn, Bool.not_eq_true', Bool.not_eq_false', al_ne, Bool.not_not, al_nn] at hb31p
                                have ho5 : o = 240 := by omega
                                refine W_seq ?_
                                refine W_region rfl ?_
                                refine WO_p (PS_assign_int rfl) ?_
                                refine WO_p (PS_assign_int rfl) ?_
                                refine WO_p (PS_assign_bool rfl) ?_
                                refine WO_nil ?_
                                refine thn_normal ?_
                                refine W_ret ?_
                                refine inBlk_ret ?_
                                refine thn_ret ?_
                                refine bodyQ_ret3 Hvac.results111 rfl rfl rfl (.int _ _) (.int _ _) (.bool _) rfl rfl rfl ?_
                                first
                                | (subst ho5; exact ⟨(by repeat (first | assumption | exact Ext.refl _ | refine Ext.alloc ?_ _ | refine Ext.drew ?_ | refine Ext.setB ?_ (by first | omega | (simp only [size_alloc, size_setB, size_drew]; omega)) _ | refine Ext.trans ?_ (by assumption))), rfl⟩)
                                | (refine ⟨(by repeat (first | assumption | exact Ext.refl _ | refine Ext.alloc ?_ _ | refine Ext.drew ?_ | refine Ext.setB ?_ (by first | omega | (simp only [size_alloc, size_setB, size_drew]; omega)) _ | refine Ext.trans ?_ (by assumption))), ?_⟩
                                   unfold ytakes ygives yknown
                                   repeat (first | rw [if_pos (by omega)] | rw [if_neg (by omega)])
                                   try (simp only [show o - 128 + 1 = o - 127 by omega, show o - 128 + 2 = o - 126 by omega, show o - 144 + 2 = o - 142 by omega, show o - 160 + 2 = o - 158 by omega]))
                              · have hb31p := hb31.h; try simp only [al_ete, al_dfn, Bool.not_eq_true', Bool.not_eq_false', al_ne, Bool.not_not, al_nn] at hb31p
                                refine W_seq ?_
                                refine W_seq ?_
                                refine W_region rfl ?_
                                refine WO_p (PS_eql rfl rfl) ?_
                                refine WO_p (PS_assign_bool rfl) ?_
                                refine WO_nil ?_
                                refine thn_normal ?_
                                refine W_if rfl (fun hb33 => ?_) (fun hb33 => ?_)
                                · have hb33p := hb33.h; try simp only [al_ete, al_dfn, Bool.not_eq_true', Bool.not_eq_false', al_ne, Bool.not_not, al_nn] at hb33p
                                  exfalso; omega
                                · have hb33p := hb33.h; try simp only [al_ete, al_dfn, Bool.not_eq_true', Bool.not_eq_false', al_ne, Bool.not_not, al_nn] at hb33p
                                  refine W_seq ?_
                                  refine W_region rfl ?_
                                  refine WO_p (PS_eql rfl rfl) ?_
                                  refine WO_p (PS_assign_bool rfl) ?_
                                  refine WO_nil ?_
                                  refine thn_normal ?_
                                  refine W_if rfl (fun hb35 => ?_) (fun hb35 => ?_)
                                  · have hb35p := hb35.h; try simp only [al_ete, al_dfn, Bool.not_eq_true', Bool.not_eq_false', al_ne, Bool.not_not, al_nn] at hb35p
                                    exfalso; omega
                                  · have hb35p := hb35.h; try simp only [al_ete, al_dfn, Bool.not_eq_true', Bool.not_eq_false', al_ne, Bool.not_not, al_nn] at hb35p
                                    refine W_seq ?_
                                    refine W_region rfl ?_
                                    refine WO_p (PS_eql rfl rfl) ?_
                                    refine WO_p (PS_assign_bool rfl) ?_
                                    refine WO_nil ?_
                                    refine thn_normal ?_
                                    refine W_if rfl (fun hb37 => ?_) (fun hb37 => ?_)
                                    · have hb37p := hb37.h; try simp only [al_ete, al_dfn, Bool.not_eq_true', Bool.not_eq_false', al_ne, Bool.not_not, al_nn] at hb37p
                                      exfalso; omega
                                    · have hb37p := hb37.h; try simp only [al_ete, al_dfn, Bool.not_eq_true', Bool.not_eq_false', al_ne, Bool.not_not, al_nn] at hb37p
                                      refine W_seq ?_
                                      refine W_region rfl ?_
                                      refine WO_p (PS_eql rfl rfl) ?_
                                      refine WO_p (PS_assign_bool rfl) ?_
                                      refine WO_nil ?_
                                      refine thn_normal ?_
                                      refine W_if rfl (fun hb39 => ?_) (fun hb39 => ?_)
                                      · have hb39p := hb39.h; try simp only [al_ete, al_dfn, Bool.not_eq_true', Bool.not_eq_false', al_ne, Bool.not_not, al_nn] at hb39p
                                        exfalso; omega
                                      · have hb39p := hb39.h; try simp only [al_ete, al_dfn, Bool.not_eq_true', Bool.not_eq_false', al_ne, Bool.not_not, al_nn] at hb39p
                                        refine W_seq ?_
                                        refine W_region rfl ?_
                                        refine WO_p (PS_eql rfl rfl) ?_
                                        refine WO_p (PS_assign_bool rfl) ?_
                                        refine WO_nil ?_
                                        refine thn_normal ?_
                                        refine W_if rfl (fun hb41 => ?_) (fun hb41 => ?_)
                                        · have hb41p := hb41.h; try simp only [al_ete, al_dfn, Bool.not_eq_true', Bool.not_eq_false', al_ne, Bool.not_not, al_nn] at hb41p
                                          exfalso; omega
                                        · have hb41p := hb41.h; try simp only [al_ete, al_dfn, Bool.not_eq_true', Bool.not_eq_false', al_ne, Bool.not_not, al_nn] at hb41p
                                          refine W_seq ?_
                                          refine W_region rfl ?_
                                          refine WO_p (PS_eql rfl rfl) ?_
                                          refine WO_p (PS_assign_bool rfl) ?_
                                          refine WO_nil ?_
                                          refine thn_normal ?_
                                          refine W_if rfl (fun hb43 => ?_) (fun hb43 => ?_)
                                          · have hb43p := hb43.h; try simp only [al_ete, al_dfn, Bool.not_eq_true', Bool.not_eq_false', al_ne, Bool.not_not, al_nn] at hb43p
                                            exfalso; omega
                                          · have hb43p := hb43.h; try simp only [al_ete, al_dfn, Bool.not_eq_true', Bool.not_eq_false', al_ne, Bool.not_not, al_nn] at hb43p
                                            refine W_seq ?_
                                            refine W_region rfl ?_
                                            refine WO_p (PS_eql rfl rfl) ?_
                                            refine WO_p (PS_assign_bool rfl) ?_
                                            refine WO_nil ?_
                                            refine thn_normal ?_
                                            refine W_if rfl (fun hb45 => ?_) (fun hb45 => ?_)
                                            · have hb45p := hb45.h; try simp only [al_ete, al_dfn, Bool.not_eq_true', Bool.not_eq_false', al_ne, Bool.not_not, al_nn] at hb45p
                                              exfalso; omega
                                            · have hb45p := hb45.h; try simp only [al_ete, al_dfn, Bool.not_eq_true', Bool.not_eq_false', al_ne, Bool.not_not, al_nn] at hb45p
                                              refine W_seq ?_
                                              refine W_region rfl ?_
                                              refine WO_p (PS_eql rfl rfl) ?_
                                              refine WO_p (PS_assign_bool rfl) ?_
                                              refine WO_nil ?_
                                              refine thn_normal ?_
                                              refine W_if rfl (fun hb47 => ?_) (fun hb47 => ?_)
                                              · have hb47p := hb47.h; try simp only [al_ete, al_dfn, Bool.not_eq_true', Bool.not_eq_false', al_ne, Bool.not_not, al_nn] at hb47p
                                                exfalso; omega
                                              · have hb47p := hb47.h; try simp only [al_ete, al_dfn, Bool.not_eq_true', Bool.not_eq_false', al_ne, Bool.not_not, al_nn] at hb47p
                                                refine W_seq ?_
                                                refine W_region rfl ?_
                                                refine WO_p (PS_eql rfl rfl) ?_
                                                refine WO_p (PS_assign_bool rfl) ?_
                                                refine WO_nil ?_
                                                refine thn_normal ?_
                                                refine W_if rfl (fun hb49 => ?_) (fun hb49 => ?_)
                                                · have hb49p := hb49.h; try simp only [al_ete, al_dfn, Bool.not_eq_true', Bool.not_eq_false', al_ne, Bool.not_not, al_nn] at hb49p
                                                  exfalso; omega
                                                · have hb49p := hb49.h; try simp only [al_ete, al_dfn, Bool.not_eq_true', Bool.not_eq_false', al_ne, Bool.not_not, al_nn] at hb49p
                                                  refine W_region rfl ?_
                                                  refine WO_p (PS_eql rfl rfl) ?_
                                                  refine WO_p (PS_assign_bool rfl) ?_
                                                  refine WO_nil ?_
                                                  refine thn_normal ?_
                                                  refine W_if rfl (fun hb51 => ?_) (fun hb51 => ?_)
                                                  · have hb51p := hb51.h; try simp only [al_ete, al_dfn, Bool.not_eq_true', Bool.not_eq_false', al_ne, Bool.not_not, al_nn] at hb51p
                                                    exfalso; omega
                                                  · have hb51p := hb51.h; try simp only [al_ete, al_dfn, Bool.not_eq_true', Bool.not_eq_false', al_ne, Bool.not_not, al_nn] at hb51p
                                                    refine W_seq ?_
                                                    refine W_seq ?_
                                                    refine W_region rfl ?_
                                                    refine WO_p (PS_eql rfl rfl) ?_
                                                    refine WO_p (PS_assign_bool rfl) ?_
                                                    refine WO_nil ?_
                                                    refine thn_normal ?_
                                                    refine W_if rfl (fun hb53 => ?_) (fun hb53 => ?_)
                                                    · have hb53p := hb53.h; try simp only [al_ete, al_dfn, Bool.not_eq_true', Bool.not_eq_false', al_ne, Bool.not_not, al_nn] at hb53p
                                                      exfalso; omega
                                                    · have hb53p := hb53.h; try simp only [al_ete, al_dfn, Bool.not_eq_true', Bool.not_eq_false', al_ne, Bool.not_not, al_nn] at hb53p
                                                      refine W_seq ?_
                                                      refine W_region rfl ?_
                                                      refine WO_p (PS_eql rfl rfl) ?_
                                                      refine WO_p (PS_assign_bool rfl) ?_
                                                      refine WO_nil ?_
                                                      refine thn_normal ?_
                                                      refine W_if rfl (fun hb55 => ?_) (fun hb55 => ?_)
                                                      · have hb55p := hb55.h; try simp only [al_ete, al_dfn, Bool.not_eq_true', Bool.not_eq_false', al_ne, Bool.not_not, al_nn] at hb55p
                                                        exfalso; omega
                                                      · have hb55p := hb55.h; try simp only [al_ete, al_dfn, Bool.not_eq_true', Bool.not_eq_false', al_ne, Bool.not_not, al_nn] at hb55p
                                                        refine W_seq ?_
                                                        refine W_region rfl ?_
                                                        refine WO_p (PS_eql rfl rfl) ?_
                                                        refine WO_p (PS_assign_bool rfl) ?_
                                                        refine WO_nil ?_
                                                        refine thn_normal ?_
                                                        refine W_if rfl (fun hb57 => ?_) (fun hb57 => ?_)
                                                        · have hb57p := hb57.h; try simp only [al_ete, al_dfn, Bool.not_eq_true', Bool.not_eq_false', al_ne, Bool.not_not, al_nn] at hb57p
                                                          exfalso; omega
                                                        · have hb57p := hb57.h; try simp only [al_ete, al_dfn, Bool.not_eq_true', Bool.not_eq_false', al_ne, Bool.not_not, al_nn] at hb57p
                                                          refine W_seq ?_
                                                          refine W_region rfl ?_
                                                          refine WO_p (PS_eql rfl rfl) ?_
                                                          refine WO_p (PS_assign_bool rfl) ?_
                                                          refine WO_nil ?_
                                                          refine thn_normal ?_
                                                          refine W_if rfl (fun hb59 => ?_) (fun hb59 => ?_)
                                                          · have hb59p := hb59.h; try simp only [al_ete, al_dfn, Bool.not_eq_true', Bool.not_eq_false', al_ne, Bool.not_not, al_nn] at hb59p
                                                            exfalso; omega
                                                          · have hb59p := hb59.h; try simp only [al_ete, al_dfn, Bool.not_eq_true', Bool.not_eq_false', al_ne, Bool.not_not, al_nn] at hb59p
                                                            refine W_seq ?_
                                                            refine W_region rfl ?_
                                                            refine WO_p (PS_eql rfl rfl) ?_
                                                            refine WO_p (PS_assign_bool rfl) ?_
                                                            refine WO_nil ?_
                                                            refine thn_normal ?_
                                                            refine W_if rfl (fun hb61 => ?_) (fun hb61 => ?_)
                                                            · have hb61p := hb61.h; try simp only [al_ete, al_dfn, Bool.not_eq_true', Bool.not_eq_false', al_ne, Bool.not_not, al_nn] at hb61p
                                                              exfalso; omega
                                                            · have hb61p := hb61.h; try simp only [al_ete, al_dfn, Bool.not_eq_true', Bool.not_eq_false', al_ne, Bool.not_not, al_nn] at hb61p
                                                              refine W_seq ?_
                                                              refine W_region rfl ?_
                                                              refine WO_p (PS_eql rfl rfl) ?_
                                                              refine WO_p (PS_assign_bool rfl) ?_
                                                              refine WO_nil ?_
                                                              refine thn_normal ?_
                                                              refine W_if rfl (fun hb63 => ?_) (fun hb63 => ?_)
                                                              · have hb63p := hb63.h; try simp only [al_ete, al_dfn, Bool.not_eq_true', Bool.not_eq_false', al_ne, Bool.not_not, al_nn] at hb63p
                                                                have ho5 : o = 243 := by omega
                                                                refine W_skip ?_
                                                                refine thn_normal ?_
                                                                refine W_condT rfl hb63.h ?_
                                                                refine W_seq ?_
                                                                refine W_region rfl ?_
                                                                refine WO_p (PS_assign_int rfl) ?_
                                                                refine WO_p (PS_assign_int rfl) ?_
                                                                refine WO_p (PS_assign_bool rfl) ?_
                                                                refine WO_nil ?_
                                                                refine thn_normal ?_
                                                                refine W_ret ?_
                                                                refine inBlk_ret ?_
                                                                refine thn_ret ?_
                                                                refine bodyQ_ret3 Hvac.results111 rfl rfl rfl (.int _ _) (.int _ _) (.bool _) rfl rfl rfl ?_
                                                                first
                                                                | (subst ho5; exact ⟨(by repeat (first | assumption | exact Ext.refl _ | refine Ext.alloc ?_ _ | refine Ext.drew ?_ | refine Ext.setB ?_ (by first | omega | (simp only [size_alloc, size_setB, size_drew]; omega)) _ | refine Ext.trans ?_ (by assumption))), rfl⟩)
                                                                | (refine ⟨(by repeat (first | assumption | exact Ext.refl _ | refine Ext.alloc ?_ _ | refine Ext.drew ?_ | refine Ext.setB ?_ (by first | omega | (simp only [size_alloc, size_setB, size_drew]; omega)) _ | refine Ext.trans ?_ (by assumption))), ?_⟩
                                                                   unfold ytakes ygives yknown
                                                                   repeat (first | rw [if_pos (by omega)] | rw [if_neg (by omega)])
                                                                   try (simp only [show o - 128 + 1 = o - 127 by omega, show o - 128 + 2 = o - 126 by omega, show o - 144 + 2 = o - 142 by omega, show o - 160 + 2 = o - 158 by omega]))
                                                              · have hb63p := hb63.h; try simp only [al_ete, al_dfn, Bool.not_eq_true', Bool.not_eq_false', al_ne, Bool.not_not, al_nn] at hb63p
                                                                refine W_region rfl ?_
                                                                refine WO_p (PS_eql rfl rfl) ?_
                                                                refine WO_p (PS_assign_bool rfl) ?_
                                                                refine WO_nil ?_
                                                                refine thn_normal ?_
                                                                refine W_if rfl (fun hb65 => ?_) (fun hb65 => ?_)
                                                                · have hb65p := hb65.h; try simp only [al_ete, al_dfn, Bool.not_eq_true', Bool.not_eq_false', al_ne, Bool.not_not, al_nn] at hb65p
                                                                  have ho5 : o = 253 := by omega
                                                                  refine W_seq ?_
                                                                  refine W_region rfl ?_
                                                                  refine WO_p (PS_assign_int rfl) ?_
                                                                  refine WO_p (PS_assign_int rfl) ?_
                                                                  refine WO_p (PS_assign_bool rfl) ?_
                                                                  refine WO_nil ?_
                                                                  refine thn_normal ?_
                                                                  refine W_ret ?_
                                                                  refine inBlk_ret ?_
                                                                  refine thn_ret ?_
                                                                  refine bodyQ_ret3 Hvac.results111 rfl rfl rfl (.int _ _) (.int _ _) (.bool _) rfl rfl rfl ?_
                                                                  first
                                                                  | (subst ho5; exact ⟨(by repeat (first | assumption | exact Ext.refl _ | refine Ext.alloc ?_ _ | refine Ext.drew ?_ | refine Ext.setB ?_ (by first | omega | (simp only [size_alloc, size_setB, size_drew]; omega)) _ | refine Ext.trans ?_ (by assumption))), rfl⟩)
                                                                  | (refine ⟨(by repeat (first | assumption | exact Ext.refl _ | refine Ext.alloc ?_ _ | refine Ext.drew ?_ | refine Ext.setB ?_ (by first | omega | (simp only [size_alloc, size_setB, size_drew]; omega)) _ | refine Ext.trans ?_ (by assumption))), ?_⟩
                                                                     unfold ytakes ygives yknown
                                                                     repeat (first | rw [if_pos (by omega)] | rw [if_neg (by omega)])
                                                                     try (simp only [show o - 128 + 1 = o - 127 by omega, show o - 128 + 2 = o - 126 by omega, show o - 144 + 2 = o - 142 by omega, show o - 160 + 2 = o - 158 by omega]))
                                                                · have hb65p := hb65.h; try simp only [al_ete, al_dfn, Bool.not_eq_true', Bool.not_eq_false', al_ne, Bool.not_not, al_nn] at hb65p
                                                                  refine W_seq ?_
                                                                  refine W_seq ?_
                                                                  refine W_region rfl ?_
                                                                  refine WO_p (PS_eql rfl rfl) ?_
                                                                  refine WO_p (PS_assign_bool rfl) ?_
                                                                  refine WO_nil ?_
                                                                  refine thn_normal ?_
                                                                  refine W_if rfl (fun hb67 => ?_) (fun hb67 => ?_)
                                                                  · have hb67p := hb67.h; try simp only [al_ete, al_dfn, Bool.not_eq_true', Bool.not_eq_false', al_ne, Bool.not_not, al_nn] at hb67p
                                                                    exfalso; omega
                                                                  · have hb67p := hb67.h; try simp only [al_ete, al_dfn, Bool.not_eq_true', Bool.not_eq_false', al_ne, Bool.not_not, al_nn] at hb67p
                                                                    refine W_seq ?_
                                                                    refine W_region rfl ?_
                                                                    refine WO_p (PS_eql rfl rfl) ?_
                                                                    refine WO_p (PS_assign_bool rfl) ?_
                                                                    refine WO_nil ?_
                                                                    refine thn_normal ?_
                                                                    refine W_if rfl (fun hb69 => ?_) (fun hb69 => ?_)
                                                                    · have hb69p := hb69.h; try simp only [al_ete, al_dfn, Bool.not_eq_true', Bool.not_eq_false', al_ne, Bool.not_not, al_nn] at hb69p
                                                                      exfalso; omega
                                                                    · have hb69p := hb69.h; try simp only [al_ete, al_dfn, Bool.not_eq_true', Bool.not_eq_false', al_ne, Bool.not_not, al_nn] at hb69p
                                                                      refine W_seq ?_
                                                                      refine W_region rfl ?_
                                                                      refine WO_p (PS_eql rfl rfl) ?_
                                                                      refine WO_p (PS_assign_bool rfl) ?_
                                                                      refine WO_nil ?_
                                                                      refine thn_normal ?_
                                                                      refine W_if rfl (fun hb71 => ?_) (fun hb71 => ?_)
                                                                      · have hb71p := hb71.h; try simp only [al_ete, al_dfn, Bool.not_eq_true', Bool.not_eq_false', al_ne, Bool.not_not, al_nn] at hb71p
                                                                        exfalso; omega
                                                                      · have hb71p := hb71.h; try simp only [al_ete, al_dfn, Bool.not_eq_true', Bool.not_eq_false', al_ne, Bool.not_not, al_nn] at hb71p
                                                                        refine W_region rfl ?_
                                                                        refine WO_p (PS_eql rfl rfl) ?_
                                                                        refine WO_p (PS_assign_bool rfl) ?_
                                                                        refine WO_nil ?_
                                                                        refine thn_normal ?_
                                                                        refine W_if rfl (fun hb73 => ?_) (fun hb73 => ?_)
                                                                        · have hb73p := hb73.h; try simp only [al_ete, al_dfn, Bool.not_eq_true', Bool.not_eq_false', al_ne, Bool.not_not, al_nn] at hb73p
                                                                          exfalso; omega
                                                                        · have hb73p := hb73.h; try simp only [al_ete, al_dfn, Bool.not_eq_true', Bool.not_eq_false', al_ne, Bool.not_not, al_nn] at hb73p
                                                                          refine W_seq ?_
                                                                          refine W_region rfl ?_
                                                                          refine WO_p (PS_eql rfl rfl) ?_
                                                                          refine WO_p (PS_assign_bool rfl) ?_
                                                                          refine WO_nil ?_
                                                                          refine thn_normal ?_
                                                                          refine W_if rfl (fun hb75 => ?_) (fun hb75 => ?_)
                                                                          · have hb75p := hb75.h; try simp only [al_ete, al_dfn, Bool.not_eq_true', Bool.not_eq_false', al_ne, Bool.not_not, al_nn] at hb75p
                                                                            exfalso; omega
                                                                          · have hb75p := hb75.h; try simp only [al_ete, al_dfn, Bool.not_eq_true', Bool.not_eq_false', al_ne, Bool.not_not, al_nn] at hb75p
                                                                            refine W_seq ?_
                                                                            refine W_region rfl ?_
                                                                            refine WO_p (PS_eql rfl rfl) ?_
                                                                            refine WO_p (PS_assign_bool rfl) ?_
                                                                            refine WO_nil ?_
                                                                            refine thn_normal ?_
                                                                            refine W_if rfl (fun hb77 => ?_) (fun hb77 => ?_)
                                                                            · have hb77p := hb77.h; try simp only [al_ete, al_dfn, Bool.not_eq_true', Bool.not_eq_false', al_ne, Bool.not_not, al_nn] at hb77p
                                                                              have ho5 : o = 245 := by omega
                                                                              refine W_seq ?_
                                                                              refine W_region rfl ?_
                                                                              refine WO_p (PS_assign_int rfl) ?_
                                                                              refine WO_p (PS_assign_int rfl) ?_
                                                                              refine WO_p (PS_assign_bool rfl) ?_
                                                                              refine WO_nil ?_
                                                                              refine thn_normal ?_
                                                                              refine W_ret ?_
                                                                              refine inBlk_ret ?_
                                                                              refine thn_ret ?_
                                                                              refine bodyQ_ret3 Hvac.results111 rfl rfl rfl (.int _ _) (.int _ _) (.bool _) rfl rfl rfl ?_
                                                                              first
                                                                              | (subst ho5; exact ⟨(by repeat (first | assumption | exact Ext.refl _ | refine Ext.alloc ?_ _ | refine Ext.drew ?_ | refine Ext.setB ?_ (by first | omega | (simp only [size_alloc, size_setB, size_drew]; omega)) _ | refine Ext.trans ?_ (by assumption))), rfl⟩)
                                                                              | (refine ⟨(by repeat (first | assumption | exact Ext.refl _ | refine Ext.alloc ?_ _ | refine Ext.drew ?_ | refine Ext.setB ?_ (by first | omega | (simp only [size_alloc, size_setB, size_drew]; omega)) _ | refine Ext.trans ?_ (by assumption))), ?_⟩
                                                                                 unfold ytakes ygives yknown
                                                                                 repeat (first | rw [if_pos (by omega)] | rw [if_neg (by omega)])
                                                                                 try (simp only [show o - 128 + 1 = o - 127 by omega, show o - 128 + 2 = o - 126 by omega, show o - 144 + 2 = o - 142 by omega, show o - 160 + 2 = o - 158 by omega]))
                                                                            · have hb77p := hb77.h; try simp only [al_ete, al_dfn, Bool.not_eq_true', Bool.not_eq_false', al_ne, Bool.not_not, al_nn] at hb77p
                                                                              refine W_seq ?_
                                                                              refine W_seq ?_
                                                                              refine W_region rfl ?_
                                                                              refine WO_p (PS_eql rfl rfl) ?_
                                                                              refine WO_p (PS_assign_bool rfl) ?_
                                                                              refine WO_nil ?_
                                                                              refine thn_normal ?_
                                                                              refine W_if rfl (fun hb79 => ?_) (fun hb79 => ?_)
                                                                              · have hb79p := hb79.h; try simp only [al_ete, al_dfn, Bool.not_eq_true', Bool.not_eq_false', al_ne, Bool.not_not, al_nn] at hb79p
                                                                                have ho5 : o = 241 := by omega
                                                                                refine W_skip ?_
                                                                                refine thn_normal ?_
                                                                                refine W_condT rfl hb79.h ?_
                                                                                refine W_seq ?_
                                                                                refine W_region rfl ?_
                                                                                refine WO_p (PS_assign_int rfl) ?_
                                                                                refine WO_p (PS_assign_int rfl) ?_
                                                                                refine WO_p (PS_assign_bool rfl) ?_
                                                                                refine WO_nil ?_
                                                                                refine thn_normal ?_
                                                                                refine W_ret ?_
                                                                                refine inBlk_ret ?_
                                                                                refine thn_ret ?_
                                                                                refine bodyQ_ret3 Hvac.results111 rfl rfl rfl (.int _ _) (.int _ _) (.bool _) rfl rfl rfl ?_
                                                                                first
                                                                                | (subst ho5; exact ⟨(by repeat (first | assumption | exact Ext.refl _ | refine Ext.alloc ?_ _ | refine Ext.drew ?_ | refine Ext.setB ?_ (by first | omega | (simp only [size_alloc, size_setB, size_drew]; omega)) _ | refine Ext.trans ?_ (by assumption))), rfl⟩)
                                                                                | (refine ⟨(by repeat (first | assumption | exact Ext.refl _ | refine Ext.alloc ?_ _ | refine Ext.drew ?_ | refine Ext.setB ?_ (by first | omega | (simp only [size_alloc, size_setB, size_drew]; omega)) _ | refine Ext.trans ?_ (by assumption))), ?_⟩
                                                                                   unfold ytakes ygives yknown
                                                                                   repeat (first | rw [if_pos (by omega)] | rw [if_neg (by omega)])
                                                                                   try (simp only [show o - 128 + 1 = o - 127 by omega, show o - 128 + 2 = o - 126 by omega, show o - 144 + 2 = o - 142 by omega, show o - 160 + 2 = o - 158 by omega]))
                                                                              · have hb79p := hb79.h; try simp only [al_ete, al_dfn, Bool.not_eq_true', Bool.not_eq_false', al_ne, Bool.not_not, al_nn] at hb79p
                                                                                refine W_region rfl ?_
                                                                                refine WO_p (PS_eql rfl rfl) ?_
                                                                                refine WO_p (PS_assign_bool rfl) ?_
                                                                                refine WO_nil ?_
                                                                                refine thn_normal ?_
                                                                                refine W_if rfl (fun hb81 => ?_) (fun hb81 => ?_)
                                                                                · have hb81p := hb81.h; try simp only [al_ete, al_dfn, Bool.not_eq_true', Bool.not_eq_false', al_ne, Bool.not_not, al_nn] at hb81p
                                                                                  have ho5 : o = 242 := by omega
                                                                                  refine W_seq ?_
                                                                                  refine W_region rfl ?_
                                                                                  refine WO_p (PS_assign_int rfl) ?_
                                                                                  refine WO_p (PS_assign_int rfl) ?_
                                                                                  refine WO_p (PS_assign_bool rfl) ?_
                                                                                  refine WO_nil ?_
                                                                                  refine thn_normal ?_
                                                                                  refine W_ret ?_
                                                                                  refine inBlk_ret ?_
                                                                                  refine thn_ret ?_
                                                                                  refine bodyQ_ret3 Hvac.results111 rfl rfl rfl (.int _ _) (.int _ _) (.bool _) rfl rfl rfl ?_
                                                                                  first
                                                                                  | (subst ho5; exact ⟨(by repeat (first | assumption | exact Ext.refl _ | refine Ext.alloc ?_ _ | refine Ext.drew ?_ | refine Ext.setB ?_ (by first | omega | (simp only [size_alloc, size_setB, size_drew]; omega)) _ | refine Ext.trans ?_ (by assumption))), rfl⟩)
                                                                                  | (refine ⟨(by repeat (first | assumption | exact Ext.refl _ | refine Ext.alloc ?_ _ | refine Ext.drew ?_ | refine Ext.setB ?_ (by first | omega | (simp only [size_alloc, size_setB, size_drew]; omega)) _ | refine Ext.trans ?_ (by assumption))), ?_⟩
                                                                                     unfold ytakes ygives yknown
                                                                                     repeat (first | rw [if_pos (by omega)] | rw [if_neg (by omega)])
                                                                                     try (simp only [show o - 128 + 1 = o - 127 by omega, show o - 128 + 2 = o - 126 by omega, show o - 144 + 2 = o - 142 by omega, show o - 160 + 2 = o - 158 by omega]))
                                                                                · have hb81p := hb81.h; try simp only [al_ete, al_dfn, Bool.not_eq_true', Bool.not_eq_false', al_ne, Bool.not_not, al_nn] at hb81p
                                                                                  refine W_seq ?_
                                                                                  refine W_seq ?_
                                                                                  refine W_region rfl ?_
                                                                                  refine WO_p (PS_eql rfl rfl) ?_
                                                                                  refine WO_p (PS_assign_bool rfl) ?_
                                                                                  refine WO_nil ?_
                                                                                  refine thn_normal ?_
                                                                                  refine W_if rfl (fun hb83 => ?_) (fun hb83 => ?_)
                                                                                  · have hb83p := hb83.h; try simp only [al_ete, al_dfn, Bool.not_eq_true', Bool.not_eq_false', al_ne, Bool.not_not, al_nn] at hb83p
                                                                                    have ho5 : o = 244 := by omega
                                                                                    refine W_skip ?_
                                                                                    refine thn_normal ?_
                                                                                    refine W_condT rfl hb83.h ?_
                                                                                    refine W_seq ?_
                                                                                    refine W_region rfl ?_
                                                                                    refine WO_p (PS_assign_int rfl) ?_
                                                                                    refine WO_p (PS_assign_int rfl) ?_
                                                                                    refine WO_p (PS_assign_bool rfl) ?_
                                                                                    refine WO_nil ?_
                                                                                    refine thn_normal ?_
                                                                                    refine W_ret ?_
                                                                                    refine inBlk_ret ?_
                                                                                    refine thn_ret ?_
                                                                                    refine bodyQ_ret3 Hvac.results111 rfl rfl rfl (.int _ _) (.int _ _) (.bool _) rfl rfl rfl ?_
                                                                                    first
                                                                                    | (subst ho5; exact ⟨(by repeat (first | assumption | exact Ext.refl _ | refine Ext.alloc ?_ _ | refine Ext.drew ?_ | refine Ext.setB ?_ (by first | omega | (simp only [size_alloc, size_setB, size_drew]; omega)) _ | refine Ext.trans ?_ (by assumption))), rfl⟩)
                                                                                    | (refine ⟨(by repeat (first | assumption | exact Ext.refl _ | refine Ext.alloc ?_ _ | refine Ext.drew ?_ | refine Ext.setB ?_ (by first | omega | (simp only [size_alloc, size_setB, size_drew]; omega)) _ | refine Ext.trans ?_ (by assumption))), ?_⟩
                                                                                       unfold ytakes ygives yknown
                                                                                       repeat (first | rw [if_pos (by omega)] | rw [if_neg (by omega)])
                                                                                       try (simp only [show o - 128 + 1 = o - 127 by omega, show o - 128 + 2 = o - 126 by omega, show o - 144 + 2 = o - 142 by omega, show o - 160 + 2 = o - 158 by omega]))
                                                                                  · have hb83p := hb83.h; try simp only [al_ete, al_dfn, Bool.not_eq_true', Bool.not_eq_false', al_ne, Bool.not_not, al_nn] at hb83p
                                                                                    refine W_region rfl ?_
                                                                                    refine WO_p (PS_eql rfl rfl) ?_
                                                                                    refine WO_p (PS_assign_bool rfl) ?_
                                                                                    refine WO_nil ?_
                                                                                    refine thn_normal ?_
                                                                                    refine W_if rfl (fun hb85 => ?_) (fun hb85 => ?_)
                                                                                    · have hb85p := hb85.h; try simp only [al_ete, al_dfn, Bool.not_eq_true', Bool.not_eq_false', al_ne, Bool.not_not, al_nn] at hb85p
                                                                                      have ho5 : o = 250 := by omega
                                                                                      refine W_seq ?_
                                                                                      refine W_region rfl ?_
                                                                                      refine WO_p (PS_assign_int rfl) ?_
                                                                                      refine WO_p (PS_assign_int rfl) ?_
                                                                                      refine WO_p (PS_assign_bool rfl) ?_
                                                                                      refine WO_nil ?_
                                                                                      refine thn_normal ?_
                                                                                      refine W_ret ?_
                                                                                      refine inBlk_ret ?_
                                                                                      refine thn_ret ?_
                                                                                      refine bodyQ_ret3 Hvac.results111 rfl rfl rfl (.int _ _) (.int _ _) (.bool _) rfl rfl rfl ?_
                                                                                      first
                                                                                      | (subst ho5; exact ⟨(by repeat (first | assumption | exact Ext.refl _ | refine Ext.alloc ?_ _ | refine Ext.drew ?_ | refine Ext.setB ?_ (by first | omega | (simp only [size_alloc, size_setB, size_drew]; omega)) _ | refine Ext.trans ?_ (by assumption))), rfl⟩)
                                                                                      | (refine ⟨(by repeat (first | assumption | exact Ext.refl _ | refine Ext.alloc ?_ _ | refine Ext.drew ?_ | refine Ext.setB ?_ (by first | omega | (simp only [size_alloc, size_setB, size_drew]; omega)) _ | refine Ext.trans ?_ (by assumption))), ?_⟩
                                                                                         unfold ytakes ygives yknown
                                                                                         repeat (first | rw [if_pos (by omega)] | rw [if_neg (by omega)])
                                                                                         try (simp only [show o - 128 + 1 = o - 127 by omega, show o - 128 + 2 = o - 126 by omega, show o - 144 + 2 = o - 142 by omega, show o - 160 + 2 = o - 158 by omega]))
                                                                                    · have hb85p := hb85.h; try simp only [al_ete, al_dfn, Bool.not_eq_true', Bool.not_eq_false', al_ne, Bool.not_not, al_nn] at hb85p
                                                                                      refine W_skip ?_
                                                                                      refine inBlk_normal ?_
                                                                                      refine thn_normal ?_
                                                                                      refine W_seq ?_
                                                                                      refine W_seq ?_
                                                                                      refine W_region rfl ?_
                                                                                      refine WO_p (PS_move_int rfl) ?_
                                                                                      refine WO_call Hvac.call49 (by rfl) (Ret.mono (family_spec _ _ (by omega)) ?_)
                                                                                      rintro _ w49_85 ⟨hE49_85, rfl⟩
                                                                                      have hz49_85 := hE49_85.1
                                                                                      try simp only [size_alloc, size_setB, size_drew] at hz49_85
                                                                                      refine WO_p (PS_eql rfl rfl) ?_
                                                                                      refine WO_nil ?_
                                                                                      refine thn_normal ?_
                                                                                      refine W_if rfl (fun hb88 => ?_) (fun hb88 => ?_)
                                                                                      · have hb88p := hb88.h; try simp only [al_ete, al_dfn, Bool.not_eq_true', Bool.not_eq_false', al_ne, Bool.not_not, al_nn] at hb88p
                                                                                        refine W_seq ?_
                                                                                        refine W_region rfl ?_
                                                                                        refine WO_p (PS_assign_int rfl) ?_
                                                                                        refine WO_p (PS_assign_int rfl) ?_
                                                                                        refine WO_p (PS_assign_bool rfl) ?_
                                                                                        refine WO_nil ?_
                                                                                        refine thn_normal ?_
                                                                                        refine W_ret ?_
                                                                                        refine thn_ret ?_
                                                                                        refine bodyQ_ret3 Hvac.results111 rfl rfl rfl (.int _ _) (.int _ _) (.bool _) rfl rfl rfl ?_
                                                                                        first
                                                                                        | (subst ho5; exact ⟨(by repeat (first | assumption | exact Ext.refl _ | refine Ext.alloc ?_ _ | refine Ext.drew ?_ | refine Ext.setB ?_ (by first | omega | (simp only [size_alloc, size_setB, size_drew]; omega)) _ | refine Ext.trans ?_ (by assumption))), rfl⟩)
                                                                                        | (refine ⟨(by repeat (first | assumption | exact Ext.refl _ | refine Ext.alloc ?_ _ | refine Ext.drew ?_ | refine Ext.setB ?_ (by first | omega | (simp only [size_alloc, size_setB, size_drew]; omega)) _ | refine Ext.trans ?_ (by assumption))), ?_⟩
                                                                                           unfold ytakes ygives yknown
                                                                                           repeat (first | rw [if_pos (by omega)] | rw [if_neg (by omega)])
                                                                                           try (simp only [show o - 128 + 1 = o - 127 by omega, show o - 128 + 2 = o - 126 by omega, show o - 144 + 2 = o - 142 by omega, show o - 160 + 2 = o - 158 by omega]))
                                                                                      · have hb88p := hb88.h; try simp only [al_ete, al_dfn, Bool.not_eq_true', Bool.not_eq_false', al_ne, Bool.not_not, al_nn] at hb88p
                                                                                        refine W_skip ?_
                                                                                        refine thn_normal ?_
                                                                                        refine W_seq ?_
                                                                                        refine W_region rfl ?_
                                                                                        refine WO_p (PS_assign_int rfl) ?_
                                                                                        refine WO_p (PS_assign_int rfl) ?_
                                                                                        refine WO_p (PS_assign_bool rfl) ?_
                                                                                        refine WO_nil ?_
                                                                                        refine thn_normal ?_
                                                                                        refine W_ret ?_
                                                                                        refine bodyQ_ret3 Hvac.results111 rfl rfl rfl (.int _ _) (.int _ _) (.bool _) rfl rfl rfl ?_
                                                                                        first
                                                                                        | (subst ho5; exact ⟨(by repeat (first | assumption | exact Ext.refl _ | refine Ext.alloc ?_ _ | refine Ext.drew ?_ | refine Ext.setB ?_ (by first | omega | (simp only [size_alloc, size_setB, size_drew]; omega)) _ | refine Ext.trans ?_ (by assumption))), rfl⟩)
                                                                                        | (refine ⟨(by repeat (first | assumption | exact Ext.refl _ | refine Ext.alloc ?_ _ | refine Ext.drew ?_ | refine Ext.setB ?_ (by first | omega | (simp only [size_alloc, size_setB, size_drew]; omega)) _ | refine Ext.trans ?_ (by assumption))), ?_⟩
                                                                                           unfold ytakes ygives yknown
                                                                                           repeat (first | rw [if_pos (by omega)] | rw [if_neg (by omega)])
                                                                                           try (simp only [show o - 128 + 1 = o - 127 by omega, show o - 128 + 2 = o - 126 by omega, show o - 144 + 2 = o - 142 by omega, show o - 160 + 2 = o - 158 by omega]))
            · have hb13p := hb13.h; try simp only [al_ete, al_dfn, Bool.not_eq_true', Bool.not_eq_false', al_ne, Bool.not_not, al_nn] at hb13p
              exfalso; omega
        · have hb9p := hb9.h; try simp only [al_ete, al_dfn, Bool.not_eq_true', Bool.not_eq_false', al_ne, Bool.not_not, al_nn] at hb9p
          exfalso; omega
    · have hb5p := hb5.h; try simp only [al_ete, al_dfn, Bool.not_eq_true', Bool.not_eq_false', al_ne, Bool.not_not, al_nn] at hb5p
      refine WO_guardF rfl rfl hb5.h ?_
      refine WO_guardF rfl rfl hb5.h ?_
      refine WO_p (PS_pickF rfl hb5.h rfl) ?_
      refine WO_p (PS_assign_bool rfl) ?_
      refine WO_nil ?_
      refine thn_normal ?_
      refine W_condF rfl rfl ?_
      refine W_seq ?_
      refine W_region rfl ?_
      refine WO_p (PS_move_int rfl) ?_
      refine WO_p (PS_geq rfl rfl) ?_
      refine WO_p (PS_move_bool rfl) ?_
      refine WO_if (t := 27) rfl (fun hb90 => ?_) (fun hb90 => ?_)
      · have hb90p := hb90.h; try simp only [al_ete, al_dfn, Bool.not_eq_true', Bool.not_eq_false', al_ne, Bool.not_not, al_nn] at hb90p
        exfalso; omega
      · have hb90p := hb90.h; try simp only [al_ete, al_dfn, Bool.not_eq_true', Bool.not_eq_false', al_ne, Bool.not_not, al_nn] at hb90p
        refine WO_guardF rfl rfl hb90.h ?_
        refine WO_guardF rfl rfl hb90.h ?_
        refine WO_p (PS_pickF rfl hb90.h rfl) ?_
        refine WO_p (PS_assign_bool rfl) ?_
        refine WO_nil ?_
        refine thn_normal ?_
        refine W_condF rfl rfl ?_
        refine W_seq ?_
        refine W_region rfl ?_
        refine WO_p (PS_move_int rfl) ?_
        refine WO_p (PS_geq rfl rfl) ?_
        refine WO_p (PS_move_bool rfl) ?_
        refine WO_if (t := 42) rfl (fun hb92 => ?_) (fun hb92 => ?_)
        · have hb92p := hb92.h; try simp only [al_ete, al_dfn, Bool.not_eq_true', Bool.not_eq_false', al_ne, Bool.not_not, al_nn] at hb92p
          exfalso; omega
        · have hb92p := hb92.h; try simp only [al_ete, al_dfn, Bool.not_eq_true', Bool.not_eq_false', al_ne, Bool.not_not, al_nn] at hb92p
          refine WO_guardF rfl rfl hb92.h ?_
          refine WO_guardF rfl rfl hb92.h ?_
          refine WO_p (PS_pickF rfl hb92.h rfl) ?_
          refine WO_p (PS_assign_bool rfl) ?_
          refine WO_nil ?_
          refine thn_normal ?_
          refine W_condF rfl rfl ?_
          refine W_skip ?_
          refine inBlk_normal ?_
          refine thn_normal ?_
          refine W_seq ?_
          refine W_seq ?_
          refine W_region rfl ?_
          refine WO_p (PS_move_int rfl) ?_
          refine WO_nil ?_
          refine thn_normal ?_
          refine W_block ?_
          refine W_seq ?_
          refine W_seq ?_
          refine W_region rfl ?_
          refine WO_p (PS_eql rfl rfl) ?_
          refine WO_p (PS_assign_bool rfl) ?_
          refine WO_nil ?_
          refine thn_normal ?_
          refine W_if rfl (fun hb94 => ?_) (fun hb94 => ?_)
          · have hb94p := hb94.h; try simp only [al_ete, al_dfn, Bool.not_eq_true', Bool.not_eq_false', al_ne, Bool.not_not, al_nn] at hb94p
            have ho5 : o = 0 := by omega
            refine W_skip ?_
            refine thn_normal ?_
            refine W_condT rfl hb94.h ?_
            refine W_seq ?_
            refine W_region rfl ?_
            refine WO_p (PS_assign_int rfl) ?_
            refine WO_p (PS_assign_int rfl) ?_
            refine WO_p (PS_assign_bool rfl) ?_
            refine WO_nil ?_
            refine thn_normal ?_
            refine W_ret ?_
            refine inBlk_ret ?_
            refine thn_ret ?_
            refine bodyQ_ret3 Hvac.results111 rfl rfl rfl (.int _ _) (.int _ _) (.bool _) rfl rfl rfl ?_
            first
            | (subst ho5; exact ⟨(by repeat (first | assumption | exact Ext.refl _ | refine Ext.alloc ?_ _ | refine Ext.drew ?_ | refine Ext.setB ?_ (by first | omega | (simp only [size_alloc, size_setB, size_drew]; omega)) _ | refine Ext.trans ?_ (by assumption))), rfl⟩)
            | (refine ⟨(by repeat (first | assumption | exact Ext.refl _ | refine Ext.alloc ?_ _ | refine Ext.drew ?_ | refine Ext.setB ?_ (by first | omega | (simp only [size_alloc, size_setB, size_drew]; omega)) _ | refine Ext.trans ?_ (by assumption))), ?_⟩
               unfold ytakes ygives yknown
               repeat (first | rw [if_pos (by omega)] | rw [if_neg (by omega)])
               try (simp only [show o - 128 + 1 = o - 127 by omega, show o - 128 + 2 = o - 126 by omega, show o - 144 + 2 = o - 142 by omega, show o - 160 + 2 = o - 158 by omega]))
          · have hb94p := hb94.h; try simp only [al_ete, al_dfn, Bool.not_eq_true', Bool.not_eq_false', al_ne, Bool.not_not, al_nn] at hb94p
            refine W_region rfl ?_
            refine WO_p (PS_eql rfl rfl) ?_
            refine WO_p (PS_assign_bool rfl) ?_
            refine WO_nil ?_
            refine thn_normal ?_
            refine W_if rfl (fun hb96 => ?_) (fun hb96 => ?_)
            · have hb96p := hb96.h; try simp only [al_ete, al_dfn, Bool.not_eq_true', Bool.not_eq_false', al_ne, Bool.not_not, al_nn] at hb96p
              have ho5 : o = 91 := by omega
              refine W_seq ?_
              refine W_region rfl ?_
              refine WO_p (PS_assign_int rfl) ?_
              refine WO_p (PS_assign_int rfl) ?_
              refine WO_p (PS_assign_bool rfl) ?_
              refine WO_nil ?_
              refine thn_normal ?_
              refine W_ret ?_
              refine inBlk_ret ?_
              refine thn_ret ?_
              refine bodyQ_ret3 Hvac.results111 rfl rfl rfl (.int _ _) (.int _ _) (.bool _) rfl rfl rfl ?_
              first
              | (subst ho5; exact ⟨(by repeat (first | assumption | exact Ext.refl _ | refine Ext.alloc ?_ _ | refine Ext.drew ?_ | refine Ext.setB ?_ (by first | omega | (simp only [size_alloc, size_setB, size_drew]; omega)) _ | refine Ext.trans ?_ (by assumption))), rfl⟩)
              | (refine ⟨(by repeat (first | assumption | exact Ext.refl _ | refine Ext.alloc ?_ _ | refine Ext.drew ?_ | refine Ext.setB ?_ (by first | omega | (simp only [size_alloc, size_setB, size_drew]; omega)) _ | refine Ext.trans ?_ (by assumption))), ?_⟩
                 unfold ytakes ygives yknown
                 repeat (first | rw [if_pos (by omega)] | rw [if_neg (by omega)])
                 try (simp only [show o - 128 + 1 = o - 127 by omega, show o - 128 + 2 = o - 126 by omega, show o - 144 + 2 = o - 142 by omega, show o - 160 + 2 = o - 158 by omega]))
            · have hb96p := hb96.h; try simp only [al_ete, al_dfn, Bool.not_eq_true', Bool.not_eq_false', al_ne, Bool.not_not, al_nn] at hb96p
              refine W_seq ?_
              refine W_seq ?_
              refine W_region rfl ?_
              refine WO_p (PS_eql rfl rfl) ?_
              refine WO_p (PS_assign_bool rfl) ?_
              refine WO_nil ?_
              refine thn_normal ?_
              refine W_if rfl (fun hb98 => ?_) (fun hb98 => ?_)
              · have hb98p := hb98.h; try simp only [al_ete, al_dfn, Bool.not_eq_true', Bool.not_eq_false', al_ne, Bool.not_not, al_nn] at hb98p
                exfalso; omega
              · have hb98p := hb98.h; try simp only [al_ete, al_dfn, Bool.not_eq_true', Bool.not_eq_false', al_ne, Bool.not_not, al_nn] at hb98p
                refine W_seq ?_
                refine W_region rfl ?_
                refine WO_p (PS_eql rfl rfl) ?_
                refine WO_p (PS_assign_bool rfl) ?_
                refine WO_nil ?_
                refine thn_normal ?_
                refine W_if rfl (fun hb100 => ?_) (fun hb100 => ?_)
                · have hb100p := hb100.h; try simp only [al_ete, al_dfn, Bool.not_eq_true', Bool.not_eq_false', al_ne, Bool.not_not, al_nn] at hb100p
                  have ho5 : o = 80 := by omega
                  refine W_skip ?_
                  refine thn_normal ?_
                  refine W_condT rfl hb100.h ?_
                  refine W_seq ?_
                  refine W_region rfl ?_
                  refine WO_p (PS_assign_int rfl) ?_
                  refine WO_p (PS_assign_int rfl) ?_
                  refine WO_p (PS_assign_bool rfl) ?_
                  refine WO_nil ?_
                  refine thn_normal ?_
                  refine W_ret ?_
                  refine inBlk_ret ?_
                  refine thn_ret ?_
                  refine bodyQ_ret3 Hvac.results111 rfl rfl rfl (.int _ _) (.int _ _) (.bool _) rfl rfl rfl ?_
                  first
                  | (subst ho5; exact ⟨(by repeat (first | assumption | exact Ext.refl _ | refine Ext.alloc ?_ _ | refine Ext.drew ?_ | refine Ext.setB ?_ (by first | omega | (simp only [size_alloc, size_setB, size_drew]; omega)) _ | refine Ext.trans ?_ (by assumption))), rfl⟩)
                  | (refine ⟨(by repeat (first | assumption | exact Ext.refl _ | refine Ext.alloc ?_ _ | refine Ext.drew ?_ | refine Ext.setB ?_ (by first | omega | (simp only [size_alloc, size_setB, size_drew]; omega)) _ | refine Ext.trans ?_ (by assumption))), ?_⟩
                     unfold ytakes ygives yknown
                     repeat (first | rw [if_pos (by omega)] | rw [if_neg (by omega)])
                     try (simp only [show o - 128 + 1 = o - 127 by omega, show o - 128 + 2 = o - 126 by omega, show o - 144 + 2 = o - 142 by omega, show o - 160 + 2 = o - 158 by omega]))
                · have hb100p := hb100.h; try simp only [al_ete, al_dfn, Bool.not_eq_true', Bool.not_eq_false', al_ne, Bool.not_not, al_nn] at hb100p
                  refine W_region rfl ?_
                  refine WO_p (PS_eql rfl rfl) ?_
                  refine WO_p (PS_assign_bool rfl) ?_
                  refine WO_nil ?_
                  refine thn_normal ?_
                  refine W_if rfl (fun hb102 => ?_) (fun hb102 => ?_)
                  · have hb102p := hb102.h; try simp only [al_ete, al_dfn, Bool.not_eq_true', Bool.not_eq_false', al_ne, Bool.not_not, al_nn] at hb102p
                    have ho5 : o = 86 := by omega
                    refine W_seq ?_
                    refine W_region rfl ?_
                    refine WO_p (PS_assign_int rfl) ?_
                    refine WO_p (PS_assign_int rfl) ?_
                    refine WO_p (PS_assign_bool rfl) ?_
                    refine WO_nil ?_
                    refine thn_normal ?_
                    refine W_ret ?_
                    refine inBlk_ret ?_
                    refine thn_ret ?_
                    refine bodyQ_ret3 Hvac.results111 rfl rfl rfl (.int _ _) (.int _ _) (.bool _) rfl rfl rfl ?_
                    first
                    | (subst ho5; exact ⟨(by repeat (first | assumption | exact Ext.refl _ | refine Ext.alloc ?_ _ | refine Ext.drew ?_ | refine Ext.setB ?_ (by first | omega | (simp only [size_alloc, size_setB, size_drew]; omega)) _ | refine Ext.trans ?_ (by assumption))), rfl⟩)
                    | (refine ⟨(by repeat (first | assumption | exact Ext.refl _ | refine Ext.alloc ?_ _ | refine Ext.drew ?_ | refine Ext.setB ?_ (by first | omega | (simp only [size_alloc, size_setB, size_drew]; omega)) _ | refine Ext.trans ?_ (by assumption))), ?_⟩
                       unfold ytakes ygives yknown
                       repeat (first | rw [if_pos (by omega)] | rw [if_neg (by omega)])
                       try (simp only [show o - 128 + 1 = o - 127 by omega, show o - 128 + 2 = o - 126 by omega, show o - 144 + 2 = o - 142 by omega, show o - 160 + 2 = o - 158 by omega]))
                  · have hb102p := hb102.h; try simp only [al_ete, al_dfn, Bool.not_eq_true', Bool.not_eq_false', al_ne, Bool.not_not, al_nn] at hb102p
                    refine W_seq ?_
                    refine W_seq ?_
                    refine W_region rfl ?_
                    refine WO_p (PS_eql rfl rfl) ?_
                    refine WO_p (PS_assign_bool rfl) ?_
                    refine WO_nil ?_
                    refine thn_normal ?_
                    refine W_if rfl (fun hb104 => ?_) (fun hb104 => ?_)
                    · have hb104p := hb104.h; try simp only [al_ete, al_dfn, Bool.not_eq_true', Bool.not_eq_false', al_ne, Bool.not_not, al_nn] at hb104p
                      have ho5 : o = 8 := by omega
                      refine W_skip ?_
                      refine thn_normal ?_
                      refine W_condT rfl hb104.h ?_
                      refine W_seq ?_
                      refine W_region rfl ?_
                      refine WO_p (PS_assign_int rfl) ?_
                      refine WO_p (PS_assign_int rfl) ?_
                      refine WO_p (PS_assign_bool rfl) ?_
                      refine WO_nil ?_
                      refine thn_normal ?_
                      refine W_ret ?_
                      refine inBlk_ret ?_
                      refine thn_ret ?_
                      refine bodyQ_ret3 Hvac.results111 rfl rfl rfl (.int _ _) (.int _ _) (.bool _) rfl rfl rfl ?_
                      first
                      | (subst ho5; exact ⟨(by repeat (first | assumption | exact Ext.refl _ | refine Ext.alloc ?_ _ | refine Ext.drew ?_ | refine Ext.setB ?_ (by first | omega | (simp only [size_alloc, size_setB, size_drew]; omega)) _ | refine Ext.trans ?_ (by assumption))), rfl⟩)
                      | (refine ⟨(by repeat (first | assumption | exact Ext.refl _ | refine Ext.alloc ?_ _ | refine Ext.drew ?_ | refine Ext.setB ?_ (by first | omega | (simp only [size_alloc, size_setB, size_drew]; omega)) _ | refine Ext.trans ?_ (by assumption))), ?_⟩
                         unfold ytakes ygives yknown
                         repeat (first | rw [if_pos (by omega)] | rw [if_neg (by omega)])
                         try (simp only [show o - 128 + 1 = o - 127 by omega, show o - 128 + 2 = o - 126 by omega, show o - 144 + 2 = o - 142 by omega, show o - 160 + 2 = o - 158 by omega]))
                    · have hb104p := hb104.h; try simp only [al_ete, al_dfn, Bool.not_eq_true', Bool.not_eq_false', al_ne, Bool.not_not, al_nn] at hb104p
                      refine W_seq ?_
                      refine W_region rfl ?_
                      refine WO_p (PS_eql rfl rfl) ?_
                      refine WO_p (PS_assign_bool rfl) ?_
                      refine WO_nil ?_
                      refine thn_normal ?_
                      refine W_if rfl (fun hb106 => ?_) (fun hb106 => ?_)
                      · have hb106p := hb106.h; try simp only [al_ete, al_dfn, Bool.not_eq_true', Bool.not_eq_false', al_ne, Bool.not_not, al_nn] at hb106p
                        have ho5 : o = 9 := by omega
                        refine W_skip ?_
                        refine thn_normal ?_
                        refine W_condT rfl hb106.h ?_
                        refine W_seq ?_
                        refine W_region rfl ?_
                        refine WO_p (PS_assign_int rfl) ?_
                        refine WO_p (PS_assign_int rfl) ?_
                        refine WO_p (PS_assign_bool rfl) ?_
                        refine WO_nil ?_
                        refine thn_normal ?_
                        refine W_ret ?_
                        refine inBlk_ret ?_
                        refine thn_ret ?_
                        refine bodyQ_ret3 Hvac.results111 rfl rfl rfl (.int _ _) (.int _ _) (.bool _) rfl rfl rfl ?_
                        first
                        | (subst ho5; exact ⟨(by repeat (first | assumption | exact Ext.refl _ | refine Ext.alloc ?_ _ | refine Ext.drew ?_ | refine Ext.setB ?_ (by first | omega | (simp only [size_alloc, size_setB, size_drew]; omega)) _ | refine Ext.trans ?_ (by assumption))), rfl⟩)
                        | (refine ⟨(by repeat (first | assumption | exact Ext.refl _ | refine Ext.alloc ?_ _ | refine Ext.drew ?_ | refine Ext.setB ?_ (by first | omega | (simp only [size_alloc, size_setB, size_drew]; omega)) _ | refine Ext.trans ?_ (by assumption))), ?_⟩
                           unfold ytakes ygives yknown
                           repeat (first | rw [if_pos (by omega)] | rw [if_neg (by omega)])
                           try (simp only [show o - 128 + 1 = o - 127 by omega, show o - 128 + 2 = o - 126 by omega, show o - 144 + 2 = o - 142 by omega, show o - 160 + 2 = o - 158 by omega]))
                      · have hb106p := hb106.h; try simp only [al_ete, al_dfn, Bool.not_eq_true', Bool.not_eq_false', al_ne, Bool.not_not, al_nn] at hb106p
                        refine W_region rfl ?_
                        refine WO_p (PS_eql rfl rfl) ?_
                        refine WO_p (PS_assign_bool rfl) ?_
                        refine WO_nil ?_
                        refine thn_normal ?_
                        refine W_if rfl (fun hb108 => ?_) (fun hb108 => ?_)
                        · have hb108p := hb108.h; try simp only [al_ete, al_dfn, Bool.not_eq_true', Bool.not_eq_false', al_ne, Bool.not_not, al_nn] at hb108p
                          exfalso; omega
                        · have hb108p := hb108.h; try simp only [al_ete, al_dfn, Bool.not_eq_true', Bool.not_eq_false', al_ne, Bool.not_not, al_nn] at hb108p
                          refine W_seq ?_
                          refine W_seq ?_
                          refine W_region rfl ?_
                          refine WO_p (PS_eql rfl rfl) ?_
                          refine WO_p (PS_assign_bool rfl) ?_
                          refine WO_nil ?_
                          refine thn_normal ?_
                          refine W_if rfl (fun hb110 => ?_) (fun hb110 => ?_)
                          · have hb110p := hb110.h; try simp only [al_ete, al_dfn, Bool.not_eq_true', Bool.not_eq_false', al_ne, Bool.not_not, al_nn] at hb110p
                            have ho5 : o = 21 := by omega
                            refine W_skip ?_
                            refine thn_normal ?_
                            refine W_condT rfl hb110.h ?_
                            refine W_seq ?_
                            refine W_region rfl ?_
                            refine WO_p (PS_assign_int rfl) ?_
                            refine WO_p (PS_assign_int rfl) ?_
                            refine WO_p (PS_assign_bool rfl) ?_
                            refine WO_nil ?_
                            refine thn_normal ?_
                            refine W_ret ?_
                            refine inBlk_ret ?_
                            refine thn_ret ?_
                            refine bodyQ_ret3 Hvac.results111 rfl rfl rfl (.int _ _) (.int _ _) (.bool _) rfl rfl rfl ?_
                            first
                            | (subst ho5; exact ⟨(by repeat (first | assumption | exact Ext.refl _ | refine Ext.alloc ?_ _ | refine Ext.drew ?_ | refine Ext.setB ?_ (by first | omega | (simp only [size_alloc, size_setB, size_drew]; omega)) _ | refine Ext.trans ?_ (by assumption))), rfl⟩)
                            | (refine ⟨(by repeat (first | assumption | exact Ext.refl _ | refine Ext.alloc ?_ _ | refine Ext.drew ?_ | refine Ext.setB ?_ (by first | omega | (simp only [size_alloc, size_setB, size_drew]; omega)) _ | refine Ext.trans ?_ (by assumption))), ?_⟩
                               unfold ytakes ygives yknown
                               repeat (first | rw [if_pos (by omega)] | rw [if_neg (by omega)])
                               try (simp only [show o - 128 + 1 = o - 127 by omega, show o - 128 + 2 = o - 126 by omega, show o - 144 + 2 = o - 142 by omega, show o - 160 + 2 = o - 158 by omega]))
                          · have hb110p := hb110.h; try simp only [al_ete, al_dfn, Bool.not_eq_true', Bool.not_eq_false', al_ne, Bool.not_not, al_nn] at hb110p
                            refine W_seq ?_
                            refine W_region rfl ?_
                            refine WO_p (PS_eql rfl rfl) ?_
                            refine WO_p (PS_assign_bool rfl) ?_
                            refine WO_nil ?_
                            refine thn_normal ?_
                            refine W_if rfl (fun hb112 => ?_) (fun hb112 => ?_)
                            · have hb112p := hb112.h; try simp only [al_ete, al_dfn, Bool.not_eq_true', Bool.not_eq_false', al_ne, Bool.not_not, al_nn] at hb112p
                              have ho5 : o = 25 := by omega
                              refine W_skip ?_
                              refine thn_normal ?_
                              refine W_condT rfl hb112.h ?_
                              refine W_seq ?_
                              refine W_region rfl ?_
                              refine WO_p (PS_assign_int rfl) ?_
                              refine WO_p (PS_assign_int rfl) ?_
                              refine WO_p (PS_assign_bool rfl) ?_
                              refine WO_nil ?_
                              refine thn_normal ?_
                              refine W_ret ?_
                              refine inBlk_ret ?_
                              refine thn_ret ?_
                              refine bodyQ_ret3 Hvac.results111 rfl rfl rfl (.int _ _) (.int _ _) (.bool _) rfl rfl rfl ?_
                              first
                              | (subst ho5; exact ⟨(by repeat (first | assumption | exact Ext.refl _ | refine Ext.alloc ?_ _ | refine Ext.drew ?_ | refine Ext.setB ?_ (by first | omega | (simp only [size_alloc, size_setB, size_drew]; omega)) _ | refine Ext.trans ?_ (by assumption))), rfl⟩)
                              | (refine ⟨(by repeat (first | assumption | exact Ext.refl _ | refine Ext.alloc ?_ _ | refine Ext.drew ?_ | refine Ext.setB ?_ (by first | omega | (simp only [size_alloc, size_setB, size_drew]; omega)) _ | refine Ext.trans ?_ (by assumption))), ?_⟩
                                 unfold ytakes ygives yknown
                                 repeat (first | rw [if_pos (by omega)] | rw [if_neg (by omega)])
                                 try (simp only [show o - 128 + 1 = o - 127 by omega, show o - 128 + 2 = o - 126 by omega, show o - 144 + 2 = o - 142 by omega, show o - 160 + 2 = o - 158 by omega]))
                            · have hb112p := hb112.h; try simp only [al_ete, al_dfn, Bool.not_eq_true', Bool.not_eq_false', al_ne, Bool.not_not, al_nn] at hb112p
                              refine W_seq ?_
                              refine W_region rfl ?_
                              refine WO_p (PS_eql rfl rfl) ?_
                              refine WO_p (PS_assign_bool rfl) ?_
                              refine WO_nil ?_
                              refine thn_normal ?_
                              refine W_if rfl (fun hb114 => ?_) (fun hb114 => ?_)
                              · have hb114p := hb114.h; try simp only [al_ete, al_dfn, Bool.not_eq_true', Bool.not_eq_false', al_ne, Bool.not_not, al_nn] at hb114p
                                have ho5 : o = 49 := by omega
                                refine W_skip ?_
                                refine thn_normal ?_
                                refine W_condT rfl hb114.h ?_
                                refine W_seq ?_
                                refine W_region rfl ?_
                                refine WO_p (PS_assign_int rfl) ?_
                                refine WO_p (PS_assign_int rfl) ?_
                                refine WO_p (PS_assign_bool rfl) ?_
                                refine WO_nil ?_
                                refine thn_normal ?_
                                refine W_ret ?_
                                refine inBlk_ret ?_
                                refine thn_ret ?_
                                refine bodyQ_ret3 Hvac.results111 rfl rfl rfl (.int _ _) (.int _ _) (.bool _) rfl rfl rfl ?_
                                first
                                | (subst ho5; exact ⟨(by repeat (first | assumption | exact Ext.refl _ | refine Ext.alloc ?_ _ | refine Ext.drew ?_ | refine Ext.setB ?_ (by first | omega | (simp only [size_alloc, size_setB, size_drew]; omega)) _ | refine Ext.trans ?_ (by assumption))), rfl⟩)
                                | (refine ⟨(by repeat (first | assumption | exact Ext.refl _ | refine Ext.alloc ?_ _ | refine Ext.drew ?_ | refine Ext.setB ?_ (by first | omega | (simp only [size_alloc, size_setB, size_drew]; omega)) _ | refine Ext.trans ?_ (by assumption))), ?_⟩
                                   unfold ytakes ygives yknown
                                   repeat (first | rw [if_pos (by omega)] | rw [if_neg (by omega)])
                                   try (simp only [show o - 128 + 1 = o - 127 by omega, show o - 128 + 2 = o - 126 by omega, show o - 144 + 2 = o - 142 by omega, show o - 160 + 2 = o - 158 by omega]))
                              · have hb114p := hb114.h; try simp only [al_ete, al_dfn, Bool.not_eq_true', Bool.not_eq_false', al_ne, Bool.not_not, al_nn] at hb114p
                                refine W_seq ?_
                                refine W_region rfl ?_
                                refine WO_p (PS_eql rfl rfl) ?_
                                refine WO_p (PS_assign_bool rfl) ?_
                                refine WO_nil ?_
                                refine thn_normal ?_
                                refine W_if rfl (fun hb116 => ?_) (fun hb116 => ?_)
                                · have hb116p := hb116.h; try simp only [al_ete, al_dfn, Bool.not_eq_true', Bool.not_eq_false', al_ne, Bool.not_not, al_nn] at hb116p
                                  have ho5 : o = 53 := by omega
                                  refine W_skip ?_
                                  refine thn_normal ?_
                                  refine W_condT rfl hb116.h ?_
                                  refine W_seq ?_
                                  refine W_region rfl ?_
                                  refine WO_p (PS_assign_int rfl) ?_
                                  refine WO_p (PS_assign_int rfl) ?_
                                  refine WO_p (PS_assign_bool rfl) ?_
                                  refine WO_nil ?_
                                  refine thn_normal ?_
                                  refine W_ret ?_
                                  refine inBlk_ret ?_
                                  refine thn_ret ?_
                                  refine bodyQ_ret3 Hvac.results111 rfl rfl rfl (.int _ _) (.int _ _) (.bool _) rfl rfl rfl ?_
                                  first
                                  | (subst ho5; exact ⟨(by repeat (first | assumption | exact Ext.refl _ | refine Ext.alloc ?_ _ | refine Ext.drew ?_ | refine Ext.setB ?_ (by first | omega | (simp only [size_alloc, size_setB, size_drew]; omega)) _ | refine Ext.trans ?_ (by assumption))), rfl⟩)
                                  | (refine ⟨(by repeat (first | assumption | exact Ext.refl _ | refine Ext.alloc ?_ _ | refine Ext.drew ?_ | refine Ext.setB ?_ (by first | omega | (simp only [size_alloc, size_setB, size_drew]; omega)) _ | refine Ext.trans ?_ (by assumption))), ?_⟩
                                     unfold ytakes ygives yknown
                                     repeat (first | rw [if_pos (by omega)] | rw [if_neg (by omega)])
                                     try (simp only [show o - 128 + 1 = o - 127 by omega, show o - 128 + 2 = o - 126 by omega, show o - 144 + 2 = o - 142 by omega, show o - 160 + 2 = o - 158 by omega]))
                                · have hb116p := hb116.h; try simp only [al_ete, al_dfn, Bool.not_eq_true', Bool.not_eq_false', al_ne, Bool.not_not, al_nn] at hb116p
                                  refine W_seq ?_
                                  refine W_region rfl ?_
                                  refine WO_p (PS_eql rfl rfl) ?_
                                  refine WO_p (PS_assign_bool rfl) ?_
                                  refine WO_nil ?_
                                  refine thn_normal ?_
                                  refine W_if rfl (fun hb118 => ?_) (fun hb118 => ?_)
                                  · have hb118p := hb118.h; try simp only [al_ete, al_dfn, Bool.not_eq_true', Bool.not_eq_false', al_ne, Bool.not_not, al_nn] at hb118p
                                    have ho5 : o = 59 := by omega
                                    refine W_skip ?_
                                    refine thn_normal ?_
                                    refine W_condT rfl hb118.h ?_
                                    refine W_seq ?_
                                    refine W_region rfl ?_
                                    refine WO_p (PS_assign_int rfl) ?_
                                    refine WO_p (PS_assign_int rfl) ?_
                                    refine WO_p (PS_assign_bool rfl) ?_
                                    refine WO_nil ?_
                                    refine thn_normal ?_
                                    refine W_ret ?_
                                    refine inBlk_ret ?_
                                    refine thn_ret ?_
                                    refine bodyQ_ret3 Hvac.results111 rfl rfl rfl (.int _ _) (.int _ _) (.bool _) rfl rfl rfl ?_
                                    first
                                    | (subst ho5; exact ⟨(by repeat (first | assumption | exact Ext.refl _ | refine Ext.alloc ?_ _ | refine Ext.drew ?_ | refine Ext.setB ?_ (by first | omega | (simp only [size_alloc, size_setB, size_drew]; omega)) _ | refine Ext.trans ?_ (by assumption))), rfl⟩)
                                    | (refine ⟨(by repeat (first | assumption | exact Ext.refl _ | refine Ext.alloc ?_ _ | refine Ext.drew ?_ | refine Ext.setB ?_ (by first | omega | (simp only [size_alloc, size_setB, size_drew]; omega)) _ | refine Ext.trans ?_ (by assumption))), ?_⟩
                                       unfold ytakes ygives yknown
                                       repeat (first | rw [if_pos (by omega)] | rw [if_neg (by omega)])
                                       try (simp only [show o - 128 + 1 = o - 127 by omega, show o - 128 + 2 = o - 126 by omega, show o - 144 + 2 = o - 142 by omega, show o - 160 + 2 = o - 158 by omega]))
                                  · have hb118p := hb118.h; try simp only [al_ete, al_dfn, Bool.not_eq_true', Bool.not_eq_false', al_ne, Bool.not_not, al_nn] at hb118p
                                    refine W_seq ?_
                                    refine W_region rfl ?_
                                    refine WO_p (PS_eql rfl rfl) ?_
                                    refine WO_p (PS_assign_bool rfl) ?_
                                    refine WO_nil ?_
                                    refine thn_normal ?_
                                    refine W_if rfl (fun hb120 => ?_) (fun hb120 => ?_)
                                    · have hb120p := hb120.h; try simp only [al_ete, al_dfn, Bool.not_eq_true', Bool.not_eq_false', al_ne, Bool.not_not, al_nn] at hb120p
                                      have ho5 : o = 63 := by omega
                                      refine W_skip ?_
                                      refine thn_normal ?_
                                      refine W_condT rfl hb120.h ?_
                                      refine W_seq ?_
                                      refine W_region rfl ?_
                                      refine WO_p (PS_assign_int rfl) ?_
                                      refine WO_p (PS_assign_int rfl) ?_
                                      refine WO_p (PS_assign_bool rfl) ?_
                                      refine WO_nil ?_
                                      refine thn_normal ?_
                                      refine W_ret ?_
                                      refine inBlk_ret ?_
                                      refine thn_ret ?_
                                      refine bodyQ_ret3 Hvac.results111 rfl rfl rfl (.int _ _) (.int _ _) (.bool _) rfl rfl rfl ?_
                                      first
                                      | (subst ho5; exact ⟨(by repeat (first | assumption | exact Ext.refl _ | refine Ext.alloc ?_ _ | refine Ext.drew ?_ | refine Ext.setB ?_ (by first | omega | (simp only [size_alloc, size_setB, size_drew]; omega)) _ | refine Ext.trans ?_ (by assumption))), rfl⟩)
                                      | (refine ⟨(by repeat (first | assumption | exact Ext.refl _ | refine Ext.alloc ?_ _ | refine Ext.drew ?_ | refine Ext.setB ?_ (by first | omega | (simp only [size_alloc, size_setB, size_drew]; omega)) _ | refine Ext.trans ?_ (by assumption))), ?_⟩
                                         unfold ytakes ygives yknown
                                         repeat (first | rw [if_pos (by omega)] | rw [if_neg (by omega)])
                                         try (simp only [show o - 128 + 1 = o - 127 by omega, show o - 128 + 2 = o - 126 by omega, show o - 144 + 2 = o - 142 by omega, show o - 160 + 2 = o - 158 by omega]))
                                    · have hb120p := hb120.h; try simp only [al_ete, al_dfn, Bool.not_eq_true', Bool.not_eq_false', al_ne, Bool.not_not, al_nn] at hb120p
                                      refine W_seq ?_
                                      refine W_region rfl ?_
                                      refine WO_p (PS_eql rfl rfl) ?_
                                      refine WO_p (PS_assign_bool rfl) ?_
                                      refine WO_nil ?_
                                      refine thn_normal ?_
                                      refine W_if rfl (fun hb122 => ?_) (fun hb122 => ?_)
                                      · have hb122p := hb122.h; try simp only [al_ete, al_dfn, Bool.not_eq_true', Bool.not_eq_false', al_ne, Bool.not_not, al_nn] at hb122p
                                        have ho5 : o = 64 := by omega
                                        refine W_skip ?_
                                        refine thn_normal ?_
                                        refine W_condT rfl hb122.h ?_
                                        refine W_seq ?_
                                        refine W_region rfl ?_
                                        refine WO_p (PS_assign_int rfl) ?_
                                        refine WO_p (PS_assign_int rfl) ?_
                                        refine WO_p (PS_assign_bool rfl) ?_
                                        refine WO_nil ?_
                                        refine thn_normal ?_
                                        refine W_ret ?_
                                        refine inBlk_ret ?_
                                        refine thn_ret ?_
                                        refine bodyQ_ret3 Hvac.results111 rfl rfl rfl (.int _ _) (.int _ _) (.bool _) rfl rfl rfl ?_
                                        first
                                        | (subst ho5; exact ⟨(by repeat (first | assumption | exact Ext.refl _ | refine Ext.alloc ?_ _ | refine Ext.drew ?_ | refine Ext.setB ?_ (by first | omega | (simp only [size_alloc, size_setB, size_drew]; omega)) _ | refine Ext.trans ?_ (by assumption))), rfl⟩)
                                        | (refine ⟨(by repeat (first | assumption | exact Ext.refl _ | refine Ext.alloc ?_ _ | refine Ext.drew ?_ | refine Ext.setB ?_ (by first | omega | (simp only [size_alloc, size_setB, size_drew]; omega)) _ | refine Ext.trans ?_ (by assumption))), ?_⟩
                                           unfold ytakes ygives yknown
                                           repeat (first | rw [if_pos (by omega)] | rw [if_neg (by omega)])
                                           try (simp only [show o - 128 + 1 = o - 127 by omega, show o - 128 + 2 = o - 126 by omega, show o - 144 + 2 = o - 142 by omega, show o - 160 + 2 = o - 158 by omega]))
                                      · have hb122p := hb122.h; try simp only [al_ete, al_dfn, Bool.not_eq_true', Bool.not_eq_false', al_ne, Bool.not_not, al_nn] at hb122p
                                        refine W_seq ?_
                                        refine W_region rfl ?_
                                        refine WO_p (PS_eql rfl rfl) ?_
                                        refine WO_p (PS_assign_bool rfl) ?_
                                        refine WO_nil ?_
                                        refine thn_normal ?_
                                        refine W_if rfl (fun hb124 => ?_) (fun hb124 => ?_)
                                        · have hb124p := hb124.h; try simp only [al_ete, al_dfn, Bool.not_eq_true', Bool.not_eq_false', al_ne, Bool.not_not, al_nn] at hb124p
                                          have ho5 : o = 81 := by omega
                                          refine W_skip ?_
                                          refine thn_normal ?_
                                          refine W_condT rfl hb124.h ?_
                                          refine W_seq ?_
                                          refine W_region rfl ?_
                                          refine WO_p (PS_assign_int rfl) ?_
                                          refine WO_p (PS_assign_int rfl) ?_
                                          refine WO_p (PS_assign_bool rfl) ?_
                                          refine WO_nil ?_
                                          refine thn_normal ?_
                                          refine W_ret ?_
                                          refine inBlk_ret ?_
                                          refine thn_ret ?_
                                          refine bodyQ_ret3 Hvac.results111 rfl rfl rfl (.int _ _) (.int _ _) (.bool _) rfl rfl rfl ?_
                                          first
                                          | (subst ho5; exact ⟨(by repeat (first | assumption | exact Ext.refl _ | refine Ext.alloc ?_ _ | refine Ext.drew ?_ | refine Ext.setB ?_ (by first | omega | (simp only [size_alloc, size_setB, size_drew]; omega)) _ | refine Ext.trans ?_ (by assumption))), rfl⟩)
                                          | (refine ⟨(by repeat (first | assumption | exact Ext.refl _ | refine Ext.alloc ?_ _ | refine Ext.drew ?_ | refine Ext.setB ?_ (by first | omega | (simp only [size_alloc, size_setB, size_drew]; omega)) _ | refine Ext.trans ?_ (by assumption))), ?_⟩
                                             unfold ytakes ygives yknown
                                             repeat (first | rw [if_pos (by omega)] | rw [if_neg (by omega)])
                                             try (simp only [show o - 128 + 1 = o - 127 by omega, show o - 128 + 2 = o - 126 by omega, show o - 144 + 2 = o - 142 by omega, show o - 160 + 2 = o - 158 by omega]))
                                        · have hb124p := hb124.h; try simp only [al_ete, al_dfn, Bool.not_eq_true', Bool.not_eq_false', al_ne, Bool.not_not, al_nn] at hb124p
                                          refine W_seq ?_
                                          refine W_region rfl ?_
                                          refine WO_p (PS_eql rfl rfl) ?_
                                          refine WO_p (PS_assign_bool rfl) ?_
                                          refine WO_nil ?_
                                          refine thn_normal ?_
                                          refine W_if rfl (fun hb126 => ?_) (fun hb126 => ?_)
                                          · have hb126p := hb126.h; try simp only [al_ete, al_dfn, Bool.not_eq_true', Bool.not_eq_false', al_ne, Bool.not_not, al_nn] at hb126p
                                            have ho5 : o = 84 := by omega
                                            refine W_skip ?_
                                            refine thn_normal ?_
                                            refine W_condT rfl hb126.h ?_
                                            refine W_seq ?_
                                            refine W_region rfl ?_
                                            refine WO_p (PS_assign_int rfl) ?_
                                            refine WO_p (PS_assign_int rfl) ?_
                                            refine WO_p (PS_assign_bool rfl) ?_
                                            refine WO_nil ?_
                                            refine thn_normal ?_
                                            refine W_ret ?_
                                            refine inBlk_ret ?_
                                            refine thn_ret ?_
                                            refine bodyQ_ret3 Hvac.results111 rfl rfl rfl (.int _ _) (.int _ _) (.bool _) rfl rfl rfl ?_
                                            first
                                            | (subst ho5; exact ⟨(by repeat (first | assumption | exact Ext.refl _ | refine Ext.alloc ?_ _ | refine Ext.drew ?_ | refine Ext.setB ?_ (by first | omega | (simp only [size_alloc, size_setB, size_drew]; omega)) _ | refine Ext.trans ?_ (by assumption))), rfl⟩)
                                            | (refine ⟨(by repeat (first | assumption | exact Ext.refl _ | refine Ext.alloc ?_ _ | refine Ext.drew ?_ | refine Ext.setB ?_ (by first | omega | (simp only [size_alloc, size_setB, size_drew]; omega)) _ | refine Ext.trans ?_ (by assumption))), ?_⟩
                                               unfold ytakes ygives yknown
                                               repeat (first | rw [if_pos (by omega)] | rw [if_neg (by omega)])
                                               try (simp only [show o - 128 + 1 = o - 127 by omega, show o - 128 + 2 = o - 126 by omega, show o - 144 + 2 = o - 142 by omega, show o - 160 + 2 = o - 158 by omega]))
                                          · have hb126p := hb126.h; try simp only [al_ete, al_dfn, Bool.not_eq_true', Bool.not_eq_false', al_ne, Bool.not_not, al_nn] at hb126p
                                            refine W_region rfl ?_
                                            refine WO_p (PS_eql rfl rfl) ?_
                                            refine WO_p (PS_assign_bool rfl) ?_
                                            refine WO_nil ?_
                                            refine thn_normal ?_
                                            refine W_if rfl (fun hb128 => ?_) (fun hb128 => ?_)
                                            · have hb128p := hb128.h; try simp only [al_ete, al_dfn, Bool.not_eq_true', Bool.not_eq_false', al_ne, Bool.not_not, al_nn] at hb128p
                                              have ho5 : o = 92 := by omega
                                              refine W_seq ?_
                                              refine W_region rfl ?_
                                              refine WO_p (PS_assign_int rfl) ?_
                                              refine WO_p (PS_assign_int rfl) ?_
                                              refine WO_p (PS_assign_bool rfl) ?_
                                              refine WO_nil ?_
                                              refine thn_normal ?_
                                              refine W_ret ?_
                                              refine inBlk_ret ?_
                                              refine thn_ret ?_
                                              refine bodyQ_ret3 Hvac.results111 rfl rfl rfl (.int _ _) (.int _ _) (.bool _) rfl rfl rfl ?_
                                              first
                                              | (subst ho5; exact ⟨(by repeat (first | assumption | exact Ext.refl _ | refine Ext.alloc ?_ _ | refine Ext.drew ?_ | refine Ext.setB ?_ (by first | omega | (simp only [size_alloc, size_setB, size_drew]; omega)) _ | refine Ext.trans ?_ (by assumption))), rfl⟩)
                                              | (refine ⟨(by repeat (first | assumption | exact Ext.refl _ | refine Ext.alloc ?_ _ | refine Ext.drew ?_ | refine Ext.setB ?_ (by first | omega | (simp only [size_alloc, size_setB, size_drew]; omega)) _ | refine Ext.trans ?_ (by assumption))), ?_⟩
                                                 unfold ytakes ygives yknown
                                                 repeat (first | rw [if_pos (by omega)] | rw [if_neg (by omega)])
                                                 try (simp only [show o - 128 + 1 = o - 127 by omega, show o - 128 + 2 = o - 126 by omega, show o - 144 + 2 = o - 142 by omega, show o - 160 + 2 = o - 158 by omega]))
                                            · have hb128p := hb128.h; try simp only [al_ete, al_dfn, Bool.not_eq_true', Bool.not_eq_false', al_ne, Bool.not_not, al_nn] at hb128p
                                              refine W_seq ?_
                                              refine W_seq ?_
                                              refine W_region rfl ?_
                                              refine WO_p (PS_eql rfl rfl) ?_
                                              refine WO_p (PS_assign_bool rfl) ?_
                                              refine WO_nil ?_
                                              refine thn_normal ?_
                                              refine W_if rfl (fun hb130 => ?_) (fun hb130 => ?_)
                                              · have hb130p := hb130.h; try simp only [al_ete, al_dfn, Bool.not_eq_true', Bool.not_eq_false', al_ne, Bool.not_not, al_nn] at hb130p
                                                have ho5 : o = 82 := by omega
                                                refine W_skip ?_
                                                refine thn_normal ?_
                                                refine W_condT rfl hb130.h ?_
                                                refine W_seq ?_
                                                refine W_region rfl ?_
                                                refine WO_p (PS_assign_int rfl) ?_
                                                refine WO_p (PS_assign_int rfl) ?_
                                                refine WO_p (PS_assign_bool rfl) ?_
                                                refine WO_nil ?_
                                                refine thn_normal ?_
                                                refine W_ret ?_
                                                refine inBlk_ret ?_
                                                refine thn_ret ?_
                                                refine bodyQ_ret3 Hvac.results111 rfl rfl rfl (.int _ _) (.int _ _) (.bool _) rfl rfl rfl ?_
                                                first
                                                | (subst ho5; exact ⟨(by repeat (first | assumption | exact Ext.refl _ | refine Ext.alloc ?_ _ | refine Ext.drew ?_ | refine Ext.setB ?_ (by first | omega | (simp only [size_alloc, size_setB, size_drew]; omega)) _ | refine Ext.trans ?_ (by assumption))), rfl⟩)
                                                | (refine ⟨(by repeat (first | assumption | exact Ext.refl _ | refine Ext.alloc ?_ _ | refine Ext.drew ?_ | refine Ext.setB ?_ (by first | omega | (simp only [size_alloc, size_setB, size_drew]; omega)) _ | refine Ext.trans ?_ (by assumption))), ?_⟩
                                                   unfold ytakes ygives yknown
                                                   repeat (first | rw [if_pos (by omega)] | rw [if_neg (by omega)])
                                                   try (simp only [show o - 128 + 1 = o - 127 by omega, show o - 128 + 2 = o - 126 by omega, show o - 144 + 2 = o - 142 by omega, show o - 160 + 2 = o - 158 by omega]))
                                              · have hb130p := hb130.h; try simp only [al_ete, al_dfn, Bool.not_eq_true', Bool.not_eq_false', al_ne, Bool.not_not, al_nn] at hb130p
                                                refine W_seq ?_
                                                refine W_region rfl ?_
                                                refine WO_p (PS_eql rfl rfl) ?_
                                                refine WO_p (PS_assign_bool rfl) ?_
                                                refine WO_nil ?_
                                                refine thn_normal ?_
                                                refine W_if rfl (fun hb132 => ?_) (fun hb132 => ?_)
                                                · have hb132p := hb132.h; try simp only [al_ete, al_dfn, Bool.not_eq_true', Bool.not_eq_false', al_ne, Bool.not_not, al_nn] at hb132p
                                                  have ho5 : o = 83 := by omega
                                                  refine W_skip ?_
                                                  refine thn_normal ?_
                                                  refine W_condT rfl hb132.h ?_
                                                  refine W_seq ?_
                                                  refine W_region rfl ?_
                                                  refine WO_p (PS_assign_int rfl) ?_
                                                  refine WO_p (PS_assign_int rfl) ?_
                                                  refine WO_p (PS_assign_bool rfl) ?_
                                                  refine WO_nil ?_
                                                  refine thn_normal ?_
                                                  refine W_ret ?_
                                                  refine inBlk_ret ?_
                                                  refine thn_ret ?_
                                                  refine bodyQ_ret3 Hvac.results111 rfl rfl rfl (.int _ _) (.int _ _) (.bool _) rfl rfl rfl ?_
                                                  first
                                                  | (subst ho5; exact ⟨(by repeat (first | assumption | exact Ext.refl _ | refine Ext.alloc ?_ _ | refine Ext.drew ?_ | refine Ext.setB ?_ (by first | omega | (simp only [size_alloc, size_setB, size_drew]; omega)) _ | refine Ext.trans ?_ (by assumption))), rfl⟩)
                                                  | (refine ⟨(by repeat (first | assumption | exact Ext.refl _ | refine Ext.alloc ?_ _ | refine Ext.drew ?_ | refine Ext.setB ?_ (by first | omega | (simp only [size_alloc, size_setB, size_drew]; omega)) _ | refine Ext.trans ?_ (by assumption))), ?_⟩
                                                     unfold ytakes ygives yknown
                                                     repeat (first | rw [if_pos (by omega)] | rw [if_neg (by omega)])
                                                     try (simp only [show o - 128 + 1 = o - 127 by omega, show o - 128 + 2 = o - 126 by omega, show o - 144 + 2 = o - 142 by omega, show o - 160 + 2 = o - 158 by omega]))
                                                · have hb132p := hb132.h; try simp only [al_ete, al_dfn, Bool.not_eq_true', Bool.not_eq_false', al_ne, Bool.not_not, al_nn] at hb132p
                                                  refine W_seq ?_
                                                  refine W_region rfl ?_
                                                  refine WO_p (PS_eql rfl rfl) ?_
                                                  refine WO_p (PS_assign_bool rfl) ?_
                                                  refine WO_nil ?_
                                                  refine thn_normal ?_
                                                  refine W_if rfl (fun hb134 => ?_) (fun hb134 => ?_)
                                                  · have hb134p := hb134.h; try simp only [al_ete, al_dfn, Bool.not_eq_true', Bool.not_eq_false', al_ne, Bool.not_not, al_nn] at hb134p
                                                    have ho5 : o = 85 := by omega
                                                    refine W_skip ?_
                                                    refine thn_normal ?_
                                                    refine W_condT rfl hb134.h ?_
                                                    refine W_seq ?_
                                                    refine W_region rfl ?_
                                                    refine WO_p (PS_assign_int rfl) ?_
                                                    refine WO_p (PS_assign_int rfl) ?_
                                                    refine WO_p (PS_assign_bool rfl) ?_
                                                    refine WO_nil ?_
                                                    refine thn_normal ?_
                                                    refine W_ret ?_
                                                    refine inBlk_ret ?_
                                                    refine thn_ret ?_
                                                    refine bodyQ_ret3 Hvac.results111 rfl rfl rfl (.int _ _) (.int _ _) (.bool _) rfl rfl rfl ?_
                                                    first
                                                    | (subst ho5; exact ⟨(by repeat (first | assumption | exact Ext.refl _ | refine Ext.alloc ?_ _ | refine Ext.drew ?_ | refine Ext.setB ?_ (by first | omega | (simp only [size_alloc, size_setB, size_drew]; omega)) _ | refine Ext.trans ?_ (by assumption))), rfl⟩)
                                                    | (refine ⟨(by repeat (first | assumption | exact Ext.refl _ | refine Ext.alloc ?_ _ | refine Ext.drew ?_ | refine Ext.setB ?_ (by first | omega | (simp only [size_alloc, size_setB, size_drew]; omega)) _ | refine Ext.trans ?_ (by assumption))), ?_⟩
                                                       unfold ytakes ygives yknown
                                                       repeat (first | rw [if_pos (by omega)] | rw [if_neg (by omega)])
                                                       try (simp only [show o - 128 + 1 = o - 127 by omega, show o - 128 + 2 = o - 126 by omega, show o - 144 + 2 = o - 142 by omega, show o - 160 + 2 = o - 158 by omega]))
                                                  · have hb134p := hb134.h; try simp only [al_ete, al_dfn, Bool.not_eq_true', Bool.not_eq_false', al_ne, Bool.not_not, al_nn] at hb134p
                                                    refine W_seq ?_
                                                    refine W_region rfl ?_
                                                    refine WO_p (PS_eql rfl rfl) ?_
                                                    refine WO_p (PS_assign_bool rfl) ?_
                                                    refine WO_nil ?_
                                                    refine thn_normal ?_
                                                    refine W_if rfl (fun hb136 => ?_) (fun hb136 => ?_)
                                                    · have hb136p := hb136.h; try simp only [al_ete, al_dfn, Bool.not_eq_true', Bool.not_eq_false', al_ne, Bool.not_not, al_nn] at hb136p
                                                      have ho5 : o = 93 := by omega
                                                      refine W_skip ?_
                                                      refine thn_normal ?_
                                                      refine W_condT rfl hb136.h ?_
                                                      refine W_seq ?_
                                                      refine W_region rfl ?_
                                                      refine WO_p (PS_assign_int rfl) ?_
                                                      refine WO_p (PS_assign_int rfl) ?_
                                                      refine WO_p (PS_assign_bool rfl) ?_
                                                      refine WO_nil ?_
                                                      refine thn_normal ?_
                                                      refine W_ret ?_
                                                      refine inBlk_ret ?_
                                                      refine thn_ret ?_
                                                      refine bodyQ_ret3 Hvac.results111 rfl rfl rfl (.int _ _) (.int _ _) (.bool _) rfl rfl rfl ?_
                                                      first
                                                      | (subst ho5; exact ⟨(by repeat (first | assumption | exact Ext.refl _ | refine Ext.alloc ?_ _ | refine Ext.drew ?_ | refine Ext.setB ?_ (by first | omega | (simp only [size_alloc, size_setB, size_drew]; omega)) _ | refine Ext.trans ?_ (by assumption))), rfl⟩)
                                                      | (refine ⟨(by repeat (first | assumption | exact Ext.refl _ | refine Ext.alloc ?_ _ | refine Ext.drew ?_ | refine Ext.setB ?_ (by first | omega | (simp only [size_alloc, size_setB, size_drew]; omega)) _ | refine Ext.trans ?_ (by assumption))), ?_⟩
                                                         unfold ytakes ygives yknown
                                                         repeat (first | rw [if_pos (by omega)] | rw [if_neg (by omega)])
                                                         try (simp only [show o - 128 + 1 = o - 127 by omega, show o - 128 + 2 = o - 126 by omega, show o - 144 + 2 = o - 142 by omega, show o - 160 + 2 = o - 158 by omega]))
                                                    · have hb136p := hb136.h; try simp only [al_ete, al_dfn, Bool.not_eq_true', Bool.not_eq_false', al_ne, Bool.not_not, al_nn] at hb136p
                                                      refine W_seq ?_
                                                      refine W_region rfl ?_
                                                      refine WO_p (PS_eql rfl rfl) ?_
                                                      refine WO_p (PS_assign_bool rfl) ?_
                                                      refine WO_nil ?_
                                                      refine thn_normal ?_
                                                      refine W_if rfl (fun hb138 => ?_) (fun hb138 => ?_)
                                                      · have hb138p := hb138.h; try simp only [al_ete, al_dfn, Bool.not_eq_true', Bool.not_eq_false', al_ne, Bool.not_not, al_nn] at hb138p
                                                        have ho5 : o = 87 := by omega
                                                        refine W_skip ?_
                                                        refine thn_normal ?_
                                                        refine W_condT rfl hb138.h ?_
                                                        refine W_seq ?_
                                                        refine W_region rfl ?_
                                                        refine WO_p (PS_assign_int rfl) ?_
                                                        refine WO_p (PS_assign_int rfl) ?_
                                                        refine WO_p (PS_assign_bool rfl) ?_
                                                        refine WO_nil ?_
                                                        refine thn_normal ?_
                                                        refine W_ret ?_
                                                        refine inBlk_ret ?_
                                                        refine thn_ret ?_
                                                        refine bodyQ_ret3 Hvac.results111 rfl rfl rfl (.int _ _) (.int _ _) (.bool _) rfl rfl rfl ?_
                                                        first
                                                        | (subst ho5; exact ⟨(by repeat (first | assumption | exact Ext.refl _ | refine Ext.alloc ?_ _ | refine Ext.drew ?_ | refine Ext.setB ?_ (by first | omega | (simp only [size_alloc, size_setB, size_drew]; omega)) _ | refine Ext.trans ?_ (by assumption))), rfl⟩)
                                                        | (refine ⟨(by repeat (first | assumption | exact Ext.refl _ | refine Ext.alloc ?_ _ | refine Ext.drew ?_ | refine Ext.setB ?_ (by first | omega | (simp only [size_alloc, size_setB, size_drew]; omega)) _ | refine Ext.trans ?_ (by assumption))), ?_⟩
                                                           unfold ytakes ygives yknown
                                                           repeat (first | rw [if_pos (by omega)] | rw [if_neg (by omega)])
                                                           try (simp only [show o - 128 + 1 = o - 127 by omega, show o - 128 + 2 = o - 126 by omega, show o - 144 + 2 = o - 142 by omega, show o - 160 + 2 = o - 158 by omega]))
                                                      · have hb138p := hb138.h; try simp only [al_ete, al_dfn, Bool.not_eq_true', Bool.not_eq_false', al_ne, Bool.not_not, al_nn] at hb138p
                                                        refine W_seq ?_
                                                        refine W_region rfl ?_
                                                        refine WO_p (PS_eql rfl rfl) ?_
                                                        refine WO_p (PS_assign_bool rfl) ?_
                                                        refine WO_nil ?_
                                                        refine thn_normal ?_
                                                        refine W_if rfl (fun hb140 => ?_) (fun hb140 => ?_)
                                                        · have hb140p := hb140.h; try simp only [al_ete, al_dfn, Bool.not_eq_true', Bool.not_eq_false', al_ne, Bool.not_not, al_nn] at hb140p
                                                          exfalso; omega
                                                        · have hb140p := hb140.h; try simp only [al_ete, al_dfn, Bool.not_eq_true', Bool.not_eq_false', al_ne, Bool.not_not, al_nn] at hb140p
                                                          refine W_region rfl ?_
                                                          refine WO_p (PS_eql rfl rfl) ?_
                                                          refine WO_p (PS_assign_bool rfl) ?_
                                                          refine WO_nil ?_
                                                          refine thn_normal ?_
                                                          refine W_if rfl (fun hb142 => ?_) (fun hb142 => ?_)
                                                          · have hb142p := hb142.h; try simp only [al_ete, al_dfn, Bool.not_eq_true', Bool.not_eq_false', al_ne, Bool.not_not, al_nn] at hb142p
                                                            exfalso; omega
                                                          · have hb142p := hb142.h; try simp only [al_ete, al_dfn, Bool.not_eq_true', Bool.not_eq_false', al_ne, Bool.not_not, al_nn] at hb142p
                                                            refine W_seq ?_
                                                            refine W_seq ?_
                                                            refine W_region rfl ?_
                                                            refine WO_p (PS_eql rfl rfl) ?_
                                                            refine WO_p (PS_assign_bool rfl) ?_
                                                            refine WO_nil ?_
                                                            refine thn_normal ?_
                                                            refine W_if rfl (fun hb144 => ?_) (fun hb144 => ?_)
                                                            · have hb144p := hb144.h; try simp only [al_ete, al_dfn, Bool.not_eq_true', Bool.not_eq_false', al_ne, Bool.not_not, al_nn] at hb144p
                                                              have ho5 : o = 55 := by omega
                                                              refine W_skip ?_
                                                              refine thn_normal ?_
                                                              refine W_condT rfl hb144.h ?_
                                                              refine W_seq ?_
                                                              refine W_region rfl ?_
                                                              refine WO_p (PS_assign_int rfl) ?_
                                                              refine WO_p (PS_assign_int rfl) ?_
                                                              refine WO_p (PS_assign_bool rfl) ?_
                                                              refine WO_nil ?_
                                                              refine thn_normal ?_
                                                              refine W_ret ?_
                                                              refine inBlk_ret ?_
                                                              refine thn_ret ?_
                                                              refine bodyQ_ret3 Hvac.results111 rfl rfl rfl (.int _ _) (.int _ _) (.bool _) rfl rfl rfl ?_
                                                              first
                                                              | (subst ho5; exact ⟨(by repeat (first | assumption | exact Ext.refl _ | refine Ext.alloc ?_ _ | refine Ext.drew ?_ | refine Ext.setB ?_ (by first | omega | (simp only [size_alloc, size_setB, size_drew]; omega)) _ | refine Ext.trans ?_ (by assumption))), rfl⟩)
                                                              | (refine ⟨(by repeat (first | assumption | exact Ext.refl _ | refine Ext.alloc ?_ _ | refine Ext.drew ?_ | refine Ext.setB ?_ (by first | omega | (simp only [size_alloc, size_setB, size_drew]; omega)) _ | refine Ext.trans ?_ (by assumption))), ?_⟩
                                                                 unfold ytakes ygives yknown
                                                                 repeat (first | rw [if_pos (by omega)] | rw [if_neg (by omega)])
                                                                 try (simp only [show o - 128 + 1 = o - 127 by omega, show o - 128 + 2 = o - 126 by omega, show o - 144 + 2 = o - 142 by omega, show o - 160 + 2 = o - 158 by omega]))
                                                            · have hb144p := hb144.h; try simp only [al_ete, al_dfn, Bool.not_eq_true', Bool.not_eq_false', al_ne, Bool.not_not, al_nn] at hb144p
                                                              refine W_seq ?_
                                                              refine W_region rfl ?_
                                                              refine WO_p (PS_eql rfl rfl) ?_
                                                              refine WO_p (PS_assign_bool rfl) ?_
                                                              refine WO_nil ?_
                                                              refine thn_normal ?_
                                                              refine W_if rfl (fun hb146 => ?_) (fun hb146 => ?_)
                                                              · have hb146p := hb146.h; try simp only [al_ete, al_dfn, Bool.not_eq_true', Bool.not_eq_false', al_ne, Bool.not_not, al_nn] at hb146p
                                                                have ho5 : o = 57 := by omega
                                                                refine W_skip ?_
                                                                refine thn_normal ?_
                                                                refine W_condT rfl hb146.h ?_
                                                                refine W_seq ?_
                                                                refine W_region rfl ?_
                                                                refine WO_p (PS_assign_int rfl) ?_
                                                                refine WO_p (PS_assign_int rfl) ?_
                                                                refine WO_p (PS_assign_bool rfl) ?_
                                                                refine WO_nil ?_
                                                                refine thn_normal ?_
                                                                refine W_ret ?_
                                                                refine inBlk_ret ?_
                                                                refine thn_ret ?_
                                                                refine bodyQ_ret3 Hvac.results111 rfl rfl rfl (.int _ _) (.int _ _) (.bool _) rfl rfl rfl ?_
                                                                first
                                                                | (subst ho5; exact ⟨(by repeat (first | assumption | exact Ext.refl _ | refine Ext.alloc ?_ _ | refine Ext.drew ?_ | refine Ext.setB ?_ (by first | omega | (simp only [size_alloc, size_setB, size_drew]; omega)) _ | refine Ext.trans ?_ (by assumption))), rfl⟩)
                                                                | (refine ⟨(by repeat (first | assumption | exact Ext.refl _ | refine Ext.alloc ?_ _ | refine Ext.drew ?_ | refine Ext.setB ?_ (by first | omega | (simp only [size_alloc, size_setB, size_drew]; omega)) _ | refine Ext.trans ?_ (by assumption))), ?_⟩
                                                                   unfold ytakes ygives yknown
                                                                   repeat (first | rw [if_pos (by omega)] | rw [if_neg (by omega)])
                                                                   try (simp only [show o - 128 + 1 = o - 127 by omega, show o - 128 + 2 = o - 126 by omega, show o - 144 + 2 = o - 142 by omega, show o - 160 + 2 = o - 158 by omega]))
                                                              · have hb146p := hb146.h; try simp only [al_ete, al_dfn, Bool.not_eq_true', Bool.not_eq_false', al_ne, Bool.not_not, al_nn] at hb146p
                                                                refine W_seq ?_
                                                                refine W_region rfl ?_
                                                                refine WO_p (PS_eql rfl rfl) ?_
                                                                refine WO_p (PS_assign_bool rfl) ?_
                                                                refine WO_nil ?_
                                                                refine thn_normal ?_
                                                                refine W_if rfl (fun hb148 => ?_) (fun hb148 => ?_)
                                                                · have hb148p := hb148.h; try simp only [al_ete, al_dfn, Bool.not_eq_true', Bool.not_eq_false', al_ne, Bool.not_not, al_nn] at hb148p
                                                                  have ho5 : o = 62 := by omega
                                                                  refine W_skip ?_
                                                                  refine thn_normal ?_
                                                                  refine W_condT rfl hb148.h ?_
                                                                  refine W_seq ?_
                                                                  refine W_region rfl ?_
                                                                  refine WO_p (PS_assign_int rfl) ?_
                                                                  refine WO_p (PS_assign_int rfl) ?_
                                                                  refine WO_p (PS_assign_bool rfl) ?_
                                                                  refine WO_nil ?_
                                                                  refine thn_normal ?_
                                                                  refine W_ret ?_
                                                                  refine inBlk_ret ?_
                                                                  refine thn_ret ?_
                                                                  refine bodyQ_ret3 Hvac.results111 rfl rfl rfl (.int _ _) (.int _ _) (.bool _) rfl rfl rfl ?_
                                                                  first
                                                                  | (subst ho5; exact ⟨(by repeat (first | assumption | exact Ext.refl _ | refine Ext.alloc ?_ _ | refine Ext.drew ?_ | refine Ext.setB ?_ (by first | omega | (simp only [size_alloc, size_setB, size_drew]; omega)) _ | refine Ext.trans ?_ (by assumption))), rfl⟩)
                                                                  | (refine ⟨(by repeat (first | assumption | exact Ext.refl _ | refine Ext.alloc ?_ _ | refine Ext.drew ?_ | refine Ext.setB ?_ (by first | omega | (simp only [size_alloc, size_setB, size_drew]; omega)) _ | refine Ext.trans ?_ (by assumption))), ?_⟩
                                                                     unfold ytakes ygives yknown
                                                                     repeat (first | rw [if_pos (by omega)] | rw [if_neg (by omega)])
                                                                     try (simp only [show o - 128 + 1 = o - 127 by omega, show o - 128 + 2 = o - 126 by omega, show o - 144 + 2 = o - 142 by omega, show o - 160 + 2 = o - 158 by omega]))
                                                                · have hb148p := hb148.h; try simp only [al_ete, al_dfn, Bool.not_eq_true', Bool.not_eq_false', al_ne, Bool.not_not, al_nn] at hb148p
                                                                  refine W_region rfl ?_
                                                                  refine WO_p (PS_eql rfl rfl) ?_
                                                                  refine WO_p (PS_assign_bool rfl) ?_
                                                                  refine WO_nil ?_
                                                                  refine thn_normal ?_
                                                                  refine W_if rfl (fun hb150 => ?_) (fun hb150 => ?_)
                                                                  · have hb150p := hb150.h; try simp only [al_ete, al_dfn, Bool.not_eq_true', Bool.not_eq_false', al_ne, Bool.not_not, al_nn] at hb150p
                                                                    have ho5 : o = 94 := by omega
                                                                    refine W_seq ?_
                                                                    refine W_region rfl ?_
                                                                    refine WO_p (PS_assign_int rfl) ?_
                                                                    refine WO_p (PS_assign_int rfl) ?_
                                                                    refine WO_p (PS_assign_bool rfl) ?_
                                                                    refine WO_nil ?_
                                                                    refine thn_normal ?_
                                                                    refine W_ret ?_
                                                                    refine inBlk_ret ?_
                                                                    refine thn_ret ?_
                                                                    refine bodyQ_ret3 Hvac.results111 rfl rfl rfl (.int _ _) (.int _ _) (.bool _) rfl rfl rfl ?_
                                                                    first
                                                                    | (subst ho5; exact ⟨(by repeat (first | assumption | exact Ext.refl _ | refine Ext.alloc ?_ _ | refine Ext.drew ?_ | refine Ext.setB ?_ (by first | omega | (simp only [size_alloc, size_setB, size_drew]; omega)) _ | refine Ext.trans ?_ (by assumption))), rfl⟩)
                                                                    | (refine ⟨(by repeat (first | assumption | exact Ext.refl _ | refine Ext.alloc ?_ _ | refine Ext.drew ?_ | refine Ext.setB ?_ (by first | omega | (simp only [size_alloc, size_setB, size_drew]; omega)) _ | refine Ext.trans ?_ (by assumption))), ?_⟩
                                                                       unfold ytakes ygives yknown
                                                                       repeat (first | rw [if_pos (by omega)] | rw [if_neg (by omega)])
                                                                       try (simp only [show o - 128 + 1 = o - 127 by omega, show o - 128 + 2 = o - 126 by omega, show o - 144 + 2 = o - 142 by omega, show o - 160 + 2 = o - 158 by omega]))
                                                                  · have hb150p := hb150.h; try simp only [al_ete, al_dfn, Bool.not_eq_true', Bool.not_eq_false', al_ne, Bool.not_not, al_nn] at hb150p
                                                                    refine W_seq ?_
                                                                    refine W_region rfl ?_
                                                                    refine WO_p (PS_eql rfl rfl) ?_
                                                                    refine WO_p (PS_assign_bool rfl) ?_
                                                                    refine WO_nil ?_
                                                                    refine thn_normal ?_
                                                                    refine W_if rfl (fun hb152 => ?_) (fun hb152 => ?_)
                                                                    · have hb152p := hb152.h; try simp only [al_ete, al_dfn, Bool.not_eq_true', Bool.not_eq_false', al_ne, Bool.not_not, al_nn] at hb152p
                                                                      have ho5 : o = 60 := by omega
                                                                      refine W_seq ?_
                                                                      refine W_region rfl ?_
                                                                      refine WO_p (PS_assign_int rfl) ?_
                                                                      refine WO_p (PS_assign_int rfl) ?_
                                                                      refine WO_p (PS_assign_bool rfl) ?_
                                                                      refine WO_nil ?_
                                                                      refine thn_normal ?_
                                                                      refine W_ret ?_
                                                                      refine inBlk_ret ?_
                                                                      refine thn_ret ?_
                                                                      refine bodyQ_ret3 Hvac.results111 rfl rfl rfl (.int _ _) (.int _ _) (.bool _) rfl rfl rfl ?_
                                                                      first
                                                                      | (subst ho5; exact ⟨(by repeat (first | assumption | exact Ext.refl _ | refine Ext.alloc ?_ _ | refine Ext.drew ?_ | refine Ext.setB ?_ (by first | omega | (simp only [size_alloc, size_setB, size_drew]; omega)) _ | refine Ext.trans ?_ (by assumption))), rfl⟩)
                                                                      | (refine ⟨(by repeat (first | assumption | exact Ext.refl _ | refine Ext.alloc ?_ _ | refine Ext.drew ?_ | refine Ext.setB ?_ (by first | omega | (simp only [size_alloc, size_setB, size_drew]; omega)) _ | refine Ext.trans ?_ (by assumption))), ?_⟩
                                                                         unfold ytakes ygives yknown
                                                                         repeat (first | rw [if_pos (by omega)] | rw [if_neg (by omega)])
                                                                         try (simp only [show o - 128 + 1 = o - 127 by omega, show o - 128 + 2 = o - 126 by omega, show o - 144 + 2 = o - 142 by omega, show o - 160 + 2 = o - 158 by omega]))
                                                                    · have hb152p := hb152.h; try simp only [al_ete, al_dfn, Bool.not_eq_true', Bool.not_eq_false', al_ne, Bool.not_not, al_nn] at hb152p
                                                                      refine W_seq ?_
                                                                      refine W_region rfl ?_
                                                                      refine WO_p (PS_eql rfl rfl) ?_
                                                                      refine WO_p (PS_assign_bool rfl) ?_
                                                                      refine WO_nil ?_
                                                                      refine thn_normal ?_
                                                                      refine W_if rfl (fun hb154 => ?_) (fun hb154 => ?_)
                                                                      · have hb154p := hb154.h; try simp only [al_ete, al_dfn, Bool.not_eq_true', Bool.not_eq_false', al_ne, Bool.not_not, al_nn] at hb154p
                                                                        exfalso; omega
                                                                      · have hb154p := hb154.h; try simp only [al_ete, al_dfn, Bool.not_eq_true', Bool.not_eq_false', al_ne, Bool.not_not, al_nn] at hb154p
                                                                        refine W_seq ?_
                                                                        refine W_seq ?_
                                                                        refine W_region rfl ?_
                                                                        refine WO_p (PS_eql rfl rfl) ?_
                                                                        refine WO_p (PS_assign_bool rfl) ?_
                                                                        refine WO_nil ?_
                                                                        refine thn_normal ?_
                                                                        refine W_if rfl (fun hb156 => ?_) (fun hb156 => ?_)
                                                                        · have hb156p := hb156.h; try simp only [al_ete, al_dfn, Bool.not_eq_true', Bool.not_eq_false', al_ne, Bool.not_not, al_nn] at hb156p
                                                                          exfalso; omega
                                                                        · have hb156p := hb156.h; try simp only [al_ete, al_dfn, Bool.not_eq_true', Bool.not_eq_false', al_ne, Bool.not_not, al_nn] at hb156p
                                                                          refine W_region rfl ?_
                                                                          refine WO_p (PS_eql rfl rfl) ?_
                                                                          refine WO_p (PS_assign_bool rfl) ?_
                                                                          refine WO_nil ?_
                                                                          refine thn_normal ?_
                                                                          refine W_if rfl (fun hb158 => ?_) (fun hb158 => ?_)
                                                                          · have hb158p := hb158.h; try simp only [al_ete, al_dfn, Bool.not_eq_true', Bool.not_eq_false', al_ne, Bool.not_not, al_nn] at hb158p
                                                                            exfalso; omega
                                                                          · have hb158p := hb158.h; try simp only [al_ete, al_dfn, Bool.not_eq_true', Bool.not_eq_false', al_ne, Bool.not_not, al_nn] at hb158p
                                                                            refine W_seq ?_
                                                                            refine W_seq ?_
                                                                            refine W_region rfl ?_
                                                                            refine WO_p (PS_eql rfl rfl) ?_
                                                                            refine WO_p (PS_assign_bool rfl) ?_
                                                                            refine WO_nil ?_
                                                                            refine thn_normal ?_
                                                                            refine W_if rfl (fun hb160 => ?_) (fun hb160 => ?_)
                                                                            · have hb160p := hb160.h; try simp only [al_ete, al_dfn, Bool.not_eq_true', Bool.not_eq_false', al_ne, Bool.not_not, al_nn] at hb160p
                                                                              exfalso; omega
                                                                            · have hb160p := hb160.h; try simp only [al_ete, al_dfn, Bool.not_eq_true', Bool.not_eq_false', al_ne, Bool.not_not, al_nn] at hb160p
                                                                              refine W_region rfl ?_
                                                                              refine WO_p (PS_eql rfl rfl) ?_
                                                                              refine WO_p (PS_assign_bool rfl) ?_
                                                                              refine WO_nil ?_
                                                                              refine thn_normal ?_
                                                                              refine W_if rfl (fun hb162 => ?_) (fun hb162 => ?_)
                                                                              · have hb162p := hb162.h; try simp only [al_ete, al_dfn, Bool.not_eq_true', Bool.not_eq_false', al_ne, Bool.not_not, al_nn] at hb162p
                                                                                exfalso; omega
                                                                              · have hb162p := hb162.h; try simp only [al_ete, al_dfn, Bool.not_eq_true', Bool.not_eq_false', al_ne, Bool.not_not, al_nn] at hb162p
                                                                                refine W_skip ?_
                                                                                refine inBlk_normal ?_
                                                                                refine thn_normal ?_
                                                                                refine W_seq ?_
                                                                                refine W_seq ?_
                                                                                refine W_region rfl ?_
                                                                                refine WO_p (PS_move_int rfl) ?_
                                                                                refine WO_call Hvac.call49 (by rfl) (Ret.mono (family_spec _ _ (by omega)) ?_)
                                                                                rintro _ w49_162 ⟨hE49_162, rfl⟩
                                                                                have hz49_162 := hE49_162.1
                                                                                try simp only [size_alloc, size_setB, size_drew] at hz49_162
                                                                                refine WO_p (PS_eql rfl rfl) ?_
                                                                                refine WO_nil ?_
                                                                                refine thn_normal ?_
                                                                                refine W_if rfl (fun hb165 => ?_) (fun hb165 => ?_)
                                                                                · have hb165p := hb165.h; try simp only [al_ete, al_dfn, Bool.not_eq_true', Bool.not_eq_false', al_ne, Bool.not_not, al_nn] at hb165p
                                                                                  refine W_seq ?_
                                                                                  refine W_region rfl ?_
                                                                                  refine WO_p (PS_assign_int rfl) ?_
                                                                                  refine WO_p (PS_assign_int rfl) ?_
                                                                                  refine WO_p (PS_assign_bool rfl) ?_
                                                                                  refine WO_nil ?_
                                                                                  refine thn_normal ?_
                                                                                  refine W_ret ?_
                                                                                  refine thn_ret ?_
                                                                                  refine bodyQ_ret3 Hvac.results111 rfl rfl rfl (.int _ _) (.int _ _) (.bool _) rfl rfl rfl ?_
                                                                                  first
                                                                                  | (subst ho5; exact ⟨(by repeat (first | assumption | exact Ext.refl _ | refine Ext.alloc ?_ _ | refine Ext.drew ?_ | refine Ext.setB ?_ (by first | omega | (simp only [size_alloc, size_setB, size_drew]; omega)) _ | refine Ext.trans ?_ (by assumption))), rfl⟩)
                                                                                  | (refine ⟨(by repeat (first | assumption | exact Ext.refl _ | refine Ext.alloc ?_ _ | refine Ext.drew ?_ | refine Ext.setB ?_ (by first | omega | (simp only [size_alloc, size_setB, size_drew]; omega)) _ | refine Ext.trans ?_ (by assumption))), ?_⟩
                                                                                     unfold ytakes ygives yknown
                                                                                     repeat (first | rw [if_pos (by omega)] | rw [if_neg (by omega)])
                                                                                     try (simp only [show o - 128 + 1 = o - 127 by omega, show o - 128 + 2 = o - 126 by omega, show o - 144 + 2 = o - 142 by omega, show o - 160 + 2 = o - 158 by omega]))
                                                                                · have hb165p := hb165.h; try simp only [al_ete, al_dfn, Bool.not_eq_true', Bool.not_eq_false', al_ne, Bool.not_not, al_nn] at hb165p
                                                                                  refine W_skip ?_
                                                                                  refine thn_normal ?_
                                                                                  refine W_seq ?_
                                                                                  refine W_region rfl ?_
                                                                                  refine WO_p (PS_assign_int rfl) ?_
                                                                                  refine WO_p (PS_assign_int rfl) ?_
                                                                                  refine WO_p (PS_assign_bool rfl) ?_
                                                                                  refine WO_nil ?_
                                                                                  refine thn_normal ?_
                                                                                  refine W_ret ?_
                                                                                  refine bodyQ_ret3 Hvac.results111 rfl rfl rfl (.int _ _) (.int _ _) (.bool _) rfl rfl rfl ?_
                                                                                  first
                                                                                  | (subst ho5; exact ⟨(by repeat (first | assumption | exact Ext.refl _ | refine Ext.alloc ?_ _ | refine Ext.drew ?_ | refine Ext.setB ?_ (by first | omega | (simp only [size_alloc, size_setB, size_drew]; omega)) _ | refine Ext.trans ?_ (by assumption))), rfl⟩)
                                                                                  | (refine ⟨(by repeat (first | assumption | exact Ext.refl _ | refine Ext.alloc ?_ _ | refine Ext.drew ?_ | refine Ext.setB ?_ (by first | omega | (simp only [size_alloc, size_setB, size_drew]; omega)) _ | refine Ext.trans ?_ (by assumption))), ?_⟩
                                                                                     unfold ytakes ygives yknown
                                                                                     repeat (first | rw [if_pos (by omega)] | rw [if_neg (by omega)])
                                                                                     try (simp only [show o - 128 + 1 = o - 127 by omega, show o - 128 + 2 = o - 126 by omega, show o - 144 + 2 = o - 142 by omega, show o - 160 + 2 = o - 158 by omega]))

end Go.Proofs.YgvacwGreat
