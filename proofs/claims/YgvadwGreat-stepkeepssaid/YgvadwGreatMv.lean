import Derived.Test.YgvadwGreatMu
namespace Go.Proofs.YgvadwGreat
set_option linter.unusedSimpArgs false
set_option linter.unusedVariables false
def V.warmT (v : V) (A : List Int) : Bool × V := if v.isWarmA A = true then (true, v) else v.warmA A
theorem MRet.of_ms {w w' : World} {C : Nat} {c : Array Value} {v : V} {B : VB} {m : Mc} (h : MS w C c v B m) (he : Ext w w') : MRet w C B m w' v m := ⟨c, B, h.ext he, MStep.ext he⟩
theorem MRet.pre {w w1 w2 : World} {C : Nat} {B : VB} {m m2 : Mc} {v2 : V} (he : Ext w w1) (h : MRet w1 C B m w2 v2 m2) : MRet w C B m w2 v2 m2 := MRet.trans (MStep.ext he) h

set_option maxRecDepth 10000 in
theorem writes_spec (C : Nat) (c : Array Value) (v : V) (B : VB) (m : Mc) (t : Nat) (f : Fm) (o : Int) (w : World) (hM : MS w C c v B m) (hA : FrA m t f) (ho : 0 ≤ o ∧ o ≤ 255) : Ret Hvad.prog 159 #[.pointer (some ⟨C, 0, none⟩), .pointer (some ⟨C, 1803 + t * 65, none⟩), .int .u8 o] w fun u w' => Ext w w' ∧ ∃ q, u = .bool q := by
  have hA0 := hA
  have hblk := hM.vs.blk
  have hCl := hblk.lt
  have hcs := hM.sz
  have hc_s := hM.rep.s
  obtain ⟨ht6, hf, hsb, hsp⟩ := hA0
  obtain ⟨ht7, hfty, hF⟩ := hM.openF hf
  have hw2 := argW_wd hM.ty f 2
  have hl2 := hw2.1
  refine Ret_of_W Hvad.func159 rfl rfl ?_
  refine W_seq ?_
  refine W_region rfl ?_
  refine WO_p (PS_assign_bool rfl) ?_
  refine WO_nil ?_
  refine thn_normal ?_
  refine W_seq ?_
  refine W_block ?_
  refine W_seq ?_
  refine W_seq ?_
  refine W_region rfl ?_
  refine WO_p (PS_move_int rfl) ?_
  refine WO_p (PS_eql rfl rfl) ?_
  refine WO_p (PS_assign_bool rfl) ?_
  refine WO_nil ?_
  refine thn_normal ?_
  refine W_if rfl (fun hb2 => ?_) (fun hb2 => ?_)
  · have hb2p := hb2.h; try simp only [al_ete, al_dfn, Bool.not_eq_true', Bool.not_eq_false', al_ne, Bool.not_not, al_nn] at hb2p
    refine W_skip ?_
    refine thn_normal ?_
    refine W_condT rfl hb2.h ?_
    refine W_seq ?_
    refine W_region rfl ?_
    refine WO_p (PS_assign_bool rfl) ?_
    refine WO_nil ?_
    refine thn_normal ?_
    refine W_ret ?_
    refine inBlk_ret ?_
    refine thn_ret ?_
    refine bodyQ_ret1 Hvad.results159 rfl (.bool _) rfl ?_
    exact ⟨(by repeat (first | assumption | exact Ext.refl _ | refine Ext.alloc ?_ _ | refine Ext.drew ?_ | refine Ext.setB ?_ (by first | omega | (simp only [size_alloc, size_setB, size_drew]; omega)) _ | refine Ext.trans ?_ (by assumption))), _, rfl⟩
  · have hb2p := hb2.h; try simp only [al_ete, al_dfn, Bool.not_eq_true', Bool.not_eq_false', al_ne, Bool.not_not, al_nn] at hb2p
    refine W_seq ?_
    refine W_region rfl ?_
    refine WO_p (PS_move_int rfl) ?_
    refine WO_p (PS_eql rfl rfl) ?_
    refine WO_p (PS_assign_bool rfl) ?_
    refine WO_nil ?_
    refine thn_normal ?_
    refine W_if rfl (fun hb4 => ?_) (fun hb4 => ?_)
    · have hb4p := hb4.h; try simp only [al_ete, al_dfn, Bool.not_eq_true', Bool.not_eq_false', al_ne, Bool.not_not, al_nn] at hb4p
      refine W_skip ?_
      refine thn_normal ?_
      refine W_condT rfl hb4.h ?_
      refine W_seq ?_
      refine W_region rfl ?_
      refine WO_p (PS_assign_bool rfl) ?_
      refine WO_nil ?_
      refine thn_normal ?_
      refine W_ret ?_
      refine inBlk_ret ?_
      refine thn_ret ?_
      refine bodyQ_ret1 Hvad.results159 rfl (.bool _) rfl ?_
      exact ⟨(by repeat (first | assumption | exact Ext.refl _ | refine Ext.alloc ?_ _ | refine Ext.drew ?_ | refine Ext.setB ?_ (by first | omega | (simp only [size_alloc, size_setB, size_drew]; omega)) _ | refine Ext.trans ?_ (by assumption))), _, rfl⟩
    · have hb4p := hb4.h; try simp only [al_ete, al_dfn, Bool.not_eq_true', Bool.not_eq_false', al_ne, Bool.not_not, al_nn] at hb4p
      refine W_seq ?_
      refine W_region rfl ?_
      refine WO_p (PS_move_int rfl) ?_
      refine WO_p (PS_geq rfl rfl) ?_
      refine WO_p (PS_move_bool rfl) ?_
      refine WO_if (t := 15) rfl (fun hb6 => ?_) (fun hb6 => ?_)
      · have hb6p := hb6.h; try simp only [al_ete, al_dfn, Bool.not_eq_true', Bool.not_eq_false', al_ne, Bool.not_not, al_nn] at hb6p
        refine WO_guardT rfl rfl hb6.h ?_
        refine WO_p (PS_move_int rfl) ?_
        refine WO_guardT rfl rfl hb6.h ?_
        refine WO_p (PS_leq rfl rfl) ?_
        refine WO_p (PS_pickT rfl hb6.h rfl) ?_
        refine WO_p (PS_assign_bool rfl) ?_
        refine WO_nil ?_
        refine thn_normal ?_
        refine W_if rfl (fun hb8 => ?_) (fun hb8 => ?_)
        · have hb8p := hb8.h; try simp only [al_ete, al_dfn, Bool.not_eq_true', Bool.not_eq_false', al_ne, Bool.not_not, al_nn] at hb8p
          refine W_skip ?_
          refine thn_normal ?_
          refine W_condT rfl hb8.h ?_
          refine W_seq ?_
          refine W_region rfl ?_
          refine WO_p (PS_assign_bool rfl) ?_
          refine WO_nil ?_
          refine thn_normal ?_
          refine W_ret ?_
          refine inBlk_ret ?_
          refine thn_ret ?_
          refine bodyQ_ret1 Hvad.results159 rfl (.bool _) rfl ?_
          exact ⟨(by repeat (first | assumption | exact Ext.refl _ | refine Ext.alloc ?_ _ | refine Ext.drew ?_ | refine Ext.setB ?_ (by first | omega | (simp only [size_alloc, size_setB, size_drew]; omega)) _ | refine Ext.trans ?_ (by assumption))), _, rfl⟩
        · have hb8p := hb8.h; try simp only [al_ete, al_dfn, Bool.not_eq_true', Bool.not_eq_false', al_ne, Bool.not_not, al_nn] at hb8p
          refine W_seq ?_
          refine W_region rfl ?_
          refine WO_p (PS_move_int rfl) ?_
          refine WO_p (PS_eql rfl rfl) ?_
          refine WO_p (PS_assign_bool rfl) ?_
          refine WO_nil ?_
          refine thn_normal ?_
          refine W_if rfl (fun hb10 => ?_) (fun hb10 => ?_)
          · have hb10p := hb10.h; try simp only [al_ete, al_dfn, Bool.not_eq_true', Bool.not_eq_false', al_ne, Bool.not_not, al_nn] at hb10p
            refine W_skip ?_
            refine thn_normal ?_
            refine W_condT rfl hb10.h ?_
            refine W_seq ?_
            refine W_region rfl ?_
            refine WO_p (PS_assign_bool rfl) ?_
            refine WO_nil ?_
            refine thn_normal ?_
            refine W_ret ?_
            refine inBlk_ret ?_
            refine thn_ret ?_
            refine bodyQ_ret1 Hvad.results159 rfl (.bool _) rfl ?_
            exact ⟨(by repeat (first | assumption | exact Ext.refl _ | refine Ext.alloc ?_ _ | refine Ext.drew ?_ | refine Ext.setB ?_ (by first | omega | (simp only [size_alloc, size_setB, size_drew]; omega)) _ | refine Ext.trans ?_ (by assumption))), _, rfl⟩
          · have hb10p := hb10.h; try simp only [al_ete, al_dfn, Bool.not_eq_true', Bool.not_eq_false', al_ne, Bool.not_not, al_nn] at hb10p
            refine W_seq ?_
            refine W_region rfl ?_
            refine WO_p (PS_move_int rfl) ?_
            refine WO_p (PS_eql rfl rfl) ?_
            refine WO_p (PS_assign_bool rfl) ?_
            refine WO_nil ?_
            refine thn_normal ?_
            refine W_if rfl (fun hb12 => ?_) (fun hb12 => ?_)
            · have hb12p := hb12.h; try simp only [al_ete, al_dfn, Bool.not_eq_true', Bool.not_eq_false', al_ne, Bool.not_not, al_nn] at hb12p
              refine W_skip ?_
              refine thn_normal ?_
              refine W_condT rfl hb12.h ?_
              refine W_seq ?_
              refine W_region rfl ?_
              refine WO_p (PS_assign_bool rfl) ?_
              refine WO_nil ?_
              refine thn_normal ?_
              refine W_ret ?_
              refine inBlk_ret ?_
              refine thn_ret ?_
              refine bodyQ_ret1 Hvad.results159 rfl (.bool _) rfl ?_
              exact ⟨(by repeat (first | assumption | exact Ext.refl _ | refine Ext.alloc ?_ _ | refine Ext.drew ?_ | refine Ext.setB ?_ (by first | omega | (simp only [size_alloc, size_setB, size_drew]; omega)) _ | refine Ext.trans ?_ (by assumption))), _, rfl⟩
            · have hb12p := hb12.h; try simp only [al_ete, al_dfn, Bool.not_eq_true', Bool.not_eq_false', al_ne, Bool.not_not, al_nn] at hb12p
              refine W_region rfl ?_
              refine WO_p (PS_move_int rfl) ?_
              refine WO_p (PS_eql rfl rfl) ?_
              refine WO_p (PS_assign_bool rfl) ?_
              refine WO_nil ?_
              refine thn_normal ?_
              refine W_if rfl (fun hb14 => ?_) (fun hb14 => ?_)
              · have hb14p := hb14.h; try simp only [al_ete, al_dfn, Bool.not_eq_true', Bool.not_eq_false', al_ne, Bool.not_not, al_nn] at hb14p
                refine W_seq ?_
                refine W_region rfl ?_
                refine WO_p (PS_assign_bool rfl) ?_
                refine WO_nil ?_
                refine thn_normal ?_
                refine W_ret ?_
                refine inBlk_ret ?_
                refine thn_ret ?_
                refine bodyQ_ret1 Hvad.results159 rfl (.bool _) rfl ?_
                exact ⟨(by repeat (first | assumption | exact Ext.refl _ | refine Ext.alloc ?_ _ | refine Ext.drew ?_ | refine Ext.setB ?_ (by first | omega | (simp only [size_alloc, size_setB, size_drew]; omega)) _ | refine Ext.trans ?_ (by assumption))), _, rfl⟩
              · have hb14p := hb14.h; try simp only [al_ete, al_dfn, Bool.not_eq_true', Bool.not_eq_false', al_ne, Bool.not_not, al_nn] at hb14p
                refine W_seq ?_
                refine W_region rfl ?_
                refine WO_p (PS_move_int rfl) ?_
                refine WO_p (PS_eql rfl rfl) ?_
                refine WO_p (PS_assign_bool rfl) ?_
                refine WO_nil ?_
                refine thn_normal ?_
                refine W_if rfl (fun hb16 => ?_) (fun hb16 => ?_)
                · have hb16p := hb16.h; try simp only [al_ete, al_dfn, Bool.not_eq_true', Bool.not_eq_false', al_ne, Bool.not_not, al_nn] at hb16p
                  refine W_seq ?_
                  refine W_region rfl ?_
                  refine WO_p (PS_move_ptr rfl) ?_
                  refine WO_p (PS_move_ptr rfl) ?_
                  refine WO_call Hvad.call160 (by rfl) (Ret.mono (arg_spec C c v B m t f _ _ (MS.ext hM (by repeat (first | assumption | exact Ext.refl _ | refine Ext.alloc ?_ _ | refine Ext.drew ?_ | refine Ext.setB ?_ (by first | omega | (simp only [size_alloc, size_setB, size_drew]; omega)) _ | exact Ext.trans (by assumption) (by assumption) | refine Ext.trans ?_ (by assumption)))) hA (by omega)) ?_)
                  rintro _ w160_16 ⟨hE160_16, rfl⟩
                  have hz160_16 := hE160_16.1
                  try simp only [size_alloc, size_setB, size_drew] at hz160_16
                  refine WO_allocG Hvad.zeroValue59 ?_
                  intro b7 v7 hg7 hE7 hH7 hl7
                  try simp only [size_alloc, size_setB, size_drew] at hg7
                  have hzz7 := hE7.1
                  try simp only [size_alloc, size_setB, size_drew] at hzz7
                  replace hH7 : Hb v7 b7 (.cells (ic .u64 [0, 0, 0, 0]) 59 (0, 0)) := hH7
                  first | refine WO_storeW Hvad.sizeOf59 rfl (v := .agg _) rfl (Hb.h (by repeat (first | assumption | exact Hb.newY _ _ | refine Hb.alloc ?_ | refine Hb.drew ?_ | refine Hb.ext (by assumption) ?_ | exact Hb.setSameL (by first | omega | (simp only [size_alloc, size_setB, size_drew]; omega)) | exact Hb.setSame (by assumption) | refine Hb.set (by first | omega | (simp only [size_alloc, size_setB, size_drew]; omega)) ?_ ))) rfl (by first | omega | assumption | rfl | decide | exact Nat.le_refl _ | (simp only [size_ic, Value.cells]; omega) | simp) (by first | omega | assumption | rfl | decide | exact Nat.le_refl _ | (simp only [size_ic, Value.cells]; omega) | simp) (by first | exact oneCell_ic | assumption) ?_ | refine WO_store Hvad.sizeOf59 rfl (v := .agg _) rfl (Hb.h (by repeat (first | assumption | exact Hb.newY _ _ | refine Hb.alloc ?_ | refine Hb.drew ?_ | refine Hb.ext (by assumption) ?_ | exact Hb.setSameL (by first | omega | (simp only [size_alloc, size_setB, size_drew]; omega)) | exact Hb.setSame (by assumption) | refine Hb.set (by first | omega | (simp only [size_alloc, size_setB, size_drew]; omega)) ?_ ))) (by first | omega | assumption | rfl | decide | exact Nat.le_refl _ | (simp only [size_ic, Value.cells]; omega) | simp) (by first | omega | assumption | rfl | decide | exact Nat.le_refl _ | (simp only [size_ic, Value.cells]; omega) | simp) (by first | exact oneCell_ic | assumption) ?_
                  refine WO_nil ?_
                  refine thn_normal ?_
                  refine W_seq ?_
                  refine W_region rfl ?_
                  refine WO_loadA _ Hvad.isAgg59 Hvad.sizeOf59 rfl (Hb.h (by repeat (first | assumption | exact Hb.newY _ _ | refine Hb.alloc ?_ | refine Hb.drew ?_ | refine Hb.ext (by assumption) ?_ | exact Hb.setSameL (by first | omega | (simp only [size_alloc, size_setB, size_drew]; omega)) | exact Hb.setSame (by assumption) | refine Hb.set (by first | omega | (simp only [size_alloc, size_setB, size_drew]; omega)) ?_ ))) (by first | omega | assumption | rfl | decide | exact Nat.le_refl _ | (simp only [size_ic, Value.cells]; omega) | simp) (Xt.h (by first | assumption | exact Xt.whole rfl rfl | exact Xt.whole rfl (by simp only [size_ic, Value.cells]; omega) | exact ⟨rfl⟩)) ?_
                  refine WO_call Hvad.call131 (by rfl) (Ret.mono (isz_spec _ _ (by first | assumption | exact argW_wd hM.ty _ _ | exact Wd0)) ?_)
                  rintro _ w131_17 ⟨rfl, hE131_17⟩
                  have hz131_17 := hE131_17.1
                  try simp only [size_alloc, size_setB, size_drew] at hz131_17
                  refine WO_p (PS_not rfl) ?_
                  refine WO_p (PS_assign_bool rfl) ?_
                  refine WO_nil ?_
                  refine thn_normal ?_
                  refine W_ret ?_
                  refine inBlk_ret ?_
                  refine thn_ret ?_
                  refine bodyQ_ret1 Hvad.results159 rfl (.bool _) rfl ?_
                  exact ⟨(by repeat (first | assumption | exact Ext.refl _ | refine Ext.alloc ?_ _ | refine Ext.drew ?_ | refine Ext.setB ?_ (by first | omega | (simp only [size_alloc, size_setB, size_drew]; omega)) _ | refine Ext.trans ?_ (by assumption))), _, rfl⟩
                · have hb16p := hb16.h; try simp only [al_ete, al_dfn, Bool.not_eq_true', Bool.not_eq_false', al_ne, Bool.not_not, al_nn] at hb16p
                  refine W_skip ?_
                  refine inBlk_normal ?_
                  refine thn_normal ?_
                  refine W_seq ?_
                  refine W_region rfl ?_
                  refine WO_p (PS_assign_bool rfl) ?_
                  refine WO_nil ?_
                  refine thn_normal ?_
                  refine W_ret ?_
                  refine bodyQ_ret1 Hvad.results159 rfl (.bool _) rfl ?_
                  exact ⟨(by repeat (first | assumption | exact Ext.refl _ | refine Ext.alloc ?_ _ | refine Ext.drew ?_ | refine Ext.setB ?_ (by first | omega | (simp only [size_alloc, size_setB, size_drew]; omega)) _ | refine Ext.trans ?_ (by assumption))), _, rfl⟩
      · have hb6p := hb6.h; try simp only [al_ete, al_dfn, Bool.not_eq_true', Bool.not_eq_false', al_ne, Bool.not_not, al_nn] at hb6p
        refine WO_guardF rfl rfl hb6.h ?_
        refine WO_guardF rfl rfl hb6.h ?_
        refine WO_p (PS_pickF rfl hb6.h rfl) ?_
        refine WO_p (PS_assign_bool rfl) ?_
        refine WO_nil ?_
        refine thn_normal ?_
        refine W_condF rfl rfl ?_
        refine W_seq ?_
        refine W_region rfl ?_
        refine WO_p (PS_move_int rfl) ?_
        refine WO_p (PS_eql rfl rfl) ?_
        refine WO_p (PS_assign_bool rfl) ?_
        refine WO_nil ?_
        refine thn_normal ?_
        refine W_if rfl (fun hb22 => ?_) (fun hb22 => ?_)
        · have hb22p := hb22.h; try simp only [al_ete, al_dfn, Bool.not_eq_true', Bool.not_eq_false', al_ne, Bool.not_not, al_nn] at hb22p
          refine W_skip ?_
          refine thn_normal ?_
          refine W_condT rfl hb22.h ?_
          refine W_seq ?_
          refine W_region rfl ?_
          refine WO_p (PS_assign_bool rfl) ?_
          refine WO_nil ?_
          refine thn_normal ?_
          refine W_ret ?_
          refine inBlk_ret ?_
          refine thn_ret ?_
          refine bodyQ_ret1 Hvad.results159 rfl (.bool _) rfl ?_
          exact ⟨(by repeat (first | assumption | exact Ext.refl _ | refine Ext.alloc ?_ _ | refine Ext.drew ?_ | refine Ext.setB ?_ (by first | omega | (simp only [size_alloc, size_setB, size_drew]; omega)) _ | refine Ext.trans ?_ (by assumption))), _, rfl⟩
        · have hb22p := hb22.h; try simp only [al_ete, al_dfn, Bool.not_eq_true', Bool.not_eq_false', al_ne, Bool.not_not, al_nn] at hb22p
          refine W_seq ?_
          refine W_region rfl ?_
          refine WO_p (PS_move_int rfl) ?_
          refine WO_p (PS_eql rfl rfl) ?_
          refine WO_p (PS_assign_bool rfl) ?_
          refine WO_nil ?_
          refine thn_normal ?_
          refine W_if rfl (fun hb24 => ?_) (fun hb24 => ?_)
          · have hb24p := hb24.h; try simp only [al_ete, al_dfn, Bool.not_eq_true', Bool.not_eq_false', al_ne, Bool.not_not, al_nn] at hb24p
            refine W_skip ?_
            refine thn_normal ?_
            refine W_condT rfl hb24.h ?_
            refine W_seq ?_
            refine W_region rfl ?_
            refine WO_p (PS_assign_bool rfl) ?_
            refine WO_nil ?_
            refine thn_normal ?_
            refine W_ret ?_
            refine inBlk_ret ?_
            refine thn_ret ?_
            refine bodyQ_ret1 Hvad.results159 rfl (.bool _) rfl ?_
            exact ⟨(by repeat (first | assumption | exact Ext.refl _ | refine Ext.alloc ?_ _ | refine Ext.drew ?_ | refine Ext.setB ?_ (by first | omega | (simp only [size_alloc, size_setB, size_drew]; omega)) _ | refine Ext.trans ?_ (by assumption))), _, rfl⟩
          · have hb24p := hb24.h; try simp only [al_ete, al_dfn, Bool.not_eq_true', Bool.not_eq_false', al_ne, Bool.not_not, al_nn] at hb24p
            refine W_region rfl ?_
            refine WO_p (PS_move_int rfl) ?_
            refine WO_p (PS_eql rfl rfl) ?_
            refine WO_p (PS_assign_bool rfl) ?_
            refine WO_nil ?_
            refine thn_normal ?_
            refine W_if rfl (fun hb26 => ?_) (fun hb26 => ?_)
            · have hb26p := hb26.h; try simp only [al_ete, al_dfn, Bool.not_eq_true', Bool.not_eq_false', al_ne, Bool.not_not, al_nn] at hb26p
              refine W_seq ?_
              refine W_region rfl ?_
              refine WO_p (PS_assign_bool rfl) ?_
              refine WO_nil ?_
              refine thn_normal ?_
              refine W_ret ?_
              refine inBlk_ret ?_
              refine thn_ret ?_
              refine bodyQ_ret1 Hvad.results159 rfl (.bool _) rfl ?_
              exact ⟨(by repeat (first | assumption | exact Ext.refl _ | refine Ext.alloc ?_ _ | refine Ext.drew ?_ | refine Ext.setB ?_ (by first | omega | (simp only [size_alloc, size_setB, size_drew]; omega)) _ | refine Ext.trans ?_ (by assumption))), _, rfl⟩
            · have hb26p := hb26.h; try simp only [al_ete, al_dfn, Bool.not_eq_true', Bool.not_eq_false', al_ne, Bool.not_not, al_nn] at hb26p
              refine W_seq ?_
              refine W_region rfl ?_
              refine WO_p (PS_move_int rfl) ?_
              refine WO_p (PS_eql rfl rfl) ?_
              refine WO_p (PS_assign_bool rfl) ?_
              refine WO_nil ?_
              refine thn_normal ?_
              refine W_if rfl (fun hb28 => ?_) (fun hb28 => ?_)
              · have hb28p := hb28.h; try simp only [al_ete, al_dfn, Bool.not_eq_true', Bool.not_eq_false', al_ne, Bool.not_not, al_nn] at hb28p
                refine W_seq ?_
                refine W_region rfl ?_
                refine WO_p (PS_move_ptr rfl) ?_
                refine WO_p (PS_move_ptr rfl) ?_
                refine WO_call Hvad.call160 (by rfl) (Ret.mono (arg_spec C c v B m t f _ _ (MS.ext hM (by repeat (first | assumption | exact Ext.refl _ | refine Ext.alloc ?_ _ | refine Ext.drew ?_ | refine Ext.setB ?_ (by first | omega | (simp only [size_alloc, size_setB, size_drew]; omega)) _ | exact Ext.trans (by assumption) (by assumption) | refine Ext.trans ?_ (by assumption)))) hA (by omega)) ?_)
                rintro _ w160_28 ⟨hE160_28, rfl⟩
                have hz160_28 := hE160_28.1
                try simp only [size_alloc, size_setB, size_drew] at hz160_28
                refine WO_allocG Hvad.zeroValue59 ?_
                intro b7 v7 hg7 hE7 hH7 hl7
                try simp only [size_alloc, size_setB, size_drew] at hg7
                have hzz7 := hE7.1
                try simp only [size_alloc, size_setB, size_drew] at hzz7
                replace hH7 : Hb v7 b7 (.cells (ic .u64 [0, 0, 0, 0]) 59 (0, 0)) := hH7
                first | refine WO_storeW Hvad.sizeOf59 rfl (v := .agg _) rfl (Hb.h (by repeat (first | assumption | exact Hb.newY _ _ | refine Hb.alloc ?_ | refine Hb.drew ?_ | refine Hb.ext (by assumption) ?_ | exact Hb.setSameL (by first | omega | (simp only [size_alloc, size_setB, size_drew]; omega)) | exact Hb.setSame (by assumption) | refine Hb.set (by first | omega | (simp only [size_alloc, size_setB, size_drew]; omega)) ?_ ))) rfl (by first | omega | assumption | rfl | decide | exact Nat.le_refl _ | (simp only [size_ic, Value.cells]; omega) | simp) (by first | omega | assumption | rfl | decide | exact Nat.le_refl _ | (simp only [size_ic, Value.cells]; omega) | simp) (by first | exact oneCell_ic | assumption) ?_ | refine WO_store Hvad.sizeOf59 rfl (v := .agg _) rfl (Hb.h (by repeat (first | assumption | exact Hb.newY _ _ | refine Hb.alloc ?_ | refine Hb.drew ?_ | refine Hb.ext (by assumption) ?_ | exact Hb.setSameL (by first | omega | (simp only [size_alloc, size_setB, size_drew]; omega)) | exact Hb.setSame (by assumption) | refine Hb.set (by first | omega | (simp only [size_alloc, size_setB, size_drew]; omega)) ?_ ))) (by first | omega | assumption | rfl | decide | exact Nat.le_refl _ | (simp only [size_ic, Value.cells]; omega) | simp) (by first | omega | assumption | rfl | decide | exact Nat.le_refl _ | (simp only [size_ic, Value.cells]; omega) | simp) (by first | exact oneCell_ic | assumption) ?_
                refine WO_nil ?_
                refine thn_normal ?_
                refine W_seq ?_
                refine W_region rfl ?_
                refine WO_loadA _ Hvad.isAgg59 Hvad.sizeOf59 rfl (Hb.h (by repeat (first | assumption | exact Hb.newY _ _ | refine Hb.alloc ?_ | refine Hb.drew ?_ | refine Hb.ext (by assumption) ?_ | exact Hb.setSameL (by first | omega | (simp only [size_alloc, size_setB, size_drew]; omega)) | exact Hb.setSame (by assumption) | refine Hb.set (by first | omega | (simp only [size_alloc, size_setB, size_drew]; omega)) ?_ ))) (by first | omega | assumption | rfl | decide | exact Nat.le_refl _ | (simp only [size_ic, Value.cells]; omega) | simp) (Xt.h (by first | assumption | exact Xt.whole rfl rfl | exact Xt.whole rfl (by simp only [size_ic, Value.cells]; omega) | exact ⟨rfl⟩)) ?_
                refine WO_call Hvad.call131 (by rfl) (Ret.mono (isz_spec _ _ (by first | assumption | exact argW_wd hM.ty _ _ | exact Wd0)) ?_)
                rintro _ w131_29 ⟨rfl, hE131_29⟩
                have hz131_29 := hE131_29.1
                try simp only [size_alloc, size_setB, size_drew] at hz131_29
                refine WO_p (PS_not rfl) ?_
                refine WO_p (PS_assign_bool rfl) ?_
                refine WO_nil ?_
                refine thn_normal ?_
                refine W_ret ?_
                refine inBlk_ret ?_
                refine thn_ret ?_
                refine bodyQ_ret1 Hvad.results159 rfl (.bool _) rfl ?_
                exact ⟨(by repeat (first | assumption | exact Ext.refl _ | refine Ext.alloc ?_ _ | refine Ext.drew ?_ | refine Ext.setB ?_ (by first | omega | (simp only [size_alloc, size_setB, size_drew]; omega)) _ | refine Ext.trans ?_ (by assumption))), _, rfl⟩
              · have hb28p := hb28.h; try simp only [al_ete, al_dfn, Bool.not_eq_true', Bool.not_eq_false', al_ne, Bool.not_not, al_nn] at hb28p
                refine W_skip ?_
                refine inBlk_normal ?_
                refine thn_normal ?_
                refine W_seq ?_
                refine W_region rfl ?_
                refine WO_p (PS_assign_bool rfl) ?_
                refine WO_nil ?_
                refine thn_normal ?_
                refine W_ret ?_
                refine bodyQ_ret1 Hvad.results159 rfl (.bool _) rfl ?_
                exact ⟨(by repeat (first | assumption | exact Ext.refl _ | refine Ext.alloc ?_ _ | refine Ext.drew ?_ | refine Ext.setB ?_ (by first | omega | (simp only [size_alloc, size_setB, size_drew]; omega)) _ | refine Ext.trans ?_ (by assumption))), _, rfl⟩

set_option maxRecDepth 10000 in
theorem past_spec (C : Nat) (c : Array Value) (v : V) (B : VB) (m : Mc) (W X : List Int) (w : World) (hM : MS w C c v B m) (hW : Wd W) (hX : Wd X) (hrl : m.ret.2.1 ≤ 1000000) : Ret Hvad.prog 161 #[.pointer (some ⟨C, 0, none⟩), .agg (ic .u64 W), .agg (ic .u64 X)] w fun u w' => Ext w w' ∧ ∃ q, u = .bool q := by
  have hblk := hM.vs.blk
  have hCl := hblk.lt
  have hcs := hM.sz
  have hc_ret := hM.rep.ret
  have hWl := hW.1
  have hXl := hX.1
  have hwb := wv_bd hW
  have hxb := wv_bd hX
  have hso : Wd (ofV ((wv W + wv X) % 115792089237316195423570985008687907853269984665640564039457584007913129639936)) := ofV_wd _
  have hsl := hso.1
  refine Ret_of_W Hvad.func161 rfl rfl ?_
  refine W_seq ?_
  refine W_region rfl ?_
  refine WO_boxG (.agg _) rfl ?_
  intro b4 v4 hg4 hE4 hH4 hl4
  try simp only [size_alloc, size_setB, size_drew] at hg4
  have hzz4 := hE4.1
  try simp only [size_alloc, size_setB, size_drew] at hzz4
  refine WO_boxG (.agg _) rfl ?_
  intro b5 v5 hg5 hE5 hH5 hl5
  try simp only [size_alloc, size_setB, size_drew] at hg5
  have hzz5 := hE5.1
  try simp only [size_alloc, size_setB, size_drew] at hzz5
  refine WO_p (PS_assign_bool rfl) ?_
  refine WO_nil ?_
  refine thn_normal ?_
  refine W_seq ?_
  refine W_region rfl ?_
  refine WO_loadA _ Hvad.isAgg59 Hvad.sizeOf59 rfl (Hb.h (by repeat (first | assumption | exact Hb.newY _ _ | refine Hb.alloc ?_ | refine Hb.drew ?_ | refine Hb.ext (by assumption) ?_ | exact Hb.setSameL (by first | omega | (simp only [size_alloc, size_setB, size_drew]; omega)) | exact Hb.setSame (by assumption) | refine Hb.set (by first | omega | (simp only [size_alloc, size_setB, size_drew]; omega)) ?_ ))) (by first | omega | assumption | rfl | decide | exact Nat.le_refl _ | (simp only [size_ic, Value.cells]; omega) | simp) (Xt.h (by first | assumption | exact Xt.whole rfl rfl | exact Xt.whole rfl (by simp only [size_ic, Value.cells]; omega) | exact ⟨rfl⟩)) ?_
  refine WO_loadA _ Hvad.isAgg59 Hvad.sizeOf59 rfl (Hb.h (by repeat (first | assumption | exact Hb.newY _ _ | refine Hb.alloc ?_ | refine Hb.drew ?_ | refine Hb.ext (by assumption) ?_ | exact Hb.setSameL (by first | omega | (simp only [size_alloc, size_setB, size_drew]; omega)) | exact Hb.setSame (by assumption) | refine Hb.set (by first | omega | (simp only [size_alloc, size_setB, size_drew]; omega)) ?_ ))) (by first | omega | assumption | rfl | decide | exact Nat.le_refl _ | (simp only [size_ic, Value.cells]; omega) | simp) (Xt.h (by first | assumption | exact Xt.whole rfl rfl | exact Xt.whole rfl (by simp only [size_ic, Value.cells]; omega) | exact ⟨rfl⟩)) ?_
  refine WO_call Hvad.call65 (by rfl) (Ret.mono (addOver_spec _ _ _ (by first | assumption | exact argW_wd hM.ty _ _ | exact Wd0) (by first | assumption | exact argW_wd hM.ty _ _ | exact Wd0)) ?_)
  rintro _ w65_0 ⟨rfl, hE65_0⟩
  have hz65_0 := hE65_0.1
  try simp only [size_alloc, size_setB, size_drew] at hz65_0
  refine WO_p (PS_move_tuple rfl) ?_
  refine WO_p (PS_extract_agg rfl rfl) ?_
  refine WO_p (PS_extract_bool rfl rfl) ?_
  refine WO_allocG Hvad.zeroValue59 ?_
  intro b7 v7 hg7 hE7 hH7 hl7
  try simp only [size_alloc, size_setB, size_drew] at hg7
  have hzz7 := hE7.1
  try simp only [size_alloc, size_setB, size_drew] at hzz7
  replace hH7 : Hb v7 b7 (.cells (ic .u64 [0, 0, 0, 0]) 59 (0, 0)) := hH7
  first | refine WO_storeW Hvad.sizeOf59 rfl (v := .agg _) rfl (Hb.h (by repeat (first | assumption | exact Hb.newY _ _ | refine Hb.alloc ?_ | refine Hb.drew ?_ | refine Hb.ext (by assumption) ?_ | exact Hb.setSameL (by first | omega | (simp only [size_alloc, size_setB, size_drew]; omega)) | exact Hb.setSame (by assumption) | refine Hb.set (by first | omega | (simp only [size_alloc, size_setB, size_drew]; omega)) ?_ ))) rfl (by first | omega | assumption | rfl | decide | exact Nat.le_refl _ | (simp only [size_ic, Value.cells]; omega) | simp) (by first | omega | assumption | rfl | decide | exact Nat.le_refl _ | (simp only [size_ic, Value.cells]; omega) | simp) (by first | exact oneCell_ic | assumption) ?_ | refine WO_store Hvad.sizeOf59 rfl (v := .agg _) rfl (Hb.h (by repeat (first | assumption | exact Hb.newY _ _ | refine Hb.alloc ?_ | refine Hb.drew ?_ | refine Hb.ext (by assumption) ?_ | exact Hb.setSameL (by first | omega | (simp only [size_alloc, size_setB, size_drew]; omega)) | exact Hb.setSame (by assumption) | refine Hb.set (by first | omega | (simp only [size_alloc, size_setB, size_drew]; omega)) ?_ ))) (by first | omega | assumption | rfl | decide | exact Nat.le_refl _ | (simp only [size_ic, Value.cells]; omega) | simp) (by first | omega | assumption | rfl | decide | exact Nat.le_refl _ | (simp only [size_ic, Value.cells]; omega) | simp) (by first | exact oneCell_ic | assumption) ?_
  refine WO_p (PS_assign_bool rfl) ?_
  refine WO_nil ?_
  refine thn_normal ?_
  refine W_seq ?_
  refine W_region rfl ?_
  refine WO_loadA _ Hvad.isAgg59 Hvad.sizeOf59 rfl (Hb.h (by repeat (first | assumption | exact Hb.newY _ _ | refine Hb.alloc ?_ | refine Hb.drew ?_ | refine Hb.ext (by assumption) ?_ | exact Hb.setSameL (by first | omega | (simp only [size_alloc, size_setB, size_drew]; omega)) | exact Hb.setSame (by assumption) | refine Hb.set (by first | omega | (simp only [size_alloc, size_setB, size_drew]; omega)) ?_ ))) (by first | omega | assumption | rfl | decide | exact Nat.le_refl _ | (simp only [size_ic, Value.cells]; omega) | simp) (Xt.h (by first | assumption | exact Xt.whole rfl rfl | exact Xt.whole rfl (by simp only [size_ic, Value.cells]; omega) | exact ⟨rfl⟩)) ?_
  refine WO_call Hvad.call196 (by rfl) (Ret.mono (u64x_spec _ _ (by first | assumption | exact argW_wd hM.ty _ _ | exact Wd0)) ?_)
  rintro _ w196_2 ⟨hE196_2, x196_2, rfl, hx196_2, hxb196_2⟩
  have hz196_2 := hE196_2.1
  try simp only [size_alloc, size_setB, size_drew] at hz196_2
  refine WO_p (PS_move_tuple rfl) ?_
  refine WO_p (PS_extract_int rfl rfl) ?_
  refine WO_p (PS_extract_bool rfl rfl) ?_
  refine WO_p (PS_assign_int rfl) ?_
  refine WO_p (PS_assign_bool rfl) ?_
  refine WO_nil ?_
  refine thn_normal ?_
  refine W_seq ?_
  refine W_region rfl ?_
  refine WO_p (PS_move_bool rfl) ?_
  refine WO_p (PS_move_bool rfl) ?_
  refine WO_if (t := 23) rfl (fun hb5 => ?_) (fun hb5 => ?_)
  · have hb5p := hb5.h; try simp only [al_ete, al_dfn, Bool.not_eq_true', Bool.not_eq_false', al_ne, Bool.not_not, al_nn] at hb5p
    refine WO_guardF rfl rfl hb5.h ?_
    refine WO_guardF rfl rfl hb5.h ?_
    refine WO_p (PS_pickT rfl hb5.h rfl) ?_
    refine WO_p (PS_move_bool rfl) ?_
    refine WO_guardF rfl rfl rfl ?_
    refine WO_guardF rfl rfl rfl ?_
    refine WO_guardF rfl rfl rfl ?_
    refine WO_guardF rfl rfl rfl ?_
    refine WO_guardF rfl rfl rfl ?_
    refine WO_guardF rfl rfl rfl ?_
    refine WO_guardF rfl rfl rfl ?_
    refine WO_guardF rfl rfl rfl ?_
    refine WO_p (PS_pickT rfl rfl rfl) ?_
    refine WO_p (PS_assign_bool rfl) ?_
    refine WO_nil ?_
    refine thn_normal ?_
    refine W_ret ?_
    refine bodyQ_ret1 Hvad.results161 rfl (.bool _) rfl ?_
    exact ⟨(by repeat (first | assumption | exact Ext.refl _ | refine Ext.alloc ?_ _ | refine Ext.drew ?_ | refine Ext.setB ?_ (by first | omega | (simp only [size_alloc, size_setB, size_drew]; omega)) _ | refine Ext.trans ?_ (by assumption))), _, rfl⟩
  · have hb5p := hb5.h; try simp only [al_ete, al_dfn, Bool.not_eq_true', Bool.not_eq_false', al_ne, Bool.not_not, al_nn] at hb5p
    refine WO_guardT rfl rfl hb5.h ?_
    refine WO_p (PS_move_bool rfl) ?_
    refine WO_guardT rfl rfl hb5.h ?_
    refine WO_p (PS_not rfl) ?_
    refine WO_p (PS_pickF rfl hb5.h rfl) ?_
    refine WO_p (PS_move_bool rfl) ?_
    refine WO_if (t := 27) rfl (fun hb7 => ?_) (fun hb7 => ?_)
    · have hb7p := hb7.h; try simp only [al_ete, al_dfn, Bool.not_eq_true', Bool.not_eq_false', al_ne, Bool.not_not, al_nn] at hb7p
      refine WO_guardF rfl rfl hb7.h ?_
      refine WO_guardF rfl rfl hb7.h ?_
      refine WO_guardF rfl rfl hb7.h ?_
      refine WO_guardF rfl rfl hb7.h ?_
      refine WO_guardF rfl rfl hb7.h ?_
      refine WO_guardF rfl rfl hb7.h ?_
      refine WO_guardF rfl rfl hb7.h ?_
      refine WO_guardF rfl rfl hb7.h ?_
      refine WO_p (PS_pickT rfl hb7.h rfl) ?_
      refine WO_p (PS_assign_bool rfl) ?_
      refine WO_nil ?_
      refine thn_normal ?_
      refine W_ret ?_
      refine bodyQ_ret1 Hvad.results161 rfl (.bool _) rfl ?_
      exact ⟨(by repeat (first | assumption | exact Ext.refl _ | refine Ext.alloc ?_ _ | refine Ext.drew ?_ | refine Ext.setB ?_ (by first | omega | (simp only [size_alloc, size_setB, size_drew]; omega)) _ | refine Ext.trans ?_ (by assumption))), _, rfl⟩
    · have hb7p := hb7.h; try simp only [al_ete, al_dfn, Bool.not_eq_true', Bool.not_eq_false', al_ne, Bool.not_not, al_nn] at hb7p
      refine WO_guardT rfl rfl hb7.h ?_
      refine WO_p (PS_move_int rfl) ?_
      refine WO_guardT rfl rfl hb7.h ?_
      refine WO_p (PS_move_ptr rfl) ?_
      refine WO_guardT rfl rfl hb7.h ?_
      refine WO_p (PS_nilCheck rfl) ?_
      refine WO_guardT rfl rfl hb7.h ?_
      refine WO_p (PS_fieldAddr 2259 Hvad.runUnderlying69 rfl Hvad.sizeOf32 rfl rfl) ?_
      refine WO_guardT rfl rfl hb7.h ?_
      refine WO_load (.slice _ _ _) Hvad.isAgg32 rfl (Hb.h (by repeat (first | assumption | exact Hb.newY _ _ | refine Hb.alloc ?_ | refine Hb.drew ?_ | refine Hb.ext (by assumption) ?_ | exact Hb.setSameL (by first | omega | (simp only [size_alloc, size_setB, size_drew]; omega)) | exact Hb.setSame (by assumption) | refine Hb.set (by first | omega | (simp only [size_alloc, size_setB, size_drew]; omega)) ?_ ))) (Ce.h (by first | assumption | exact ⟨rfl⟩)) ?_
      refine WO_guardT rfl rfl hb7.h ?_
      refine WO_p (PS_lenS Hvad.runUnderlying32 rfl) ?_
      refine WO_guardT rfl rfl hb7.h ?_
      refine WO_p (PS_conv_u64n Hvad.runUnderlying3 Hvad.runUnderlying26 rfl (by omega) (by omega)) ?_
      refine WO_guardT rfl rfl hb7.h ?_
      refine WO_p (PS_gtr rfl rfl) ?_
      refine WO_p (PS_pickF rfl hb7.h rfl) ?_
      refine WO_p (PS_assign_bool rfl) ?_
      refine WO_nil ?_
      refine thn_normal ?_
      refine W_ret ?_
      refine bodyQ_ret1 Hvad.results161 rfl (.bool _) rfl ?_
      exact ⟨(by repeat (first | assumption | exact Ext.refl _ | refine Ext.alloc ?_ _ | refine Ext.drew ?_ | refine Ext.setB ?_ (by first | omega | (simp only [size_alloc, size_setB, size_drew]; omega)) _ | refine Ext.trans ?_ (by assumption))), _, rfl⟩

set_option maxRecDepth 10000 in
theorem warmAcct_spec (C : Nat) (c : Array Value) (v : V) (B : VB) (m : Mc) (A : List Int) (w : World) (hM : MS w C c v B m) (hA : By A 20) : Ret Hvad.prog 190 #[.pointer (some ⟨C, 0, none⟩), .agg (ic .u8 A)] w fun u w' => u = .bool (v.warmT A).1 ∧ MRet w C B m w' (v.warmT A).2 m := by
  have hblk := hM.vs.blk
  have hCl := hblk.lt
  have hcs := hM.sz
  have hc_s := hM.rep.s
  have hAl := hA.1
  refine Ret_of_W Hvad.func190 rfl rfl ?_
  refine W_seq ?_
  refine W_region rfl ?_
  refine WO_boxG (.agg _) rfl ?_
  intro b3 v3 hg3 hE3 hH3 hl3
  try simp only [size_alloc, size_setB, size_drew] at hg3
  have hzz3 := hE3.1
  try simp only [size_alloc, size_setB, size_drew] at hzz3
  refine WO_p (PS_assign_bool rfl) ?_
  refine WO_nil ?_
  refine thn_normal ?_
  refine W_seq ?_
  refine W_drawE [false, false, false, false, false, true, false, false, false, false, false, false, false, false, false] hmix (by kernel_rfl) rfl ?_
  refine WH_p (PS_move_ptr rfl) rfl ?_
  refine WH_p (PS_nilCheck rfl) rfl ?_
  refine WH_p (PS_fieldAddr 0 Hvad.runUnderlying69 rfl Hvad.sizeOf53 rfl rfl) rfl ?_
  refine WH_load (.pointer _) Hvad.isAgg53 rfl (Hb.h (by repeat (first | assumption | exact Hb.newY _ _ | refine Hb.alloc ?_ | refine Hb.drew ?_ | refine Hb.ext (by assumption) ?_ | exact Hb.setSameL (by first | omega | (simp only [size_alloc, size_setB, size_drew]; omega)) | exact Hb.setSame (by assumption) | refine Hb.set (by first | omega | (simp only [size_alloc, size_setB, size_drew]; omega)) ?_ ))) (Ce.h (by first | assumption | exact ⟨rfl⟩)) ?_
  refine WH_loadA _ Hvad.isAgg25 Hvad.sizeOf25 rfl (Hb.h (by repeat (first | assumption | exact Hb.newY _ _ | refine Hb.alloc ?_ | refine Hb.drew ?_ | refine Hb.ext (by assumption) ?_ | exact Hb.setSameL (by first | omega | (simp only [size_alloc, size_setB, size_drew]; omega)) | exact Hb.setSame (by assumption) | refine Hb.set (by first | omega | (simp only [size_alloc, size_setB, size_drew]; omega)) ?_ ))) (by first | omega | assumption | rfl | decide | exact Nat.le_refl _ | (simp only [size_ic, Value.cells]; omega) | simp) (Xt.h (by first | assumption | exact Xt.whole rfl rfl | exact Xt.whole rfl (by simp only [size_ic, Value.cells]; omega) | exact ⟨rfl⟩)) ?_
  refine WH_call Hvad.call76 (by rfl) (Ret.mono (isWarmA_spec C c v B (bb m) _ _ (VS.ext hM.vs (by repeat (first | assumption | exact Ext.refl _ | refine Ext.alloc ?_ _ | refine Ext.drew ?_ | refine Ext.setB ?_ (by first | omega | (simp only [size_alloc, size_setB, size_drew]; omega)) _ | exact Ext.trans (by assumption) (by assumption) | refine Ext.trans ?_ (by assumption)))) (by first | assumption | exact addrW_by _)) ?_)
  rintro _ w76_0 ⟨rfl, hE76_0⟩
  refine ⟨fun _ => (by repeat (first | assumption | exact Ext.refl _ | refine Ext.alloc ?_ _ | refine Ext.drew ?_ | refine Ext.setB ?_ (by first | omega | (simp only [size_alloc, size_setB, size_drew]; omega)) _ | exact Ext.trans (by assumption) (by assumption) | refine Ext.trans ?_ (by assumption))), ?_⟩
  have hz76_0 := hE76_0.1
  try simp only [size_alloc, size_setB, size_drew] at hz76_0
  refine WH_p (PS_move_bool rfl) rfl ?_
  refine WH_if (t := 11) rfl (fun hb3 => ?_) (fun hb3 => ?_)
  · have hb3p := hb3.h; try simp only [al_ete, al_dfn, Bool.not_eq_true', Bool.not_eq_false', al_ne, Bool.not_not, al_nn] at hb3p
    have hwt : v.warmT A = (true, v) := by unfold V.warmT; rw [if_pos hb3p]
    refine WH_guardF rfl rfl hb3.h ?_
    refine WH_guardF rfl rfl hb3.h ?_
    refine WH_guardF rfl rfl hb3.h ?_
    refine WH_guardF rfl rfl hb3.h ?_
    refine WH_guardF rfl rfl hb3.h ?_
    refine WH_guardF rfl rfl hb3.h ?_
    refine WH_p (PS_pickT rfl hb3.h rfl) rfl ?_
    refine WH_p (PS_assign_bool rfl) rfl ?_
    refine WH_nil ?_
    refine thn_normal ?_
    refine W_ret ?_
    refine bodyQ_ret1 Hvad.results190 rfl (.bool _) rfl ?_
    first
    | exact ⟨by rw [hwt], by rw [hwt]; exact MRet.of_ms hM (by repeat (first | assumption | exact Ext.refl _ | refine Ext.alloc ?_ _ | refine Ext.drew ?_ | refine Ext.setB ?_ (by first | omega | (simp only [size_alloc, size_setB, size_drew]; omega)) _ | refine Ext.trans ?_ (by assumption)))⟩
    | exact ⟨by rw [hwt], by rw [hwt]; exact hM2⟩
  · have hb3p := hb3.h; try simp only [al_ete, al_dfn, Bool.not_eq_true', Bool.not_eq_false', al_ne, Bool.not_not, al_nn] at hb3p
    have hwt : v.warmT A = v.warmA A := by unfold V.warmT; rw [if_neg (by simp [hb3p])]
    have hEb : Ext w w76_0 := (by repeat (first | assumption | exact Ext.refl _ | refine Ext.alloc ?_ _ | refine Ext.drew ?_ | refine Ext.setB ?_ (by first | omega | (simp only [size_alloc, size_setB, size_drew]; omega)) _ | exact Ext.trans (by assumption) (by assumption) | refine Ext.trans ?_ (by assumption)))
    refine WH_guardT rfl rfl hb3.h ?_
    refine WH_p (PS_move_ptr rfl) rfl ?_
    refine WH_guardT rfl rfl hb3.h ?_
    refine WH_p (PS_nilCheck rfl) rfl ?_
    refine WH_guardT rfl rfl hb3.h ?_
    refine WH_p (PS_fieldAddr 0 Hvad.runUnderlying69 rfl Hvad.sizeOf53 rfl rfl) rfl ?_
    refine WH_guardT rfl rfl hb3.h ?_
    refine WH_load (.pointer _) Hvad.isAgg53 rfl (Hb.h (by repeat (first | assumption | exact Hb.newY _ _ | refine Hb.alloc ?_ | refine Hb.drew ?_ | refine Hb.ext (by assumption) ?_ | exact Hb.setSameL (by first | omega | (simp only [size_alloc, size_setB, size_drew]; omega)) | exact Hb.setSame (by assumption) | refine Hb.set (by first | omega | (simp only [size_alloc, size_setB, size_drew]; omega)) ?_ ))) (Ce.h (by first | assumption | exact ⟨rfl⟩)) ?_
    refine WH_guardT rfl rfl hb3.h ?_
    refine WH_loadA _ Hvad.isAgg25 Hvad.sizeOf25 rfl (Hb.h (by repeat (first | assumption | exact Hb.newY _ _ | refine Hb.alloc ?_ | refine Hb.drew ?_ | refine Hb.ext (by assumption) ?_ | exact Hb.setSameL (by first | omega | (simp only [size_alloc, size_setB, size_drew]; omega)) | exact Hb.setSame (by assumption) | refine Hb.set (by first | omega | (simp only [size_alloc, size_setB, size_drew]; omega)) ?_ ))) (by first | omega | assumption | rfl | decide | exact Nat.le_refl _ | (simp only [size_ic, Value.cells]; omega) | simp) (Xt.h (by first | assumption | exact Xt.whole rfl rfl | exact Xt.whole rfl (by simp only [size_ic, Value.cells]; omega) | exact ⟨rfl⟩)) ?_
    refine WH_guardT rfl rfl hb3.h ?_
    refine WH_call Hvad.call77 (by rfl) (Ret.mono (warmA_spec C c v B (bb m) A _ (VS.ext hM.vs (by repeat (first | assumption | exact Ext.refl _ | refine Ext.alloc ?_ _ | refine Ext.drew ?_ | refine Ext.setB ?_ (by first | omega | (simp only [size_alloc, size_setB, size_drew]; omega)) _ | exact Ext.trans (by assumption) (by assumption) | refine Ext.trans ?_ (by assumption)))) hA) ?_)
    rintro _ w2 ⟨rfl, hR2⟩
    refine ⟨(fun h => by cases h), ?_⟩
    have hE2 : Ext w _ := hEb
    have hM2 := MRet.pre hEb ((MS.ext hM hEb).vret hR2)
    refine WH_p (PS_pickF rfl hb3.h rfl) rfl ?_
    refine WH_p (PS_assign_bool rfl) rfl ?_
    refine WH_nil ?_
    refine thn_normal ?_
    refine W_ret ?_
    refine bodyQ_ret1 Hvad.results190 rfl (.bool _) rfl ?_
    first
    | exact ⟨by rw [hwt], by rw [hwt]; exact MRet.of_ms hM (by repeat (first | assumption | exact Ext.refl _ | refine Ext.alloc ?_ _ | refine Ext.drew ?_ | refine Ext.setB ?_ (by first | omega | (simp only [size_alloc, size_setB, size_drew]; omega)) _ | refine Ext.trans ?_ (by assumption)))⟩
    | exact ⟨by rw [hwt], by rw [hwt]; exact hM2⟩

set_option maxRecDepth 10000 in
theorem read_spec (C : Nat) (c : Array Value) (v : V) (B : VB) (m : Mc) (k lo n : Nat) (W X : List Int) (w : World) (hM : MS w C c v B m) (hT : MemT m k lo n) (hW : Wd W) (hX : Wd X) (hr : wv X = 0 ∨ wv W + wv X ≤ n) : Ret Hvad.prog 188 #[.pointer (some ⟨C, 0, none⟩), .agg (ic .u64 W), .agg (ic .u64 X)] w fun u w' => Ext w w' ∧ ∃ s' L', u = .tuple #[.slice s'.1 s'.2.1 s'.2.2, .bool true] ∧ NewB w w' s' L' ∧ (L'.length : Int) = wv X ∧ By8 L' := by
  have hblk := hM.vs.blk
  have hCl := hblk.lt
  have hcs := hM.sz
  have hWl := hW.1
  have hXl := hX.1
  have hwb := wv_bd hW
  have hxb := wv_bd hX
  have h1 := hT.le
  have h2 := hT.sz
  refine Ret_of_W Hvad.func188 rfl rfl ?_
  refine W_seq ?_
  refine W_region rfl ?_
  refine WO_boxG (.agg _) rfl ?_
  intro b4 v4 hg4 hE4 hH4 hl4
  try simp only [size_alloc, size_setB, size_drew] at hg4
  have hzz4 := hE4.1
  try simp only [size_alloc, size_setB, size_drew] at hzz4
  refine WO_boxG (.agg _) rfl ?_
  intro b5 v5 hg5 hE5 hH5 hl5
  try simp only [size_alloc, size_setB, size_drew] at hg5
  have hzz5 := hE5.1
  try simp only [size_alloc, size_setB, size_drew] at hzz5
  refine WO_p (PS_assign_slice rfl) ?_
  refine WO_p (PS_assign_bool rfl) ?_
  refine WO_nil ?_
  refine thn_normal ?_
  refine W_seq ?_
  refine W_seq ?_
  refine W_region rfl ?_
  refine WO_loadA _ Hvad.isAgg59 Hvad.sizeOf59 rfl (Hb.h (by repeat (first | assumption | exact Hb.newY _ _ | refine Hb.alloc ?_ | refine Hb.drew ?_ | refine Hb.ext (by assumption) ?_ | exact Hb.setSameL (by first | omega | (simp only [size_alloc, size_setB, size_drew]; omega)) | exact Hb.setSame (by assumption) | refine Hb.set (by first | omega | (simp only [size_alloc, size_setB, size_drew]; omega)) ?_ ))) (by first | omega | assumption | rfl | decide | exact Nat.le_refl _ | (simp only [size_ic, Value.cells]; omega) | simp) (Xt.h (by first | assumption | exact Xt.whole rfl rfl | exact Xt.whole rfl (by simp only [size_ic, Value.cells]; omega) | exact ⟨rfl⟩)) ?_
  refine WO_call Hvad.call131 (by rfl) (Ret.mono (isz_spec _ _ (by first | assumption | exact argW_wd hM.ty _ _ | exact Wd0)) ?_)
  rintro _ w131_0 ⟨rfl, hE131_0⟩
  have hz131_0 := hE131_0.1
  try simp only [size_alloc, size_setB, size_drew] at hz131_0
  refine WO_nil ?_
  refine thn_normal ?_
  refine W_if rfl (fun hb2 => ?_) (fun hb2 => ?_)
  · have hb2p := hb2.h; try simp only [al_ete, al_dfn, Bool.not_eq_true', Bool.not_eq_false', al_ne, Bool.not_not, al_nn] at hb2p
    refine W_seq ?_
    refine W_region rfl ?_
    refine WO_p (PS_assign_slice rfl) ?_
    refine WO_p (PS_assign_bool rfl) ?_
    refine WO_nil ?_
    refine thn_normal ?_
    refine W_ret ?_
    refine thn_ret ?_
    refine bodyQ_ret2 Hvad.results188 rfl rfl (.slice _ _ _) (.bool _) rfl rfl ?_
    first
    | exact ⟨(by repeat (first | assumption | exact Ext.refl _ | refine Ext.alloc ?_ _ | refine Ext.drew ?_ | refine Ext.setB ?_ (by first | omega | (simp only [size_alloc, size_setB, size_drew]; omega)) _ | refine Ext.trans ?_ (by assumption))), (none, 0, 0), [], rfl, Or.inl ⟨rfl, rfl⟩, by simp; omega, by intro x hx; cases hx⟩
    | (refine ⟨(by repeat (first | assumption | exact Ext.refl _ | refine Ext.alloc ?_ _ | refine Ext.drew ?_ | refine Ext.setB ?_ (by first | omega | (simp only [size_alloc, size_setB, size_drew]; omega)) _ | refine Ext.trans ?_ (by assumption))), s3, L3, ?_, hN3w, by omega, hb3⟩
       congr 4
       obtain ⟨p3, n3, c3⟩ := s3
       cases p3 with
       | none => exact absurd rfl hns
       | some _ => rfl)
  · have hb2p := hb2.h; try simp only [al_ete, al_dfn, Bool.not_eq_true', Bool.not_eq_false', al_ne, Bool.not_not, al_nn] at hb2p
    obtain ⟨bq, Lq, hbq, _⟩ := hM.buf.some (by omega)
    have hs1 : smallW W = ((wv W).toNat : Int) := by unfold smallW; rw [if_pos (by omega)]; omega
    have hs2 : smallW X = ((wv X).toNat : Int) := by unfold smallW; rw [if_pos (by omega)]; omega
    refine W_skip ?_
    refine thn_normal ?_
    refine W_seq ?_
    refine W_drawE [false, false, false, false, true, false, false, false, false] hmix (by kernel_rfl) rfl ?_
    refine WH_p (PS_move_ptr rfl) rfl ?_
    refine WH_p (PS_nilCheck rfl) rfl ?_
    refine WH_p (PS_fieldAddr 1 Hvad.runUnderlying69 rfl Hvad.sizeOf57 rfl rfl) rfl ?_
    refine WH_loadA _ Hvad.isAgg59 Hvad.sizeOf59 rfl (Hb.h (by repeat (first | assumption | exact Hb.newY _ _ | refine Hb.alloc ?_ | refine Hb.drew ?_ | refine Hb.ext (by assumption) ?_ | exact Hb.setSameL (by first | omega | (simp only [size_alloc, size_setB, size_drew]; omega)) | exact Hb.setSame (by assumption) | refine Hb.set (by first | omega | (simp only [size_alloc, size_setB, size_drew]; omega)) ?_ ))) (by first | omega | assumption | rfl | decide | exact Nat.le_refl _ | (simp only [size_ic, Value.cells]; omega) | simp) (Xt.h (by first | assumption | exact Xt.whole rfl rfl | exact Xt.whole rfl (by simp only [size_ic, Value.cells]; omega) | exact ⟨rfl⟩)) ?_
    refine WH_call Hvad.call195 (by rfl) (Ret.mono (small_spec _ _ (by assumption)) ?_)
    rintro _ w195_2 ⟨hE195_2, rfl⟩
    refine ⟨fun _ => (by repeat (first | assumption | exact Ext.refl _ | refine Ext.alloc ?_ _ | refine Ext.drew ?_ | refine Ext.setB ?_ (by first | omega | (simp only [size_alloc, size_setB, size_drew]; omega)) _ | exact Ext.trans (by assumption) (by assumption) | refine Ext.trans ?_ (by assumption))), ?_⟩
    have hz195_2 := hE195_2.1
    try simp only [size_alloc, size_setB, size_drew] at hz195_2
    first | rw [hs1] | rw [hs2]
    refine WH_loadA _ Hvad.isAgg59 Hvad.sizeOf59 rfl (Hb.h (by repeat (first | assumption | exact Hb.newY _ _ | refine Hb.alloc ?_ | refine Hb.drew ?_ | refine Hb.ext (by assumption) ?_ | exact Hb.setSameL (by first | omega | (simp only [size_alloc, size_setB, size_drew]; omega)) | exact Hb.setSame (by assumption) | refine Hb.set (by first | omega | (simp only [size_alloc, size_setB, size_drew]; omega)) ?_ ))) (by first | omega | assumption | rfl | decide | exact Nat.le_refl _ | (simp only [size_ic, Value.cells]; omega) | simp) (Xt.h (by first | assumption | exact Xt.whole rfl rfl | exact Xt.whole rfl (by simp only [size_ic, Value.cells]; omega) | exact ⟨rfl⟩)) ?_
    refine WH_call Hvad.call195 (by rfl) (Ret.mono (small_spec _ _ (by assumption)) ?_)
    rintro _ w195_3 ⟨hE195_3, rfl⟩
    refine ⟨(fun h => by cases h), ?_⟩
    have hz195_3 := hE195_3.1
    try simp only [size_alloc, size_setB, size_drew] at hz195_3
    first | rw [hs1] | rw [hs2]
    refine WH_call Hvad.call260 (by rfl) (Ret.mono (memRead_spec C c v B m k lo n (wv W).toNat (wv X).toNat bq _ (MS.ext hM (by repeat (first | assumption | exact Ext.refl _ | refine Ext.alloc ?_ _ | refine Ext.drew ?_ | refine Ext.setB ?_ (by first | omega | (simp only [size_alloc, size_setB, size_drew]; omega)) _ | exact Ext.trans (by assumption) (by assumption) | refine Ext.trans ?_ (by assumption)))) hT hbq (by omega) (by omega)) ?_)
    rintro _ w3 ⟨hE3, s3, L3, rfl, hN3, hl3, hb3⟩
    refine ⟨(fun h => by cases h), ?_⟩
    have hN3w : NewB w w3 s3 L3 := hN3.mono (by (try simp only [size_alloc, size_setB, size_drew]); omega)
    have hns : s3.1 ≠ none := by
      rcases hN3 with ⟨e, _⟩ | ⟨_, bb3, e, _⟩
      · rw [e] at hl3; simp at hl3; omega
      · rw [e]; simp
    refine WH_p (PS_assign_slice rfl) rfl ?_
    refine WH_nil ?_
    refine thn_normal ?_
    refine W_seq ?_
    refine W_region rfl ?_
    refine WO_p (PS_move_slice rfl) ?_
    refine WO_p (PS_move_slice rfl) ?_
    refine WO_p (PS_neqslnil Hvad.underlying32 rfl) ?_
    refine WO_p (PS_assign_slice rfl) ?_
    refine WO_p (PS_assign_bool rfl) ?_
    refine WO_nil ?_
    refine thn_normal ?_
    refine W_ret ?_
    refine bodyQ_ret2 Hvad.results188 rfl rfl (.slice _ _ _) (.bool _) rfl rfl ?_
    first
    | exact ⟨(by repeat (first | assumption | exact Ext.refl _ | refine Ext.alloc ?_ _ | refine Ext.drew ?_ | refine Ext.setB ?_ (by first | omega | (simp only [size_alloc, size_setB, size_drew]; omega)) _ | refine Ext.trans ?_ (by assumption))), (none, 0, 0), [], rfl, Or.inl ⟨rfl, rfl⟩, by simp; omega, by intro x hx; cases hx⟩
    | (refine ⟨(by repeat (first | assumption | exact Ext.refl _ | refine Ext.alloc ?_ _ | refine Ext.drew ?_ | refine Ext.setB ?_ (by first | omega | (simp only [size_alloc, size_setB, size_drew]; omega)) _ | refine Ext.trans ?_ (by assumption))), s3, L3, ?_, hN3w, by omega, hb3⟩
       congr 4
       obtain ⟨p3, n3, c3⟩ := s3
       cases p3 with
       | none => exact absurd rfl hns
       | some _ => rfl)

theorem code_len {v : V} (h : VInv v) : ∀ x ∈ v.accts, x.code.2.1 ≤ 256 := fun x hx => (h.cd x hx).1

set_option maxRecDepth 10000 in
theorem taken_spec (C : Nat) (c : Array Value) (v : V) (B : VB) (m : Mc) (A : List Int) (w : World) (hM : MS w C c v B m) (hI : VInv v) (hA : By A 20) : Ret Hvad.prog 44 #[.pointer (some ⟨C, 0, none⟩), .agg (ic .u8 A)] w fun u w' => Ext w w' ∧ ∃ q, u = .bool q := by
  have hblk := hM.vs.blk
  have hCl := hblk.lt
  have hcs := hM.sz
  have hc_s := hM.rep.s
  have hAl := hA.1
  have hcl := code_len hI
  refine Ret_of_W Hvad.func44 rfl rfl ?_
  refine W_seq ?_
  refine W_region rfl ?_
  refine WO_boxG (.agg _) rfl ?_
  intro b3 v3 hg3 hE3 hH3 hl3
  try simp only [size_alloc, size_setB, size_drew] at hg3
  have hzz3 := hE3.1
  try simp only [size_alloc, size_setB, size_drew] at hzz3
  refine WO_p (PS_assign_bool rfl) ?_
  refine WO_nil ?_
  refine thn_normal ?_
  refine W_seq ?_
  refine W_drawE [false, false, false, false, false, true, false, false, false, false, false, false, false, false, false, false, false, false] hmix (by kernel_rfl) rfl ?_
  refine WH_p (PS_move_ptr rfl) rfl ?_
  refine WH_p (PS_nilCheck rfl) rfl ?_
  refine WH_p (PS_fieldAddr 0 Hvad.runUnderlying69 rfl Hvad.sizeOf53 rfl rfl) rfl ?_
  refine WH_load (.pointer _) Hvad.isAgg53 rfl (Hb.h (by repeat (first | assumption | exact Hb.newY _ _ | refine Hb.alloc ?_ | refine Hb.drew ?_ | refine Hb.ext (by assumption) ?_ | exact Hb.setSameL (by first | omega | (simp only [size_alloc, size_setB, size_drew]; omega)) | exact Hb.setSame (by assumption) | refine Hb.set (by first | omega | (simp only [size_alloc, size_setB, size_drew]; omega)) ?_ ))) (Ce.h (by first | assumption | exact ⟨rfl⟩)) ?_
  refine WH_loadA _ Hvad.isAgg25 Hvad.sizeOf25 rfl (Hb.h (by repeat (first | assumption | exact Hb.newY _ _ | refine Hb.alloc ?_ | refine Hb.drew ?_ | refine Hb.ext (by assumption) ?_ | exact Hb.setSameL (by first | omega | (simp only [size_alloc, size_setB, size_drew]; omega)) | exact Hb.setSame (by assumption) | refine Hb.set (by first | omega | (simp only [size_alloc, size_setB, size_drew]; omega)) ?_ ))) (by first | omega | assumption | rfl | decide | exact Nat.le_refl _ | (simp only [size_ic, Value.cells]; omega) | simp) (Xt.h (by first | assumption | exact Xt.whole rfl rfl | exact Xt.whole rfl (by simp only [size_ic, Value.cells]; omega) | exact ⟨rfl⟩)) ?_
  refine WH_call Hvad.call62 (by rfl) (Ret.mono (nonce_spec C c v B (bb m) _ _ (VS.ext hM.vs (by repeat (first | assumption | exact Ext.refl _ | refine Ext.alloc ?_ _ | refine Ext.drew ?_ | refine Ext.setB ?_ (by first | omega | (simp only [size_alloc, size_setB, size_drew]; omega)) _ | exact Ext.trans (by assumption) (by assumption) | refine Ext.trans ?_ (by assumption)))) (by first | assumption | exact addrW_by _)) ?_)
  rintro _ w62_0 ⟨rfl, hE62_0⟩
  refine ⟨fun _ => (by repeat (first | assumption | exact Ext.refl _ | refine Ext.alloc ?_ _ | refine Ext.drew ?_ | refine Ext.setB ?_ (by first | omega | (simp only [size_alloc, size_setB, size_drew]; omega)) _ | exact Ext.trans (by assumption) (by assumption) | refine Ext.trans ?_ (by assumption))), ?_⟩
  have hz62_0 := hE62_0.1
  try simp only [size_alloc, size_setB, size_drew] at hz62_0
  refine WH_p (PS_gtr rfl rfl) rfl ?_
  refine WH_p (PS_move_bool rfl) rfl ?_
  refine WH_if (t := 12) rfl (fun hb3 => ?_) (fun hb3 => ?_)
  · have hb3p := hb3.h; try simp only [al_ete, al_dfn, Bool.not_eq_true', Bool.not_eq_false', al_ne, Bool.not_not, al_nn] at hb3p
    refine WH_guardF rfl rfl hb3.h ?_
    refine WH_guardF rfl rfl hb3.h ?_
    refine WH_guardF rfl rfl hb3.h ?_
    refine WH_guardF rfl rfl hb3.h ?_
    refine WH_guardF rfl rfl hb3.h ?_
    refine WH_guardF rfl rfl hb3.h ?_
    refine WH_guardF rfl rfl hb3.h ?_
    refine WH_guardF rfl rfl hb3.h ?_
    refine WH_p (PS_pickT rfl hb3.h rfl) rfl ?_
    refine WH_p (PS_assign_bool rfl) rfl ?_
    refine WH_nil ?_
    refine thn_normal ?_
    refine W_ret ?_
    refine bodyQ_ret1 Hvad.results44 rfl (.bool _) rfl ?_
    exact ⟨(by repeat (first | assumption | exact Ext.refl _ | refine Ext.alloc ?_ _ | refine Ext.drew ?_ | refine Ext.setB ?_ (by first | omega | (simp only [size_alloc, size_setB, size_drew]; omega)) _ | refine Ext.trans ?_ (by assumption))), _, rfl⟩
  · have hb3p := hb3.h; try simp only [al_ete, al_dfn, Bool.not_eq_true', Bool.not_eq_false', al_ne, Bool.not_not, al_nn] at hb3p
    refine WH_guardT rfl rfl hb3.h ?_
    refine WH_p (PS_move_ptr rfl) rfl ?_
    refine WH_guardT rfl rfl hb3.h ?_
    refine WH_p (PS_nilCheck rfl) rfl ?_
    refine WH_guardT rfl rfl hb3.h ?_
    refine WH_p (PS_fieldAddr 0 Hvad.runUnderlying69 rfl Hvad.sizeOf53 rfl rfl) rfl ?_
    refine WH_guardT rfl rfl hb3.h ?_
    refine WH_load (.pointer _) Hvad.isAgg53 rfl (Hb.h (by repeat (first | assumption | exact Hb.newY _ _ | refine Hb.alloc ?_ | refine Hb.drew ?_ | refine Hb.ext (by assumption) ?_ | exact Hb.setSameL (by first | omega | (simp only [size_alloc, size_setB, size_drew]; omega)) | exact Hb.setSame (by assumption) | refine Hb.set (by first | omega | (simp only [size_alloc, size_setB, size_drew]; omega)) ?_ ))) (Ce.h (by first | assumption | exact ⟨rfl⟩)) ?_
    refine WH_guardT rfl rfl hb3.h ?_
    refine WH_loadA _ Hvad.isAgg25 Hvad.sizeOf25 rfl (Hb.h (by repeat (first | assumption | exact Hb.newY _ _ | refine Hb.alloc ?_ | refine Hb.drew ?_ | refine Hb.ext (by assumption) ?_ | exact Hb.setSameL (by first | omega | (simp only [size_alloc, size_setB, size_drew]; omega)) | exact Hb.setSame (by assumption) | refine Hb.set (by first | omega | (simp only [size_alloc, size_setB, size_drew]; omega)) ?_ ))) (by first | omega | assumption | rfl | decide | exact Nat.le_refl _ | (simp only [size_ic, Value.cells]; omega) | simp) (Xt.h (by first | assumption | exact Xt.whole rfl rfl | exact Xt.whole rfl (by simp only [size_ic, Value.cells]; omega) | exact ⟨rfl⟩)) ?_
    refine WH_guardT rfl rfl hb3.h ?_
    refine WH_call Hvad.call41 (by rfl) (Ret.mono (code_spec C c v B (bb m) A _ (VS.ext hM.vs (by repeat (first | assumption | exact Ext.refl _ | refine Ext.alloc ?_ _ | refine Ext.drew ?_ | refine Ext.setB ?_ (by first | omega | (simp only [size_alloc, size_setB, size_drew]; omega)) _ | exact Ext.trans (by assumption) (by assumption) | refine Ext.trans ?_ (by assumption)))) hA hcl) ?_)
    rintro _ w2 ⟨hE2, s2, L2, rfl, hN2, hL2, hC2⟩
    refine ⟨(fun h => by cases h), ?_⟩
    have hl2 := hN2.len
    refine WH_guardT rfl rfl hb3.h ?_
    refine WH_p (PS_lenS Hvad.runUnderlying32 rfl) rfl ?_
    refine WH_guardT rfl rfl hb3.h ?_
    refine WH_p (PS_gtr rfl rfl) rfl ?_
    refine WH_p (PS_pickF rfl hb3.h rfl) rfl ?_
    refine WH_p (PS_assign_bool rfl) rfl ?_
    refine WH_nil ?_
    refine thn_normal ?_
    refine W_ret ?_
    refine bodyQ_ret1 Hvad.results44 rfl (.bool _) rfl ?_
    exact ⟨(by repeat (first | assumption | exact Ext.refl _ | refine Ext.alloc ?_ _ | refine Ext.drew ?_ | refine Ext.setB ?_ (by first | omega | (simp only [size_alloc, size_setB, size_drew]; omega)) _ | refine Ext.trans ?_ (by assumption))), _, rfl⟩

set_option maxRecDepth 10000 in
set_option maxHeartbeats 1000000 in
theorem dynamic_spec (C : Nat) (c : Array Value) (v : V) (B : VB) (m : Mc) (t : Nat) (f : Fm) (o : Int) (w : World) (hM : MS w C c v B m) (hA : FrA m t f) (ho : 0 ≤ o ∧ o ≤ 255) (hre : (reachesW m f o).2 = true) : Ret Hvad.prog 165 #[.pointer (some ⟨C, 0, none⟩), .pointer (some ⟨C, 1803 + t * 65, none⟩), .int .u8 o] w fun u w' => Ext w w' ∧ ∃ x, u = .int .u64 x ∧ DynR m v f o x := by
  have hA0 := hA
  have hblk := hM.vs.blk
  have hCl := hblk.lt
  have hcs := hM.sz
  have hc_s := hM.rep.s
  obtain ⟨ht6, hf, hsb, hsp⟩ := hA0
  obtain ⟨ht7, hfty, hF⟩ := hM.openF hf
  have hf_self := hF.self
  have hby := hfty.self
  have ha0 := accW_bd v (addrW (m.argW f 0))
  have ha1 := accW_bd v (addrW (m.argW f 1))
  have hw2 := argW_wd hM.ty f 2
  have hl2 := hw2.1
  have hss := sstoreW_bd (v.sorig f.self (m.argW f 0)) (v.sval f.self (m.argW f 0)) (m.argW f 1) (!v.isWarmS f.self (m.argW f 0))
  refine Ret_of_W Hvad.func165 rfl rfl ?_
  refine W_seq ?_
  refine W_region rfl ?_
  refine WO_p (PS_assign_int rfl) ?_
  refine WO_nil ?_
  refine thn_normal ?_
  refine W_seq ?_
  refine W_seq ?_
  refine W_region rfl ?_
  refine WO_p (PS_move_int rfl) ?_
  refine WO_nil ?_
  refine thn_normal ?_
  refine W_block ?_
  refine W_seq ?_
  refine W_region rfl ?_
  refine WO_p (PS_eql rfl rfl) ?_
  refine WO_p (PS_assign_bool rfl) ?_
  refine WO_nil ?_
  refine thn_normal ?_
  refine W_if rfl (fun hb2 => ?_) (fun hb2 => ?_)
  · have hb2p := hb2.h; try simp only [al_ete, al_dfn, Bool.not_eq_true', Bool.not_eq_false', al_ne, Bool.not_not, al_nn] at hb2p
    refine W_seq ?_
    refine W_region rfl ?_
    refine WO_p (PS_move_ptr rfl) ?_
    refine WO_p (PS_move_ptr rfl) ?_
    refine WO_call Hvad.call160 (by rfl) (Ret.mono (arg_spec C c v B m t f _ _ (MS.ext hM (by repeat (first | assumption | exact Ext.refl _ | refine Ext.alloc ?_ _ | refine Ext.drew ?_ | refine Ext.setB ?_ (by first | omega | (simp only [size_alloc, size_setB, size_drew]; omega)) _ | exact Ext.trans (by assumption) (by assumption) | refine Ext.trans ?_ (by assumption)))) hA (by omega)) ?_)
    rintro _ w160_2 ⟨hE160_2, rfl⟩
    have hz160_2 := hE160_2.1
    try simp only [size_alloc, size_setB, size_drew] at hz160_2
    refine WO_call Hvad.call243 (by rfl) (Ret.mono (expCost_spec _ _ (by first | assumption | exact argW_wd hM.ty _ _ | exact Wd0)) ?_)
    rintro _ w243_3 ⟨hE243_3, x243_3, rfl, hx243_3, hxb243_3⟩
    have hz243_3 := hE243_3.1
    try simp only [size_alloc, size_setB, size_drew] at hz243_3
    refine WO_p (PS_sub_u64n rfl rfl (by omega) (by omega)) ?_
    refine WO_p (PS_assign_int rfl) ?_
    refine WO_nil ?_
    refine thn_normal ?_
    refine W_ret ?_
    refine inBlk_ret ?_
    refine thn_ret ?_
    refine bodyQ_ret1 Hvad.results165 rfl (.int _ _) rfl ?_
    first
    | (exfalso; omega)
    | exact ⟨(by repeat (first | assumption | exact Ext.refl _ | refine Ext.alloc ?_ _ | refine Ext.drew ?_ | refine Ext.setB ?_ (by first | omega | (simp only [size_alloc, size_setB, size_drew]; omega)) _ | refine Ext.trans ?_ (by assumption))), _, rfl, ⟨by omega, fun h => by omega, fun h => by omega, fun h _ => by omega, fun h => by omega, fun h => by omega, fun h => by omega⟩⟩
    | exact ⟨(by repeat (first | assumption | exact Ext.refl _ | refine Ext.alloc ?_ _ | refine Ext.drew ?_ | refine Ext.setB ?_ (by first | omega | (simp only [size_alloc, size_setB, size_drew]; omega)) _ | refine Ext.trans ?_ (by assumption))), _, rfl, ⟨by omega, fun h => by omega, fun h => by omega, fun h _ => by omega, fun h => by simp_all, fun h => by omega, fun h => by omega⟩⟩
    | exact ⟨(by repeat (first | assumption | exact Ext.refl _ | refine Ext.alloc ?_ _ | refine Ext.drew ?_ | refine Ext.setB ?_ (by first | omega | (simp only [size_alloc, size_setB, size_drew]; omega)) _ | refine Ext.trans ?_ (by assumption))), _, rfl, ⟨by omega, fun h => by omega, fun h => by omega, fun h _ => by omega, fun h => by omega, fun h => rfl, fun h => by omega⟩⟩
    | exact ⟨(by repeat (first | assumption | exact Ext.refl _ | refine Ext.alloc ?_ _ | refine Ext.drew ?_ | refine Ext.setB ?_ (by first | omega | (simp only [size_alloc, size_setB, size_drew]; omega)) _ | refine Ext.trans ?_ (by assumption))), _, rfl, ⟨by omega, fun h => by omega, fun h => by omega, fun h _ => by omega, fun h => by omega, fun h => by omega, fun _ h => by first | exact hxd248_0 h | (simp_all; done)⟩⟩
  · have hb2p := hb2.h; try simp only [al_ete, al_dfn, Bool.not_eq_true', Bool.not_eq_false', al_ne, Bool.not_not, al_nn] at hb2p
    refine W_seq ?_
    refine W_region rfl ?_
    refine WO_p (PS_eql rfl rfl) ?_
    refine WO_p (PS_assign_bool rfl) ?_
    refine WO_nil ?_
    refine thn_normal ?_
    refine W_if rfl (fun hb6 => ?_) (fun hb6 => ?_)
    · have hb6p := hb6.h; try simp only [al_ete, al_dfn, Bool.not_eq_true', Bool.not_eq_false', al_ne, Bool.not_not, al_nn] at hb6p
      refine W_seq ?_
      refine W_region rfl ?_
      refine WO_p (PS_move_ptr rfl) ?_
      refine WO_p (PS_move_ptr rfl) ?_
      refine WO_call Hvad.call160 (by rfl) (Ret.mono (arg_spec C c v B m t f _ _ (MS.ext hM (by repeat (first | assumption | exact Ext.refl _ | refine Ext.alloc ?_ _ | refine Ext.drew ?_ | refine Ext.setB ?_ (by first | omega | (simp only [size_alloc, size_setB, size_drew]; omega)) _ | exact Ext.trans (by assumption) (by assumption) | refine Ext.trans ?_ (by assumption)))) hA (by omega)) ?_)
      rintro _ w160_6 ⟨hE160_6, rfl⟩
      have hz160_6 := hE160_6.1
      try simp only [size_alloc, size_setB, size_drew] at hz160_6
      refine WO_call Hvad.call244 (by rfl) (Ret.mono (lenX_spec _ _ (argW_wd hM.ty _ _) (by first | exact lenA hre (by omega) | exact lenB hre (by omega) | exact lenC hre (by omega) | exact lenD hre (by omega) | exact lenE hre (by omega))) ?_)
      rintro _ w244_7 ⟨hE244_7, x244_7, rfl, hx0244_7, hx1244_7⟩
      have hz244_7 := hE244_7.1
      try simp only [size_alloc, size_setB, size_drew] at hz244_7
      refine WO_call Hvad.call70 (by rfl) (Ret.mono (words_spec _ _ ⟨by omega, by omega⟩) ?_)
      rintro _ _ ⟨rfl, rfl⟩
      refine WO_p (PS_mul_u64n rfl rfl (by omega) (by omega)) ?_
      refine WO_p (PS_assign_int rfl) ?_
      refine WO_nil ?_
      refine thn_normal ?_
      refine W_ret ?_
      refine inBlk_ret ?_
      refine thn_ret ?_
      refine bodyQ_ret1 Hvad.results165 rfl (.int _ _) rfl ?_
      first
      | (exfalso; omega)
      | exact ⟨(by repeat (first | assumption | exact Ext.refl _ | refine Ext.alloc ?_ _ | refine Ext.drew ?_ | refine Ext.setB ?_ (by first | omega | (simp only [size_alloc, size_setB, size_drew]; omega)) _ | refine Ext.trans ?_ (by assumption))), _, rfl, ⟨by omega, fun h => by omega, fun h => by omega, fun h _ => by omega, fun h => by omega, fun h => by omega, fun h => by omega⟩⟩
      | exact ⟨(by repeat (first | assumption | exact Ext.refl _ | refine Ext.alloc ?_ _ | refine Ext.drew ?_ | refine Ext.setB ?_ (by first | omega | (simp only [size_alloc, size_setB, size_drew]; omega)) _ | refine Ext.trans ?_ (by assumption))), _, rfl, ⟨by omega, fun h => by omega, fun h => by omega, fun h _ => by omega, fun h => by simp_all, fun h => by omega, fun h => by omega⟩⟩
      | exact ⟨(by repeat (first | assumption | exact Ext.refl _ | refine Ext.alloc ?_ _ | refine Ext.drew ?_ | refine Ext.setB ?_ (by first | omega | (simp only [size_alloc, size_setB, size_drew]; omega)) _ | refine Ext.trans ?_ (by assumption))), _, rfl, ⟨by omega, fun h => by omega, fun h => by omega, fun h _ => by omega, fun h => by omega, fun h => rfl, fun h => by omega⟩⟩
      | exact ⟨(by repeat (first | assumption | exact Ext.refl _ | refine Ext.alloc ?_ _ | refine Ext.drew ?_ | refine Ext.setB ?_ (by first | omega | (simp only [size_alloc, size_setB, size_drew]; omega)) _ | refine Ext.trans ?_ (by assumption))), _, rfl, ⟨by omega, fun h => by omega, fun h => by omega, fun h _ => by omega, fun h => by omega, fun h => by omega, fun _ h => by first | exact hxd248_0 h | (simp_all; done)⟩⟩
    · have hb6p := hb6.h; try simp only [al_ete, al_dfn, Bool.not_eq_true', Bool.not_eq_false', al_ne, Bool.not_not, al_nn] at hb6p
      refine W_seq ?_
      refine W_seq ?_
      refine W_region rfl ?_
      refine WO_p (PS_eql rfl rfl) ?_
      refine WO_p (PS_assign_bool rfl) ?_
      refine WO_nil ?_
      refine thn_normal ?_
      refine W_if rfl (fun hb11 => ?_) (fun hb11 => ?_)
      · have hb11p := hb11.h; try simp only [al_ete, al_dfn, Bool.not_eq_true', Bool.not_eq_false', al_ne, Bool.not_not, al_nn] at hb11p
        refine W_skip ?_
        refine thn_normal ?_
        refine W_condT rfl hb11.h ?_
        refine W_seq ?_
        refine W_region rfl ?_
        refine WO_p (PS_move_ptr rfl) ?_
        refine WO_p (PS_move_ptr rfl) ?_
        refine WO_call Hvad.call160 (by rfl) (Ret.mono (arg_spec C c v B m t f _ _ (MS.ext hM (by repeat (first | assumption | exact Ext.refl _ | refine Ext.alloc ?_ _ | refine Ext.drew ?_ | refine Ext.setB ?_ (by first | omega | (simp only [size_alloc, size_setB, size_drew]; omega)) _ | exact Ext.trans (by assumption) (by assumption) | refine Ext.trans ?_ (by assumption)))) hA (by omega)) ?_)
        rintro _ w160_11 ⟨hE160_11, rfl⟩
        have hz160_11 := hE160_11.1
        try simp only [size_alloc, size_setB, size_drew] at hz160_11
        refine WO_call Hvad.call244 (by rfl) (Ret.mono (lenX_spec _ _ (argW_wd hM.ty _ _) (by first | exact lenA hre (by omega) | exact lenB hre (by omega) | exact lenC hre (by omega) | exact lenD hre (by omega) | exact lenE hre (by omega))) ?_)
        rintro _ w244_12 ⟨hE244_12, x244_12, rfl, hx0244_12, hx1244_12⟩
        have hz244_12 := hE244_12.1
        try simp only [size_alloc, size_setB, size_drew] at hz244_12
        refine WO_call Hvad.call245 (by rfl) (Ret.mono (copyCost_spec _ _ (by omega) (by omega)) ?_)
        rintro _ w245_13 ⟨hE245_13, rfl⟩
        have hz245_13 := hE245_13.1
        try simp only [size_alloc, size_setB, size_drew] at hz245_13
        refine WO_p (PS_assign_int rfl) ?_
        refine WO_nil ?_
        refine thn_normal ?_
        refine W_ret ?_
        refine inBlk_ret ?_
        refine thn_ret ?_
        refine bodyQ_ret1 Hvad.results165 rfl (.int _ _) rfl ?_
        first
        | (exfalso; omega)
        | exact ⟨(by repeat (first | assumption | exact Ext.refl _ | refine Ext.alloc ?_ _ | refine Ext.drew ?_ | refine Ext.setB ?_ (by first | omega | (simp only [size_alloc, size_setB, size_drew]; omega)) _ | refine Ext.trans ?_ (by assumption))), _, rfl, ⟨by omega, fun h => by omega, fun h => by omega, fun h _ => by omega, fun h => by omega, fun h => by omega, fun h => by omega⟩⟩
        | exact ⟨(by repeat (first | assumption | exact Ext.refl _ | refine Ext.alloc ?_ _ | refine Ext.drew ?_ | refine Ext.setB ?_ (by first | omega | (simp only [size_alloc, size_setB, size_drew]; omega)) _ | refine Ext.trans ?_ (by assumption))), _, rfl, ⟨by omega, fun h => by omega, fun h => by omega, fun h _ => by omega, fun h => by simp_all, fun h => by omega, fun h => by omega⟩⟩
        | exact ⟨(by repeat (first | assumption | exact Ext.refl _ | refine Ext.alloc ?_ _ | refine Ext.drew ?_ | refine Ext.setB ?_ (by first | omega | (simp only [size_alloc, size_setB, size_drew]; omega)) _ | refine Ext.trans ?_ (by assumption))), _, rfl, ⟨by omega, fun h => by omega, fun h => by omega, fun h _ => by omega, fun h => by omega, fun h => rfl, fun h => by omega⟩⟩
        | exact ⟨(by repeat (first | assumption | exact Ext.refl _ | refine Ext.alloc ?_ _ | refine Ext.drew ?_ | refine Ext.setB ?_ (by first | omega | (simp only [size_alloc, size_setB, size_drew]; omega)) _ | refine Ext.trans ?_ (by assumption))), _, rfl, ⟨by omega, fun h => by omega, fun h => by omega, fun h _ => by omega, fun h => by omega, fun h => by omega, fun _ h => by first | exact hxd248_0 h | (simp_all; done)⟩⟩
      · have hb11p := hb11.h; try simp only [al_ete, al_dfn, Bool.not_eq_true', Bool.not_eq_false', al_ne, Bool.not_not, al_nn] at hb11p
        refine W_seq ?_
        refine W_region rfl ?_
        refine WO_p (PS_eql rfl rfl) ?_
        refine WO_p (PS_assign_bool rfl) ?_
        refine WO_nil ?_
        refine thn_normal ?_
        refine W_if rfl (fun hb16 => ?_) (fun hb16 => ?_)
        · have hb16p := hb16.h; try simp only [al_ete, al_dfn, Bool.not_eq_true', Bool.not_eq_false', al_ne, Bool.not_not, al_nn] at hb16p
          refine W_skip ?_
          refine thn_normal ?_
          refine W_condT rfl hb16.h ?_
          refine W_seq ?_
          refine W_region rfl ?_
          refine WO_p (PS_move_ptr rfl) ?_
          refine WO_p (PS_move_ptr rfl) ?_
          refine WO_call Hvad.call160 (by rfl) (Ret.mono (arg_spec C c v B m t f _ _ (MS.ext hM (by repeat (first | assumption | exact Ext.refl _ | refine Ext.alloc ?_ _ | refine Ext.drew ?_ | refine Ext.setB ?_ (by first | omega | (simp only [size_alloc, size_setB, size_drew]; omega)) _ | exact Ext.trans (by assumption) (by assumption) | refine Ext.trans ?_ (by assumption)))) hA (by omega)) ?_)
          rintro _ w160_16 ⟨hE160_16, rfl⟩
          have hz160_16 := hE160_16.1
          try simp only [size_alloc, size_setB, size_drew] at hz160_16
          refine WO_call Hvad.call244 (by rfl) (Ret.mono (lenX_spec _ _ (argW_wd hM.ty _ _) (by first | exact lenA hre (by omega) | exact lenB hre (by omega) | exact lenC hre (by omega) | exact lenD hre (by omega) | exact lenE hre (by omega))) ?_)
          rintro _ w244_17 ⟨hE244_17, x244_17, rfl, hx0244_17, hx1244_17⟩
          have hz244_17 := hE244_17.1
          try simp only [size_alloc, size_setB, size_drew] at hz244_17
          refine WO_call Hvad.call245 (by rfl) (Ret.mono (copyCost_spec _ _ (by omega) (by omega)) ?_)
          rintro _ w245_18 ⟨hE245_18, rfl⟩
          have hz245_18 := hE245_18.1
          try simp only [size_alloc, size_setB, size_drew] at hz245_18
          refine WO_p (PS_assign_int rfl) ?_
          refine WO_nil ?_
          refine thn_normal ?_
          refine W_ret ?_
          refine inBlk_ret ?_
          refine thn_ret ?_
          refine bodyQ_ret1 Hvad.results165 rfl (.int _ _) rfl ?_
          first
          | (exfalso; omega)
          | exact ⟨(by repeat (first | assumption | exact Ext.refl _ | refine Ext.alloc ?_ _ | refine Ext.drew ?_ | refine Ext.setB ?_ (by first | omega | (simp only [size_alloc, size_setB, size_drew]; omega)) _ | refine Ext.trans ?_ (by assumption))), _, rfl, ⟨by omega, fun h => by omega, fun h => by omega, fun h _ => by omega, fun h => by omega, fun h => by omega, fun h => by omega⟩⟩
          | exact ⟨(by repeat (first | assumption | exact Ext.refl _ | refine Ext.alloc ?_ _ | refine Ext.drew ?_ | refine Ext.setB ?_ (by first | omega | (simp only [size_alloc, size_setB, size_drew]; omega)) _ | refine Ext.trans ?_ (by assumption))), _, rfl, ⟨by omega, fun h => by omega, fun h => by omega, fun h _ => by omega, fun h => by simp_all, fun h => by omega, fun h => by omega⟩⟩
          | exact ⟨(by repeat (first | assumption | exact Ext.refl _ | refine Ext.alloc ?_ _ | refine Ext.drew ?_ | refine Ext.setB ?_ (by first | omega | (simp only [size_alloc, size_setB, size_drew]; omega)) _ | refine Ext.trans ?_ (by assumption))), _, rfl, ⟨by omega, fun h => by omega, fun h => by omega, fun h _ => by omega, fun h => by omega, fun h => rfl, fun h => by omega⟩⟩
          | exact ⟨(by repeat (first | assumption | exact Ext.refl _ | refine Ext.alloc ?_ _ | refine Ext.drew ?_ | refine Ext.setB ?_ (by first | omega | (simp only [size_alloc, size_setB, size_drew]; omega)) _ | refine Ext.trans ?_ (by assumption))), _, rfl, ⟨by omega, fun h => by omega, fun h => by omega, fun h _ => by omega, fun h => by omega, fun h => by omega, fun _ h => by first | exact hxd248_0 h | (simp_all; done)⟩⟩
        · have hb16p := hb16.h; try simp only [al_ete, al_dfn, Bool.not_eq_true', Bool.not_eq_false', al_ne, Bool.not_not, al_nn] at hb16p
          refine W_seq ?_
          refine W_region rfl ?_
          refine WO_p (PS_eql rfl rfl) ?_
          refine WO_p (PS_assign_bool rfl) ?_
          refine WO_nil ?_
          refine thn_normal ?_
          refine W_if rfl (fun hb21 => ?_) (fun hb21 => ?_)
          · have hb21p := hb21.h; try simp only [al_ete, al_dfn, Bool.not_eq_true', Bool.not_eq_false', al_ne, Bool.not_not, al_nn] at hb21p
            refine W_skip ?_
            refine thn_normal ?_
            refine W_condT rfl hb21.h ?_
            refine W_seq ?_
            refine W_region rfl ?_
            refine WO_p (PS_move_ptr rfl) ?_
            refine WO_p (PS_move_ptr rfl) ?_
            refine WO_call Hvad.call160 (by rfl) (Ret.mono (arg_spec C c v B m t f _ _ (MS.ext hM (by repeat (first | assumption | exact Ext.refl _ | refine Ext.alloc ?_ _ | refine Ext.drew ?_ | refine Ext.setB ?_ (by first | omega | (simp only [size_alloc, size_setB, size_drew]; omega)) _ | exact Ext.trans (by assumption) (by assumption) | refine Ext.trans ?_ (by assumption)))) hA (by omega)) ?_)
            rintro _ w160_21 ⟨hE160_21, rfl⟩
            have hz160_21 := hE160_21.1
            try simp only [size_alloc, size_setB, size_drew] at hz160_21
            refine WO_call Hvad.call244 (by rfl) (Ret.mono (lenX_spec _ _ (argW_wd hM.ty _ _) (by first | exact lenA hre (by omega) | exact lenB hre (by omega) | exact lenC hre (by omega) | exact lenD hre (by omega) | exact lenE hre (by omega))) ?_)
            rintro _ w244_22 ⟨hE244_22, x244_22, rfl, hx0244_22, hx1244_22⟩
            have hz244_22 := hE244_22.1
            try simp only [size_alloc, size_setB, size_drew] at hz244_22
            refine WO_call Hvad.call245 (by rfl) (Ret.mono (copyCost_spec _ _ (by omega) (by omega)) ?_)
            rintro _ w245_23 ⟨hE245_23, rfl⟩
            have hz245_23 := hE245_23.1
            try simp only [size_alloc, size_setB, size_drew] at hz245_23
            refine WO_p (PS_assign_int rfl) ?_
            refine WO_nil ?_
            refine thn_normal ?_
            refine W_ret ?_
            refine inBlk_ret ?_
            refine thn_ret ?_
            refine bodyQ_ret1 Hvad.results165 rfl (.int _ _) rfl ?_
            first
            | (exfalso; omega)
            | exact ⟨(by repeat (first | assumption | exact Ext.refl _ | refine Ext.alloc ?_ _ | refine Ext.drew ?_ | refine Ext.setB ?_ (by first | omega | (simp only [size_alloc, size_setB, size_drew]; omega)) _ | refine Ext.trans ?_ (by assumption))), _, rfl, ⟨by omega, fun h => by omega, fun h => by omega, fun h _ => by omega, fun h => by omega, fun h => by omega, fun h => by omega⟩⟩
            | exact ⟨(by repeat (first | assumption | exact Ext.refl _ | refine Ext.alloc ?_ _ | refine Ext.drew ?_ | refine Ext.setB ?_ (by first | omega | (simp only [size_alloc, size_setB, size_drew]; omega)) _ | refine Ext.trans ?_ (by assumption))), _, rfl, ⟨by omega, fun h => by omega, fun h => by omega, fun h _ => by omega, fun h => by simp_all, fun h => by omega, fun h => by omega⟩⟩
            | exact ⟨(by repeat (first | assumption | exact Ext.refl _ | refine Ext.alloc ?_ _ | refine Ext.drew ?_ | refine Ext.setB ?_ (by first | omega | (simp only [size_alloc, size_setB, size_drew]; omega)) _ | refine Ext.trans ?_ (by assumption))), _, rfl, ⟨by omega, fun h => by omega, fun h => by omega, fun h _ => by omega, fun h => by omega, fun h => rfl, fun h => by omega⟩⟩
            | exact ⟨(by repeat (first | assumption | exact Ext.refl _ | refine Ext.alloc ?_ _ | refine Ext.drew ?_ | refine Ext.setB ?_ (by first | omega | (simp only [size_alloc, size_setB, size_drew]; omega)) _ | refine Ext.trans ?_ (by assumption))), _, rfl, ⟨by omega, fun h => by omega, fun h => by omega, fun h _ => by omega, fun h => by omega, fun h => by omega, fun _ h => by first | exact hxd248_0 h | (simp_all; done)⟩⟩
          · have hb21p := hb21.h; try simp only [al_ete, al_dfn, Bool.not_eq_true', Bool.not_eq_false', al_ne, Bool.not_not, al_nn] at hb21p
            refine W_region rfl ?_
            refine WO_p (PS_eql rfl rfl) ?_
            refine WO_p (PS_assign_bool rfl) ?_
            refine WO_nil ?_
            refine thn_normal ?_
            refine W_if rfl (fun hb26 => ?_) (fun hb26 => ?_)
            · have hb26p := hb26.h; try simp only [al_ete, al_dfn, Bool.not_eq_true', Bool.not_eq_false', al_ne, Bool.not_not, al_nn] at hb26p
              refine W_seq ?_
              refine W_region rfl ?_
              refine WO_p (PS_move_ptr rfl) ?_
              refine WO_p (PS_move_ptr rfl) ?_
              refine WO_call Hvad.call160 (by rfl) (Ret.mono (arg_spec C c v B m t f _ _ (MS.ext hM (by repeat (first | assumption | exact Ext.refl _ | refine Ext.alloc ?_ _ | refine Ext.drew ?_ | refine Ext.setB ?_ (by first | omega | (simp only [size_alloc, size_setB, size_drew]; omega)) _ | exact Ext.trans (by assumption) (by assumption) | refine Ext.trans ?_ (by assumption)))) hA (by omega)) ?_)
              rintro _ w160_26 ⟨hE160_26, rfl⟩
              have hz160_26 := hE160_26.1
              try simp only [size_alloc, size_setB, size_drew] at hz160_26
              refine WO_call Hvad.call244 (by rfl) (Ret.mono (lenX_spec _ _ (argW_wd hM.ty _ _) (by first | exact lenA hre (by omega) | exact lenB hre (by omega) | exact lenC hre (by omega) | exact lenD hre (by omega) | exact lenE hre (by omega))) ?_)
              rintro _ w244_27 ⟨hE244_27, x244_27, rfl, hx0244_27, hx1244_27⟩
              have hz244_27 := hE244_27.1
              try simp only [size_alloc, size_setB, size_drew] at hz244_27
              refine WO_call Hvad.call245 (by rfl) (Ret.mono (copyCost_spec _ _ (by omega) (by omega)) ?_)
              rintro _ w245_28 ⟨hE245_28, rfl⟩
              have hz245_28 := hE245_28.1
              try simp only [size_alloc, size_setB, size_drew] at hz245_28
              refine WO_p (PS_assign_int rfl) ?_
              refine WO_nil ?_
              refine thn_normal ?_
              refine W_ret ?_
              refine inBlk_ret ?_
              refine thn_ret ?_
              refine bodyQ_ret1 Hvad.results165 rfl (.int _ _) rfl ?_
              first
              | (exfalso; omega)
              | exact ⟨(by repeat (first | assumption | exact Ext.refl _ | refine Ext.alloc ?_ _ | refine Ext.drew ?_ | refine Ext.setB ?_ (by first | omega | (simp only [size_alloc, size_setB, size_drew]; omega)) _ | refine Ext.trans ?_ (by assumption))), _, rfl, ⟨by omega, fun h => by omega, fun h => by omega, fun h _ => by omega, fun h => by omega, fun h => by omega, fun h => by omega⟩⟩
              | exact ⟨(by repeat (first | assumption | exact Ext.refl _ | refine Ext.alloc ?_ _ | refine Ext.drew ?_ | refine Ext.setB ?_ (by first | omega | (simp only [size_alloc, size_setB, size_drew]; omega)) _ | refine Ext.trans ?_ (by assumption))), _, rfl, ⟨by omega, fun h => by omega, fun h => by omega, fun h _ => by omega, fun h => by simp_all, fun h => by omega, fun h => by omega⟩⟩
              | exact ⟨(by repeat (first | assumption | exact Ext.refl _ | refine Ext.alloc ?_ _ | refine Ext.drew ?_ | refine Ext.setB ?_ (by first | omega | (simp only [size_alloc, size_setB, size_drew]; omega)) _ | refine Ext.trans ?_ (by assumption))), _, rfl, ⟨by omega, fun h => by omega, fun h => by omega, fun h _ => by omega, fun h => by omega, fun h => rfl, fun h => by omega⟩⟩
              | exact ⟨(by repeat (first | assumption | exact Ext.refl _ | refine Ext.alloc ?_ _ | refine Ext.drew ?_ | refine Ext.setB ?_ (by first | omega | (simp only [size_alloc, size_setB, size_drew]; omega)) _ | refine Ext.trans ?_ (by assumption))), _, rfl, ⟨by omega, fun h => by omega, fun h => by omega, fun h _ => by omega, fun h => by omega, fun h => by omega, fun _ h => by first | exact hxd248_0 h | (simp_all; done)⟩⟩
            · have hb26p := hb26.h; try simp only [al_ete, al_dfn, Bool.not_eq_true', Bool.not_eq_false', al_ne, Bool.not_not, al_nn] at hb26p
              refine W_seq ?_
              refine W_seq ?_
              refine W_region rfl ?_
              refine WO_p (PS_eql rfl rfl) ?_
              refine WO_p (PS_assign_bool rfl) ?_
              refine WO_nil ?_
              refine thn_normal ?_
              refine W_if rfl (fun hb31 => ?_) (fun hb31 => ?_)
              · have hb31p := hb31.h; try simp only [al_ete, al_dfn, Bool.not_eq_true', Bool.not_eq_false', al_ne, Bool.not_not, al_nn] at hb31p
                refine W_skip ?_
                refine thn_normal ?_
                refine W_condT rfl hb31.h ?_
                refine W_seq ?_
                refine W_region rfl ?_
                refine WO_p (PS_move_ptr rfl) ?_
                refine WO_p (PS_move_ptr rfl) ?_
                refine WO_p (PS_move_ptr rfl) ?_
                refine WO_call Hvad.call160 (by rfl) (Ret.mono (arg_spec C c v B m t f _ _ (MS.ext hM (by repeat (first | assumption | exact Ext.refl _ | refine Ext.alloc ?_ _ | refine Ext.drew ?_ | refine Ext.setB ?_ (by first | omega | (simp only [size_alloc, size_setB, size_drew]; omega)) _ | exact Ext.trans (by assumption) (by assumption) | refine Ext.trans ?_ (by assumption)))) hA (by omega)) ?_)
                rintro _ w160_31 ⟨hE160_31, rfl⟩
                have hz160_31 := hE160_31.1
                try simp only [size_alloc, size_setB, size_drew] at hz160_31
                refine WO_call Hvad.call246 (by rfl) (Ret.mono (access_spec C c v B m _ _ (MS.ext hM (by repeat (first | assumption | exact Ext.refl _ | refine Ext.alloc ?_ _ | refine Ext.drew ?_ | refine Ext.setB ?_ (by first | omega | (simp only [size_alloc, size_setB, size_drew]; omega)) _ | exact Ext.trans (by assumption) (by assumption) | refine Ext.trans ?_ (by assumption)))) (argW_wd hM.ty _ _)) ?_)
                rintro _ w246_32 ⟨hE246_32, rfl⟩
                have hz246_32 := hE246_32.1
                try simp only [size_alloc, size_setB, size_drew] at hz246_32
                refine WO_p (PS_assign_int rfl) ?_
                refine WO_nil ?_
                refine thn_normal ?_
                refine W_ret ?_
                refine inBlk_ret ?_
                refine thn_ret ?_
                refine bodyQ_ret1 Hvad.results165 rfl (.int _ _) rfl ?_
                first
                | (exfalso; omega)
                | exact ⟨(by repeat (first | assumption | exact Ext.refl _ | refine Ext.alloc ?_ _ | refine Ext.drew ?_ | refine Ext.setB ?_ (by first | omega | (simp only [size_alloc, size_setB, size_drew]; omega)) _ | refine Ext.trans ?_ (by assumption))), _, rfl, ⟨by omega, fun h => by omega, fun h => by omega, fun h _ => by omega, fun h => by omega, fun h => by omega, fun h => by omega⟩⟩
                | exact ⟨(by repeat (first | assumption | exact Ext.refl _ | refine Ext.alloc ?_ _ | refine Ext.drew ?_ | refine Ext.setB ?_ (by first | omega | (simp only [size_alloc, size_setB, size_drew]; omega)) _ | refine Ext.trans ?_ (by assumption))), _, rfl, ⟨by omega, fun h => by omega, fun h => by omega, fun h _ => by omega, fun h => by simp_all, fun h => by omega, fun h => by omega⟩⟩
                | exact ⟨(by repeat (first | assumption | exact Ext.refl _ | refine Ext.alloc ?_ _ | refine Ext.drew ?_ | refine Ext.setB ?_ (by first | omega | (simp only [size_alloc, size_setB, size_drew]; omega)) _ | refine Ext.trans ?_ (by assumption))), _, rfl, ⟨by omega, fun h => by omega, fun h => by omega, fun h _ => by omega, fun h => by omega, fun h => rfl, fun h => by omega⟩⟩
                | exact ⟨(by repeat (first | assumption | exact Ext.refl _ | refine Ext.alloc ?_ _ | refine Ext.drew ?_ | refine Ext.setB ?_ (by first | omega | (simp only [size_alloc, size_setB, size_drew]; omega)) _ | refine Ext.trans ?_ (by assumption))), _, rfl, ⟨by omega, fun h => by omega, fun h => by omega, fun h _ => by omega, fun h => by omega, fun h => by omega, fun _ h => by first | exact hxd248_0 h | (simp_all; done)⟩⟩
              · have hb31p := hb31.h; try simp only [al_ete, al_dfn, Bool.not_eq_true', Bool.not_eq_false', al_ne, Bool.not_not, al_nn] at hb31p
                refine W_seq ?_
                refine W_region rfl ?_
                refine WO_p (PS_eql rfl rfl) ?_
                refine WO_p (PS_assign_bool rfl) ?_
                refine WO_nil ?_
                refine thn_normal ?_
                refine W_if rfl (fun hb35 => ?_) (fun hb35 => ?_)
                · have hb35p := hb35.h; try simp only [al_ete, al_dfn, Bool.not_eq_true', Bool.not_eq_false', al_ne, Bool.not_not, al_nn] at hb35p
                  refine W_skip ?_
                  refine thn_normal ?_
                  refine W_condT rfl hb35.h ?_
                  refine W_seq ?_
                  refine W_region rfl ?_
                  refine WO_p (PS_move_ptr rfl) ?_
                  refine WO_p (PS_move_ptr rfl) ?_
                  refine WO_p (PS_move_ptr rfl) ?_
                  refine WO_call Hvad.call160 (by rfl) (Ret.mono (arg_spec C c v B m t f _ _ (MS.ext hM (by repeat (first | assumption | exact Ext.refl _ | refine Ext.alloc ?_ _ | refine Ext.drew ?_ | refine Ext.setB ?_ (by first | omega | (simp only [size_alloc, size_setB, size_drew]; omega)) _ | exact Ext.trans (by assumption) (by assumption) | refine Ext.trans ?_ (by assumption)))) hA (by omega)) ?_)
                  rintro _ w160_35 ⟨hE160_35, rfl⟩
                  have hz160_35 := hE160_35.1
                  try simp only [size_alloc, size_setB, size_drew] at hz160_35
                  refine WO_call Hvad.call246 (by rfl) (Ret.mono (access_spec C c v B m _ _ (MS.ext hM (by repeat (first | assumption | exact Ext.refl _ | refine Ext.alloc ?_ _ | refine Ext.drew ?_ | refine Ext.setB ?_ (by first | omega | (simp only [size_alloc, size_setB, size_drew]; omega)) _ | exact Ext.trans (by assumption) (by assumption) | refine Ext.trans ?_ (by assumption)))) (argW_wd hM.ty _ _)) ?_)
                  rintro _ w246_36 ⟨hE246_36, rfl⟩
                  have hz246_36 := hE246_36.1
                  try simp only [size_alloc, size_setB, size_drew] at hz246_36
                  refine WO_p (PS_assign_int rfl) ?_
                  refine WO_nil ?_
                  refine thn_normal ?_
                  refine W_ret ?_
                  refine inBlk_ret ?_
                  refine thn_ret ?_
                  refine bodyQ_ret1 Hvad.results165 rfl (.int _ _) rfl ?_
                  first
                  | (exfalso; omega)
                  | exact ⟨(by repeat (first | assumption | exact Ext.refl _ | refine Ext.alloc ?_ _ | refine Ext.drew ?_ | refine Ext.setB ?_ (by first | omega | (simp only [size_alloc, size_setB, size_drew]; omega)) _ | refine Ext.trans ?_ (by assumption))), _, rfl, ⟨by omega, fun h => by omega, fun h => by omega, fun h _ => by omega, fun h => by omega, fun h => by omega, fun h => by omega⟩⟩
                  | exact ⟨(by repeat (first | assumption | exact Ext.refl _ | refine Ext.alloc ?_ _ | refine Ext.drew ?_ | refine Ext.setB ?_ (by first | omega | (simp only [size_alloc, size_setB, size_drew]; omega)) _ | refine Ext.trans ?_ (by assumption))), _, rfl, ⟨by omega, fun h => by omega, fun h => by omega, fun h _ => by omega, fun h => by simp_all, fun h => by omega, fun h => by omega⟩⟩
                  | exact ⟨(by repeat (first | assumption | exact Ext.refl _ | refine Ext.alloc ?_ _ | refine Ext.drew ?_ | refine Ext.setB ?_ (by first | omega | (simp only [size_alloc, size_setB, size_drew]; omega)) _ | refine Ext.trans ?_ (by assumption))), _, rfl, ⟨by omega, fun h => by omega, fun h => by omega, fun h _ => by omega, fun h => by omega, fun h => rfl, fun h => by omega⟩⟩
                  | exact ⟨(by repeat (first | assumption | exact Ext.refl _ | refine Ext.alloc ?_ _ | refine Ext.drew ?_ | refine Ext.setB ?_ (by first | omega | (simp only [size_alloc, size_setB, size_drew]; omega)) _ | refine Ext.trans ?_ (by assumption))), _, rfl, ⟨by omega, fun h => by omega, fun h => by omega, fun h _ => by omega, fun h => by omega, fun h => by omega, fun _ h => by first | exact hxd248_0 h | (simp_all; done)⟩⟩
                · have hb35p := hb35.h; try simp only [al_ete, al_dfn, Bool.not_eq_true', Bool.not_eq_false', al_ne, Bool.not_not, al_nn] at hb35p
                  refine W_region rfl ?_
                  refine WO_p (PS_eql rfl rfl) ?_
                  refine WO_p (PS_assign_bool rfl) ?_
                  refine WO_nil ?_
                  refine thn_normal ?_
                  refine W_if rfl (fun hb39 => ?_) (fun hb39 => ?_)
                  · have hb39p := hb39.h; try simp only [al_ete, al_dfn, Bool.not_eq_true', Bool.not_eq_false', al_ne, Bool.not_not, al_nn] at hb39p
                    refine W_seq ?_
                    refine W_region rfl ?_
                    refine WO_p (PS_move_ptr rfl) ?_
                    refine WO_p (PS_move_ptr rfl) ?_
                    refine WO_p (PS_move_ptr rfl) ?_
                    refine WO_call Hvad.call160 (by rfl) (Ret.mono (arg_spec C c v B m t f _ _ (MS.ext hM (by repeat (first | assumption | exact Ext.refl _ | refine Ext.alloc ?_ _ | refine Ext.drew ?_ | refine Ext.setB ?_ (by first | omega | (simp only [size_alloc, size_setB, size_drew]; omega)) _ | exact Ext.trans (by assumption) (by assumption) | refine Ext.trans ?_ (by assumption)))) hA (by omega)) ?_)
                    rintro _ w160_39 ⟨hE160_39, rfl⟩
                    have hz160_39 := hE160_39.1
                    try simp only [size_alloc, size_setB, size_drew] at hz160_39
                    refine WO_call Hvad.call246 (by rfl) (Ret.mono (access_spec C c v B m _ _ (MS.ext hM (by repeat (first | assumption | exact Ext.refl _ | refine Ext.alloc ?_ _ | refine Ext.drew ?_ | refine Ext.setB ?_ (by first | omega | (simp only [size_alloc, size_setB, size_drew]; omega)) _ | exact Ext.trans (by assumption) (by assumption) | refine Ext.trans ?_ (by assumption)))) (argW_wd hM.ty _ _)) ?_)
                    rintro _ w246_40 ⟨hE246_40, rfl⟩
                    have hz246_40 := hE246_40.1
                    try simp only [size_alloc, size_setB, size_drew] at hz246_40
                    refine WO_p (PS_assign_int rfl) ?_
                    refine WO_nil ?_
                    refine thn_normal ?_
                    refine W_ret ?_
                    refine inBlk_ret ?_
                    refine thn_ret ?_
                    refine bodyQ_ret1 Hvad.results165 rfl (.int _ _) rfl ?_
                    first
                    | (exfalso; omega)
                    | exact ⟨(by repeat (first | assumption | exact Ext.refl _ | refine Ext.alloc ?_ _ | refine Ext.drew ?_ | refine Ext.setB ?_ (by first | omega | (simp only [size_alloc, size_setB, size_drew]; omega)) _ | refine Ext.trans ?_ (by assumption))), _, rfl, ⟨by omega, fun h => by omega, fun h => by omega, fun h _ => by omega, fun h => by omega, fun h => by omega, fun h => by omega⟩⟩
                    | exact ⟨(by repeat (first | assumption | exact Ext.refl _ | refine Ext.alloc ?_ _ | refine Ext.drew ?_ | refine Ext.setB ?_ (by first | omega | (simp only [size_alloc, size_setB, size_drew]; omega)) _ | refine Ext.trans ?_ (by assumption))), _, rfl, ⟨by omega, fun h => by omega, fun h => by omega, fun h _ => by omega, fun h => by simp_all, fun h => by omega, fun h => by omega⟩⟩
                    | exact ⟨(by repeat (first | assumption | exact Ext.refl _ | refine Ext.alloc ?_ _ | refine Ext.drew ?_ | refine Ext.setB ?_ (by first | omega | (simp only [size_alloc, size_setB, size_drew]; omega)) _ | refine Ext.trans ?_ (by assumption))), _, rfl, ⟨by omega, fun h => by omega, fun h => by omega, fun h _ => by omega, fun h => by omega, fun h => rfl, fun h => by omega⟩⟩
                    | exact ⟨(by repeat (first | assumption | exact Ext.refl _ | refine Ext.alloc ?_ _ | refine Ext.drew ?_ | refine Ext.setB ?_ (by first | omega | (simp only [size_alloc, size_setB, size_drew]; omega)) _ | refine Ext.trans ?_ (by assumption))), _, rfl, ⟨by omega, fun h => by omega, fun h => by omega, fun h _ => by omega, fun h => by omega, fun h => by omega, fun _ h => by first | exact hxd248_0 h | (simp_all; done)⟩⟩
                  · have hb39p := hb39.h; try simp only [al_ete, al_dfn, Bool.not_eq_true', Bool.not_eq_false', al_ne, Bool.not_not, al_nn] at hb39p
                    refine W_seq ?_
                    refine W_region rfl ?_
                    refine WO_p (PS_eql rfl rfl) ?_
                    refine WO_p (PS_assign_bool rfl) ?_
                    refine WO_nil ?_
                    refine thn_normal ?_
                    refine W_if rfl (fun hb43 => ?_) (fun hb43 => ?_)
                    · have hb43p := hb43.h; try simp only [al_ete, al_dfn, Bool.not_eq_true', Bool.not_eq_false', al_ne, Bool.not_not, al_nn] at hb43p
                      refine W_seq ?_
                      refine W_region rfl ?_
                      refine WO_p (PS_move_ptr rfl) ?_
                      refine WO_p (PS_move_ptr rfl) ?_
                      refine WO_p (PS_move_ptr rfl) ?_
                      refine WO_call Hvad.call160 (by rfl) (Ret.mono (arg_spec C c v B m t f _ _ (MS.ext hM (by repeat (first | assumption | exact Ext.refl _ | refine Ext.alloc ?_ _ | refine Ext.drew ?_ | refine Ext.setB ?_ (by first | omega | (simp only [size_alloc, size_setB, size_drew]; omega)) _ | exact Ext.trans (by assumption) (by assumption) | refine Ext.trans ?_ (by assumption)))) hA (by omega)) ?_)
                      rintro _ w160_43 ⟨hE160_43, rfl⟩
                      have hz160_43 := hE160_43.1
                      try simp only [size_alloc, size_setB, size_drew] at hz160_43
                      refine WO_call Hvad.call246 (by rfl) (Ret.mono (access_spec C c v B m _ _ (MS.ext hM (by repeat (first | assumption | exact Ext.refl _ | refine Ext.alloc ?_ _ | refine Ext.drew ?_ | refine Ext.setB ?_ (by first | omega | (simp only [size_alloc, size_setB, size_drew]; omega)) _ | exact Ext.trans (by assumption) (by assumption) | refine Ext.trans ?_ (by assumption)))) (argW_wd hM.ty _ _)) ?_)
                      rintro _ w246_44 ⟨hE246_44, rfl⟩
                      have hz246_44 := hE246_44.1
                      try simp only [size_alloc, size_setB, size_drew] at hz246_44
                      refine WO_p (PS_move_ptr rfl) ?_
                      refine WO_p (PS_move_ptr rfl) ?_
                      refine WO_call Hvad.call160 (by rfl) (Ret.mono (arg_spec C c v B m t f _ _ (MS.ext hM (by repeat (first | assumption | exact Ext.refl _ | refine Ext.alloc ?_ _ | refine Ext.drew ?_ | refine Ext.setB ?_ (by first | omega | (simp only [size_alloc, size_setB, size_drew]; omega)) _ | exact Ext.trans (by assumption) (by assumption) | refine Ext.trans ?_ (by assumption)))) hA (by omega)) ?_)
                      rintro _ w160_45 ⟨hE160_45, rfl⟩
                      have hz160_45 := hE160_45.1
                      try simp only [size_alloc, size_setB, size_drew] at hz160_45
                      refine WO_call Hvad.call244 (by rfl) (Ret.mono (lenX_spec _ _ (argW_wd hM.ty _ _) (by first | exact lenA hre (by omega) | exact lenB hre (by omega) | exact lenC hre (by omega) | exact lenD hre (by omega) | exact lenE hre (by omega))) ?_)
                      rintro _ w244_46 ⟨hE244_46, x244_46, rfl, hx0244_46, hx1244_46⟩
                      have hz244_46 := hE244_46.1
                      try simp only [size_alloc, size_setB, size_drew] at hz244_46
                      refine WO_call Hvad.call245 (by rfl) (Ret.mono (copyCost_spec _ _ (by omega) (by omega)) ?_)
                      rintro _ w245_47 ⟨hE245_47, rfl⟩
                      have hz245_47 := hE245_47.1
                      try simp only [size_alloc, size_setB, size_drew] at hz245_47
                      refine WO_p (PS_add_u64n rfl rfl (by omega) (by omega)) ?_
                      refine WO_p (PS_assign_int rfl) ?_
                      refine WO_nil ?_
                      refine thn_normal ?_
                      refine W_ret ?_
                      refine inBlk_ret ?_
                      refine thn_ret ?_
                      refine bodyQ_ret1 Hvad.results165 rfl (.int _ _) rfl ?_
                      first
                      | (exfalso; omega)
                      | exact ⟨(by repeat (first | assumption | exact Ext.refl _ | refine Ext.alloc ?_ _ | refine Ext.drew ?_ | refine Ext.setB ?_ (by first | omega | (simp only [size_alloc, size_setB, size_drew]; omega)) _ | refine Ext.trans ?_ (by assumption))), _, rfl, ⟨by omega, fun h => by omega, fun h => by omega, fun h _ => by omega, fun h => by omega, fun h => by omega, fun h => by omega⟩⟩
                      | exact ⟨(by repeat (first | assumption | exact Ext.refl _ | refine Ext.alloc ?_ _ | refine Ext.drew ?_ | refine Ext.setB ?_ (by first | omega | (simp only [size_alloc, size_setB, size_drew]; omega)) _ | refine Ext.trans ?_ (by assumption))), _, rfl, ⟨by omega, fun h => by omega, fun h => by omega, fun h _ => by omega, fun h => by simp_all, fun h => by omega, fun h => by omega⟩⟩
                      | exact ⟨(by repeat (first | assumption | exact Ext.refl _ | refine Ext.alloc ?_ _ | refine Ext.drew ?_ | refine Ext.setB ?_ (by first | omega | (simp only [size_alloc, size_setB, size_drew]; omega)) _ | refine Ext.trans ?_ (by assumption))), _, rfl, ⟨by omega, fun h => by omega, fun h => by omega, fun h _ => by omega, fun h => by omega, fun h => rfl, fun h => by omega⟩⟩
                      | exact ⟨(by repeat (first | assumption | exact Ext.refl _ | refine Ext.alloc ?_ _ | refine Ext.drew ?_ | refine Ext.setB ?_ (by first | omega | (simp only [size_alloc, size_setB, size_drew]; omega)) _ | refine Ext.trans ?_ (by assumption))), _, rfl, ⟨by omega, fun h => by omega, fun h => by omega, fun h _ => by omega, fun h => by omega, fun h => by omega, fun _ h => by first | exact hxd248_0 h | (simp_all; done)⟩⟩
                    · have hb43p := hb43.h; try simp only [al_ete, al_dfn, Bool.not_eq_true', Bool.not_eq_false', al_ne, Bool.not_not, al_nn] at hb43p
                      refine W_seq ?_
                      refine W_seq ?_
                      refine W_region rfl ?_
                      refine WO_p (PS_eql rfl rfl) ?_
                      refine WO_p (PS_assign_bool rfl) ?_
                      refine WO_nil ?_
                      refine thn_normal ?_
                      refine W_if rfl (fun hb50 => ?_) (fun hb50 => ?_)
                      · have hb50p := hb50.h; try simp only [al_ete, al_dfn, Bool.not_eq_true', Bool.not_eq_false', al_ne, Bool.not_not, al_nn] at hb50p
                        refine W_skip ?_
                        refine thn_normal ?_
                        refine W_condT rfl hb50.h ?_
                        refine W_seq ?_
                        refine W_region rfl ?_
                        refine WO_p (PS_move_ptr rfl) ?_
                        refine WO_p (PS_move_ptr rfl) ?_
                        refine WO_call Hvad.call160 (by rfl) (Ret.mono (arg_spec C c v B m t f _ _ (MS.ext hM (by repeat (first | assumption | exact Ext.refl _ | refine Ext.alloc ?_ _ | refine Ext.drew ?_ | refine Ext.setB ?_ (by first | omega | (simp only [size_alloc, size_setB, size_drew]; omega)) _ | exact Ext.trans (by assumption) (by assumption) | refine Ext.trans ?_ (by assumption)))) hA (by omega)) ?_)
                        rintro _ w160_50 ⟨hE160_50, rfl⟩
                        have hz160_50 := hE160_50.1
                        try simp only [size_alloc, size_setB, size_drew] at hz160_50
                        refine WO_call Hvad.call244 (by rfl) (Ret.mono (lenX_spec _ _ (argW_wd hM.ty _ _) (by first | exact lenA hre (by omega) | exact lenB hre (by omega) | exact lenC hre (by omega) | exact lenD hre (by omega) | exact lenE hre (by omega))) ?_)
                        rintro _ w244_51 ⟨hE244_51, x244_51, rfl, hx0244_51, hx1244_51⟩
                        have hz244_51 := hE244_51.1
                        try simp only [size_alloc, size_setB, size_drew] at hz244_51
                        refine WO_p (PS_mul_u64n rfl rfl (by omega) (by omega)) ?_
                        refine WO_p (PS_assign_int rfl) ?_
                        refine WO_nil ?_
                        refine thn_normal ?_
                        refine W_ret ?_
                        refine inBlk_ret ?_
                        refine thn_ret ?_
                        refine bodyQ_ret1 Hvad.results165 rfl (.int _ _) rfl ?_
                        first
                        | (exfalso; omega)
                        | exact ⟨(by repeat (first | assumption | exact Ext.refl _ | refine Ext.alloc ?_ _ | refine Ext.drew ?_ | refine Ext.setB ?_ (by first | omega | (simp only [size_alloc, size_setB, size_drew]; omega)) _ | refine Ext.trans ?_ (by assumption))), _, rfl, ⟨by omega, fun h => by omega, fun h => by omega, fun h _ => by omega, fun h => by omega, fun h => by omega, fun h => by omega⟩⟩
                        | exact ⟨(by repeat (first | assumption | exact Ext.refl _ | refine Ext.alloc ?_ _ | refine Ext.drew ?_ | refine Ext.setB ?_ (by first | omega | (simp only [size_alloc, size_setB, size_drew]; omega)) _ | refine Ext.trans ?_ (by assumption))), _, rfl, ⟨by omega, fun h => by omega, fun h => by omega, fun h _ => by omega, fun h => by simp_all, fun h => by omega, fun h => by omega⟩⟩
                        | exact ⟨(by repeat (first | assumption | exact Ext.refl _ | refine Ext.alloc ?_ _ | refine Ext.drew ?_ | refine Ext.setB ?_ (by first | omega | (simp only [size_alloc, size_setB, size_drew]; omega)) _ | refine Ext.trans ?_ (by assumption))), _, rfl, ⟨by omega, fun h => by omega, fun h => by omega, fun h _ => by omega, fun h => by omega, fun h => rfl, fun h => by omega⟩⟩
                        | exact ⟨(by repeat (first | assumption | exact Ext.refl _ | refine Ext.alloc ?_ _ | refine Ext.drew ?_ | refine Ext.setB ?_ (by first | omega | (simp only [size_alloc, size_setB, size_drew]; omega)) _ | refine Ext.trans ?_ (by assumption))), _, rfl, ⟨by omega, fun h => by omega, fun h => by omega, fun h _ => by omega, fun h => by omega, fun h => by omega, fun _ h => by first | exact hxd248_0 h | (simp_all; done)⟩⟩
                      · have hb50p := hb50.h; try simp only [al_ete, al_dfn, Bool.not_eq_true', Bool.not_eq_false', al_ne, Bool.not_not, al_nn] at hb50p
                        refine W_seq ?_
                        refine W_region rfl ?_
                        refine WO_p (PS_eql rfl rfl) ?_
                        refine WO_p (PS_assign_bool rfl) ?_
                        refine WO_nil ?_
                        refine thn_normal ?_
                        refine W_if rfl (fun hb54 => ?_) (fun hb54 => ?_)
                        · have hb54p := hb54.h; try simp only [al_ete, al_dfn, Bool.not_eq_true', Bool.not_eq_false', al_ne, Bool.not_not, al_nn] at hb54p
                          refine W_skip ?_
                          refine thn_normal ?_
                          refine W_condT rfl hb54.h ?_
                          refine W_seq ?_
                          refine W_region rfl ?_
                          refine WO_p (PS_move_ptr rfl) ?_
                          refine WO_p (PS_move_ptr rfl) ?_
                          refine WO_call Hvad.call160 (by rfl) (Ret.mono (arg_spec C c v B m t f _ _ (MS.ext hM (by repeat (first | assumption | exact Ext.refl _ | refine Ext.alloc ?_ _ | refine Ext.drew ?_ | refine Ext.setB ?_ (by first | omega | (simp only [size_alloc, size_setB, size_drew]; omega)) _ | exact Ext.trans (by assumption) (by assumption) | refine Ext.trans ?_ (by assumption)))) hA (by omega)) ?_)
                          rintro _ w160_54 ⟨hE160_54, rfl⟩
                          have hz160_54 := hE160_54.1
                          try simp only [size_alloc, size_setB, size_drew] at hz160_54
                          refine WO_call Hvad.call244 (by rfl) (Ret.mono (lenX_spec _ _ (argW_wd hM.ty _ _) (by first | exact lenA hre (by omega) | exact lenB hre (by omega) | exact lenC hre (by omega) | exact lenD hre (by omega) | exact lenE hre (by omega))) ?_)
                          rintro _ w244_55 ⟨hE244_55, x244_55, rfl, hx0244_55, hx1244_55⟩
                          have hz244_55 := hE244_55.1
                          try simp only [size_alloc, size_setB, size_drew] at hz244_55
                          refine WO_p (PS_mul_u64n rfl rfl (by omega) (by omega)) ?_
                          refine WO_p (PS_assign_int rfl) ?_
                          refine WO_nil ?_
                          refine thn_normal ?_
                          refine W_ret ?_
                          refine inBlk_ret ?_
                          refine thn_ret ?_
                          refine bodyQ_ret1 Hvad.results165 rfl (.int _ _) rfl ?_
                          first
                          | (exfalso; omega)
                          | exact ⟨(by repeat (first | assumption | exact Ext.refl _ | refine Ext.alloc ?_ _ | refine Ext.drew ?_ | refine Ext.setB ?_ (by first | omega | (simp only [size_alloc, size_setB, size_drew]; omega)) _ | refine Ext.trans ?_ (by assumption))), _, rfl, ⟨by omega, fun h => by omega, fun h => by omega, fun h _ => by omega, fun h => by omega, fun h => by omega, fun h => by omega⟩⟩
                          | exact ⟨(by repeat (first | assumption | exact Ext.refl _ | refine Ext.alloc ?_ _ | refine Ext.drew ?_ | refine Ext.setB ?_ (by first | omega | (simp only [size_alloc, size_setB, size_drew]; omega)) _ | refine Ext.trans ?_ (by assumption))), _, rfl, ⟨by omega, fun h => by omega, fun h => by omega, fun h _ => by omega, fun h => by simp_all, fun h => by omega, fun h => by omega⟩⟩
                          | exact ⟨(by repeat (first | assumption | exact Ext.refl _ | refine Ext.alloc ?_ _ | refine Ext.drew ?_ | refine Ext.setB ?_ (by first | omega | (simp only [size_alloc, size_setB, size_drew]; omega)) _ | refine Ext.trans ?_ (by assumption))), _, rfl, ⟨by omega, fun h => by omega, fun h => by omega, fun h _ => by omega, fun h => by omega, fun h => rfl, fun h => by omega⟩⟩
                          | exact ⟨(by repeat (first | assumption | exact Ext.refl _ | refine Ext.alloc ?_ _ | refine Ext.drew ?_ | refine Ext.setB ?_ (by first | omega | (simp only [size_alloc, size_setB, size_drew]; omega)) _ | refine Ext.trans ?_ (by assumption))), _, rfl, ⟨by omega, fun h => by omega, fun h => by omega, fun h _ => by omega, fun h => by omega, fun h => by omega, fun _ h => by first | exact hxd248_0 h | (simp_all; done)⟩⟩
                        · have hb54p := hb54.h; try simp only [al_ete, al_dfn, Bool.not_eq_true', Bool.not_eq_false', al_ne, Bool.not_not, al_nn] at hb54p
                          refine W_seq ?_
                          refine W_region rfl ?_
                          refine WO_p (PS_eql rfl rfl) ?_
                          refine WO_p (PS_assign_bool rfl) ?_
                          refine WO_nil ?_
                          refine thn_normal ?_
                          refine W_if rfl (fun hb58 => ?_) (fun hb58 => ?_)
                          · have hb58p := hb58.h; try simp only [al_ete, al_dfn, Bool.not_eq_true', Bool.not_eq_false', al_ne, Bool.not_not, al_nn] at hb58p
                            refine W_skip ?_
                            refine thn_normal ?_
                            refine W_condT rfl hb58.h ?_
                            refine W_seq ?_
                            refine W_region rfl ?_
                            refine WO_p (PS_move_ptr rfl) ?_
                            refine WO_p (PS_move_ptr rfl) ?_
                            refine WO_call Hvad.call160 (by rfl) (Ret.mono (arg_spec C c v B m t f _ _ (MS.ext hM (by repeat (first | assumption | exact Ext.refl _ | refine Ext.alloc ?_ _ | refine Ext.drew ?_ | refine Ext.setB ?_ (by first | omega | (simp only [size_alloc, size_setB, size_drew]; omega)) _ | exact Ext.trans (by assumption) (by assumption) | refine Ext.trans ?_ (by assumption)))) hA (by omega)) ?_)
                            rintro _ w160_58 ⟨hE160_58, rfl⟩
                            have hz160_58 := hE160_58.1
                            try simp only [size_alloc, size_setB, size_drew] at hz160_58
                            refine WO_call Hvad.call244 (by rfl) (Ret.mono (lenX_spec _ _ (argW_wd hM.ty _ _) (by first | exact lenA hre (by omega) | exact lenB hre (by omega) | exact lenC hre (by omega) | exact lenD hre (by omega) | exact lenE hre (by omega))) ?_)
                            rintro _ w244_59 ⟨hE244_59, x244_59, rfl, hx0244_59, hx1244_59⟩
                            have hz244_59 := hE244_59.1
                            try simp only [size_alloc, size_setB, size_drew] at hz244_59
                            refine WO_p (PS_mul_u64n rfl rfl (by omega) (by omega)) ?_
                            refine WO_p (PS_assign_int rfl) ?_
                            refine WO_nil ?_
                            refine thn_normal ?_
                            refine W_ret ?_
                            refine inBlk_ret ?_
                            refine thn_ret ?_
                            refine bodyQ_ret1 Hvad.results165 rfl (.int _ _) rfl ?_
                            first
                            | (exfalso; omega)
                            | exact ⟨(by repeat (first | assumption | exact Ext.refl _ | refine Ext.alloc ?_ _ | refine Ext.drew ?_ | refine Ext.setB ?_ (by first | omega | (simp only [size_alloc, size_setB, size_drew]; omega)) _ | refine Ext.trans ?_ (by assumption))), _, rfl, ⟨by omega, fun h => by omega, fun h => by omega, fun h _ => by omega, fun h => by omega, fun h => by omega, fun h => by omega⟩⟩
                            | exact ⟨(by repeat (first | assumption | exact Ext.refl _ | refine Ext.alloc ?_ _ | refine Ext.drew ?_ | refine Ext.setB ?_ (by first | omega | (simp only [size_alloc, size_setB, size_drew]; omega)) _ | refine Ext.trans ?_ (by assumption))), _, rfl, ⟨by omega, fun h => by omega, fun h => by omega, fun h _ => by omega, fun h => by simp_all, fun h => by omega, fun h => by omega⟩⟩
                            | exact ⟨(by repeat (first | assumption | exact Ext.refl _ | refine Ext.alloc ?_ _ | refine Ext.drew ?_ | refine Ext.setB ?_ (by first | omega | (simp only [size_alloc, size_setB, size_drew]; omega)) _ | refine Ext.trans ?_ (by assumption))), _, rfl, ⟨by omega, fun h => by omega, fun h => by omega, fun h _ => by omega, fun h => by omega, fun h => rfl, fun h => by omega⟩⟩
                            | exact ⟨(by repeat (first | assumption | exact Ext.refl _ | refine Ext.alloc ?_ _ | refine Ext.drew ?_ | refine Ext.setB ?_ (by first | omega | (simp only [size_alloc, size_setB, size_drew]; omega)) _ | refine Ext.trans ?_ (by assumption))), _, rfl, ⟨by omega, fun h => by omega, fun h => by omega, fun h _ => by omega, fun h => by omega, fun h => by omega, fun _ h => by first | exact hxd248_0 h | (simp_all; done)⟩⟩
                          · have hb58p := hb58.h; try simp only [al_ete, al_dfn, Bool.not_eq_true', Bool.not_eq_false', al_ne, Bool.not_not, al_nn] at hb58p
                            refine W_seq ?_
                            refine W_region rfl ?_
                            refine WO_p (PS_eql rfl rfl) ?_
                            refine WO_p (PS_assign_bool rfl) ?_
                            refine WO_nil ?_
                            refine thn_normal ?_
                            refine W_if rfl (fun hb62 => ?_) (fun hb62 => ?_)
                            · have hb62p := hb62.h; try simp only [al_ete, al_dfn, Bool.not_eq_true', Bool.not_eq_false', al_ne, Bool.not_not, al_nn] at hb62p
                              refine W_skip ?_
                              refine thn_normal ?_
                              refine W_condT rfl hb62.h ?_
                              refine W_seq ?_
                              refine W_region rfl ?_
                              refine WO_p (PS_move_ptr rfl) ?_
                              refine WO_p (PS_move_ptr rfl) ?_
                              refine WO_call Hvad.call160 (by rfl) (Ret.mono (arg_spec C c v B m t f _ _ (MS.ext hM (by repeat (first | assumption | exact Ext.refl _ | refine Ext.alloc ?_ _ | refine Ext.drew ?_ | refine Ext.setB ?_ (by first | omega | (simp only [size_alloc, size_setB, size_drew]; omega)) _ | exact Ext.trans (by assumption) (by assumption) | refine Ext.trans ?_ (by assumption)))) hA (by omega)) ?_)
                              rintro _ w160_62 ⟨hE160_62, rfl⟩
                              have hz160_62 := hE160_62.1
                              try simp only [size_alloc, size_setB, size_drew] at hz160_62
                              refine WO_call Hvad.call244 (by rfl) (Ret.mono (lenX_spec _ _ (argW_wd hM.ty _ _) (by first | exact lenA hre (by omega) | exact lenB hre (by omega) | exact lenC hre (by omega) | exact lenD hre (by omega) | exact lenE hre (by omega))) ?_)
                              rintro _ w244_63 ⟨hE244_63, x244_63, rfl, hx0244_63, hx1244_63⟩
                              have hz244_63 := hE244_63.1
                              try simp only [size_alloc, size_setB, size_drew] at hz244_63
                              refine WO_p (PS_mul_u64n rfl rfl (by omega) (by omega)) ?_
                              refine WO_p (PS_assign_int rfl) ?_
                              refine WO_nil ?_
                              refine thn_normal ?_
                              refine W_ret ?_
                              refine inBlk_ret ?_
                              refine thn_ret ?_
                              refine bodyQ_ret1 Hvad.results165 rfl (.int _ _) rfl ?_
                              first
                              | (exfalso; omega)
                              | exact ⟨(by repeat (first | assumption | exact Ext.refl _ | refine Ext.alloc ?_ _ | refine Ext.drew ?_ | refine Ext.setB ?_ (by first | omega | (simp only [size_alloc, size_setB, size_drew]; omega)) _ | refine Ext.trans ?_ (by assumption))), _, rfl, ⟨by omega, fun h => by omega, fun h => by omega, fun h _ => by omega, fun h => by omega, fun h => by omega, fun h => by omega⟩⟩
                              | exact ⟨(by repeat (first | assumption | exact Ext.refl _ | refine Ext.alloc ?_ _ | refine Ext.drew ?_ | refine Ext.setB ?_ (by first | omega | (simp only [size_alloc, size_setB, size_drew]; omega)) _ | refine Ext.trans ?_ (by assumption))), _, rfl, ⟨by omega, fun h => by omega, fun h => by omega, fun h _ => by omega, fun h => by simp_all, fun h => by omega, fun h => by omega⟩⟩
                              | exact ⟨(by repeat (first | assumption | exact Ext.refl _ | refine Ext.alloc ?_ _ | refine Ext.drew ?_ | refine Ext.setB ?_ (by first | omega | (simp only [size_alloc, size_setB, size_drew]; omega)) _ | refine Ext.trans ?_ (by assumption))), _, rfl, ⟨by omega, fun h => by omega, fun h => by omega, fun h _ => by omega, fun h => by omega, fun h => rfl, fun h => by omega⟩⟩
                              | exact ⟨(by repeat (first | assumption | exact Ext.refl _ | refine Ext.alloc ?_ _ | refine Ext.drew ?_ | refine Ext.setB ?_ (by first | omega | (simp only [size_alloc, size_setB, size_drew]; omega)) _ | refine Ext.trans ?_ (by assumption))), _, rfl, ⟨by omega, fun h => by omega, fun h => by omega, fun h _ => by omega, fun h => by omega, fun h => by omega, fun _ h => by first | exact hxd248_0 h | (simp_all; done)⟩⟩
                            · have hb62p := hb62.h; try simp only [al_ete, al_dfn, Bool.not_eq_true', Bool.not_eq_false', al_ne, Bool.not_not, al_nn] at hb62p
                              refine W_region rfl ?_
                              refine WO_p (PS_eql rfl rfl) ?_
                              refine WO_p (PS_assign_bool rfl) ?_
                              refine WO_nil ?_
                              refine thn_normal ?_
                              refine W_if rfl (fun hb66 => ?_) (fun hb66 => ?_)
                              · have hb66p := hb66.h; try simp only [al_ete, al_dfn, Bool.not_eq_true', Bool.not_eq_false', al_ne, Bool.not_not, al_nn] at hb66p
                                refine W_seq ?_
                                refine W_region rfl ?_
                                refine WO_p (PS_move_ptr rfl) ?_
                                refine WO_p (PS_move_ptr rfl) ?_
                                refine WO_call Hvad.call160 (by rfl) (Ret.mono (arg_spec C c v B m t f _ _ (MS.ext hM (by repeat (first | assumption | exact Ext.refl _ | refine Ext.alloc ?_ _ | refine Ext.drew ?_ | refine Ext.setB ?_ (by first | omega | (simp only [size_alloc, size_setB, size_drew]; omega)) _ | exact Ext.trans (by assumption) (by assumption) | refine Ext.trans ?_ (by assumption)))) hA (by omega)) ?_)
                                rintro _ w160_66 ⟨hE160_66, rfl⟩
                                have hz160_66 := hE160_66.1
                                try simp only [size_alloc, size_setB, size_drew] at hz160_66
                                refine WO_call Hvad.call244 (by rfl) (Ret.mono (lenX_spec _ _ (argW_wd hM.ty _ _) (by first | exact lenA hre (by omega) | exact lenB hre (by omega) | exact lenC hre (by omega) | exact lenD hre (by omega) | exact lenE hre (by omega))) ?_)
                                rintro _ w244_67 ⟨hE244_67, x244_67, rfl, hx0244_67, hx1244_67⟩
                                have hz244_67 := hE244_67.1
                                try simp only [size_alloc, size_setB, size_drew] at hz244_67
                                refine WO_p (PS_mul_u64n rfl rfl (by omega) (by omega)) ?_
                                refine WO_p (PS_assign_int rfl) ?_
                                refine WO_nil ?_
                                refine thn_normal ?_
                                refine W_ret ?_
                                refine inBlk_ret ?_
                                refine thn_ret ?_
                                refine bodyQ_ret1 Hvad.results165 rfl (.int _ _) rfl ?_
                                first
                                | (exfalso; omega)
                                | exact ⟨(by repeat (first | assumption | exact Ext.refl _ | refine Ext.alloc ?_ _ | refine Ext.drew ?_ | refine Ext.setB ?_ (by first | omega | (simp only [size_alloc, size_setB, size_drew]; omega)) _ | refine Ext.trans ?_ (by assumption))), _, rfl, ⟨by omega, fun h => by omega, fun h => by omega, fun h _ => by omega, fun h => by omega, fun h => by omega, fun h => by omega⟩⟩
                                | exact ⟨(by repeat (first | assumption | exact Ext.refl _ | refine Ext.alloc ?_ _ | refine Ext.drew ?_ | refine Ext.setB ?_ (by first | omega | (simp only [size_alloc, size_setB, size_drew]; omega)) _ | refine Ext.trans ?_ (by assumption))), _, rfl, ⟨by omega, fun h => by omega, fun h => by omega, fun h _ => by omega, fun h => by simp_all, fun h => by omega, fun h => by omega⟩⟩
                                | exact ⟨(by repeat (first | assumption | exact Ext.refl _ | refine Ext.alloc ?_ _ | refine Ext.drew ?_ | refine Ext.setB ?_ (by first | omega | (simp only [size_alloc, size_setB, size_drew]; omega)) _ | refine Ext.trans ?_ (by assumption))), _, rfl, ⟨by omega, fun h => by omega, fun h => by omega, fun h _ => by omega, fun h => by omega, fun h => rfl, fun h => by omega⟩⟩
                                | exact ⟨(by repeat (first | assumption | exact Ext.refl _ | refine Ext.alloc ?_ _ | refine Ext.drew ?_ | refine Ext.setB ?_ (by first | omega | (simp only [size_alloc, size_setB, size_drew]; omega)) _ | refine Ext.trans ?_ (by assumption))), _, rfl, ⟨by omega, fun h => by omega, fun h => by omega, fun h _ => by omega, fun h => by omega, fun h => by omega, fun _ h => by first | exact hxd248_0 h | (simp_all; done)⟩⟩
                              · have hb66p := hb66.h; try simp only [al_ete, al_dfn, Bool.not_eq_true', Bool.not_eq_false', al_ne, Bool.not_not, al_nn] at hb66p
                                refine W_seq ?_
                                refine W_region rfl ?_
                                refine WO_p (PS_eql rfl rfl) ?_
                                refine WO_p (PS_assign_bool rfl) ?_
                                refine WO_nil ?_
                                refine thn_normal ?_
                                refine W_if rfl (fun hb70 => ?_) (fun hb70 => ?_)
                                · have hb70p := hb70.h; try simp only [al_ete, al_dfn, Bool.not_eq_true', Bool.not_eq_false', al_ne, Bool.not_not, al_nn] at hb70p
                                  refine W_seq ?_
                                  refine W_seq ?_
                                  refine W_drawE [false, false, false, false, false, false, false, false, false, false, true, false] hmix (by kernel_rfl) rfl ?_
                                  refine WH_p (PS_move_ptr rfl) rfl ?_
                                  refine WH_p (PS_nilCheck rfl) rfl ?_
                                  refine WH_p (PS_fieldAddr 0 Hvad.runUnderlying69 rfl Hvad.sizeOf53 rfl rfl) rfl ?_
                                  refine WH_load (.pointer _) Hvad.isAgg53 rfl (Hb.h (by repeat (first | assumption | exact Hb.newY _ _ | refine Hb.alloc ?_ | refine Hb.drew ?_ | refine Hb.ext (by assumption) ?_ | exact Hb.setSameL (by first | omega | (simp only [size_alloc, size_setB, size_drew]; omega)) | exact Hb.setSame (by assumption) | refine Hb.set (by first | omega | (simp only [size_alloc, size_setB, size_drew]; omega)) ?_ ))) (Ce.h (by first | assumption | exact ⟨rfl⟩)) ?_
                                  refine WH_p (PS_move_ptr rfl) rfl ?_
                                  refine WH_p (PS_nilCheck rfl) rfl ?_
                                  refine WH_p (PS_fieldAddr 9 Hvad.runUnderlying65 rfl Hvad.sizeOf25 rfl rfl) rfl ?_
                                  refine WH_loadA _ Hvad.isAgg25 Hvad.sizeOf25 rfl (Hb.h (by repeat (first | assumption | exact Hb.newY _ _ | refine Hb.alloc ?_ | refine Hb.drew ?_ | refine Hb.ext (by assumption) ?_ | exact Hb.setSameL (by first | omega | (simp only [size_alloc, size_setB, size_drew]; omega)) | exact Hb.setSame (by assumption) | refine Hb.set (by first | omega | (simp only [size_alloc, size_setB, size_drew]; omega)) ?_ ))) (by first | omega | assumption | rfl | decide | exact Nat.le_refl _ | (simp only [size_ic, Value.cells]; omega) | simp) (Xt.h (by first | assumption | exact Xt.whole rfl rfl | exact Xt.whole rfl (by simp only [size_ic, Value.cells]; omega) | exact ⟨rfl⟩)) ?_
                                  refine WH_p (PS_move_ptr rfl) rfl ?_
                                  refine WH_p (PS_move_ptr rfl) rfl ?_
                                  refine WH_call Hvad.call160 (by rfl) (Ret.mono (arg_spec C c v B m t f _ _ (MS.ext hM (by repeat (first | assumption | exact Ext.refl _ | refine Ext.alloc ?_ _ | refine Ext.drew ?_ | refine Ext.setB ?_ (by first | omega | (simp only [size_alloc, size_setB, size_drew]; omega)) _ | exact Ext.trans (by assumption) (by assumption) | refine Ext.trans ?_ (by assumption)))) hA (by omega)) ?_)
                                  rintro _ w160_70 ⟨hE160_70, rfl⟩
                                  refine ⟨fun _ => (by repeat (first | assumption | exact Ext.refl _ | refine Ext.alloc ?_ _ | refine Ext.drew ?_ | refine Ext.setB ?_ (by first | omega | (simp only [size_alloc, size_setB, size_drew]; omega)) _ | exact Ext.trans (by assumption) (by assumption) | refine Ext.trans ?_ (by assumption))), ?_⟩
                                  have hz160_70 := hE160_70.1
                                  try simp only [size_alloc, size_setB, size_drew] at hz160_70
                                  refine WH_call Hvad.call78 (by rfl) (Ret.mono (isWarmS_spec C c v B (bb m) _ _ _ (VS.ext hM.vs (by repeat (first | assumption | exact Ext.refl _ | refine Ext.alloc ?_ _ | refine Ext.drew ?_ | refine Ext.setB ?_ (by first | omega | (simp only [size_alloc, size_setB, size_drew]; omega)) _ | exact Ext.trans (by assumption) (by assumption) | refine Ext.trans ?_ (by assumption)))) (by first | assumption | exact addrW_by _) (by first | assumption | exact argW_wd hM.ty _ _ | exact Wd0)) ?_)
                                  rintro _ w78_71 ⟨rfl, hE78_71⟩
                                  refine ⟨(fun h => by cases h), ?_⟩
                                  have hz78_71 := hE78_71.1
                                  try simp only [size_alloc, size_setB, size_drew] at hz78_71
                                  refine WH_nil ?_
                                  refine thn_normal ?_
                                  refine W_if rfl (fun hb73 => ?_) (fun hb73 => ?_)
                                  · have hb73p := hb73.h; try simp only [al_ete, al_dfn, Bool.not_eq_true', Bool.not_eq_false', al_ne, Bool.not_not, al_nn] at hb73p
                                    refine W_seq ?_
                                    refine W_region rfl ?_
                                    refine WO_p (PS_assign_int rfl) ?_
                                    refine WO_nil ?_
                                    refine thn_normal ?_
                                    refine W_ret ?_
                                    refine thn_ret ?_
                                    refine inBlk_ret ?_
                                    refine thn_ret ?_
                                    refine bodyQ_ret1 Hvad.results165 rfl (.int _ _) rfl ?_
                                    first
                                    | (exfalso; omega)
                                    | exact ⟨(by repeat (first | assumption | exact Ext.refl _ | refine Ext.alloc ?_ _ | refine Ext.drew ?_ | refine Ext.setB ?_ (by first | omega | (simp only [size_alloc, size_setB, size_drew]; omega)) _ | refine Ext.trans ?_ (by assumption))), _, rfl, ⟨by omega, fun h => by omega, fun h => by omega, fun h _ => by omega, fun h => by omega, fun h => by omega, fun h => by omega⟩⟩
                                    | exact ⟨(by repeat (first | assumption | exact Ext.refl _ | refine Ext.alloc ?_ _ | refine Ext.drew ?_ | refine Ext.setB ?_ (by first | omega | (simp only [size_alloc, size_setB, size_drew]; omega)) _ | refine Ext.trans ?_ (by assumption))), _, rfl, ⟨by omega, fun h => by omega, fun h => by omega, fun h _ => by omega, fun h => by simp_all, fun h => by omega, fun h => by omega⟩⟩
                                    | exact ⟨(by repeat (first | assumption | exact Ext.refl _ | refine Ext.alloc ?_ _ | refine Ext.drew ?_ | refine Ext.setB ?_ (by first | omega | (simp only [size_alloc, size_setB, size_drew]; omega)) _ | refine Ext.trans ?_ (by assumption))), _, rfl, ⟨by omega, fun h => by omega, fun h => by omega, fun h _ => by omega, fun h => by omega, fun h => rfl, fun h => by omega⟩⟩
                                    | exact ⟨(by repeat (first | assumption | exact Ext.refl _ | refine Ext.alloc ?_ _ | refine Ext.drew ?_ | refine Ext.setB ?_ (by first | omega | (simp only [size_alloc, size_setB, size_drew]; omega)) _ | refine Ext.trans ?_ (by assumption))), _, rfl, ⟨by omega, fun h => by omega, fun h => by omega, fun h _ => by omega, fun h => by omega, fun h => by omega, fun _ h => by first | exact hxd248_0 h | (simp_all; done)⟩⟩
                                  · have hb73p := hb73.h; try simp only [al_ete, al_dfn, Bool.not_eq_true', Bool.not_eq_false', al_ne, Bool.not_not, al_nn] at hb73p
                                    refine W_skip ?_
                                    refine thn_normal ?_
                                    refine W_seq ?_
                                    refine W_region rfl ?_
                                    refine WO_p (PS_assign_int rfl) ?_
                                    refine WO_nil ?_
                                    refine thn_normal ?_
                                    refine W_ret ?_
                                    refine inBlk_ret ?_
                                    refine thn_ret ?_
                                    refine bodyQ_ret1 Hvad.results165 rfl (.int _ _) rfl ?_
                                    first
                                    | (exfalso; omega)
                                    | exact ⟨(by repeat (first | assumption | exact Ext.refl _ | refine Ext.alloc ?_ _ | refine Ext.drew ?_ | refine Ext.setB ?_ (by first | omega | (simp only [size_alloc, size_setB, size_drew]; omega)) _ | refine Ext.trans ?_ (by assumption))), _, rfl, ⟨by omega, fun h => by omega, fun h => by omega, fun h _ => by omega, fun h => by omega, fun h => by omega, fun h => by omega⟩⟩
                                    | exact ⟨(by repeat (first | assumption | exact Ext.refl _ | refine Ext.alloc ?_ _ | refine Ext.drew ?_ | refine Ext.setB ?_ (by first | omega | (simp only [size_alloc, size_setB, size_drew]; omega)) _ | refine Ext.trans ?_ (by assumption))), _, rfl, ⟨by omega, fun h => by omega, fun h => by omega, fun h _ => by omega, fun h => by simp_all, fun h => by omega, fun h => by omega⟩⟩
                                    | exact ⟨(by repeat (first | assumption | exact Ext.refl _ | refine Ext.alloc ?_ _ | refine Ext.drew ?_ | refine Ext.setB ?_ (by first | omega | (simp only [size_alloc, size_setB, size_drew]; omega)) _ | refine Ext.trans ?_ (by assumption))), _, rfl, ⟨by omega, fun h => by omega, fun h => by omega, fun h _ => by omega, fun h => by omega, fun h => rfl, fun h => by omega⟩⟩
                                    | exact ⟨(by repeat (first | assumption | exact Ext.refl _ | refine Ext.alloc ?_ _ | refine Ext.drew ?_ | refine Ext.setB ?_ (by first | omega | (simp only [size_alloc, size_setB, size_drew]; omega)) _ | refine Ext.trans ?_ (by assumption))), _, rfl, ⟨by omega, fun h => by omega, fun h => by omega, fun h _ => by omega, fun h => by omega, fun h => by omega, fun _ h => by first | exact hxd248_0 h | (simp_all; done)⟩⟩
                                · have hb70p := hb70.h; try simp only [al_ete, al_dfn, Bool.not_eq_true', Bool.not_eq_false', al_ne, Bool.not_not, al_nn] at hb70p
                                  refine W_seq ?_
                                  refine W_region rfl ?_
                                  refine WO_p (PS_eql rfl rfl) ?_
                                  refine WO_p (PS_assign_bool rfl) ?_
                                  refine WO_nil ?_
                                  refine thn_normal ?_
                                  refine W_if rfl (fun hb75 => ?_) (fun hb75 => ?_)
                                  · have hb75p := hb75.h; try simp only [al_ete, al_dfn, Bool.not_eq_true', Bool.not_eq_false', al_ne, Bool.not_not, al_nn] at hb75p
                                    refine W_seq ?_
                                    refine W_region rfl ?_
                                    refine WO_p (PS_move_ptr rfl) ?_
                                    refine WO_p (PS_move_ptr rfl) ?_
                                    refine WO_call Hvad.call247 (by rfl) (Ret.mono (mSstore_spec C c v B m t f _ (MS.ext hM (by repeat (first | assumption | exact Ext.refl _ | refine Ext.alloc ?_ _ | refine Ext.drew ?_ | refine Ext.setB ?_ (by first | omega | (simp only [size_alloc, size_setB, size_drew]; omega)) _ | exact Ext.trans (by assumption) (by assumption) | refine Ext.trans ?_ (by assumption)))) hA) ?_)
                                    rintro _ w247_75 ⟨hE247_75, rfl⟩
                                    have hz247_75 := hE247_75.1
                                    try simp only [size_alloc, size_setB, size_drew] at hz247_75
                                    refine WO_p (PS_move_tuple rfl) ?_
                                    refine WO_p (PS_extract_int rfl rfl) ?_
                                    refine WO_p (PS_extract_int rfl rfl) ?_
                                    refine WO_p (PS_extract_int rfl rfl) ?_
                                    refine WO_p (PS_assign_int rfl) ?_
                                    refine WO_p (PS_assign_int rfl) ?_
                                    refine WO_p (PS_assign_int rfl) ?_
                                    refine WO_nil ?_
                                    refine thn_normal ?_
                                    refine W_seq ?_
                                    refine W_region rfl ?_
                                    refine WO_p (PS_move_int rfl) ?_
                                    refine WO_p (PS_assign_int rfl) ?_
                                    refine WO_nil ?_
                                    refine thn_normal ?_
                                    refine W_ret ?_
                                    refine inBlk_ret ?_
                                    refine thn_ret ?_
                                    refine bodyQ_ret1 Hvad.results165 rfl (.int _ _) rfl ?_
                                    first
                                    | (exfalso; omega)
                                    | exact ⟨(by repeat (first | assumption | exact Ext.refl _ | refine Ext.alloc ?_ _ | refine Ext.drew ?_ | refine Ext.setB ?_ (by first | omega | (simp only [size_alloc, size_setB, size_drew]; omega)) _ | refine Ext.trans ?_ (by assumption))), _, rfl, ⟨by omega, fun h => by omega, fun h => by omega, fun h _ => by omega, fun h => by omega, fun h => by omega, fun h => by omega⟩⟩
                                    | exact ⟨(by repeat (first | assumption | exact Ext.refl _ | refine Ext.alloc ?_ _ | refine Ext.drew ?_ | refine Ext.setB ?_ (by first | omega | (simp only [size_alloc, size_setB, size_drew]; omega)) _ | refine Ext.trans ?_ (by assumption))), _, rfl, ⟨by omega, fun h => by omega, fun h => by omega, fun h _ => by omega, fun h => by simp_all, fun h => by omega, fun h => by omega⟩⟩
                                    | exact ⟨(by repeat (first | assumption | exact Ext.refl _ | refine Ext.alloc ?_ _ | refine Ext.drew ?_ | refine Ext.setB ?_ (by first | omega | (simp only [size_alloc, size_setB, size_drew]; omega)) _ | refine Ext.trans ?_ (by assumption))), _, rfl, ⟨by omega, fun h => by omega, fun h => by omega, fun h _ => by omega, fun h => by omega, fun h => rfl, fun h => by omega⟩⟩
                                    | exact ⟨(by repeat (first | assumption | exact Ext.refl _ | refine Ext.alloc ?_ _ | refine Ext.drew ?_ | refine Ext.setB ?_ (by first | omega | (simp only [size_alloc, size_setB, size_drew]; omega)) _ | refine Ext.trans ?_ (by assumption))), _, rfl, ⟨by omega, fun h => by omega, fun h => by omega, fun h _ => by omega, fun h => by omega, fun h => by omega, fun _ h => by first | exact hxd248_0 h | (simp_all; done)⟩⟩
                                  · have hb75p := hb75.h; try simp only [al_ete, al_dfn, Bool.not_eq_true', Bool.not_eq_false', al_ne, Bool.not_not, al_nn] at hb75p
                                    refine W_seq ?_
                                    refine W_region rfl ?_
                                    refine WO_p (PS_eql rfl rfl) ?_
                                    refine WO_p (PS_assign_bool rfl) ?_
                                    refine WO_nil ?_
                                    refine thn_normal ?_
                                    refine W_if rfl (fun hb78 => ?_) (fun hb78 => ?_)
                                    · have hb78p := hb78.h; try simp only [al_ete, al_dfn, Bool.not_eq_true', Bool.not_eq_false', al_ne, Bool.not_not, al_nn] at hb78p
                                      refine W_seq ?_
                                      refine W_region rfl ?_
                                      refine WO_p (PS_move_ptr rfl) ?_
                                      refine WO_p (PS_move_ptr rfl) ?_
                                      refine WO_call Hvad.call160 (by rfl) (Ret.mono (arg_spec C c v B m t f _ _ (MS.ext hM (by repeat (first | assumption | exact Ext.refl _ | refine Ext.alloc ?_ _ | refine Ext.drew ?_ | refine Ext.setB ?_ (by first | omega | (simp only [size_alloc, size_setB, size_drew]; omega)) _ | exact Ext.trans (by assumption) (by assumption) | refine Ext.trans ?_ (by assumption)))) hA (by omega)) ?_)
                                      rintro _ w160_78 ⟨hE160_78, rfl⟩
                                      have hz160_78 := hE160_78.1
                                      try simp only [size_alloc, size_setB, size_drew] at hz160_78
                                      refine WO_call Hvad.call244 (by rfl) (Ret.mono (lenX_spec _ _ (argW_wd hM.ty _ _) (by first | exact lenA hre (by omega) | exact lenB hre (by omega) | exact lenC hre (by omega) | exact lenD hre (by omega) | exact lenE hre (by omega))) ?_)
                                      rintro _ w244_79 ⟨hE244_79, x244_79, rfl, hx0244_79, hx1244_79⟩
                                      have hz244_79 := hE244_79.1
                                      try simp only [size_alloc, size_setB, size_drew] at hz244_79
                                      refine WO_call Hvad.call70 (by rfl) (Ret.mono (words_spec _ _ ⟨by omega, by omega⟩) ?_)
                                      rintro _ _ ⟨rfl, rfl⟩
                                      refine WO_p (PS_mul_u64n rfl rfl (by omega) (by omega)) ?_
                                      refine WO_p (PS_assign_int rfl) ?_
                                      refine WO_nil ?_
                                      refine thn_normal ?_
                                      refine W_ret ?_
                                      refine inBlk_ret ?_
                                      refine thn_ret ?_
                                      refine bodyQ_ret1 Hvad.results165 rfl (.int _ _) rfl ?_
                                      first
                                      | (exfalso; omega)
                                      | exact ⟨(by repeat (first | assumption | exact Ext.refl _ | refine Ext.alloc ?_ _ | refine Ext.drew ?_ | refine Ext.setB ?_ (by first | omega | (simp only [size_alloc, size_setB, size_drew]; omega)) _ | refine Ext.trans ?_ (by assumption))), _, rfl, ⟨by omega, fun h => by omega, fun h => by omega, fun h _ => by omega, fun h => by omega, fun h => by omega, fun h => by omega⟩⟩
                                      | exact ⟨(by repeat (first | assumption | exact Ext.refl _ | refine Ext.alloc ?_ _ | refine Ext.drew ?_ | refine Ext.setB ?_ (by first | omega | (simp only [size_alloc, size_setB, size_drew]; omega)) _ | refine Ext.trans ?_ (by assumption))), _, rfl, ⟨by omega, fun h => by omega, fun h => by omega, fun h _ => by omega, fun h => by simp_all, fun h => by omega, fun h => by omega⟩⟩
                                      | exact ⟨(by repeat (first | assumption | exact Ext.refl _ | refine Ext.alloc ?_ _ | refine Ext.drew ?_ | refine Ext.setB ?_ (by first | omega | (simp only [size_alloc, size_setB, size_drew]; omega)) _ | refine Ext.trans ?_ (by assumption))), _, rfl, ⟨by omega, fun h => by omega, fun h => by omega, fun h _ => by omega, fun h => by omega, fun h => rfl, fun h => by omega⟩⟩
                                      | exact ⟨(by repeat (first | assumption | exact Ext.refl _ | refine Ext.alloc ?_ _ | refine Ext.drew ?_ | refine Ext.setB ?_ (by first | omega | (simp only [size_alloc, size_setB, size_drew]; omega)) _ | refine Ext.trans ?_ (by assumption))), _, rfl, ⟨by omega, fun h => by omega, fun h => by omega, fun h _ => by omega, fun h => by omega, fun h => by omega, fun _ h => by first | exact hxd248_0 h | (simp_all; done)⟩⟩
                                    · have hb78p := hb78.h; try simp only [al_ete, al_dfn, Bool.not_eq_true', Bool.not_eq_false', al_ne, Bool.not_not, al_nn] at hb78p
                                      refine W_seq ?_
                                      refine W_region rfl ?_
                                      refine WO_p (PS_eql rfl rfl) ?_
                                      refine WO_p (PS_assign_bool rfl) ?_
                                      refine WO_nil ?_
                                      refine thn_normal ?_
                                      refine W_if rfl (fun hb83 => ?_) (fun hb83 => ?_)
                                      · have hb83p := hb83.h; try simp only [al_ete, al_dfn, Bool.not_eq_true', Bool.not_eq_false', al_ne, Bool.not_not, al_nn] at hb83p
                                        refine W_seq ?_
                                        refine W_region rfl ?_
                                        refine WO_p (PS_move_ptr rfl) ?_
                                        refine WO_p (PS_move_ptr rfl) ?_
                                        refine WO_call Hvad.call160 (by rfl) (Ret.mono (arg_spec C c v B m t f _ _ (MS.ext hM (by repeat (first | assumption | exact Ext.refl _ | refine Ext.alloc ?_ _ | refine Ext.drew ?_ | refine Ext.setB ?_ (by first | omega | (simp only [size_alloc, size_setB, size_drew]; omega)) _ | exact Ext.trans (by assumption) (by assumption) | refine Ext.trans ?_ (by assumption)))) hA (by omega)) ?_)
                                        rintro _ w160_83 ⟨hE160_83, rfl⟩
                                        have hz160_83 := hE160_83.1
                                        try simp only [size_alloc, size_setB, size_drew] at hz160_83
                                        refine WO_call Hvad.call244 (by rfl) (Ret.mono (lenX_spec _ _ (argW_wd hM.ty _ _) (by first | exact lenA hre (by omega) | exact lenB hre (by omega) | exact lenC hre (by omega) | exact lenD hre (by omega) | exact lenE hre (by omega))) ?_)
                                        rintro _ w244_84 ⟨hE244_84, x244_84, rfl, hx0244_84, hx1244_84⟩
                                        have hz244_84 := hE244_84.1
                                        try simp only [size_alloc, size_setB, size_drew] at hz244_84
                                        refine WO_call Hvad.call70 (by rfl) (Ret.mono (words_spec _ _ ⟨by omega, by omega⟩) ?_)
                                        rintro _ _ ⟨rfl, rfl⟩
                                        refine WO_p (PS_mul_u64n rfl rfl (by omega) (by omega)) ?_
                                        refine WO_p (PS_assign_int rfl) ?_
                                        refine WO_nil ?_
                                        refine thn_normal ?_
                                        refine W_ret ?_
                                        refine inBlk_ret ?_
                                        refine thn_ret ?_
                                        refine bodyQ_ret1 Hvad.results165 rfl (.int _ _) rfl ?_
                                        first
                                        | (exfalso; omega)
                                        | exact ⟨(by repeat (first | assumption | exact Ext.refl _ | refine Ext.alloc ?_ _ | refine Ext.drew ?_ | refine Ext.setB ?_ (by first | omega | (simp only [size_alloc, size_setB, size_drew]; omega)) _ | refine Ext.trans ?_ (by assumption))), _, rfl, ⟨by omega, fun h => by omega, fun h => by omega, fun h _ => by omega, fun h => by omega, fun h => by omega, fun h => by omega⟩⟩
                                        | exact ⟨(by repeat (first | assumption | exact Ext.refl _ | refine Ext.alloc ?_ _ | refine Ext.drew ?_ | refine Ext.setB ?_ (by first | omega | (simp only [size_alloc, size_setB, size_drew]; omega)) _ | refine Ext.trans ?_ (by assumption))), _, rfl, ⟨by omega, fun h => by omega, fun h => by omega, fun h _ => by omega, fun h => by simp_all, fun h => by omega, fun h => by omega⟩⟩
                                        | exact ⟨(by repeat (first | assumption | exact Ext.refl _ | refine Ext.alloc ?_ _ | refine Ext.drew ?_ | refine Ext.setB ?_ (by first | omega | (simp only [size_alloc, size_setB, size_drew]; omega)) _ | refine Ext.trans ?_ (by assumption))), _, rfl, ⟨by omega, fun h => by omega, fun h => by omega, fun h _ => by omega, fun h => by omega, fun h => rfl, fun h => by omega⟩⟩
                                        | exact ⟨(by repeat (first | assumption | exact Ext.refl _ | refine Ext.alloc ?_ _ | refine Ext.drew ?_ | refine Ext.setB ?_ (by first | omega | (simp only [size_alloc, size_setB, size_drew]; omega)) _ | refine Ext.trans ?_ (by assumption))), _, rfl, ⟨by omega, fun h => by omega, fun h => by omega, fun h _ => by omega, fun h => by omega, fun h => by omega, fun _ h => by first | exact hxd248_0 h | (simp_all; done)⟩⟩
                                      · have hb83p := hb83.h; try simp only [al_ete, al_dfn, Bool.not_eq_true', Bool.not_eq_false', al_ne, Bool.not_not, al_nn] at hb83p
                                        refine W_seq ?_
                                        refine W_seq ?_
                                        refine W_region rfl ?_
                                        refine WO_p (PS_eql rfl rfl) ?_
                                        refine WO_p (PS_assign_bool rfl) ?_
                                        refine WO_nil ?_
                                        refine thn_normal ?_
                                        refine W_if rfl (fun hb88 => ?_) (fun hb88 => ?_)
                                        · have hb88p := hb88.h; try simp only [al_ete, al_dfn, Bool.not_eq_true', Bool.not_eq_false', al_ne, Bool.not_not, al_nn] at hb88p
                                          refine W_skip ?_
                                          refine thn_normal ?_
                                          refine W_condT rfl hb88.h ?_
                                          refine W_seq ?_
                                          refine W_region rfl ?_
                                          refine WO_p (PS_move_ptr rfl) ?_
                                          refine WO_p (PS_move_ptr rfl) ?_
                                          refine WO_p (PS_move_ptr rfl) ?_
                                          refine WO_call Hvad.call160 (by rfl) (Ret.mono (arg_spec C c v B m t f _ _ (MS.ext hM (by repeat (first | assumption | exact Ext.refl _ | refine Ext.alloc ?_ _ | refine Ext.drew ?_ | refine Ext.setB ?_ (by first | omega | (simp only [size_alloc, size_setB, size_drew]; omega)) _ | exact Ext.trans (by assumption) (by assumption) | refine Ext.trans ?_ (by assumption)))) hA (by omega)) ?_)
                                          rintro _ w160_88 ⟨hE160_88, rfl⟩
                                          have hz160_88 := hE160_88.1
                                          try simp only [size_alloc, size_setB, size_drew] at hz160_88
                                          refine WO_call Hvad.call246 (by rfl) (Ret.mono (access_spec C c v B m _ _ (MS.ext hM (by repeat (first | assumption | exact Ext.refl _ | refine Ext.alloc ?_ _ | refine Ext.drew ?_ | refine Ext.setB ?_ (by first | omega | (simp only [size_alloc, size_setB, size_drew]; omega)) _ | exact Ext.trans (by assumption) (by assumption) | refine Ext.trans ?_ (by assumption)))) (argW_wd hM.ty _ _)) ?_)
                                          rintro _ w246_89 ⟨hE246_89, rfl⟩
                                          have hz246_89 := hE246_89.1
                                          try simp only [size_alloc, size_setB, size_drew] at hz246_89
                                          refine WO_p (PS_assign_int rfl) ?_
                                          refine WO_nil ?_
                                          refine thn_normal ?_
                                          refine W_ret ?_
                                          refine inBlk_ret ?_
                                          refine thn_ret ?_
                                          refine bodyQ_ret1 Hvad.results165 rfl (.int _ _) rfl ?_
                                          first
                                          | (exfalso; omega)
                                          | exact ⟨(by repeat (first | assumption | exact Ext.refl _ | refine Ext.alloc ?_ _ | refine Ext.drew ?_ | refine Ext.setB ?_ (by first | omega | (simp only [size_alloc, size_setB, size_drew]; omega)) _ | refine Ext.trans ?_ (by assumption))), _, rfl, ⟨by omega, fun h => by omega, fun h => by omega, fun h _ => by omega, fun h => by omega, fun h => by omega, fun h => by omega⟩⟩
                                          | exact ⟨(by repeat (first | assumption | exact Ext.refl _ | refine Ext.alloc ?_ _ | refine Ext.drew ?_ | refine Ext.setB ?_ (by first | omega | (simp only [size_alloc, size_setB, size_drew]; omega)) _ | refine Ext.trans ?_ (by assumption))), _, rfl, ⟨by omega, fun h => by omega, fun h => by omega, fun h _ => by omega, fun h => by simp_all, fun h => by omega, fun h => by omega⟩⟩
                                          | exact ⟨(by repeat (first | assumption | exact Ext.refl _ | refine Ext.alloc ?_ _ | refine Ext.drew ?_ | refine Ext.setB ?_ (by first | omega | (simp only [size_alloc, size_setB, size_drew]; omega)) _ | refine Ext.trans ?_ (by assumption))), _, rfl, ⟨by omega, fun h => by omega, fun h => by omega, fun h _ => by omega, fun h => by omega, fun h => rfl, fun h => by omega⟩⟩
                                          | exact ⟨(by repeat (first | assumption | exact Ext.refl _ | refine Ext.alloc ?_ _ | refine Ext.drew ?_ | refine Ext.setB ?_ (by first | omega | (simp only [size_alloc, size_setB, size_drew]; omega)) _ | refine Ext.trans ?_ (by assumption))), _, rfl, ⟨by omega, fun h => by omega, fun h => by omega, fun h _ => by omega, fun h => by omega, fun h => by omega, fun _ h => by first | exact hxd248_0 h | (simp_all; done)⟩⟩
                                        · have hb88p := hb88.h; try simp only [al_ete, al_dfn, Bool.not_eq_true', Bool.not_eq_false', al_ne, Bool.not_not, al_nn] at hb88p
                                          refine W_region rfl ?_
                                          refine WO_p (PS_eql rfl rfl) ?_
                                          refine WO_p (PS_assign_bool rfl) ?_
                                          refine WO_nil ?_
                                          refine thn_normal ?_
                                          refine W_if rfl (fun hb92 => ?_) (fun hb92 => ?_)
                                          · have hb92p := hb92.h; try simp only [al_ete, al_dfn, Bool.not_eq_true', Bool.not_eq_false', al_ne, Bool.not_not, al_nn] at hb92p
                                            refine W_seq ?_
                                            refine W_region rfl ?_
                                            refine WO_p (PS_move_ptr rfl) ?_
                                            refine WO_p (PS_move_ptr rfl) ?_
                                            refine WO_p (PS_move_ptr rfl) ?_
                                            refine WO_call Hvad.call160 (by rfl) (Ret.mono (arg_spec C c v B m t f _ _ (MS.ext hM (by repeat (first | assumption | exact Ext.refl _ | refine Ext.alloc ?_ _ | refine Ext.drew ?_ | refine Ext.setB ?_ (by first | omega | (simp only [size_alloc, size_setB, size_drew]; omega)) _ | exact Ext.trans (by assumption) (by assumption) | refine Ext.trans ?_ (by assumption)))) hA (by omega)) ?_)
                                            rintro _ w160_92 ⟨hE160_92, rfl⟩
                                            have hz160_92 := hE160_92.1
                                            try simp only [size_alloc, size_setB, size_drew] at hz160_92
                                            refine WO_call Hvad.call246 (by rfl) (Ret.mono (access_spec C c v B m _ _ (MS.ext hM (by repeat (first | assumption | exact Ext.refl _ | refine Ext.alloc ?_ _ | refine Ext.drew ?_ | refine Ext.setB ?_ (by first | omega | (simp only [size_alloc, size_setB, size_drew]; omega)) _ | exact Ext.trans (by assumption) (by assumption) | refine Ext.trans ?_ (by assumption)))) (argW_wd hM.ty _ _)) ?_)
                                            rintro _ w246_93 ⟨hE246_93, rfl⟩
                                            have hz246_93 := hE246_93.1
                                            try simp only [size_alloc, size_setB, size_drew] at hz246_93
                                            refine WO_p (PS_assign_int rfl) ?_
                                            refine WO_nil ?_
                                            refine thn_normal ?_
                                            refine W_ret ?_
                                            refine inBlk_ret ?_
                                            refine thn_ret ?_
                                            refine bodyQ_ret1 Hvad.results165 rfl (.int _ _) rfl ?_
                                            first
                                            | (exfalso; omega)
                                            | exact ⟨(by repeat (first | assumption | exact Ext.refl _ | refine Ext.alloc ?_ _ | refine Ext.drew ?_ | refine Ext.setB ?_ (by first | omega | (simp only [size_alloc, size_setB, size_drew]; omega)) _ | refine Ext.trans ?_ (by assumption))), _, rfl, ⟨by omega, fun h => by omega, fun h => by omega, fun h _ => by omega, fun h => by omega, fun h => by omega, fun h => by omega⟩⟩
                                            | exact ⟨(by repeat (first | assumption | exact Ext.refl _ | refine Ext.alloc ?_ _ | refine Ext.drew ?_ | refine Ext.setB ?_ (by first | omega | (simp only [size_alloc, size_setB, size_drew]; omega)) _ | refine Ext.trans ?_ (by assumption))), _, rfl, ⟨by omega, fun h => by omega, fun h => by omega, fun h _ => by omega, fun h => by simp_all, fun h => by omega, fun h => by omega⟩⟩
                                            | exact ⟨(by repeat (first | assumption | exact Ext.refl _ | refine Ext.alloc ?_ _ | refine Ext.drew ?_ | refine Ext.setB ?_ (by first | omega | (simp only [size_alloc, size_setB, size_drew]; omega)) _ | refine Ext.trans ?_ (by assumption))), _, rfl, ⟨by omega, fun h => by omega, fun h => by omega, fun h _ => by omega, fun h => by omega, fun h => rfl, fun h => by omega⟩⟩
                                            | exact ⟨(by repeat (first | assumption | exact Ext.refl _ | refine Ext.alloc ?_ _ | refine Ext.drew ?_ | refine Ext.setB ?_ (by first | omega | (simp only [size_alloc, size_setB, size_drew]; omega)) _ | refine Ext.trans ?_ (by assumption))), _, rfl, ⟨by omega, fun h => by omega, fun h => by omega, fun h _ => by omega, fun h => by omega, fun h => by omega, fun _ h => by first | exact hxd248_0 h | (simp_all; done)⟩⟩
                                          · have hb92p := hb92.h; try simp only [al_ete, al_dfn, Bool.not_eq_true', Bool.not_eq_false', al_ne, Bool.not_not, al_nn] at hb92p
                                            refine W_seq ?_
                                            refine W_region rfl ?_
                                            refine WO_p (PS_eql rfl rfl) ?_
                                            refine WO_p (PS_assign_bool rfl) ?_
                                            refine WO_nil ?_
                                            refine thn_normal ?_
                                            refine W_if rfl (fun hb96 => ?_) (fun hb96 => ?_)
                                            · have hb96p := hb96.h; try simp only [al_ete, al_dfn, Bool.not_eq_true', Bool.not_eq_false', al_ne, Bool.not_not, al_nn] at hb96p
                                              refine W_seq ?_
                                              refine W_region rfl ?_
                                              refine WO_p (PS_move_ptr rfl) ?_
                                              refine WO_p (PS_move_ptr rfl) ?_
                                              refine WO_call Hvad.call248 (by rfl) (Ret.mono (destroyCost_spec C c v B m t f _ (MS.ext hM (by repeat (first | assumption | exact Ext.refl _ | refine Ext.alloc ?_ _ | refine Ext.drew ?_ | refine Ext.setB ?_ (by first | omega | (simp only [size_alloc, size_setB, size_drew]; omega)) _ | exact Ext.trans (by assumption) (by assumption) | refine Ext.trans ?_ (by assumption)))) hA) ?_)
                                              rintro _ w248_96 ⟨hE248_96, x248_96, rfl, hxb248_96, hxd248_96⟩
                                              have hz248_96 := hE248_96.1
                                              try simp only [size_alloc, size_setB, size_drew] at hz248_96
                                              refine WO_p (PS_assign_int rfl) ?_
                                              refine WO_nil ?_
                                              refine thn_normal ?_
                                              refine W_ret ?_
                                              refine inBlk_ret ?_
                                              refine thn_ret ?_
                                              refine bodyQ_ret1 Hvad.results165 rfl (.int _ _) rfl ?_
                                              first
                                              | (exfalso; omega)
                                              | exact ⟨(by repeat (first | assumption | exact Ext.refl _ | refine Ext.alloc ?_ _ | refine Ext.drew ?_ | refine Ext.setB ?_ (by first | omega | (simp only [size_alloc, size_setB, size_drew]; omega)) _ | refine Ext.trans ?_ (by assumption))), _, rfl, ⟨by omega, fun h => by omega, fun h => by omega, fun h _ => by omega, fun h => by omega, fun h => by omega, fun h => by omega⟩⟩
                                              | exact ⟨(by repeat (first | assumption | exact Ext.refl _ | refine Ext.alloc ?_ _ | refine Ext.drew ?_ | refine Ext.setB ?_ (by first | omega | (simp only [size_alloc, size_setB, size_drew]; omega)) _ | refine Ext.trans ?_ (by assumption))), _, rfl, ⟨by omega, fun h => by omega, fun h => by omega, fun h _ => by omega, fun h => by simp_all, fun h => by omega, fun h => by omega⟩⟩
                                              | exact ⟨(by repeat (first | assumption | exact Ext.refl _ | refine Ext.alloc ?_ _ | refine Ext.drew ?_ | refine Ext.setB ?_ (by first | omega | (simp only [size_alloc, size_setB, size_drew]; omega)) _ | refine Ext.trans ?_ (by assumption))), _, rfl, ⟨by omega, fun h => by omega, fun h => by omega, fun h _ => by omega, fun h => by omega, fun h => rfl, fun h => by omega⟩⟩
                                              | exact ⟨(by repeat (first | assumption | exact Ext.refl _ | refine Ext.alloc ?_ _ | refine Ext.drew ?_ | refine Ext.setB ?_ (by first | omega | (simp only [size_alloc, size_setB, size_drew]; omega)) _ | refine Ext.trans ?_ (by assumption))), _, rfl, ⟨by omega, fun h => by omega, fun h => by omega, fun h _ => by omega, fun h => by omega, fun h => by omega, fun _ h => by first | exact hxd248_0 h | (simp_all; done)⟩⟩
                                            · have hb96p := hb96.h; try simp only [al_ete, al_dfn, Bool.not_eq_true', Bool.not_eq_false', al_ne, Bool.not_not, al_nn] at hb96p
                                              refine W_seq ?_
                                              refine W_seq ?_
                                              refine W_region rfl ?_
                                              refine WO_p (PS_eql rfl rfl) ?_
                                              refine WO_p (PS_assign_bool rfl) ?_
                                              refine WO_nil ?_
                                              refine thn_normal ?_
                                              refine W_if rfl (fun hb99 => ?_) (fun hb99 => ?_)
                                              · have hb99p := hb99.h; try simp only [al_ete, al_dfn, Bool.not_eq_true', Bool.not_eq_false', al_ne, Bool.not_not, al_nn] at hb99p
                                                refine W_skip ?_
                                                refine thn_normal ?_
                                                refine W_condT rfl hb99.h ?_
                                                refine W_seq ?_
                                                refine W_region rfl ?_
                                                refine WO_p (PS_move_ptr rfl) ?_
                                                refine WO_p (PS_move_ptr rfl) ?_
                                                refine WO_p (PS_move_ptr rfl) ?_
                                                refine WO_call Hvad.call160 (by rfl) (Ret.mono (arg_spec C c v B m t f _ _ (MS.ext hM (by repeat (first | assumption | exact Ext.refl _ | refine Ext.alloc ?_ _ | refine Ext.drew ?_ | refine Ext.setB ?_ (by first | omega | (simp only [size_alloc, size_setB, size_drew]; omega)) _ | exact Ext.trans (by assumption) (by assumption) | refine Ext.trans ?_ (by assumption)))) hA (by omega)) ?_)
                                                rintro _ w160_99 ⟨hE160_99, rfl⟩
                                                have hz160_99 := hE160_99.1
                                                try simp only [size_alloc, size_setB, size_drew] at hz160_99
                                                refine WO_call Hvad.call246 (by rfl) (Ret.mono (access_spec C c v B m _ _ (MS.ext hM (by repeat (first | assumption | exact Ext.refl _ | refine Ext.alloc ?_ _ | refine Ext.drew ?_ | refine Ext.setB ?_ (by first | omega | (simp only [size_alloc, size_setB, size_drew]; omega)) _ | exact Ext.trans (by assumption) (by assumption) | refine Ext.trans ?_ (by assumption)))) (argW_wd hM.ty _ _)) ?_)
                                                rintro _ w246_100 ⟨hE246_100, rfl⟩
                                                have hz246_100 := hE246_100.1
                                                try simp only [size_alloc, size_setB, size_drew] at hz246_100
                                                refine WO_p (PS_assign_int rfl) ?_
                                                refine WO_nil ?_
                                                refine thn_normal ?_
                                                refine W_seq ?_
                                                refine W_seq ?_
                                                refine W_region rfl ?_
                                                refine WO_p (PS_move_ptr rfl) ?_
                                                refine WO_p (PS_move_ptr rfl) ?_
                                                refine WO_call Hvad.call160 (by rfl) (Ret.mono (arg_spec C c v B m t f _ _ (MS.ext hM (by repeat (first | assumption | exact Ext.refl _ | refine Ext.alloc ?_ _ | refine Ext.drew ?_ | refine Ext.setB ?_ (by first | omega | (simp only [size_alloc, size_setB, size_drew]; omega)) _ | exact Ext.trans (by assumption) (by assumption) | refine Ext.trans ?_ (by assumption)))) hA (by omega)) ?_)
                                                rintro _ w160_101 ⟨hE160_101, rfl⟩
                                                have hz160_101 := hE160_101.1
                                                try simp only [size_alloc, size_setB, size_drew] at hz160_101
                                                refine WO_allocG Hvad.zeroValue59 ?_
                                                intro b11 v11 hg11 hE11 hH11 hl11
                                                try simp only [size_alloc, size_setB, size_drew] at hg11
                                                have hzz11 := hE11.1
                                                try simp only [size_alloc, size_setB, size_drew] at hzz11
                                                replace hH11 : Hb v11 b11 (.cells (ic .u64 [0, 0, 0, 0]) 59 (0, 0)) := hH11
                                                first | refine WO_storeW Hvad.sizeOf59 rfl (v := .agg _) rfl (Hb.h (by repeat (first | assumption | exact Hb.newY _ _ | refine Hb.alloc ?_ | refine Hb.drew ?_ | refine Hb.ext (by assumption) ?_ | exact Hb.setSameL (by first | omega | (simp only [size_alloc, size_setB, size_drew]; omega)) | exact Hb.setSame (by assumption) | refine Hb.set (by first | omega | (simp only [size_alloc, size_setB, size_drew]; omega)) ?_ ))) rfl (by first | omega | assumption | rfl | decide | exact Nat.le_refl _ | (simp only [size_ic, Value.cells]; omega) | simp) (by first | omega | assumption | rfl | decide | exact Nat.le_refl _ | (simp only [size_ic, Value.cells]; omega) | simp) (by first | exact oneCell_ic | assumption) ?_ | refine WO_store Hvad.sizeOf59 rfl (v := .agg _) rfl (Hb.h (by repeat (first | assumption | exact Hb.newY _ _ | refine Hb.alloc ?_ | refine Hb.drew ?_ | refine Hb.ext (by assumption) ?_ | exact Hb.setSameL (by first | omega | (simp only [size_alloc, size_setB, size_drew]; omega)) | exact Hb.setSame (by assumption) | refine Hb.set (by first | omega | (simp only [size_alloc, size_setB, size_drew]; omega)) ?_ ))) (by first | omega | assumption | rfl | decide | exact Nat.le_refl _ | (simp only [size_ic, Value.cells]; omega) | simp) (by first | omega | assumption | rfl | decide | exact Nat.le_refl _ | (simp only [size_ic, Value.cells]; omega) | simp) (by first | exact oneCell_ic | assumption) ?_
                                                refine WO_nil ?_
                                                refine thn_normal ?_
                                                refine W_seq ?_
                                                refine W_region rfl ?_
                                                refine WO_loadA _ Hvad.isAgg59 Hvad.sizeOf59 rfl (Hb.h (by repeat (first | assumption | exact Hb.newY _ _ | refine Hb.alloc ?_ | refine Hb.drew ?_ | refine Hb.ext (by assumption) ?_ | exact Hb.setSameL (by first | omega | (simp only [size_alloc, size_setB, size_drew]; omega)) | exact Hb.setSame (by assumption) | refine Hb.set (by first | omega | (simp only [size_alloc, size_setB, size_drew]; omega)) ?_ ))) (by first | omega | assumption | rfl | decide | exact Nat.le_refl _ | (simp only [size_ic, Value.cells]; omega) | simp) (Xt.h (by first | assumption | exact Xt.whole rfl rfl | exact Xt.whole rfl (by simp only [size_ic, Value.cells]; omega) | exact ⟨rfl⟩)) ?_
                                                refine WO_call Hvad.call131 (by rfl) (Ret.mono (isz_spec _ _ (by first | assumption | exact argW_wd hM.ty _ _ | exact Wd0)) ?_)
                                                rintro _ w131_102 ⟨rfl, hE131_102⟩
                                                have hz131_102 := hE131_102.1
                                                try simp only [size_alloc, size_setB, size_drew] at hz131_102
                                                refine WO_p (PS_not rfl) ?_
                                                refine WO_nil ?_
                                                refine thn_normal ?_
                                                refine W_if rfl (fun hb106 => ?_) (fun hb106 => ?_)
                                                · have hb106p := hb106.h; try simp only [al_ete, al_dfn, Bool.not_eq_true', Bool.not_eq_false', al_ne, Bool.not_not, al_nn] at hb106p
                                                  refine W_seq ?_
                                                  refine W_region rfl ?_
                                                  refine WO_p (PS_move_int rfl) ?_
                                                  refine WO_p (PS_add_u64n rfl rfl (by omega) (by omega)) ?_
                                                  refine WO_p (PS_assign_int rfl) ?_
                                                  refine WO_nil ?_
                                                  refine thn_normal ?_
                                                  refine W_seq ?_
                                                  refine W_drawE [false, false, false, false, false, false, false, false, false, true, true, false, false] hmix (by kernel_rfl) rfl ?_
                                                  refine WH_p (PS_move_int rfl) rfl ?_
                                                  refine WH_p (PS_eql rfl rfl) rfl ?_
                                                  refine WH_p (PS_move_bool rfl) rfl ?_
                                                  refine WH_if (t := 142) rfl (fun hb108 => ?_) (fun hb108 => ?_)
                                                  · have hb108p := hb108.h; try simp only [al_ete, al_dfn, Bool.not_eq_true', Bool.not_eq_false', al_ne, Bool.not_not, al_nn] at hb108p
                                                    refine WH_guardT rfl rfl hb108.h ?_
                                                    refine WH_p (PS_move_ptr rfl) rfl ?_
                                                    refine WH_guardT rfl rfl hb108.h ?_
                                                    refine WH_p (PS_nilCheck rfl) rfl ?_
                                                    refine WH_guardT rfl rfl hb108.h ?_
                                                    refine WH_p (PS_fieldAddr 0 Hvad.runUnderlying69 rfl Hvad.sizeOf53 rfl rfl) rfl ?_
                                                    refine WH_guardT rfl rfl hb108.h ?_
                                                    refine WH_load (.pointer _) Hvad.isAgg53 rfl (Hb.h (by repeat (first | assumption | exact Hb.newY _ _ | refine Hb.alloc ?_ | refine Hb.drew ?_ | refine Hb.ext (by assumption) ?_ | exact Hb.setSameL (by first | omega | (simp only [size_alloc, size_setB, size_drew]; omega)) | exact Hb.setSame (by assumption) | refine Hb.set (by first | omega | (simp only [size_alloc, size_setB, size_drew]; omega)) ?_ ))) (Ce.h (by first | assumption | exact ⟨rfl⟩)) ?_
                                                    refine WH_guardT rfl rfl hb108.h ?_
                                                    refine WH_p (PS_move_ptr rfl) rfl ?_
                                                    refine WH_guardT rfl rfl hb108.h ?_
                                                    refine WH_p (PS_move_ptr rfl) rfl ?_
                                                    refine WH_guardT rfl rfl hb108.h ?_
                                                    refine WH_call Hvad.call160 (by rfl) (Ret.mono (arg_spec C c v B m t f _ _ (MS.ext hM (by repeat (first | assumption | exact Ext.refl _ | refine Ext.alloc ?_ _ | refine Ext.drew ?_ | refine Ext.setB ?_ (by first | omega | (simp only [size_alloc, size_setB, size_drew]; omega)) _ | exact Ext.trans (by assumption) (by assumption) | refine Ext.trans ?_ (by assumption)))) hA (by omega)) ?_)
                                                    rintro _ w160_108 ⟨hE160_108, rfl⟩
                                                    refine ⟨fun _ => (by repeat (first | assumption | exact Ext.refl _ | refine Ext.alloc ?_ _ | refine Ext.drew ?_ | refine Ext.setB ?_ (by first | omega | (simp only [size_alloc, size_setB, size_drew]; omega)) _ | exact Ext.trans (by assumption) (by assumption) | refine Ext.trans ?_ (by assumption))), ?_⟩
                                                    have hz160_108 := hE160_108.1
                                                    try simp only [size_alloc, size_setB, size_drew] at hz160_108
                                                    refine WH_guardT rfl rfl hb108.h ?_
                                                    refine WH_call Hvad.call189 (by rfl) (Ret.mono (addrOf_spec _ _ (by first | assumption | exact argW_wd hM.ty _ _ | exact Wd0)) ?_)
                                                    rintro _ w189_109 ⟨hE189_109, rfl⟩
                                                    refine ⟨fun _ => (by repeat (first | assumption | exact Ext.refl _ | refine Ext.alloc ?_ _ | refine Ext.drew ?_ | refine Ext.setB ?_ (by first | omega | (simp only [size_alloc, size_setB, size_drew]; omega)) _ | exact Ext.trans (by assumption) (by assumption) | refine Ext.trans ?_ (by assumption))), ?_⟩
                                                    have hz189_109 := hE189_109.1
                                                    try simp only [size_alloc, size_setB, size_drew] at hz189_109
                                                    refine WH_guardT rfl rfl hb108.h ?_
                                                    refine WH_call Hvad.call191 (by rfl) (Ret.mono (isEmpty_spec C c v B (bb m) _ _ (VS.ext hM.vs (by repeat (first | assumption | exact Ext.refl _ | refine Ext.alloc ?_ _ | refine Ext.drew ?_ | refine Ext.setB ?_ (by first | omega | (simp only [size_alloc, size_setB, size_drew]; omega)) _ | exact Ext.trans (by assumption) (by assumption) | refine Ext.trans ?_ (by assumption)))) (by first | assumption | exact addrW_by _)) ?_)
                                                    rintro _ w191_110 ⟨hE191_110, q191_110, rfl⟩
                                                    refine ⟨(fun h => by cases h), ?_⟩
                                                    have hz191_110 := hE191_110.1
                                                    try simp only [size_alloc, size_setB, size_drew] at hz191_110
                                                    refine WH_p (PS_pickT rfl hb108.h rfl) rfl ?_
                                                    refine WH_nil ?_
                                                    refine thn_normal ?_
                                                    refine W_if rfl (fun hb112 => ?_) (fun hb112 => ?_)
                                                    · have hb112p := hb112.h; try simp only [al_ete, al_dfn, Bool.not_eq_true', Bool.not_eq_false', al_ne, Bool.not_not, al_nn] at hb112p
                                                      refine W_region rfl ?_
                                                      refine WO_p (PS_move_int rfl) ?_
                                                      refine WO_p (PS_add_u64n rfl rfl (by omega) (by omega)) ?_
                                                      refine WO_p (PS_assign_int rfl) ?_
                                                      refine WO_nil ?_
                                                      refine thn_normal ?_
                                                      refine W_seq ?_
                                                      refine W_region rfl ?_
                                                      refine WO_p (PS_move_int rfl) ?_
                                                      refine WO_p (PS_assign_int rfl) ?_
                                                      refine WO_nil ?_
                                                      refine thn_normal ?_
                                                      refine W_ret ?_
                                                      refine inBlk_ret ?_
                                                      refine thn_ret ?_
                                                      refine bodyQ_ret1 Hvad.results165 rfl (.int _ _) rfl ?_
                                                      first
                                                      | (exfalso; omega)
                                                      | exact ⟨(by repeat (first | assumption | exact Ext.refl _ | refine Ext.alloc ?_ _ | refine Ext.drew ?_ | refine Ext.setB ?_ (by first | omega | (simp only [size_alloc, size_setB, size_drew]; omega)) _ | refine Ext.trans ?_ (by assumption))), _, rfl, ⟨by omega, fun h => by omega, fun h => by omega, fun h _ => by omega, fun h => by omega, fun h => by omega, fun h => by omega⟩⟩
                                                      | exact ⟨(by repeat (first | assumption | exact Ext.refl _ | refine Ext.alloc ?_ _ | refine Ext.drew ?_ | refine Ext.setB ?_ (by first | omega | (simp only [size_alloc, size_setB, size_drew]; omega)) _ | refine Ext.trans ?_ (by assumption))), _, rfl, ⟨by omega, fun h => by omega, fun h => by omega, fun h _ => by omega, fun h => by simp_all, fun h => by omega, fun h => by omega⟩⟩
                                                      | exact ⟨(by repeat (first | assumption | exact Ext.refl _ | refine Ext.alloc ?_ _ | refine Ext.drew ?_ | refine Ext.setB ?_ (by first | omega | (simp only [size_alloc, size_setB, size_drew]; omega)) _ | refine Ext.trans ?_ (by assumption))), _, rfl, ⟨by omega, fun h => by omega, fun h => by omega, fun h _ => by omega, fun h => by omega, fun h => rfl, fun h => by omega⟩⟩
                                                      | exact ⟨(by repeat (first | assumption | exact Ext.refl _ | refine Ext.alloc ?_ _ | refine Ext.drew ?_ | refine Ext.setB ?_ (by first | omega | (simp only [size_alloc, size_setB, size_drew]; omega)) _ | refine Ext.trans ?_ (by assumption))), _, rfl, ⟨by omega, fun h => by omega, fun h => by omega, fun h _ => by omega, fun h => by omega, fun h => by omega, fun _ h => by first | exact hxd248_0 h | (simp_all; done)⟩⟩
                                                    · have hb112p := hb112.h; try simp only [al_ete, al_dfn, Bool.not_eq_true', Bool.not_eq_false', al_ne, Bool.not_not, al_nn] at hb112p
                                                      refine W_skip ?_
                                                      refine thn_normal ?_
                                                      refine W_seq ?_
                                                      refine W_region rfl ?_
                                                      refine WO_p (PS_move_int rfl) ?_
                                                      refine WO_p (PS_assign_int rfl) ?_
                                                      refine WO_nil ?_
                                                      refine thn_normal ?_
                                                      refine W_ret ?_
                                                      refine inBlk_ret ?_
                                                      refine thn_ret ?_
                                                      refine bodyQ_ret1 Hvad.results165 rfl (.int _ _) rfl ?_
                                                      first
                                                      | (exfalso; omega)
                                                      | exact ⟨(by repeat (first | assumption | exact Ext.refl _ | refine Ext.alloc ?_ _ | refine Ext.drew ?_ | refine Ext.setB ?_ (by first | omega | (simp only [size_alloc, size_setB, size_drew]; omega)) _ | refine Ext.trans ?_ (by assumption))), _, rfl, ⟨by omega, fun h => by omega, fun h => by omega, fun h _ => by omega, fun h => by omega, fun h => by omega, fun h => by omega⟩⟩
                                                      | exact ⟨(by repeat (first | assumption | exact Ext.refl _ | refine Ext.alloc ?_ _ | refine Ext.drew ?_ | refine Ext.setB ?_ (by first | omega | (simp only [size_alloc, size_setB, size_drew]; omega)) _ | refine Ext.trans ?_ (by assumption))), _, rfl, ⟨by omega, fun h => by omega, fun h => by omega, fun h _ => by omega, fun h => by simp_all, fun h => by omega, fun h => by omega⟩⟩
                                                      | exact ⟨(by repeat (first | assumption | exact Ext.refl _ | refine Ext.alloc ?_ _ | refine Ext.drew ?_ | refine Ext.setB ?_ (by first | omega | (simp only [size_alloc, size_setB, size_drew]; omega)) _ | refine Ext.trans ?_ (by assumption))), _, rfl, ⟨by omega, fun h => by omega, fun h => by omega, fun h _ => by omega, fun h => by omega, fun h => rfl, fun h => by omega⟩⟩
                                                      | exact ⟨(by repeat (first | assumption | exact Ext.refl _ | refine Ext.alloc ?_ _ | refine Ext.drew ?_ | refine Ext.setB ?_ (by first | omega | (simp only [size_alloc, size_setB, size_drew]; omega)) _ | refine Ext.trans ?_ (by assumption))), _, rfl, ⟨by omega, fun h => by omega, fun h => by omega, fun h _ => by omega, fun h => by omega, fun h => by omega, fun _ h => by first | exact hxd248_0 h | (simp_all; done)⟩⟩
                                                  · have hb108p := hb108.h; try simp only [al_ete, al_dfn, Bool.not_eq_true', Bool.not_eq_false', al_ne, Bool.not_not, al_nn] at hb108p
                                                    refine WH_guardF rfl rfl hb108.h ?_
                                                    refine WH_guardF rfl rfl hb108.h ?_
                                                    refine WH_guardF rfl rfl hb108.h ?_
                                                    refine WH_guardF rfl rfl hb108.h ?_
                                                    refine WH_guardF rfl rfl hb108.h ?_
                                                    refine WH_guardF rfl rfl hb108.h ?_
                                                    refine WH_guardF rfl rfl hb108.h ?_
                                                    refine WH_guardF rfl rfl hb108.h ?_
                                                    refine WH_guardF rfl rfl hb108.h ?_
                                                    refine WH_p (PS_pickF rfl hb108.h rfl) rfl ?_
                                                    refine WH_nil ?_
                                                    refine thn_normal ?_
                                                    refine W_condF rfl rfl ?_
                                                    refine W_skip ?_
                                                    refine thn_normal ?_
                                                    refine W_seq ?_
                                                    refine W_region rfl ?_
                                                    refine WO_p (PS_move_int rfl) ?_
                                                    refine WO_p (PS_assign_int rfl) ?_
                                                    refine WO_nil ?_
                                                    refine thn_normal ?_
                                                    refine W_ret ?_
                                                    refine inBlk_ret ?_
                                                    refine thn_ret ?_
                                                    refine bodyQ_ret1 Hvad.results165 rfl (.int _ _) rfl ?_
                                                    first
                                                    | (exfalso; omega)
                                                    | exact ⟨(by repeat (first | assumption | exact Ext.refl _ | refine Ext.alloc ?_ _ | refine Ext.drew ?_ | refine Ext.setB ?_ (by first | omega | (simp only [size_alloc, size_setB, size_drew]; omega)) _ | refine Ext.trans ?_ (by assumption))), _, rfl, ⟨by omega, fun h => by omega, fun h => by omega, fun h _ => by omega, fun h => by omega, fun h => by omega, fun h => by omega⟩⟩
                                                    | exact ⟨(by repeat (first | assumption | exact Ext.refl _ | refine Ext.alloc ?_ _ | refine Ext.drew ?_ | refine Ext.setB ?_ (by first | omega | (simp only [size_alloc, size_setB, size_drew]; omega)) _ | refine Ext.trans ?_ (by assumption))), _, rfl, ⟨by omega, fun h => by omega, fun h => by omega, fun h _ => by omega, fun h => by simp_all, fun h => by omega, fun h => by omega⟩⟩
                                                    | exact ⟨(by repeat (first | assumption | exact Ext.refl _ | refine Ext.alloc ?_ _ | refine Ext.drew ?_ | refine Ext.setB ?_ (by first | omega | (simp only [size_alloc, size_setB, size_drew]; omega)) _ | refine Ext.trans ?_ (by assumption))), _, rfl, ⟨by omega, fun h => by omega, fun h => by omega, fun h _ => by omega, fun h => by omega, fun h => rfl, fun h => by omega⟩⟩
                                                    | exact ⟨(by repeat (first | assumption | exact Ext.refl _ | refine Ext.alloc ?_ _ | refine Ext.drew ?_ | refine Ext.setB ?_ (by first | omega | (simp only [size_alloc, size_setB, size_drew]; omega)) _ | refine Ext.trans ?_ (by assumption))), _, rfl, ⟨by omega, fun h => by omega, fun h => by omega, fun h _ => by omega, fun h => by omega, fun h => by omega, fun _ h => by first | exact hxd248_0 h | (simp_all; done)⟩⟩
                                                · have hb106p := hb106.h; try simp only [al_ete, al_dfn, Bool.not_eq_true', Bool.not_eq_false', al_ne, Bool.not_not, al_nn] at hb106p
                                                  refine W_skip ?_
                                                  refine thn_normal ?_
                                                  refine W_seq ?_
                                                  refine W_region rfl ?_
                                                  refine WO_p (PS_move_int rfl) ?_
                                                  refine WO_p (PS_assign_int rfl) ?_
                                                  refine WO_nil ?_
                                                  refine thn_normal ?_
                                                  refine W_ret ?_
                                                  refine inBlk_ret ?_
                                                  refine thn_ret ?_
                                                  refine bodyQ_ret1 Hvad.results165 rfl (.int _ _) rfl ?_
                                                  first
                                                  | (exfalso; omega)
                                                  | exact ⟨(by repeat (first | assumption | exact Ext.refl _ | refine Ext.alloc ?_ _ | refine Ext.drew ?_ | refine Ext.setB ?_ (by first | omega | (simp only [size_alloc, size_setB, size_drew]; omega)) _ | refine Ext.trans ?_ (by assumption))), _, rfl, ⟨by omega, fun h => by omega, fun h => by omega, fun h _ => by omega, fun h => by omega, fun h => by omega, fun h => by omega⟩⟩
                                                  | exact ⟨(by repeat (first | assumption | exact Ext.refl _ | refine Ext.alloc ?_ _ | refine Ext.drew ?_ | refine Ext.setB ?_ (by first | omega | (simp only [size_alloc, size_setB, size_drew]; omega)) _ | refine Ext.trans ?_ (by assumption))), _, rfl, ⟨by omega, fun h => by omega, fun h => by omega, fun h _ => by omega, fun h => by simp_all, fun h => by omega, fun h => by omega⟩⟩
                                                  | exact ⟨(by repeat (first | assumption | exact Ext.refl _ | refine Ext.alloc ?_ _ | refine Ext.drew ?_ | refine Ext.setB ?_ (by first | omega | (simp only [size_alloc, size_setB, size_drew]; omega)) _ | refine Ext.trans ?_ (by assumption))), _, rfl, ⟨by omega, fun h => by omega, fun h => by omega, fun h _ => by omega, fun h => by omega, fun h => rfl, fun h => by omega⟩⟩
                                                  | exact ⟨(by repeat (first | assumption | exact Ext.refl _ | refine Ext.alloc ?_ _ | refine Ext.drew ?_ | refine Ext.setB ?_ (by first | omega | (simp only [size_alloc, size_setB, size_drew]; omega)) _ | refine Ext.trans ?_ (by assumption))), _, rfl, ⟨by omega, fun h => by omega, fun h => by omega, fun h _ => by omega, fun h => by omega, fun h => by omega, fun _ h => by first | exact hxd248_0 h | (simp_all; done)⟩⟩
                                              · have hb99p := hb99.h; try simp only [al_ete, al_dfn, Bool.not_eq_true', Bool.not_eq_false', al_ne, Bool.not_not, al_nn] at hb99p
                                                refine W_region rfl ?_
                                                refine WO_p (PS_eql rfl rfl) ?_
                                                refine WO_p (PS_assign_bool rfl) ?_
                                                refine WO_nil ?_
                                                refine thn_normal ?_
                                                refine W_if rfl (fun hb114 => ?_) (fun hb114 => ?_)
                                                · have hb114p := hb114.h; try simp only [al_ete, al_dfn, Bool.not_eq_true', Bool.not_eq_false', al_ne, Bool.not_not, al_nn] at hb114p
                                                  refine W_seq ?_
                                                  refine W_region rfl ?_
                                                  refine WO_p (PS_move_ptr rfl) ?_
                                                  refine WO_p (PS_move_ptr rfl) ?_
                                                  refine WO_p (PS_move_ptr rfl) ?_
                                                  refine WO_call Hvad.call160 (by rfl) (Ret.mono (arg_spec C c v B m t f _ _ (MS.ext hM (by repeat (first | assumption | exact Ext.refl _ | refine Ext.alloc ?_ _ | refine Ext.drew ?_ | refine Ext.setB ?_ (by first | omega | (simp only [size_alloc, size_setB, size_drew]; omega)) _ | exact Ext.trans (by assumption) (by assumption) | refine Ext.trans ?_ (by assumption)))) hA (by omega)) ?_)
                                                  rintro _ w160_114 ⟨hE160_114, rfl⟩
                                                  have hz160_114 := hE160_114.1
                                                  try simp only [size_alloc, size_setB, size_drew] at hz160_114
                                                  refine WO_call Hvad.call246 (by rfl) (Ret.mono (access_spec C c v B m _ _ (MS.ext hM (by repeat (first | assumption | exact Ext.refl _ | refine Ext.alloc ?_ _ | refine Ext.drew ?_ | refine Ext.setB ?_ (by first | omega | (simp only [size_alloc, size_setB, size_drew]; omega)) _ | exact Ext.trans (by assumption) (by assumption) | refine Ext.trans ?_ (by assumption)))) (argW_wd hM.ty _ _)) ?_)
                                                  rintro _ w246_115 ⟨hE246_115, rfl⟩
                                                  have hz246_115 := hE246_115.1
                                                  try simp only [size_alloc, size_setB, size_drew] at hz246_115
                                                  refine WO_p (PS_assign_int rfl) ?_
                                                  refine WO_nil ?_
                                                  refine thn_normal ?_
                                                  refine W_seq ?_
                                                  refine W_seq ?_
                                                  refine W_region rfl ?_
                                                  refine WO_p (PS_move_ptr rfl) ?_
                                                  refine WO_p (PS_move_ptr rfl) ?_
                                                  refine WO_call Hvad.call160 (by rfl) (Ret.mono (arg_spec C c v B m t f _ _ (MS.ext hM (by repeat (first | assumption | exact Ext.refl _ | refine Ext.alloc ?_ _ | refine Ext.drew ?_ | refine Ext.setB ?_ (by first | omega | (simp only [size_alloc, size_setB, size_drew]; omega)) _ | exact Ext.trans (by assumption) (by assumption) | refine Ext.trans ?_ (by assumption)))) hA (by omega)) ?_)
                                                  rintro _ w160_116 ⟨hE160_116, rfl⟩
                                                  have hz160_116 := hE160_116.1
                                                  try simp only [size_alloc, size_setB, size_drew] at hz160_116
                                                  refine WO_allocG Hvad.zeroValue59 ?_
                                                  intro b11 v11 hg11 hE11 hH11 hl11
                                                  try simp only [size_alloc, size_setB, size_drew] at hg11
                                                  have hzz11 := hE11.1
                                                  try simp only [size_alloc, size_setB, size_drew] at hzz11
                                                  replace hH11 : Hb v11 b11 (.cells (ic .u64 [0, 0, 0, 0]) 59 (0, 0)) := hH11
                                                  first | refine WO_storeW Hvad.sizeOf59 rfl (v := .agg _) rfl (Hb.h (by repeat (first | assumption | exact Hb.newY _ _ | refine Hb.alloc ?_ | refine Hb.drew ?_ | refine Hb.ext (by assumption) ?_ | exact Hb.setSameL (by first | omega | (simp only [size_alloc, size_setB, size_drew]; omega)) | exact Hb.setSame (by assumption) | refine Hb.set (by first | omega | (simp only [size_alloc, size_setB, size_drew]; omega)) ?_ ))) rfl (by first | omega | assumption | rfl | decide | exact Nat.le_refl _ | (simp only [size_ic, Value.cells]; omega) | simp) (by first | omega | assumption | rfl | decide | exact Nat.le_refl _ | (simp only [size_ic, Value.cells]; omega) | simp) (by first | exact oneCell_ic | assumption) ?_ | refine WO_store Hvad.sizeOf59 rfl (v := .agg _) rfl (Hb.h (by repeat (first | assumption | exact Hb.newY _ _ | refine Hb.alloc ?_ | refine Hb.drew ?_ | refine Hb.ext (by assumption) ?_ | exact Hb.setSameL (by first | omega | (simp only [size_alloc, size_setB, size_drew]; omega)) | exact Hb.setSame (by assumption) | refine Hb.set (by first | omega | (simp only [size_alloc, size_setB, size_drew]; omega)) ?_ ))) (by first | omega | assumption | rfl | decide | exact Nat.le_refl _ | (simp only [size_ic, Value.cells]; omega) | simp) (by first | omega | assumption | rfl | decide | exact Nat.le_refl _ | (simp only [size_ic, Value.cells]; omega) | simp) (by first | exact oneCell_ic | assumption) ?_
                                                  refine WO_nil ?_
                                                  refine thn_normal ?_
                                                  refine W_seq ?_
                                                  refine W_region rfl ?_
                                                  refine WO_loadA _ Hvad.isAgg59 Hvad.sizeOf59 rfl (Hb.h (by repeat (first | assumption | exact Hb.newY _ _ | refine Hb.alloc ?_ | refine Hb.drew ?_ | refine Hb.ext (by assumption) ?_ | exact Hb.setSameL (by first | omega | (simp only [size_alloc, size_setB, size_drew]; omega)) | exact Hb.setSame (by assumption) | refine Hb.set (by first | omega | (simp only [size_alloc, size_setB, size_drew]; omega)) ?_ ))) (by first | omega | assumption | rfl | decide | exact Nat.le_refl _ | (simp only [size_ic, Value.cells]; omega) | simp) (Xt.h (by first | assumption | exact Xt.whole rfl rfl | exact Xt.whole rfl (by simp only [size_ic, Value.cells]; omega) | exact ⟨rfl⟩)) ?_
                                                  refine WO_call Hvad.call131 (by rfl) (Ret.mono (isz_spec _ _ (by first | assumption | exact argW_wd hM.ty _ _ | exact Wd0)) ?_)
                                                  rintro _ w131_117 ⟨rfl, hE131_117⟩
                                                  have hz131_117 := hE131_117.1
                                                  try simp only [size_alloc, size_setB, size_drew] at hz131_117
                                                  refine WO_p (PS_not rfl) ?_
                                                  refine WO_nil ?_
                                                  refine thn_normal ?_
                                                  refine W_if rfl (fun hb121 => ?_) (fun hb121 => ?_)
                                                  · have hb121p := hb121.h; try simp only [al_ete, al_dfn, Bool.not_eq_true', Bool.not_eq_false', al_ne, Bool.not_not, al_nn] at hb121p
                                                    refine W_seq ?_
                                                    refine W_region rfl ?_
                                                    refine WO_p (PS_move_int rfl) ?_
                                                    refine WO_p (PS_add_u64n rfl rfl (by omega) (by omega)) ?_
                                                    refine WO_p (PS_assign_int rfl) ?_
                                                    refine WO_nil ?_
                                                    refine thn_normal ?_
                                                    refine W_seq ?_
                                                    refine W_drawE [false, false, false, false, false, false, false, false, false, true, true, false, false] hmix (by kernel_rfl) rfl ?_
                                                    refine WH_p (PS_move_int rfl) rfl ?_
                                                    refine WH_p (PS_eql rfl rfl) rfl ?_
                                                    refine WH_p (PS_move_bool rfl) rfl ?_
                                                    refine WH_if (t := 142) rfl (fun hb123 => ?_) (fun hb123 => ?_)
                                                    · have hb123p := hb123.h; try simp only [al_ete, al_dfn, Bool.not_eq_true', Bool.not_eq_false', al_ne, Bool.not_not, al_nn] at hb123p
                                                      refine WH_guardT rfl rfl hb123.h ?_
                                                      refine WH_p (PS_move_ptr rfl) rfl ?_
                                                      refine WH_guardT rfl rfl hb123.h ?_
                                                      refine WH_p (PS_nilCheck rfl) rfl ?_
                                                      refine WH_guardT rfl rfl hb123.h ?_
                                                      refine WH_p (PS_fieldAddr 0 Hvad.runUnderlying69 rfl Hvad.sizeOf53 rfl rfl) rfl ?_
                                                      refine WH_guardT rfl rfl hb123.h ?_
                                                      refine WH_load (.pointer _) Hvad.isAgg53 rfl (Hb.h (by repeat (first | assumption | exact Hb.newY _ _ | refine Hb.alloc ?_ | refine Hb.drew ?_ | refine Hb.ext (by assumption) ?_ | exact Hb.setSameL (by first | omega | (simp only [size_alloc, size_setB, size_drew]; omega)) | exact Hb.setSame (by assumption) | refine Hb.set (by first | omega | (simp only [size_alloc, size_setB, size_drew]; omega)) ?_ ))) (Ce.h (by first | assumption | exact ⟨rfl⟩)) ?_
                                                      refine WH_guardT rfl rfl hb123.h ?_
                                                      refine WH_p (PS_move_ptr rfl) rfl ?_
                                                      refine WH_guardT rfl rfl hb123.h ?_
                                                      refine WH_p (PS_move_ptr rfl) rfl ?_
                                                      refine WH_guardT rfl rfl hb123.h ?_
                                                      refine WH_call Hvad.call160 (by rfl) (Ret.mono (arg_spec C c v B m t f _ _ (MS.ext hM (by repeat (first | assumption | exact Ext.refl _ | refine Ext.alloc ?_ _ | refine Ext.drew ?_ | refine Ext.setB ?_ (by first | omega | (simp only [size_alloc, size_setB, size_drew]; omega)) _ | exact Ext.trans (by assumption) (by assumption) | refine Ext.trans ?_ (by assumption)))) hA (by omega)) ?_)
                                                      rintro _ w160_123 ⟨hE160_123, rfl⟩
                                                      refine ⟨fun _ => (by repeat (first | assumption | exact Ext.refl _ | refine Ext.alloc ?_ _ | refine Ext.drew ?_ | refine Ext.setB ?_ (by first | omega | (simp only [size_alloc, size_setB, size_drew]; omega)) _ | exact Ext.trans (by assumption) (by assumption) | refine Ext.trans ?_ (by assumption))), ?_⟩
                                                      have hz160_123 := hE160_123.1
                                                      try simp only [size_alloc, size_setB, size_drew] at hz160_123
                                                      refine WH_guardT rfl rfl hb123.h ?_
                                                      refine WH_call Hvad.call189 (by rfl) (Ret.mono (addrOf_spec _ _ (by first | assumption | exact argW_wd hM.ty _ _ | exact Wd0)) ?_)
                                                      rintro _ w189_124 ⟨hE189_124, rfl⟩
                                                      refine ⟨fun _ => (by repeat (first | assumption | exact Ext.refl _ | refine Ext.alloc ?_ _ | refine Ext.drew ?_ | refine Ext.setB ?_ (by first | omega | (simp only [size_alloc, size_setB, size_drew]; omega)) _ | exact Ext.trans (by assumption) (by assumption) | refine Ext.trans ?_ (by assumption))), ?_⟩
                                                      have hz189_124 := hE189_124.1
                                                      try simp only [size_alloc, size_setB, size_drew] at hz189_124
                                                      refine WH_guardT rfl rfl hb123.h ?_
                                                      refine WH_call Hvad.call191 (by rfl) (Ret.mono (isEmpty_spec C c v B (bb m) _ _ (VS.ext hM.vs (by repeat (first | assumption | exact Ext.refl _ | refine Ext.alloc ?_ _ | refine Ext.drew ?_ | refine Ext.setB ?_ (by first | omega | (simp only [size_alloc, size_setB, size_drew]; omega)) _ | exact Ext.trans (by assumption) (by assumption) | refine Ext.trans ?_ (by assumption)))) (by first | assumption | exact addrW_by _)) ?_)
                                                      rintro _ w191_125 ⟨hE191_125, q191_125, rfl⟩
                                                      refine ⟨(fun h => by cases h), ?_⟩
                                                      have hz191_125 := hE191_125.1
                                                      try simp only [size_alloc, size_setB, size_drew] at hz191_125
                                                      refine WH_p (PS_pickT rfl hb123.h rfl) rfl ?_
                                                      refine WH_nil ?_
                                                      refine thn_normal ?_
                                                      refine W_if rfl (fun hb127 => ?_) (fun hb127 => ?_)
                                                      · have hb127p := hb127.h; try simp only [al_ete, al_dfn, Bool.not_eq_true', Bool.not_eq_false', al_ne, Bool.not_not, al_nn] at hb127p
                                                        refine W_region rfl ?_
                                                        refine WO_p (PS_move_int rfl) ?_
                                                        refine WO_p (PS_add_u64n rfl rfl (by omega) (by omega)) ?_
                                                        refine WO_p (PS_assign_int rfl) ?_
                                                        refine WO_nil ?_
                                                        refine thn_normal ?_
                                                        refine W_seq ?_
                                                        refine W_region rfl ?_
                                                        refine WO_p (PS_move_int rfl) ?_
                                                        refine WO_p (PS_assign_int rfl) ?_
                                                        refine WO_nil ?_
                                                        refine thn_normal ?_
                                                        refine W_ret ?_
                                                        refine inBlk_ret ?_
                                                        refine thn_ret ?_
                                                        refine bodyQ_ret1 Hvad.results165 rfl (.int _ _) rfl ?_
                                                        first
                                                        | (exfalso; omega)
                                                        | exact ⟨(by repeat (first | assumption | exact Ext.refl _ | refine Ext.alloc ?_ _ | refine Ext.drew ?_ | refine Ext.setB ?_ (by first | omega | (simp only [size_alloc, size_setB, size_drew]; omega)) _ | refine Ext.trans ?_ (by assumption))), _, rfl, ⟨by omega, fun h => by omega, fun h => by omega, fun h _ => by omega, fun h => by omega, fun h => by omega, fun h => by omega⟩⟩
                                                        | exact ⟨(by repeat (first | assumption | exact Ext.refl _ | refine Ext.alloc ?_ _ | refine Ext.drew ?_ | refine Ext.setB ?_ (by first | omega | (simp only [size_alloc, size_setB, size_drew]; omega)) _ | refine Ext.trans ?_ (by assumption))), _, rfl, ⟨by omega, fun h => by omega, fun h => by omega, fun h _ => by omega, fun h => by simp_all, fun h => by omega, fun h => by omega⟩⟩
                                                        | exact ⟨(by repeat (first | assumption | exact Ext.refl _ | refine Ext.alloc ?_ _ | refine Ext.drew ?_ | refine Ext.setB ?_ (by first | omega | (simp only [size_alloc, size_setB, size_drew]; omega)) _ | refine Ext.trans ?_ (by assumption))), _, rfl, ⟨by omega, fun h => by omega, fun h => by omega, fun h _ => by omega, fun h => by omega, fun h => rfl, fun h => by omega⟩⟩
                                                        | exact ⟨(by repeat (first | assumption | exact Ext.refl _ | refine Ext.alloc ?_ _ | refine Ext.drew ?_ | refine Ext.setB ?_ (by first | omega | (simp only [size_alloc, size_setB, size_drew]; omega)) _ | refine Ext.trans ?_ (by assumption))), _, rfl, ⟨by omega, fun h => by omega, fun h => by omega, fun h _ => by omega, fun h => by omega, fun h => by omega, fun _ h => by first | exact hxd248_0 h | (simp_all; done)⟩⟩
                                                      · have hb127p := hb127.h; try simp only [al_ete, al_dfn, Bool.not_eq_true', Bool.not_eq_false', al_ne, Bool.not_not, al_nn] at hb127p
                                                        refine W_skip ?_
                                                        refine thn_normal ?_
                                                        refine W_seq ?_
                                                        refine W_region rfl ?_
                                                        refine WO_p (PS_move_int rfl) ?_
                                                        refine WO_p (PS_assign_int rfl) ?_
                                                        refine WO_nil ?_
                                                        refine thn_normal ?_
                                                        refine W_ret ?_
                                                        refine inBlk_ret ?_
                                                        refine thn_ret ?_
                                                        refine bodyQ_ret1 Hvad.results165 rfl (.int _ _) rfl ?_
                                                        first
                                                        | (exfalso; omega)
                                                        | exact ⟨(by repeat (first | assumption | exact Ext.refl _ | refine Ext.alloc ?_ _ | refine Ext.drew ?_ | refine Ext.setB ?_ (by first | omega | (simp only [size_alloc, size_setB, size_drew]; omega)) _ | refine Ext.trans ?_ (by assumption))), _, rfl, ⟨by omega, fun h => by omega, fun h => by omega, fun h _ => by omega, fun h => by omega, fun h => by omega, fun h => by omega⟩⟩
                                                        | exact ⟨(by repeat (first | assumption | exact Ext.refl _ | refine Ext.alloc ?_ _ | refine Ext.drew ?_ | refine Ext.setB ?_ (by first | omega | (simp only [size_alloc, size_setB, size_drew]; omega)) _ | refine Ext.trans ?_ (by assumption))), _, rfl, ⟨by omega, fun h => by omega, fun h => by omega, fun h _ => by omega, fun h => by simp_all, fun h => by omega, fun h => by omega⟩⟩
                                                        | exact ⟨(by repeat (first | assumption | exact Ext.refl _ | refine Ext.alloc ?_ _ | refine Ext.drew ?_ | refine Ext.setB ?_ (by first | omega | (simp only [size_alloc, size_setB, size_drew]; omega)) _ | refine Ext.trans ?_ (by assumption))), _, rfl, ⟨by omega, fun h => by omega, fun h => by omega, fun h _ => by omega, fun h => by omega, fun h => rfl, fun h => by omega⟩⟩
                                                        | exact ⟨(by repeat (first | assumption | exact Ext.refl _ | refine Ext.alloc ?_ _ | refine Ext.drew ?_ | refine Ext.setB ?_ (by first | omega | (simp only [size_alloc, size_setB, size_drew]; omega)) _ | refine Ext.trans ?_ (by assumption))), _, rfl, ⟨by omega, fun h => by omega, fun h => by omega, fun h _ => by omega, fun h => by omega, fun h => by omega, fun _ h => by first | exact hxd248_0 h | (simp_all; done)⟩⟩
                                                    · have hb123p := hb123.h; try simp only [al_ete, al_dfn, Bool.not_eq_true', Bool.not_eq_false', al_ne, Bool.not_not, al_nn] at hb123p
                                                      refine WH_guardF rfl rfl hb123.h ?_
                                                      refine WH_guardF rfl rfl hb123.h ?_
                                                      refine WH_guardF rfl rfl hb123.h ?_
                                                      refine WH_guardF rfl rfl hb123.h ?_
                                                      refine WH_guardF rfl rfl hb123.h ?_
                                                      refine WH_guardF rfl rfl hb123.h ?_
                                                      refine WH_guardF rfl rfl hb123.h ?_
                                                      refine WH_guardF rfl rfl hb123.h ?_
                                                      refine WH_guardF rfl rfl hb123.h ?_
                                                      refine WH_p (PS_pickF rfl hb123.h rfl) rfl ?_
                                                      refine WH_nil ?_
                                                      refine thn_normal ?_
                                                      refine W_condF rfl rfl ?_
                                                      refine W_skip ?_
                                                      refine thn_normal ?_
                                                      refine W_seq ?_
                                                      refine W_region rfl ?_
                                                      refine WO_p (PS_move_int rfl) ?_
                                                      refine WO_p (PS_assign_int rfl) ?_
                                                      refine WO_nil ?_
                                                      refine thn_normal ?_
                                                      refine W_ret ?_
                                                      refine inBlk_ret ?_
                                                      refine thn_ret ?_
                                                      refine bodyQ_ret1 Hvad.results165 rfl (.int _ _) rfl ?_
                                                      first
                                                      | (exfalso; omega)
                                                      | exact ⟨(by repeat (first | assumption | exact Ext.refl _ | refine Ext.alloc ?_ _ | refine Ext.drew ?_ | refine Ext.setB ?_ (by first | omega | (simp only [size_alloc, size_setB, size_drew]; omega)) _ | refine Ext.trans ?_ (by assumption))), _, rfl, ⟨by omega, fun h => by omega, fun h => by omega, fun h _ => by omega, fun h => by omega, fun h => by omega, fun h => by omega⟩⟩
                                                      | exact ⟨(by repeat (first | assumption | exact Ext.refl _ | refine Ext.alloc ?_ _ | refine Ext.drew ?_ | refine Ext.setB ?_ (by first | omega | (simp only [size_alloc, size_setB, size_drew]; omega)) _ | refine Ext.trans ?_ (by assumption))), _, rfl, ⟨by omega, fun h => by omega, fun h => by omega, fun h _ => by omega, fun h => by simp_all, fun h => by omega, fun h => by omega⟩⟩
                                                      | exact ⟨(by repeat (first | assumption | exact Ext.refl _ | refine Ext.alloc ?_ _ | refine Ext.drew ?_ | refine Ext.setB ?_ (by first | omega | (simp only [size_alloc, size_setB, size_drew]; omega)) _ | refine Ext.trans ?_ (by assumption))), _, rfl, ⟨by omega, fun h => by omega, fun h => by omega, fun h _ => by omega, fun h => by omega, fun h => rfl, fun h => by omega⟩⟩
                                                      | exact ⟨(by repeat (first | assumption | exact Ext.refl _ | refine Ext.alloc ?_ _ | refine Ext.drew ?_ | refine Ext.setB ?_ (by first | omega | (simp only [size_alloc, size_setB, size_drew]; omega)) _ | refine Ext.trans ?_ (by assumption))), _, rfl, ⟨by omega, fun h => by omega, fun h => by omega, fun h _ => by omega, fun h => by omega, fun h => by omega, fun _ h => by first | exact hxd248_0 h | (simp_all; done)⟩⟩
                                                  · have hb121p := hb121.h; try simp only [al_ete, al_dfn, Bool.not_eq_true', Bool.not_eq_false', al_ne, Bool.not_not, al_nn] at hb121p
                                                    refine W_skip ?_
                                                    refine thn_normal ?_
                                                    refine W_seq ?_
                                                    refine W_region rfl ?_
                                                    refine WO_p (PS_move_int rfl) ?_
                                                    refine WO_p (PS_assign_int rfl) ?_
                                                    refine WO_nil ?_
                                                    refine thn_normal ?_
                                                    refine W_ret ?_
                                                    refine inBlk_ret ?_
                                                    refine thn_ret ?_
                                                    refine bodyQ_ret1 Hvad.results165 rfl (.int _ _) rfl ?_
                                                    first
                                                    | (exfalso; omega)
                                                    | exact ⟨(by repeat (first | assumption | exact Ext.refl _ | refine Ext.alloc ?_ _ | refine Ext.drew ?_ | refine Ext.setB ?_ (by first | omega | (simp only [size_alloc, size_setB, size_drew]; omega)) _ | refine Ext.trans ?_ (by assumption))), _, rfl, ⟨by omega, fun h => by omega, fun h => by omega, fun h _ => by omega, fun h => by omega, fun h => by omega, fun h => by omega⟩⟩
                                                    | exact ⟨(by repeat (first | assumption | exact Ext.refl _ | refine Ext.alloc ?_ _ | refine Ext.drew ?_ | refine Ext.setB ?_ (by first | omega | (simp only [size_alloc, size_setB, size_drew]; omega)) _ | refine Ext.trans ?_ (by assumption))), _, rfl, ⟨by omega, fun h => by omega, fun h => by omega, fun h _ => by omega, fun h => by simp_all, fun h => by omega, fun h => by omega⟩⟩
                                                    | exact ⟨(by repeat (first | assumption | exact Ext.refl _ | refine Ext.alloc ?_ _ | refine Ext.drew ?_ | refine Ext.setB ?_ (by first | omega | (simp only [size_alloc, size_setB, size_drew]; omega)) _ | refine Ext.trans ?_ (by assumption))), _, rfl, ⟨by omega, fun h => by omega, fun h => by omega, fun h _ => by omega, fun h => by omega, fun h => rfl, fun h => by omega⟩⟩
                                                    | exact ⟨(by repeat (first | assumption | exact Ext.refl _ | refine Ext.alloc ?_ _ | refine Ext.drew ?_ | refine Ext.setB ?_ (by first | omega | (simp only [size_alloc, size_setB, size_drew]; omega)) _ | refine Ext.trans ?_ (by assumption))), _, rfl, ⟨by omega, fun h => by omega, fun h => by omega, fun h _ => by omega, fun h => by omega, fun h => by omega, fun _ h => by first | exact hxd248_0 h | (simp_all; done)⟩⟩
                                                · have hb114p := hb114.h; try simp only [al_ete, al_dfn, Bool.not_eq_true', Bool.not_eq_false', al_ne, Bool.not_not, al_nn] at hb114p
                                                  refine W_skip ?_
                                                  refine inBlk_normal ?_
                                                  refine thn_normal ?_
                                                  refine W_seq ?_
                                                  refine W_region rfl ?_
                                                  refine WO_p (PS_assign_int rfl) ?_
                                                  refine WO_nil ?_
                                                  refine thn_normal ?_
                                                  refine W_ret ?_
                                                  refine bodyQ_ret1 Hvad.results165 rfl (.int _ _) rfl ?_
                                                  first
                                                  | (exfalso; omega)
                                                  | exact ⟨(by repeat (first | assumption | exact Ext.refl _ | refine Ext.alloc ?_ _ | refine Ext.drew ?_ | refine Ext.setB ?_ (by first | omega | (simp only [size_alloc, size_setB, size_drew]; omega)) _ | refine Ext.trans ?_ (by assumption))), _, rfl, ⟨by omega, fun h => by omega, fun h => by omega, fun h _ => by omega, fun h => by omega, fun h => by omega, fun h => by omega⟩⟩
                                                  | exact ⟨(by repeat (first | assumption | exact Ext.refl _ | refine Ext.alloc ?_ _ | refine Ext.drew ?_ | refine Ext.setB ?_ (by first | omega | (simp only [size_alloc, size_setB, size_drew]; omega)) _ | refine Ext.trans ?_ (by assumption))), _, rfl, ⟨by omega, fun h => by omega, fun h => by omega, fun h _ => by omega, fun h => by simp_all, fun h => by omega, fun h => by omega⟩⟩
                                                  | exact ⟨(by repeat (first | assumption | exact Ext.refl _ | refine Ext.alloc ?_ _ | refine Ext.drew ?_ | refine Ext.setB ?_ (by first | omega | (simp only [size_alloc, size_setB, size_drew]; omega)) _ | refine Ext.trans ?_ (by assumption))), _, rfl, ⟨by omega, fun h => by omega, fun h => by omega, fun h _ => by omega, fun h => by omega, fun h => rfl, fun h => by omega⟩⟩
                                                  | exact ⟨(by repeat (first | assumption | exact Ext.refl _ | refine Ext.alloc ?_ _ | refine Ext.drew ?_ | refine Ext.setB ?_ (by first | omega | (simp only [size_alloc, size_setB, size_drew]; omega)) _ | refine Ext.trans ?_ (by assumption))), _, rfl, ⟨by omega, fun h => by omega, fun h => by omega, fun h _ => by omega, fun h => by omega, fun h => by omega, fun _ h => by first | exact hxd248_0 h | (simp_all; done)⟩⟩

end Go.Proofs.YgvadwGreat
