import Derived.Test.YgvadwGreatMs
import Derived.Test.YgvadwGreatVg
namespace Go.Proofs.YgvadwGreat
set_option linter.unusedSimpArgs false
set_option linter.unusedVariables false
def accW (v : V) (A : List Int) : Int := if v.isWarmA A = true then 100 else 2600
def reachesW (m : Mc) (f : Fm) (o : Int) : Int × Bool :=
  if o = 32 ∨ o = 243 ∨ o = 253 ∨ (160 ≤ o ∧ o ≤ 164) then reachW (m.argW f 0) (m.argW f 1)
  else if o = 55 ∨ o = 57 ∨ o = 62 then reachW (m.argW f 0) (m.argW f 2)
  else if o = 60 then reachW (m.argW f 1) (m.argW f 3)
  else if o = 81 ∨ o = 82 then reachW (m.argW f 0) [32, 0, 0, 0]
  else if o = 83 then reachW (m.argW f 0) [1, 0, 0, 0]
  else if o = 94 then (max (reachW (m.argW f 0) (m.argW f 2)).1 (reachW (m.argW f 1) (m.argW f 2)).1, (reachW (m.argW f 0) (m.argW f 2)).2 && (reachW (m.argW f 1) (m.argW f 2)).2)
  else if o = 240 ∨ o = 245 then reachW (m.argW f 1) (m.argW f 2)
  else if o = 241 ∨ o = 242 then (max (reachW (m.argW f 3) (m.argW f 4)).1 (reachW (m.argW f 5) (m.argW f 6)).1, (reachW (m.argW f 3) (m.argW f 4)).2 && (reachW (m.argW f 5) (m.argW f 6)).2)
  else if o = 244 ∨ o = 250 then (max (reachW (m.argW f 2) (m.argW f 3)).1 (reachW (m.argW f 4) (m.argW f 5)).1, (reachW (m.argW f 2) (m.argW f 3)).2 && (reachW (m.argW f 4) (m.argW f 5)).2)
  else (0, true)
theorem Wd32 : Wd [32, 0, 0, 0] := ⟨rfl, by decide⟩
theorem Wd1 : Wd [1, 0, 0, 0] := ⟨rfl, by decide⟩

set_option maxRecDepth 10000 in
theorem access_spec (C : Nat) (c : Array Value) (v : V) (B : VB) (m : Mc) (W : List Int) (w : World) (hM : MS w C c v B m) (hW : Wd W) : Ret Hvad.prog 246 #[.pointer (some ⟨C, 0, none⟩), .agg (ic .u64 W)] w fun u w' => Ext w w' ∧ u = .int .u64 (accW v (addrW W)) := by
  have hblk := hM.vs.blk
  have hcs := hM.sz
  have hc_s := hM.rep.s
  have hWl := hW.1
  refine Ret_of_W Hvad.func246 rfl rfl ?_
  refine W_seq ?_
  refine W_region rfl ?_
  refine WO_boxG (.agg _) rfl ?_
  intro b3 v3 hg3 hE3 hH3 hl3
  refine WO_p (PS_assign_int rfl) ?_
  refine WO_nil ?_
  refine thn_normal ?_
  refine W_seq ?_
  refine W_seq ?_
  refine W_drawE [false, false, false, false, false, true, false] hmix (by kernel_rfl) rfl ?_
  refine WH_p (PS_move_ptr rfl) rfl ?_
  refine WH_p (PS_nilCheck rfl) rfl ?_
  refine WH_p (PS_fieldAddr 0 Hvad.runUnderlying69 rfl Hvad.sizeOf53 rfl rfl) rfl ?_
  refine WH_load (.pointer _) Hvad.isAgg53 rfl (Hb.h (by repeat (first | assumption | exact Hb.newY _ _ | refine Hb.alloc ?_ | refine Hb.drew ?_ | refine Hb.ext (by assumption) ?_ | exact Hb.setSameL (by first | omega | (simp only [size_alloc, size_setB, size_drew]; omega)) | exact Hb.setSame (by assumption) | refine Hb.set (by first | omega | (simp only [size_alloc, size_setB, size_drew]; omega)) ?_ ))) (Ce.h (by first | assumption | exact ⟨rfl⟩)) ?_
  refine WH_loadA _ Hvad.isAgg59 Hvad.sizeOf59 rfl (Hb.h (by repeat (first | assumption | exact Hb.newY _ _ | refine Hb.alloc ?_ | refine Hb.drew ?_ | refine Hb.ext (by assumption) ?_ | exact Hb.setSameL (by first | omega | (simp only [size_alloc, size_setB, size_drew]; omega)) | exact Hb.setSame (by assumption) | refine Hb.set (by first | omega | (simp only [size_alloc, size_setB, size_drew]; omega)) ?_ ))) (by first | omega | assumption | rfl | decide | exact Nat.le_refl _ | (simp only [size_ic, Value.cells]; omega) | simp) (Xt.h (by first | assumption | exact Xt.whole rfl rfl | exact Xt.whole rfl (by simp only [size_ic, Value.cells]; omega) | exact ⟨rfl⟩)) ?_
  refine WH_call Hvad.call189 (by rfl) (Ret.mono (addrOf_spec _ _ (by first | assumption | exact argW_wd hM.ty _ _ | exact Wd0)) ?_)
  rintro _ w189_0 ⟨hE189_0, rfl⟩
  refine ⟨fun _ => (by repeat (first | assumption | exact Ext.refl _ | refine Ext.alloc ?_ _ | refine Ext.drew ?_ | refine Ext.setB ?_ (by first | omega | (simp only [size_alloc, size_setB, size_drew]; omega)) _ | exact Ext.trans (by assumption) (by assumption) | refine Ext.trans ?_ (by assumption))), ?_⟩
  have hz189_0 := hE189_0.1
  refine WH_call Hvad.call76 (by rfl) (Ret.mono (isWarmA_spec C c v B (bb m) _ _ (VS.ext hM.vs (by repeat (first | assumption | exact Ext.refl _ | refine Ext.alloc ?_ _ | refine Ext.drew ?_ | refine Ext.setB ?_ (by first | omega | (simp only [size_alloc, size_setB, size_drew]; omega)) _ | exact Ext.trans (by assumption) (by assumption) | refine Ext.trans ?_ (by assumption)))) (by first | assumption | exact addrW_by _)) ?_)
  rintro _ w76_1 ⟨rfl, hE76_1⟩
  refine ⟨(fun h => by cases h), ?_⟩
  have hz76_1 := hE76_1.1
  refine WH_nil ?_
  refine thn_normal ?_
  refine W_if rfl (fun hb3 => ?_) (fun hb3 => ?_)
  · have hb3p := hb3.h; try simp only [al_ete, al_dfn, Bool.not_eq_true', Bool.not_eq_false', al_ne, Bool.not_not, al_nn] at hb3p
    refine W_seq ?_
    refine W_region rfl ?_
    refine WO_p (PS_assign_int rfl) ?_
    refine WO_nil ?_
    refine thn_normal ?_
    refine W_ret ?_
    refine thn_ret ?_
    refine bodyQ_ret1 Hvad.results246 rfl (.int _ _) rfl ?_
    exact ⟨(by repeat (first | assumption | exact Ext.refl _ | refine Ext.alloc ?_ _ | refine Ext.drew ?_ | refine Ext.setB ?_ (by first | omega | (simp only [size_alloc, size_setB, size_drew]; omega)) _ | refine Ext.trans ?_ (by assumption))), congrArg (Value.int .u64) (by unfold accW; simp_all)⟩
  · have hb3p := hb3.h; try simp only [al_ete, al_dfn, Bool.not_eq_true', Bool.not_eq_false', al_ne, Bool.not_not, al_nn] at hb3p
    refine W_skip ?_
    refine thn_normal ?_
    refine W_seq ?_
    refine W_region rfl ?_
    refine WO_p (PS_assign_int rfl) ?_
    refine WO_nil ?_
    refine thn_normal ?_
    refine W_ret ?_
    refine bodyQ_ret1 Hvad.results246 rfl (.int _ _) rfl ?_
    exact ⟨(by repeat (first | assumption | exact Ext.refl _ | refine Ext.alloc ?_ _ | refine Ext.drew ?_ | refine Ext.setB ?_ (by first | omega | (simp only [size_alloc, size_setB, size_drew]; omega)) _ | refine Ext.trans ?_ (by assumption))), congrArg (Value.int .u64) (by unfold accW; simp_all)⟩

set_option maxRecDepth 10000 in
theorem reaches_spec (C : Nat) (c : Array Value) (v : V) (B : VB) (m : Mc) (t : Nat) (f : Fm) (o : Int) (w : World) (hM : MS w C c v B m) (hA : FrA m t f) (ho : 0 ≤ o ∧ o ≤ 255) : Ret Hvad.prog 163 #[.pointer (some ⟨C, 0, none⟩), .pointer (some ⟨C, 1803 + t * 65, none⟩), .int .u8 o] w fun u w' => Ext w w' ∧ u = .tuple #[.int .u64 (reachesW m f o).1, .bool (reachesW m f o).2] := by
  have hA0 := hA
  have hblk := hM.vs.blk
  have hcs := hM.sz
  have hc_s := hM.rep.s
  obtain ⟨ht6, hf, hsb, hsp⟩ := hA0
  obtain ⟨ht7, hfty, hF⟩ := hM.openF hf
  
  refine Ret_of_W Hvad.func163 rfl rfl ?_
  refine W_seq ?_
  refine W_region rfl ?_
  refine WO_p (PS_assign_int rfl) ?_
  refine WO_p (PS_assign_bool rfl) ?_
  refine WO_nil ?_
  refine thn_normal ?_
  refine W_seq ?_
  refine W_seq ?_
  refine W_region rfl ?_
  refine WO_p (PS_move_int rfl) ?_
  refine WO_nil ?_
  refine thn_normal ?_
  refine W_block ?_
  refine W_seq ?_
  refine W_seq ?_
  refine W_region rfl ?_
  refine WO_p (PS_eql rfl rfl) ?_
  refine WO_p (PS_assign_bool rfl) ?_
  refine WO_nil ?_
  refine thn_normal ?_
  refine W_if rfl (fun hb2 => ?_) (fun hb2 => ?_)
  · have hb2p := hb2.h; try simp only [al_ete, al_dfn, Bool.not_eq_true', Bool.not_eq_false', al_ne, Bool.not_not, al_nn] at hb2p
    refine W_skip ?_
    refine thn_normal ?_
    refine W_condT rfl hb2.h ?_
    refine W_seq ?_
    refine W_region rfl ?_
    refine WO_p (PS_move_ptr rfl) ?_
    refine WO_p (PS_move_ptr rfl) ?_
    refine WO_call Hvad.call160 (by rfl) (Ret.mono (arg_spec C c v B m t f _ _ (MS.ext hM (by repeat (first | assumption | exact Ext.refl _ | refine Ext.alloc ?_ _ | refine Ext.drew ?_ | refine Ext.setB ?_ (by first | omega | (simp only [size_alloc, size_setB, size_drew]; omega)) _ | exact Ext.trans (by assumption) (by assumption) | refine Ext.trans ?_ (by assumption)))) hA (by omega)) ?_)
    rintro _ w160_2 ⟨hE160_2, rfl⟩
    have hz160_2 := hE160_2.1
    refine WO_p (PS_move_ptr rfl) ?_
    refine WO_p (PS_move_ptr rfl) ?_
    refine WO_call Hvad.call160 (by rfl) (Ret.mono (arg_spec C c v B m t f _ _ (MS.ext hM (by repeat (first | assumption | exact Ext.refl _ | refine Ext.alloc ?_ _ | refine Ext.drew ?_ | refine Ext.setB ?_ (by first | omega | (simp only [size_alloc, size_setB, size_drew]; omega)) _ | exact Ext.trans (by assumption) (by assumption) | refine Ext.trans ?_ (by assumption)))) hA (by omega)) ?_)
    rintro _ w160_3 ⟨hE160_3, rfl⟩
    have hz160_3 := hE160_3.1
    refine WO_call Hvad.call240 (by rfl) (Ret.mono (reach_spec _ _ _ (by first | assumption | exact argW_wd hM.ty _ _ | exact Wd32 | exact Wd1) (by first | assumption | exact argW_wd hM.ty _ _ | exact Wd32 | exact Wd1)) ?_)
    rintro _ w240_4 ⟨hE240_4, rfl⟩
    have hz240_4 := hE240_4.1
    refine WO_p (PS_extract_int rfl rfl) ?_
    refine WO_p (PS_extract_bool rfl rfl) ?_
    refine WO_p (PS_assign_int rfl) ?_
    refine WO_p (PS_assign_bool rfl) ?_
    refine WO_nil ?_
    refine thn_normal ?_
    refine W_ret ?_
    refine inBlk_ret ?_
    refine thn_ret ?_
    refine bodyQ_ret2 Hvad.results163 rfl rfl (.int _ _) (.bool _) rfl rfl ?_
    refine ⟨(by repeat (first | assumption | exact Ext.refl _ | refine Ext.alloc ?_ _ | refine Ext.drew ?_ | refine Ext.setB ?_ (by first | omega | (simp only [size_alloc, size_setB, size_drew]; omega)) _ | refine Ext.trans ?_ (by assumption))), ?_⟩
    unfold reachesW
    first
    | rw [if_pos (by omega)]
    | rw [if_neg (by omega), if_pos (by omega)]
    | rw [if_neg (by omega), if_neg (by omega), if_pos (by omega)]
    | rw [if_neg (by omega), if_neg (by omega), if_neg (by omega), if_pos (by omega)]
    | rw [if_neg (by omega), if_neg (by omega), if_neg (by omega), if_neg (by omega), if_pos (by omega)]
    | rw [if_neg (by omega), if_neg (by omega), if_neg (by omega), if_neg (by omega), if_neg (by omega), if_pos (by omega)]
    | rw [if_neg (by omega), if_neg (by omega), if_neg (by omega), if_neg (by omega), if_neg (by omega), if_neg (by omega), if_pos (by omega)]
    | rw [if_neg (by omega), if_neg (by omega), if_neg (by omega), if_neg (by omega), if_neg (by omega), if_neg (by omega), if_neg (by omega), if_pos (by omega)]
    | rw [if_neg (by omega), if_neg (by omega), if_neg (by omega), if_neg (by omega), if_neg (by omega), if_neg (by omega), if_neg (by omega), if_neg (by omega), if_pos (by omega)]
    | rw [if_neg (by omega), if_neg (by omega), if_neg (by omega), if_neg (by omega), if_neg (by omega), if_neg (by omega), if_neg (by omega), if_neg (by omega), if_neg (by omega)]
  · have hb2p := hb2.h; try simp only [al_ete, al_dfn, Bool.not_eq_true', Bool.not_eq_false', al_ne, Bool.not_not, al_nn] at hb2p
    refine W_seq ?_
    refine W_region rfl ?_
    refine WO_p (PS_eql rfl rfl) ?_
    refine WO_p (PS_assign_bool rfl) ?_
    refine WO_nil ?_
    refine thn_normal ?_
    refine W_if rfl (fun hb8 => ?_) (fun hb8 => ?_)
    · have hb8p := hb8.h; try simp only [al_ete, al_dfn, Bool.not_eq_true', Bool.not_eq_false', al_ne, Bool.not_not, al_nn] at hb8p
      refine W_skip ?_
      refine thn_normal ?_
      refine W_condT rfl hb8.h ?_
      refine W_seq ?_
      refine W_region rfl ?_
      refine WO_p (PS_move_ptr rfl) ?_
      refine WO_p (PS_move_ptr rfl) ?_
      refine WO_call Hvad.call160 (by rfl) (Ret.mono (arg_spec C c v B m t f _ _ (MS.ext hM (by repeat (first | assumption | exact Ext.refl _ | refine Ext.alloc ?_ _ | refine Ext.drew ?_ | refine Ext.setB ?_ (by first | omega | (simp only [size_alloc, size_setB, size_drew]; omega)) _ | exact Ext.trans (by assumption) (by assumption) | refine Ext.trans ?_ (by assumption)))) hA (by omega)) ?_)
      rintro _ w160_8 ⟨hE160_8, rfl⟩
      have hz160_8 := hE160_8.1
      refine WO_p (PS_move_ptr rfl) ?_
      refine WO_p (PS_move_ptr rfl) ?_
      refine WO_call Hvad.call160 (by rfl) (Ret.mono (arg_spec C c v B m t f _ _ (MS.ext hM (by repeat (first | assumption | exact Ext.refl _ | refine Ext.alloc ?_ _ | refine Ext.drew ?_ | refine Ext.setB ?_ (by first | omega | (simp only [size_alloc, size_setB, size_drew]; omega)) _ | exact Ext.trans (by assumption) (by assumption) | refine Ext.trans ?_ (by assumption)))) hA (by omega)) ?_)
      rintro _ w160_9 ⟨hE160_9, rfl⟩
      have hz160_9 := hE160_9.1
      refine WO_call Hvad.call240 (by rfl) (Ret.mono (reach_spec _ _ _ (by first | assumption | exact argW_wd hM.ty _ _ | exact Wd32 | exact Wd1) (by first | assumption | exact argW_wd hM.ty _ _ | exact Wd32 | exact Wd1)) ?_)
      rintro _ w240_10 ⟨hE240_10, rfl⟩
      have hz240_10 := hE240_10.1
      refine WO_p (PS_extract_int rfl rfl) ?_
      refine WO_p (PS_extract_bool rfl rfl) ?_
      refine WO_p (PS_assign_int rfl) ?_
      refine WO_p (PS_assign_bool rfl) ?_
      refine WO_nil ?_
      refine thn_normal ?_
      refine W_ret ?_
      refine inBlk_ret ?_
      refine thn_ret ?_
      refine bodyQ_ret2 Hvad.results163 rfl rfl (.int _ _) (.bool _) rfl rfl ?_
      refine ⟨(by repeat (first | assumption | exact Ext.refl _ | refine Ext.alloc ?_ _ | refine Ext.drew ?_ | refine Ext.setB ?_ (by first | omega | (simp only [size_alloc, size_setB, size_drew]; omega)) _ | refine Ext.trans ?_ (by assumption))), ?_⟩
      unfold reachesW
      first
      | rw [if_pos (by omega)]
      | rw [if_neg (by omega), if_pos (by omega)]
      | rw [if_neg (by omega), if_neg (by omega), if_pos (by omega)]
      | rw [if_neg (by omega), if_neg (by omega), if_neg (by omega), if_pos (by omega)]
      | rw [if_neg (by omega), if_neg (by omega), if_neg (by omega), if_neg (by omega), if_pos (by omega)]
      | rw [if_neg (by omega), if_neg (by omega), if_neg (by omega), if_neg (by omega), if_neg (by omega), if_pos (by omega)]
      | rw [if_neg (by omega), if_neg (by omega), if_neg (by omega), if_neg (by omega), if_neg (by omega), if_neg (by omega), if_pos (by omega)]
      | rw [if_neg (by omega), if_neg (by omega), if_neg (by omega), if_neg (by omega), if_neg (by omega), if_neg (by omega), if_neg (by omega), if_pos (by omega)]
      | rw [if_neg (by omega), if_neg (by omega), if_neg (by omega), if_neg (by omega), if_neg (by omega), if_neg (by omega), if_neg (by omega), if_neg (by omega), if_pos (by omega)]
      | rw [if_neg (by omega), if_neg (by omega), if_neg (by omega), if_neg (by omega), if_neg (by omega), if_neg (by omega), if_neg (by omega), if_neg (by omega), if_neg (by omega)]
    · have hb8p := hb8.h; try simp only [al_ete, al_dfn, Bool.not_eq_true', Bool.not_eq_false', al_ne, Bool.not_not, al_nn] at hb8p
      refine W_seq ?_
      refine W_region rfl ?_
      refine WO_p (PS_eql rfl rfl) ?_
      refine WO_p (PS_assign_bool rfl) ?_
      refine WO_nil ?_
      refine thn_normal ?_
      refine W_if rfl (fun hb14 => ?_) (fun hb14 => ?_)
      · have hb14p := hb14.h; try simp only [al_ete, al_dfn, Bool.not_eq_true', Bool.not_eq_false', al_ne, Bool.not_not, al_nn] at hb14p
        refine W_skip ?_
        refine thn_normal ?_
        refine W_condT rfl hb14.h ?_
        refine W_seq ?_
        refine W_region rfl ?_
        refine WO_p (PS_move_ptr rfl) ?_
        refine WO_p (PS_move_ptr rfl) ?_
        refine WO_call Hvad.call160 (by rfl) (Ret.mono (arg_spec C c v B m t f _ _ (MS.ext hM (by repeat (first | assumption | exact Ext.refl _ | refine Ext.alloc ?_ _ | refine Ext.drew ?_ | refine Ext.setB ?_ (by first | omega | (simp only [size_alloc, size_setB, size_drew]; omega)) _ | exact Ext.trans (by assumption) (by assumption) | refine Ext.trans ?_ (by assumption)))) hA (by omega)) ?_)
        rintro _ w160_14 ⟨hE160_14, rfl⟩
        have hz160_14 := hE160_14.1
        refine WO_p (PS_move_ptr rfl) ?_
        refine WO_p (PS_move_ptr rfl) ?_
        refine WO_call Hvad.call160 (by rfl) (Ret.mono (arg_spec C c v B m t f _ _ (MS.ext hM (by repeat (first | assumption | exact Ext.refl _ | refine Ext.alloc ?_ _ | refine Ext.drew ?_ | refine Ext.setB ?_ (by first | omega | (simp only [size_alloc, size_setB, size_drew]; omega)) _ | exact Ext.trans (by assumption) (by assumption) | refine Ext.trans ?_ (by assumption)))) hA (by omega)) ?_)
        rintro _ w160_15 ⟨hE160_15, rfl⟩
        have hz160_15 := hE160_15.1
        refine WO_call Hvad.call240 (by rfl) (Ret.mono (reach_spec _ _ _ (by first | assumption | exact argW_wd hM.ty _ _ | exact Wd32 | exact Wd1) (by first | assumption | exact argW_wd hM.ty _ _ | exact Wd32 | exact Wd1)) ?_)
        rintro _ w240_16 ⟨hE240_16, rfl⟩
        have hz240_16 := hE240_16.1
        refine WO_p (PS_extract_int rfl rfl) ?_
        refine WO_p (PS_extract_bool rfl rfl) ?_
        refine WO_p (PS_assign_int rfl) ?_
        refine WO_p (PS_assign_bool rfl) ?_
        refine WO_nil ?_
        refine thn_normal ?_
        refine W_ret ?_
        refine inBlk_ret ?_
        refine thn_ret ?_
        refine bodyQ_ret2 Hvad.results163 rfl rfl (.int _ _) (.bool _) rfl rfl ?_
        refine ⟨(by repeat (first | assumption | exact Ext.refl _ | refine Ext.alloc ?_ _ | refine Ext.drew ?_ | refine Ext.setB ?_ (by first | omega | (simp only [size_alloc, size_setB, size_drew]; omega)) _ | refine Ext.trans ?_ (by assumption))), ?_⟩
        unfold reachesW
        first
        | rw [if_pos (by omega)]
        | rw [if_neg (by omega), if_pos (by omega)]
        | rw [if_neg (by omega), if_neg (by omega), if_pos (by omega)]
        | rw [if_neg (by omega), if_neg (by omega), if_neg (by omega), if_pos (by omega)]
        | rw [if_neg (by omega), if_neg (by omega), if_neg (by omega), if_neg (by omega), if_pos (by omega)]
        | rw [if_neg (by omega), if_neg (by omega), if_neg (by omega), if_neg (by omega), if_neg (by omega), if_pos (by omega)]
        | rw [if_neg (by omega), if_neg (by omega), if_neg (by omega), if_neg (by omega), if_neg (by omega), if_neg (by omega), if_pos (by omega)]
        | rw [if_neg (by omega), if_neg (by omega), if_neg (by omega), if_neg (by omega), if_neg (by omega), if_neg (by omega), if_neg (by omega), if_pos (by omega)]
        | rw [if_neg (by omega), if_neg (by omega), if_neg (by omega), if_neg (by omega), if_neg (by omega), if_neg (by omega), if_neg (by omega), if_neg (by omega), if_pos (by omega)]
        | rw [if_neg (by omega), if_neg (by omega), if_neg (by omega), if_neg (by omega), if_neg (by omega), if_neg (by omega), if_neg (by omega), if_neg (by omega), if_neg (by omega)]
      · have hb14p := hb14.h; try simp only [al_ete, al_dfn, Bool.not_eq_true', Bool.not_eq_false', al_ne, Bool.not_not, al_nn] at hb14p
        refine W_seq ?_
        refine W_region rfl ?_
        refine WO_p (PS_eql rfl rfl) ?_
        refine WO_p (PS_assign_bool rfl) ?_
        refine WO_nil ?_
        refine thn_normal ?_
        refine W_if rfl (fun hb20 => ?_) (fun hb20 => ?_)
        · have hb20p := hb20.h; try simp only [al_ete, al_dfn, Bool.not_eq_true', Bool.not_eq_false', al_ne, Bool.not_not, al_nn] at hb20p
          refine W_skip ?_
          refine thn_normal ?_
          refine W_condT rfl hb20.h ?_
          refine W_seq ?_
          refine W_region rfl ?_
          refine WO_p (PS_move_ptr rfl) ?_
          refine WO_p (PS_move_ptr rfl) ?_
          refine WO_call Hvad.call160 (by rfl) (Ret.mono (arg_spec C c v B m t f _ _ (MS.ext hM (by repeat (first | assumption | exact Ext.refl _ | refine Ext.alloc ?_ _ | refine Ext.drew ?_ | refine Ext.setB ?_ (by first | omega | (simp only [size_alloc, size_setB, size_drew]; omega)) _ | exact Ext.trans (by assumption) (by assumption) | refine Ext.trans ?_ (by assumption)))) hA (by omega)) ?_)
          rintro _ w160_20 ⟨hE160_20, rfl⟩
          have hz160_20 := hE160_20.1
          refine WO_p (PS_move_ptr rfl) ?_
          refine WO_p (PS_move_ptr rfl) ?_
          refine WO_call Hvad.call160 (by rfl) (Ret.mono (arg_spec C c v B m t f _ _ (MS.ext hM (by repeat (first | assumption | exact Ext.refl _ | refine Ext.alloc ?_ _ | refine Ext.drew ?_ | refine Ext.setB ?_ (by first | omega | (simp only [size_alloc, size_setB, size_drew]; omega)) _ | exact Ext.trans (by assumption) (by assumption) | refine Ext.trans ?_ (by assumption)))) hA (by omega)) ?_)
          rintro _ w160_21 ⟨hE160_21, rfl⟩
          have hz160_21 := hE160_21.1
          refine WO_call Hvad.call240 (by rfl) (Ret.mono (reach_spec _ _ _ (by first | assumption | exact argW_wd hM.ty _ _ | exact Wd32 | exact Wd1) (by first | assumption | exact argW_wd hM.ty _ _ | exact Wd32 | exact Wd1)) ?_)
          rintro _ w240_22 ⟨hE240_22, rfl⟩
          have hz240_22 := hE240_22.1
          refine WO_p (PS_extract_int rfl rfl) ?_
          refine WO_p (PS_extract_bool rfl rfl) ?_
          refine WO_p (PS_assign_int rfl) ?_
          refine WO_p (PS_assign_bool rfl) ?_
          refine WO_nil ?_
          refine thn_normal ?_
          refine W_ret ?_
          refine inBlk_ret ?_
          refine thn_ret ?_
          refine bodyQ_ret2 Hvad.results163 rfl rfl (.int _ _) (.bool _) rfl rfl ?_
          refine ⟨(by repeat (first | assumption | exact Ext.refl _ | refine Ext.alloc ?_ _ | refine Ext.drew ?_ | refine Ext.setB ?_ (by first | omega | (simp only [size_alloc, size_setB, size_drew]; omega)) _ | refine Ext.trans ?_ (by assumption))), ?_⟩
          unfold reachesW
          first
          | rw [if_pos (by omega)]
          | rw [if_neg (by omega), if_pos (by omega)]
          | rw [if_neg (by omega), if_neg (by omega), if_pos (by omega)]
          | rw [if_neg (by omega), if_neg (by omega), if_neg (by omega), if_pos (by omega)]
          | rw [if_neg (by omega), if_neg (by omega), if_neg (by omega), if_neg (by omega), if_pos (by omega)]
          | rw [if_neg (by omega), if_neg (by omega), if_neg (by omega), if_neg (by omega), if_neg (by omega), if_pos (by omega)]
          | rw [if_neg (by omega), if_neg (by omega), if_neg (by omega), if_neg (by omega), if_neg (by omega), if_neg (by omega), if_pos (by omega)]
          | rw [if_neg (by omega), if_neg (by omega), if_neg (by omega), if_neg (by omega), if_neg (by omega), if_neg (by omega), if_neg (by omega), if_pos (by omega)]
          | rw [if_neg (by omega), if_neg (by omega), if_neg (by omega), if_neg (by omega), if_neg (by omega), if_neg (by omega), if_neg (by omega), if_neg (by omega), if_pos (by omega)]
          | rw [if_neg (by omega), if_neg (by omega), if_neg (by omega), if_neg (by omega), if_neg (by omega), if_neg (by omega), if_neg (by omega), if_neg (by omega), if_neg (by omega)]
        · have hb20p := hb20.h; try simp only [al_ete, al_dfn, Bool.not_eq_true', Bool.not_eq_false', al_ne, Bool.not_not, al_nn] at hb20p
          refine W_seq ?_
          refine W_region rfl ?_
          refine WO_p (PS_eql rfl rfl) ?_
          refine WO_p (PS_assign_bool rfl) ?_
          refine WO_nil ?_
          refine thn_normal ?_
          refine W_if rfl (fun hb26 => ?_) (fun hb26 => ?_)
          · have hb26p := hb26.h; try simp only [al_ete, al_dfn, Bool.not_eq_true', Bool.not_eq_false', al_ne, Bool.not_not, al_nn] at hb26p
            refine W_skip ?_
            refine thn_normal ?_
            refine W_condT rfl hb26.h ?_
            refine W_seq ?_
            refine W_region rfl ?_
            refine WO_p (PS_move_ptr rfl) ?_
            refine WO_p (PS_move_ptr rfl) ?_
            refine WO_call Hvad.call160 (by rfl) (Ret.mono (arg_spec C c v B m t f _ _ (MS.ext hM (by repeat (first | assumption | exact Ext.refl _ | refine Ext.alloc ?_ _ | refine Ext.drew ?_ | refine Ext.setB ?_ (by first | omega | (simp only [size_alloc, size_setB, size_drew]; omega)) _ | exact Ext.trans (by assumption) (by assumption) | refine Ext.trans ?_ (by assumption)))) hA (by omega)) ?_)
            rintro _ w160_26 ⟨hE160_26, rfl⟩
            have hz160_26 := hE160_26.1
            refine WO_p (PS_move_ptr rfl) ?_
            refine WO_p (PS_move_ptr rfl) ?_
            refine WO_call Hvad.call160 (by rfl) (Ret.mono (arg_spec C c v B m t f _ _ (MS.ext hM (by repeat (first | assumption | exact Ext.refl _ | refine Ext.alloc ?_ _ | refine Ext.drew ?_ | refine Ext.setB ?_ (by first | omega | (simp only [size_alloc, size_setB, size_drew]; omega)) _ | exact Ext.trans (by assumption) (by assumption) | refine Ext.trans ?_ (by assumption)))) hA (by omega)) ?_)
            rintro _ w160_27 ⟨hE160_27, rfl⟩
            have hz160_27 := hE160_27.1
            refine WO_call Hvad.call240 (by rfl) (Ret.mono (reach_spec _ _ _ (by first | assumption | exact argW_wd hM.ty _ _ | exact Wd32 | exact Wd1) (by first | assumption | exact argW_wd hM.ty _ _ | exact Wd32 | exact Wd1)) ?_)
            rintro _ w240_28 ⟨hE240_28, rfl⟩
            have hz240_28 := hE240_28.1
            refine WO_p (PS_extract_int rfl rfl) ?_
            refine WO_p (PS_extract_bool rfl rfl) ?_
            refine WO_p (PS_assign_int rfl) ?_
            refine WO_p (PS_assign_bool rfl) ?_
            refine WO_nil ?_
            refine thn_normal ?_
            refine W_ret ?_
            refine inBlk_ret ?_
            refine thn_ret ?_
            refine bodyQ_ret2 Hvad.results163 rfl rfl (.int _ _) (.bool _) rfl rfl ?_
            refine ⟨(by repeat (first | assumption | exact Ext.refl _ | refine Ext.alloc ?_ _ | refine Ext.drew ?_ | refine Ext.setB ?_ (by first | omega | (simp only [size_alloc, size_setB, size_drew]; omega)) _ | refine Ext.trans ?_ (by assumption))), ?_⟩
            unfold reachesW
            first
            | rw [if_pos (by omega)]
            | rw [if_neg (by omega), if_pos (by omega)]
            | rw [if_neg (by omega), if_neg (by omega), if_pos (by omega)]
            | rw [if_neg (by omega), if_neg (by omega), if_neg (by omega), if_pos (by omega)]
            | rw [if_neg (by omega), if_neg (by omega), if_neg (by omega), if_neg (by omega), if_pos (by omega)]
            | rw [if_neg (by omega), if_neg (by omega), if_neg (by omega), if_neg (by omega), if_neg (by omega), if_pos (by omega)]
            | rw [if_neg (by omega), if_neg (by omega), if_neg (by omega), if_neg (by omega), if_neg (by omega), if_neg (by omega), if_pos (by omega)]
            | rw [if_neg (by omega), if_neg (by omega), if_neg (by omega), if_neg (by omega), if_neg (by omega), if_neg (by omega), if_neg (by omega), if_pos (by omega)]
            | rw [if_neg (by omega), if_neg (by omega), if_neg (by omega), if_neg (by omega), if_neg (by omega), if_neg (by omega), if_neg (by omega), if_neg (by omega), if_pos (by omega)]
            | rw [if_neg (by omega), if_neg (by omega), if_neg (by omega), if_neg (by omega), if_neg (by omega), if_neg (by omega), if_neg (by omega), if_neg (by omega), if_neg (by omega)]
          · have hb26p := hb26.h; try simp only [al_ete, al_dfn, Bool.not_eq_true', Bool.not_eq_false', al_ne, Bool.not_not, al_nn] at hb26p
            refine W_seq ?_
            refine W_region rfl ?_
            refine WO_p (PS_eql rfl rfl) ?_
            refine WO_p (PS_assign_bool rfl) ?_
            refine WO_nil ?_
            refine thn_normal ?_
            refine W_if rfl (fun hb32 => ?_) (fun hb32 => ?_)
            · have hb32p := hb32.h; try simp only [al_ete, al_dfn, Bool.not_eq_true', Bool.not_eq_false', al_ne, Bool.not_not, al_nn] at hb32p
              refine W_skip ?_
              refine thn_normal ?_
              refine W_condT rfl hb32.h ?_
              refine W_seq ?_
              refine W_region rfl ?_
              refine WO_p (PS_move_ptr rfl) ?_
              refine WO_p (PS_move_ptr rfl) ?_
              refine WO_call Hvad.call160 (by rfl) (Ret.mono (arg_spec C c v B m t f _ _ (MS.ext hM (by repeat (first | assumption | exact Ext.refl _ | refine Ext.alloc ?_ _ | refine Ext.drew ?_ | refine Ext.setB ?_ (by first | omega | (simp only [size_alloc, size_setB, size_drew]; omega)) _ | exact Ext.trans (by assumption) (by assumption) | refine Ext.trans ?_ (by assumption)))) hA (by omega)) ?_)
              rintro _ w160_32 ⟨hE160_32, rfl⟩
              have hz160_32 := hE160_32.1
              refine WO_p (PS_move_ptr rfl) ?_
              refine WO_p (PS_move_ptr rfl) ?_
              refine WO_call Hvad.call160 (by rfl) (Ret.mono (arg_spec C c v B m t f _ _ (MS.ext hM (by repeat (first | assumption | exact Ext.refl _ | refine Ext.alloc ?_ _ | refine Ext.drew ?_ | refine Ext.setB ?_ (by first | omega | (simp only [size_alloc, size_setB, size_drew]; omega)) _ | exact Ext.trans (by assumption) (by assumption) | refine Ext.trans ?_ (by assumption)))) hA (by omega)) ?_)
              rintro _ w160_33 ⟨hE160_33, rfl⟩
              have hz160_33 := hE160_33.1
              refine WO_call Hvad.call240 (by rfl) (Ret.mono (reach_spec _ _ _ (by first | assumption | exact argW_wd hM.ty _ _ | exact Wd32 | exact Wd1) (by first | assumption | exact argW_wd hM.ty _ _ | exact Wd32 | exact Wd1)) ?_)
              rintro _ w240_34 ⟨hE240_34, rfl⟩
              have hz240_34 := hE240_34.1
              refine WO_p (PS_extract_int rfl rfl) ?_
              refine WO_p (PS_extract_bool rfl rfl) ?_
              refine WO_p (PS_assign_int rfl) ?_
              refine WO_p (PS_assign_bool rfl) ?_
              refine WO_nil ?_
              refine thn_normal ?_
              refine W_ret ?_
              refine inBlk_ret ?_
              refine thn_ret ?_
              refine bodyQ_ret2 Hvad.results163 rfl rfl (.int _ _) (.bool _) rfl rfl ?_
              refine ⟨(by repeat (first | assumption | exact Ext.refl _ | refine Ext.alloc ?_ _ | refine Ext.drew ?_ | refine Ext.setB ?_ (by first | omega | (simp only [size_alloc, size_setB, size_drew]; omega)) _ | refine Ext.trans ?_ (by assumption))), ?_⟩
              unfold reachesW
              first
              | rw [if_pos (by omega)]
              | rw [if_neg (by omega), if_pos (by omega)]
              | rw [if_neg (by omega), if_neg (by omega), if_pos (by omega)]
              | rw [if_neg (by omega), if_neg (by omega), if_neg (by omega), if_pos (by omega)]
              | rw [if_neg (by omega), if_neg (by omega), if_neg (by omega), if_neg (by omega), if_pos (by omega)]
              | rw [if_neg (by omega), if_neg (by omega), if_neg (by omega), if_neg (by omega), if_neg (by omega), if_pos (by omega)]
              | rw [if_neg (by omega), if_neg (by omega), if_neg (by omega), if_neg (by omega), if_neg (by omega), if_neg (by omega), if_pos (by omega)]
              | rw [if_neg (by omega), if_neg (by omega), if_neg (by omega), if_neg (by omega), if_neg (by omega), if_neg (by omega), if_neg (by omega), if_pos (by omega)]
              | rw [if_neg (by omega), if_neg (by omega), if_neg (by omega), if_neg (by omega), if_neg (by omega), if_neg (by omega), if_neg (by omega), if_neg (by omega), if_pos (by omega)]
              | rw [if_neg (by omega), if_neg (by omega), if_neg (by omega), if_neg (by omega), if_neg (by omega), if_neg (by omega), if_neg (by omega), if_neg (by omega), if_neg (by omega)]
            · have hb32p := hb32.h; try simp only [al_ete, al_dfn, Bool.not_eq_true', Bool.not_eq_false', al_ne, Bool.not_not, al_nn] at hb32p
              refine W_seq ?_
              refine W_region rfl ?_
              refine WO_p (PS_eql rfl rfl) ?_
              refine WO_p (PS_assign_bool rfl) ?_
              refine WO_nil ?_
              refine thn_normal ?_
              refine W_if rfl (fun hb38 => ?_) (fun hb38 => ?_)
              · have hb38p := hb38.h; try simp only [al_ete, al_dfn, Bool.not_eq_true', Bool.not_eq_false', al_ne, Bool.not_not, al_nn] at hb38p
                refine W_skip ?_
                refine thn_normal ?_
                refine W_condT rfl hb38.h ?_
                refine W_seq ?_
                refine W_region rfl ?_
                refine WO_p (PS_move_ptr rfl) ?_
                refine WO_p (PS_move_ptr rfl) ?_
                refine WO_call Hvad.call160 (by rfl) (Ret.mono (arg_spec C c v B m t f _ _ (MS.ext hM (by repeat (first | assumption | exact Ext.refl _ | refine Ext.alloc ?_ _ | refine Ext.drew ?_ | refine Ext.setB ?_ (by first | omega | (simp only [size_alloc, size_setB, size_drew]; omega)) _ | exact Ext.trans (by assumption) (by assumption) | refine Ext.trans ?_ (by assumption)))) hA (by omega)) ?_)
                rintro _ w160_38 ⟨hE160_38, rfl⟩
                have hz160_38 := hE160_38.1
                refine WO_p (PS_move_ptr rfl) ?_
                refine WO_p (PS_move_ptr rfl) ?_
                refine WO_call Hvad.call160 (by rfl) (Ret.mono (arg_spec C c v B m t f _ _ (MS.ext hM (by repeat (first | assumption | exact Ext.refl _ | refine Ext.alloc ?_ _ | refine Ext.drew ?_ | refine Ext.setB ?_ (by first | omega | (simp only [size_alloc, size_setB, size_drew]; omega)) _ | exact Ext.trans (by assumption) (by assumption) | refine Ext.trans ?_ (by assumption)))) hA (by omega)) ?_)
                rintro _ w160_39 ⟨hE160_39, rfl⟩
                have hz160_39 := hE160_39.1
                refine WO_call Hvad.call240 (by rfl) (Ret.mono (reach_spec _ _ _ (by first | assumption | exact argW_wd hM.ty _ _ | exact Wd32 | exact Wd1) (by first | assumption | exact argW_wd hM.ty _ _ | exact Wd32 | exact Wd1)) ?_)
                rintro _ w240_40 ⟨hE240_40, rfl⟩
                have hz240_40 := hE240_40.1
                refine WO_p (PS_extract_int rfl rfl) ?_
                refine WO_p (PS_extract_bool rfl rfl) ?_
                refine WO_p (PS_assign_int rfl) ?_
                refine WO_p (PS_assign_bool rfl) ?_
                refine WO_nil ?_
                refine thn_normal ?_
                refine W_ret ?_
                refine inBlk_ret ?_
                refine thn_ret ?_
                refine bodyQ_ret2 Hvad.results163 rfl rfl (.int _ _) (.bool _) rfl rfl ?_
                refine ⟨(by repeat (first | assumption | exact Ext.refl _ | refine Ext.alloc ?_ _ | refine Ext.drew ?_ | refine Ext.setB ?_ (by first | omega | (simp only [size_alloc, size_setB, size_drew]; omega)) _ | refine Ext.trans ?_ (by assumption))), ?_⟩
                unfold reachesW
                first
                | rw [if_pos (by omega)]
                | rw [if_neg (by omega), if_pos (by omega)]
                | rw [if_neg (by omega), if_neg (by omega), if_pos (by omega)]
                | rw [if_neg (by omega), if_neg (by omega), if_neg (by omega), if_pos (by omega)]
                | rw [if_neg (by omega), if_neg (by omega), if_neg (by omega), if_neg (by omega), if_pos (by omega)]
                | rw [if_neg (by omega), if_neg (by omega), if_neg (by omega), if_neg (by omega), if_neg (by omega), if_pos (by omega)]
                | rw [if_neg (by omega), if_neg (by omega), if_neg (by omega), if_neg (by omega), if_neg (by omega), if_neg (by omega), if_pos (by omega)]
                | rw [if_neg (by omega), if_neg (by omega), if_neg (by omega), if_neg (by omega), if_neg (by omega), if_neg (by omega), if_neg (by omega), if_pos (by omega)]
                | rw [if_neg (by omega), if_neg (by omega), if_neg (by omega), if_neg (by omega), if_neg (by omega), if_neg (by omega), if_neg (by omega), if_neg (by omega), if_pos (by omega)]
                | rw [if_neg (by omega), if_neg (by omega), if_neg (by omega), if_neg (by omega), if_neg (by omega), if_neg (by omega), if_neg (by omega), if_neg (by omega), if_neg (by omega)]
              · have hb38p := hb38.h; try simp only [al_ete, al_dfn, Bool.not_eq_true', Bool.not_eq_false', al_ne, Bool.not_not, al_nn] at hb38p
                refine W_region rfl ?_
                refine WO_p (PS_eql rfl rfl) ?_
                refine WO_p (PS_assign_bool rfl) ?_
                refine WO_nil ?_
                refine thn_normal ?_
                refine W_if rfl (fun hb44 => ?_) (fun hb44 => ?_)
                · have hb44p := hb44.h; try simp only [al_ete, al_dfn, Bool.not_eq_true', Bool.not_eq_false', al_ne, Bool.not_not, al_nn] at hb44p
                  refine W_seq ?_
                  refine W_region rfl ?_
                  refine WO_p (PS_move_ptr rfl) ?_
                  refine WO_p (PS_move_ptr rfl) ?_
                  refine WO_call Hvad.call160 (by rfl) (Ret.mono (arg_spec C c v B m t f _ _ (MS.ext hM (by repeat (first | assumption | exact Ext.refl _ | refine Ext.alloc ?_ _ | refine Ext.drew ?_ | refine Ext.setB ?_ (by first | omega | (simp only [size_alloc, size_setB, size_drew]; omega)) _ | exact Ext.trans (by assumption) (by assumption) | refine Ext.trans ?_ (by assumption)))) hA (by omega)) ?_)
                  rintro _ w160_44 ⟨hE160_44, rfl⟩
                  have hz160_44 := hE160_44.1
                  refine WO_p (PS_move_ptr rfl) ?_
                  refine WO_p (PS_move_ptr rfl) ?_
                  refine WO_call Hvad.call160 (by rfl) (Ret.mono (arg_spec C c v B m t f _ _ (MS.ext hM (by repeat (first | assumption | exact Ext.refl _ | refine Ext.alloc ?_ _ | refine Ext.drew ?_ | refine Ext.setB ?_ (by first | omega | (simp only [size_alloc, size_setB, size_drew]; omega)) _ | exact Ext.trans (by assumption) (by assumption) | refine Ext.trans ?_ (by assumption)))) hA (by omega)) ?_)
                  rintro _ w160_45 ⟨hE160_45, rfl⟩
                  have hz160_45 := hE160_45.1
                  refine WO_call Hvad.call240 (by rfl) (Ret.mono (reach_spec _ _ _ (by first | assumption | exact argW_wd hM.ty _ _ | exact Wd32 | exact Wd1) (by first | assumption | exact argW_wd hM.ty _ _ | exact Wd32 | exact Wd1)) ?_)
                  rintro _ w240_46 ⟨hE240_46, rfl⟩
                  have hz240_46 := hE240_46.1
                  refine WO_p (PS_extract_int rfl rfl) ?_
                  refine WO_p (PS_extract_bool rfl rfl) ?_
                  refine WO_p (PS_assign_int rfl) ?_
                  refine WO_p (PS_assign_bool rfl) ?_
                  refine WO_nil ?_
                  refine thn_normal ?_
                  refine W_ret ?_
                  refine inBlk_ret ?_
                  refine thn_ret ?_
                  refine bodyQ_ret2 Hvad.results163 rfl rfl (.int _ _) (.bool _) rfl rfl ?_
                  refine ⟨(by repeat (first | assumption | exact Ext.refl _ | refine Ext.alloc ?_ _ | refine Ext.drew ?_ | refine Ext.setB ?_ (by first | omega | (simp only [size_alloc, size_setB, size_drew]; omega)) _ | refine Ext.trans ?_ (by assumption))), ?_⟩
                  unfold reachesW
                  first
                  | rw [if_pos (by omega)]
                  | rw [if_neg (by omega), if_pos (by omega)]
                  | rw [if_neg (by omega), if_neg (by omega), if_pos (by omega)]
                  | rw [if_neg (by omega), if_neg (by omega), if_neg (by omega), if_pos (by omega)]
                  | rw [if_neg (by omega), if_neg (by omega), if_neg (by omega), if_neg (by omega), if_pos (by omega)]
                  | rw [if_neg (by omega), if_neg (by omega), if_neg (by omega), if_neg (by omega), if_neg (by omega), if_pos (by omega)]
                  | rw [if_neg (by omega), if_neg (by omega), if_neg (by omega), if_neg (by omega), if_neg (by omega), if_neg (by omega), if_pos (by omega)]
                  | rw [if_neg (by omega), if_neg (by omega), if_neg (by omega), if_neg (by omega), if_neg (by omega), if_neg (by omega), if_neg (by omega), if_pos (by omega)]
                  | rw [if_neg (by omega), if_neg (by omega), if_neg (by omega), if_neg (by omega), if_neg (by omega), if_neg (by omega), if_neg (by omega), if_neg (by omega), if_pos (by omega)]
                  | rw [if_neg (by omega), if_neg (by omega), if_neg (by omega), if_neg (by omega), if_neg (by omega), if_neg (by omega), if_neg (by omega), if_neg (by omega), if_neg (by omega)]
                · have hb44p := hb44.h; try simp only [al_ete, al_dfn, Bool.not_eq_true', Bool.not_eq_false', al_ne, Bool.not_not, al_nn] at hb44p
                  refine W_seq ?_
                  refine W_seq ?_
                  refine W_region rfl ?_
                  refine WO_p (PS_eql rfl rfl) ?_
                  refine WO_p (PS_assign_bool rfl) ?_
                  refine WO_nil ?_
                  refine thn_normal ?_
                  refine W_if rfl (fun hb50 => ?_) (fun hb50 => ?_)
                  · have hb50p := hb50.h; try simp only [al_ete, al_dfn, Bool.not_eq_true', Bool.not_eq_false', al_ne, Bool.not_not, al_nn] at hb50p
                    refine W_skip ?_
                    refine thn_normal ?_
                    refine W_condT rfl hb50.h ?_
                    refine W_seq ?_
                    refine W_region rfl ?_
                    refine WO_p (PS_move_ptr rfl) ?_
                    refine WO_p (PS_move_ptr rfl) ?_
                    refine WO_call Hvad.call160 (by rfl) (Ret.mono (arg_spec C c v B m t f _ _ (MS.ext hM (by repeat (first | assumption | exact Ext.refl _ | refine Ext.alloc ?_ _ | refine Ext.drew ?_ | refine Ext.setB ?_ (by first | omega | (simp only [size_alloc, size_setB, size_drew]; omega)) _ | exact Ext.trans (by assumption) (by assumption) | refine Ext.trans ?_ (by assumption)))) hA (by omega)) ?_)
                    rintro _ w160_50 ⟨hE160_50, rfl⟩
                    have hz160_50 := hE160_50.1
                    refine WO_p (PS_move_ptr rfl) ?_
                    refine WO_p (PS_move_ptr rfl) ?_
                    refine WO_call Hvad.call160 (by rfl) (Ret.mono (arg_spec C c v B m t f _ _ (MS.ext hM (by repeat (first | assumption | exact Ext.refl _ | refine Ext.alloc ?_ _ | refine Ext.drew ?_ | refine Ext.setB ?_ (by first | omega | (simp only [size_alloc, size_setB, size_drew]; omega)) _ | exact Ext.trans (by assumption) (by assumption) | refine Ext.trans ?_ (by assumption)))) hA (by omega)) ?_)
                    rintro _ w160_51 ⟨hE160_51, rfl⟩
                    have hz160_51 := hE160_51.1
                    refine WO_call Hvad.call240 (by rfl) (Ret.mono (reach_spec _ _ _ (by first | assumption | exact argW_wd hM.ty _ _ | exact Wd32 | exact Wd1) (by first | assumption | exact argW_wd hM.ty _ _ | exact Wd32 | exact Wd1)) ?_)
                    rintro _ w240_52 ⟨hE240_52, rfl⟩
                    have hz240_52 := hE240_52.1
                    refine WO_p (PS_extract_int rfl rfl) ?_
                    refine WO_p (PS_extract_bool rfl rfl) ?_
                    refine WO_p (PS_assign_int rfl) ?_
                    refine WO_p (PS_assign_bool rfl) ?_
                    refine WO_nil ?_
                    refine thn_normal ?_
                    refine W_ret ?_
                    refine inBlk_ret ?_
                    refine thn_ret ?_
                    refine bodyQ_ret2 Hvad.results163 rfl rfl (.int _ _) (.bool _) rfl rfl ?_
                    refine ⟨(by repeat (first | assumption | exact Ext.refl _ | refine Ext.alloc ?_ _ | refine Ext.drew ?_ | refine Ext.setB ?_ (by first | omega | (simp only [size_alloc, size_setB, size_drew]; omega)) _ | refine Ext.trans ?_ (by assumption))), ?_⟩
                    unfold reachesW
                    first
                    | rw [if_pos (by omega)]
                    | rw [if_neg (by omega), if_pos (by omega)]
                    | rw [if_neg (by omega), if_neg (by omega), if_pos (by omega)]
                    | rw [if_neg (by omega), if_neg (by omega), if_neg (by omega), if_pos (by omega)]
                    | rw [if_neg (by omega), if_neg (by omega), if_neg (by omega), if_neg (by omega), if_pos (by omega)]
                    | rw [if_neg (by omega), if_neg (by omega), if_neg (by omega), if_neg (by omega), if_neg (by omega), if_pos (by omega)]
                    | rw [if_neg (by omega), if_neg (by omega), if_neg (by omega), if_neg (by omega), if_neg (by omega), if_neg (by omega), if_pos (by omega)]
                    | rw [if_neg (by omega), if_neg (by omega), if_neg (by omega), if_neg (by omega), if_neg (by omega), if_neg (by omega), if_neg (by omega), if_pos (by omega)]
                    | rw [if_neg (by omega), if_neg (by omega), if_neg (by omega), if_neg (by omega), if_neg (by omega), if_neg (by omega), if_neg (by omega), if_neg (by omega), if_pos (by omega)]
                    | rw [if_neg (by omega), if_neg (by omega), if_neg (by omega), if_neg (by omega), if_neg (by omega), if_neg (by omega), if_neg (by omega), if_neg (by omega), if_neg (by omega)]
                  · have hb50p := hb50.h; try simp only [al_ete, al_dfn, Bool.not_eq_true', Bool.not_eq_false', al_ne, Bool.not_not, al_nn] at hb50p
                    refine W_seq ?_
                    refine W_region rfl ?_
                    refine WO_p (PS_eql rfl rfl) ?_
                    refine WO_p (PS_assign_bool rfl) ?_
                    refine WO_nil ?_
                    refine thn_normal ?_
                    refine W_if rfl (fun hb56 => ?_) (fun hb56 => ?_)
                    · have hb56p := hb56.h; try simp only [al_ete, al_dfn, Bool.not_eq_true', Bool.not_eq_false', al_ne, Bool.not_not, al_nn] at hb56p
                      refine W_skip ?_
                      refine thn_normal ?_
                      refine W_condT rfl hb56.h ?_
                      refine W_seq ?_
                      refine W_region rfl ?_
                      refine WO_p (PS_move_ptr rfl) ?_
                      refine WO_p (PS_move_ptr rfl) ?_
                      refine WO_call Hvad.call160 (by rfl) (Ret.mono (arg_spec C c v B m t f _ _ (MS.ext hM (by repeat (first | assumption | exact Ext.refl _ | refine Ext.alloc ?_ _ | refine Ext.drew ?_ | refine Ext.setB ?_ (by first | omega | (simp only [size_alloc, size_setB, size_drew]; omega)) _ | exact Ext.trans (by assumption) (by assumption) | refine Ext.trans ?_ (by assumption)))) hA (by omega)) ?_)
                      rintro _ w160_56 ⟨hE160_56, rfl⟩
                      have hz160_56 := hE160_56.1
                      refine WO_p (PS_move_ptr rfl) ?_
                      refine WO_p (PS_move_ptr rfl) ?_
                      refine WO_call Hvad.call160 (by rfl) (Ret.mono (arg_spec C c v B m t f _ _ (MS.ext hM (by repeat (first | assumption | exact Ext.refl _ | refine Ext.alloc ?_ _ | refine Ext.drew ?_ | refine Ext.setB ?_ (by first | omega | (simp only [size_alloc, size_setB, size_drew]; omega)) _ | exact Ext.trans (by assumption) (by assumption) | refine Ext.trans ?_ (by assumption)))) hA (by omega)) ?_)
                      rintro _ w160_57 ⟨hE160_57, rfl⟩
                      have hz160_57 := hE160_57.1
                      refine WO_call Hvad.call240 (by rfl) (Ret.mono (reach_spec _ _ _ (by first | assumption | exact argW_wd hM.ty _ _ | exact Wd32 | exact Wd1) (by first | assumption | exact argW_wd hM.ty _ _ | exact Wd32 | exact Wd1)) ?_)
                      rintro _ w240_58 ⟨hE240_58, rfl⟩
                      have hz240_58 := hE240_58.1
                      refine WO_p (PS_extract_int rfl rfl) ?_
                      refine WO_p (PS_extract_bool rfl rfl) ?_
                      refine WO_p (PS_assign_int rfl) ?_
                      refine WO_p (PS_assign_bool rfl) ?_
                      refine WO_nil ?_
                      refine thn_normal ?_
                      refine W_ret ?_
                      refine inBlk_ret ?_
                      refine thn_ret ?_
                      refine bodyQ_ret2 Hvad.results163 rfl rfl (.int _ _) (.bool _) rfl rfl ?_
                      refine ⟨(by repeat (first | assumption | exact Ext.refl _ | refine Ext.alloc ?_ _ | refine Ext.drew ?_ | refine Ext.setB ?_ (by first | omega | (simp only [size_alloc, size_setB, size_drew]; omega)) _ | refine Ext.trans ?_ (by assumption))), ?_⟩
                      unfold reachesW
                      first
                      | rw [if_pos (by omega)]
                      | rw [if_neg (by omega), if_pos (by omega)]
                      | rw [if_neg (by omega), if_neg (by omega), if_pos (by omega)]
                      | rw [if_neg (by omega), if_neg (by omega), if_neg (by omega), if_pos (by omega)]
                      | rw [if_neg (by omega), if_neg (by omega), if_neg (by omega), if_neg (by omega), if_pos (by omega)]
                      | rw [if_neg (by omega), if_neg (by omega), if_neg (by omega), if_neg (by omega), if_neg (by omega), if_pos (by omega)]
                      | rw [if_neg (by omega), if_neg (by omega), if_neg (by omega), if_neg (by omega), if_neg (by omega), if_neg (by omega), if_pos (by omega)]
                      | rw [if_neg (by omega), if_neg (by omega), if_neg (by omega), if_neg (by omega), if_neg (by omega), if_neg (by omega), if_neg (by omega), if_pos (by omega)]
                      | rw [if_neg (by omega), if_neg (by omega), if_neg (by omega), if_neg (by omega), if_neg (by omega), if_neg (by omega), if_neg (by omega), if_neg (by omega), if_pos (by omega)]
                      | rw [if_neg (by omega), if_neg (by omega), if_neg (by omega), if_neg (by omega), if_neg (by omega), if_neg (by omega), if_neg (by omega), if_neg (by omega), if_neg (by omega)]
                    · have hb56p := hb56.h; try simp only [al_ete, al_dfn, Bool.not_eq_true', Bool.not_eq_false', al_ne, Bool.not_not, al_nn] at hb56p
                      refine W_region rfl ?_
                      refine WO_p (PS_eql rfl rfl) ?_
                      refine WO_p (PS_assign_bool rfl) ?_
                      refine WO_nil ?_
                      refine thn_normal ?_
                      refine W_if rfl (fun hb62 => ?_) (fun hb62 => ?_)
                      · have hb62p := hb62.h; try simp only [al_ete, al_dfn, Bool.not_eq_true', Bool.not_eq_false', al_ne, Bool.not_not, al_nn] at hb62p
                        refine W_seq ?_
                        refine W_region rfl ?_
                        refine WO_p (PS_move_ptr rfl) ?_
                        refine WO_p (PS_move_ptr rfl) ?_
                        refine WO_call Hvad.call160 (by rfl) (Ret.mono (arg_spec C c v B m t f _ _ (MS.ext hM (by repeat (first | assumption | exact Ext.refl _ | refine Ext.alloc ?_ _ | refine Ext.drew ?_ | refine Ext.setB ?_ (by first | omega | (simp only [size_alloc, size_setB, size_drew]; omega)) _ | exact Ext.trans (by assumption) (by assumption) | refine Ext.trans ?_ (by assumption)))) hA (by omega)) ?_)
                        rintro _ w160_62 ⟨hE160_62, rfl⟩
                        have hz160_62 := hE160_62.1
                        refine WO_p (PS_move_ptr rfl) ?_
                        refine WO_p (PS_move_ptr rfl) ?_
                        refine WO_call Hvad.call160 (by rfl) (Ret.mono (arg_spec C c v B m t f _ _ (MS.ext hM (by repeat (first | assumption | exact Ext.refl _ | refine Ext.alloc ?_ _ | refine Ext.drew ?_ | refine Ext.setB ?_ (by first | omega | (simp only [size_alloc, size_setB, size_drew]; omega)) _ | exact Ext.trans (by assumption) (by assumption) | refine Ext.trans ?_ (by assumption)))) hA (by omega)) ?_)
                        rintro _ w160_63 ⟨hE160_63, rfl⟩
                        have hz160_63 := hE160_63.1
                        refine WO_call Hvad.call240 (by rfl) (Ret.mono (reach_spec _ _ _ (by first | assumption | exact argW_wd hM.ty _ _ | exact Wd32 | exact Wd1) (by first | assumption | exact argW_wd hM.ty _ _ | exact Wd32 | exact Wd1)) ?_)
                        rintro _ w240_64 ⟨hE240_64, rfl⟩
                        have hz240_64 := hE240_64.1
                        refine WO_p (PS_extract_int rfl rfl) ?_
                        refine WO_p (PS_extract_bool rfl rfl) ?_
                        refine WO_p (PS_assign_int rfl) ?_
                        refine WO_p (PS_assign_bool rfl) ?_
                        refine WO_nil ?_
                        refine thn_normal ?_
                        refine W_ret ?_
                        refine inBlk_ret ?_
                        refine thn_ret ?_
                        refine bodyQ_ret2 Hvad.results163 rfl rfl (.int _ _) (.bool _) rfl rfl ?_
                        refine ⟨(by repeat (first | assumption | exact Ext.refl _ | refine Ext.alloc ?_ _ | refine Ext.drew ?_ | refine Ext.setB ?_ (by first | omega | (simp only [size_alloc, size_setB, size_drew]; omega)) _ | refine Ext.trans ?_ (by assumption))), ?_⟩
                        unfold reachesW
                        first
                        | rw [if_pos (by omega)]
                        | rw [if_neg (by omega), if_pos (by omega)]
                        | rw [if_neg (by omega), if_neg (by omega), if_pos (by omega)]
                        | rw [if_neg (by omega), if_neg (by omega), if_neg (by omega), if_pos (by omega)]
                        | rw [if_neg (by omega), if_neg (by omega), if_neg (by omega), if_neg (by omega), if_pos (by omega)]
                        | rw [if_neg (by omega), if_neg (by omega), if_neg (by omega), if_neg (by omega), if_neg (by omega), if_pos (by omega)]
                        | rw [if_neg (by omega), if_neg (by omega), if_neg (by omega), if_neg (by omega), if_neg (by omega), if_neg (by omega), if_pos (by omega)]
                        | rw [if_neg (by omega), if_neg (by omega), if_neg (by omega), if_neg (by omega), if_neg (by omega), if_neg (by omega), if_neg (by omega), if_pos (by omega)]
                        | rw [if_neg (by omega), if_neg (by omega), if_neg (by omega), if_neg (by omega), if_neg (by omega), if_neg (by omega), if_neg (by omega), if_neg (by omega), if_pos (by omega)]
                        | rw [if_neg (by omega), if_neg (by omega), if_neg (by omega), if_neg (by omega), if_neg (by omega), if_neg (by omega), if_neg (by omega), if_neg (by omega), if_neg (by omega)]
                      · have hb62p := hb62.h; try simp only [al_ete, al_dfn, Bool.not_eq_true', Bool.not_eq_false', al_ne, Bool.not_not, al_nn] at hb62p
                        refine W_seq ?_
                        refine W_region rfl ?_
                        refine WO_p (PS_eql rfl rfl) ?_
                        refine WO_p (PS_assign_bool rfl) ?_
                        refine WO_nil ?_
                        refine thn_normal ?_
                        refine W_if rfl (fun hb68 => ?_) (fun hb68 => ?_)
                        · have hb68p := hb68.h; try simp only [al_ete, al_dfn, Bool.not_eq_true', Bool.not_eq_false', al_ne, Bool.not_not, al_nn] at hb68p
                          refine W_seq ?_
                          refine W_region rfl ?_
                          refine WO_p (PS_move_ptr rfl) ?_
                          refine WO_p (PS_move_ptr rfl) ?_
                          refine WO_call Hvad.call160 (by rfl) (Ret.mono (arg_spec C c v B m t f _ _ (MS.ext hM (by repeat (first | assumption | exact Ext.refl _ | refine Ext.alloc ?_ _ | refine Ext.drew ?_ | refine Ext.setB ?_ (by first | omega | (simp only [size_alloc, size_setB, size_drew]; omega)) _ | exact Ext.trans (by assumption) (by assumption) | refine Ext.trans ?_ (by assumption)))) hA (by omega)) ?_)
                          rintro _ w160_68 ⟨hE160_68, rfl⟩
                          have hz160_68 := hE160_68.1
                          refine WO_p (PS_move_ptr rfl) ?_
                          refine WO_p (PS_move_ptr rfl) ?_
                          refine WO_call Hvad.call160 (by rfl) (Ret.mono (arg_spec C c v B m t f _ _ (MS.ext hM (by repeat (first | assumption | exact Ext.refl _ | refine Ext.alloc ?_ _ | refine Ext.drew ?_ | refine Ext.setB ?_ (by first | omega | (simp only [size_alloc, size_setB, size_drew]; omega)) _ | exact Ext.trans (by assumption) (by assumption) | refine Ext.trans ?_ (by assumption)))) hA (by omega)) ?_)
                          rintro _ w160_69 ⟨hE160_69, rfl⟩
                          have hz160_69 := hE160_69.1
                          refine WO_call Hvad.call240 (by rfl) (Ret.mono (reach_spec _ _ _ (by first | assumption | exact argW_wd hM.ty _ _ | exact Wd32 | exact Wd1) (by first | assumption | exact argW_wd hM.ty _ _ | exact Wd32 | exact Wd1)) ?_)
                          rintro _ w240_70 ⟨hE240_70, rfl⟩
                          have hz240_70 := hE240_70.1
                          refine WO_p (PS_extract_int rfl rfl) ?_
                          refine WO_p (PS_extract_bool rfl rfl) ?_
                          refine WO_p (PS_assign_int rfl) ?_
                          refine WO_p (PS_assign_bool rfl) ?_
                          refine WO_nil ?_
                          refine thn_normal ?_
                          refine W_ret ?_
                          refine inBlk_ret ?_
                          refine thn_ret ?_
                          refine bodyQ_ret2 Hvad.results163 rfl rfl (.int _ _) (.bool _) rfl rfl ?_
                          refine ⟨(by repeat (first | assumption | exact Ext.refl _ | refine Ext.alloc ?_ _ | refine Ext.drew ?_ | refine Ext.setB ?_ (by first | omega | (simp only [size_alloc, size_setB, size_drew]; omega)) _ | refine Ext.trans ?_ (by assumption))), ?_⟩
                          unfold reachesW
                          first
                          | rw [if_pos (by omega)]
                          | rw [if_neg (by omega), if_pos (by omega)]
                          | rw [if_neg (by omega), if_neg (by omega), if_pos (by omega)]
                          | rw [if_neg (by omega), if_neg (by omega), if_neg (by omega), if_pos (by omega)]
                          | rw [if_neg (by omega), if_neg (by omega), if_neg (by omega), if_neg (by omega), if_pos (by omega)]
                          | rw [if_neg (by omega), if_neg (by omega), if_neg (by omega), if_neg (by omega), if_neg (by omega), if_pos (by omega)]
                          | rw [if_neg (by omega), if_neg (by omega), if_neg (by omega), if_neg (by omega), if_neg (by omega), if_neg (by omega), if_pos (by omega)]
                          | rw [if_neg (by omega), if_neg (by omega), if_neg (by omega), if_neg (by omega), if_neg (by omega), if_neg (by omega), if_neg (by omega), if_pos (by omega)]
                          | rw [if_neg (by omega), if_neg (by omega), if_neg (by omega), if_neg (by omega), if_neg (by omega), if_neg (by omega), if_neg (by omega), if_neg (by omega), if_pos (by omega)]
                          | rw [if_neg (by omega), if_neg (by omega), if_neg (by omega), if_neg (by omega), if_neg (by omega), if_neg (by omega), if_neg (by omega), if_neg (by omega), if_neg (by omega)]
                        · have hb68p := hb68.h; try simp only [al_ete, al_dfn, Bool.not_eq_true', Bool.not_eq_false', al_ne, Bool.not_not, al_nn] at hb68p
                          refine W_seq ?_
                          refine W_seq ?_
                          refine W_region rfl ?_
                          refine WO_p (PS_eql rfl rfl) ?_
                          refine WO_p (PS_assign_bool rfl) ?_
                          refine WO_nil ?_
                          refine thn_normal ?_
                          refine W_if rfl (fun hb74 => ?_) (fun hb74 => ?_)
                          · have hb74p := hb74.h; try simp only [al_ete, al_dfn, Bool.not_eq_true', Bool.not_eq_false', al_ne, Bool.not_not, al_nn] at hb74p
                            refine W_skip ?_
                            refine thn_normal ?_
                            refine W_condT rfl hb74.h ?_
                            refine W_seq ?_
                            refine W_region rfl ?_
                            refine WO_p (PS_move_ptr rfl) ?_
                            refine WO_p (PS_move_ptr rfl) ?_
                            refine WO_call Hvad.call160 (by rfl) (Ret.mono (arg_spec C c v B m t f _ _ (MS.ext hM (by repeat (first | assumption | exact Ext.refl _ | refine Ext.alloc ?_ _ | refine Ext.drew ?_ | refine Ext.setB ?_ (by first | omega | (simp only [size_alloc, size_setB, size_drew]; omega)) _ | exact Ext.trans (by assumption) (by assumption) | refine Ext.trans ?_ (by assumption)))) hA (by omega)) ?_)
                            rintro _ w160_74 ⟨hE160_74, rfl⟩
                            have hz160_74 := hE160_74.1
                            refine WO_p (PS_buildI (k := .u64) (zs := [0, 0, 0, 0]) (ps := [(0, _)]) (L := [_, 0, 0, 0]) Hvad.zeroValue59 Hvad.runUnderlying59 Hvad.sizeOf26 rfl rfl rfl rfl) ?_
                            refine WO_call Hvad.call240 (by rfl) (Ret.mono (reach_spec _ _ _ (by first | assumption | exact argW_wd hM.ty _ _ | exact Wd32 | exact Wd1) (by first | assumption | exact argW_wd hM.ty _ _ | exact Wd32 | exact Wd1)) ?_)
                            rintro _ w240_75 ⟨hE240_75, rfl⟩
                            have hz240_75 := hE240_75.1
                            refine WO_p (PS_extract_int rfl rfl) ?_
                            refine WO_p (PS_extract_bool rfl rfl) ?_
                            refine WO_p (PS_assign_int rfl) ?_
                            refine WO_p (PS_assign_bool rfl) ?_
                            refine WO_nil ?_
                            refine thn_normal ?_
                            refine W_ret ?_
                            refine inBlk_ret ?_
                            refine thn_ret ?_
                            refine bodyQ_ret2 Hvad.results163 rfl rfl (.int _ _) (.bool _) rfl rfl ?_
                            refine ⟨(by repeat (first | assumption | exact Ext.refl _ | refine Ext.alloc ?_ _ | refine Ext.drew ?_ | refine Ext.setB ?_ (by first | omega | (simp only [size_alloc, size_setB, size_drew]; omega)) _ | refine Ext.trans ?_ (by assumption))), ?_⟩
                            unfold reachesW
                            first
                            | rw [if_pos (by omega)]
                            | rw [if_neg (by omega), if_pos (by omega)]
                            | rw [if_neg (by omega), if_neg (by omega), if_pos (by omega)]
                            | rw [if_neg (by omega), if_neg (by omega), if_neg (by omega), if_pos (by omega)]
                            | rw [if_neg (by omega), if_neg (by omega), if_neg (by omega), if_neg (by omega), if_pos (by omega)]
                            | rw [if_neg (by omega), if_neg (by omega), if_neg (by omega), if_neg (by omega), if_neg (by omega), if_pos (by omega)]
                            | rw [if_neg (by omega), if_neg (by omega), if_neg (by omega), if_neg (by omega), if_neg (by omega), if_neg (by omega), if_pos (by omega)]
                            | rw [if_neg (by omega), if_neg (by omega), if_neg (by omega), if_neg (by omega), if_neg (by omega), if_neg (by omega), if_neg (by omega), if_pos (by omega)]
                            | rw [if_neg (by omega), if_neg (by omega), if_neg (by omega), if_neg (by omega), if_neg (by omega), if_neg (by omega), if_neg (by omega), if_neg (by omega), if_pos (by omega)]
                            | rw [if_neg (by omega), if_neg (by omega), if_neg (by omega), if_neg (by omega), if_neg (by omega), if_neg (by omega), if_neg (by omega), if_neg (by omega), if_neg (by omega)]
                          · have hb74p := hb74.h; try simp only [al_ete, al_dfn, Bool.not_eq_true', Bool.not_eq_false', al_ne, Bool.not_not, al_nn] at hb74p
                            refine W_region rfl ?_
                            refine WO_p (PS_eql rfl rfl) ?_
                            refine WO_p (PS_assign_bool rfl) ?_
                            refine WO_nil ?_
                            refine thn_normal ?_
                            refine W_if rfl (fun hb79 => ?_) (fun hb79 => ?_)
                            · have hb79p := hb79.h; try simp only [al_ete, al_dfn, Bool.not_eq_true', Bool.not_eq_false', al_ne, Bool.not_not, al_nn] at hb79p
                              refine W_seq ?_
                              refine W_region rfl ?_
                              refine WO_p (PS_move_ptr rfl) ?_
                              refine WO_p (PS_move_ptr rfl) ?_
                              refine WO_call Hvad.call160 (by rfl) (Ret.mono (arg_spec C c v B m t f _ _ (MS.ext hM (by repeat (first | assumption | exact Ext.refl _ | refine Ext.alloc ?_ _ | refine Ext.drew ?_ | refine Ext.setB ?_ (by first | omega | (simp only [size_alloc, size_setB, size_drew]; omega)) _ | exact Ext.trans (by assumption) (by assumption) | refine Ext.trans ?_ (by assumption)))) hA (by omega)) ?_)
                              rintro _ w160_79 ⟨hE160_79, rfl⟩
                              have hz160_79 := hE160_79.1
                              refine WO_p (PS_buildI (k := .u64) (zs := [0, 0, 0, 0]) (ps := [(0, _)]) (L := [_, 0, 0, 0]) Hvad.zeroValue59 Hvad.runUnderlying59 Hvad.sizeOf26 rfl rfl rfl rfl) ?_
                              refine WO_call Hvad.call240 (by rfl) (Ret.mono (reach_spec _ _ _ (by first | assumption | exact argW_wd hM.ty _ _ | exact Wd32 | exact Wd1) (by first | assumption | exact argW_wd hM.ty _ _ | exact Wd32 | exact Wd1)) ?_)
                              rintro _ w240_80 ⟨hE240_80, rfl⟩
                              have hz240_80 := hE240_80.1
                              refine WO_p (PS_extract_int rfl rfl) ?_
                              refine WO_p (PS_extract_bool rfl rfl) ?_
                              refine WO_p (PS_assign_int rfl) ?_
                              refine WO_p (PS_assign_bool rfl) ?_
                              refine WO_nil ?_
                              refine thn_normal ?_
                              refine W_ret ?_
                              refine inBlk_ret ?_
                              refine thn_ret ?_
                              refine bodyQ_ret2 Hvad.results163 rfl rfl (.int _ _) (.bool _) rfl rfl ?_
                              refine ⟨(by repeat (first | assumption | exact Ext.refl _ | refine Ext.alloc ?_ _ | refine Ext.drew ?_ | refine Ext.setB ?_ (by first | omega | (simp only [size_alloc, size_setB, size_drew]; omega)) _ | refine Ext.trans ?_ (by assumption))), ?_⟩
                              unfold reachesW
                              first
                              | rw [if_pos (by omega)]
                              | rw [if_neg (by omega), if_pos (by omega)]
                              | rw [if_neg (by omega), if_neg (by omega), if_pos (by omega)]
                              | rw [if_neg (by omega), if_neg (by omega), if_neg (by omega), if_pos (by omega)]
                              | rw [if_neg (by omega), if_neg (by omega), if_neg (by omega), if_neg (by omega), if_pos (by omega)]
                              | rw [if_neg (by omega), if_neg (by omega), if_neg (by omega), if_neg (by omega), if_neg (by omega), if_pos (by omega)]
                              | rw [if_neg (by omega), if_neg (by omega), if_neg (by omega), if_neg (by omega), if_neg (by omega), if_neg (by omega), if_pos (by omega)]
                              | rw [if_neg (by omega), if_neg (by omega), if_neg (by omega), if_neg (by omega), if_neg (by omega), if_neg (by omega), if_neg (by omega), if_pos (by omega)]
                              | rw [if_neg (by omega), if_neg (by omega), if_neg (by omega), if_neg (by omega), if_neg (by omega), if_neg (by omega), if_neg (by omega), if_neg (by omega), if_pos (by omega)]
                              | rw [if_neg (by omega), if_neg (by omega), if_neg (by omega), if_neg (by omega), if_neg (by omega), if_neg (by omega), if_neg (by omega), if_neg (by omega), if_neg (by omega)]
                            · have hb79p := hb79.h; try simp only [al_ete, al_dfn, Bool.not_eq_true', Bool.not_eq_false', al_ne, Bool.not_not, al_nn] at hb79p
                              refine W_seq ?_
                              refine W_region rfl ?_
                              refine WO_p (PS_eql rfl rfl) ?_
                              refine WO_p (PS_assign_bool rfl) ?_
                              refine WO_nil ?_
                              refine thn_normal ?_
                              refine W_if rfl (fun hb84 => ?_) (fun hb84 => ?_)
                              · have hb84p := hb84.h; try simp only [al_ete, al_dfn, Bool.not_eq_true', Bool.not_eq_false', al_ne, Bool.not_not, al_nn] at hb84p
                                refine W_seq ?_
                                refine W_region rfl ?_
                                refine WO_p (PS_move_ptr rfl) ?_
                                refine WO_p (PS_move_ptr rfl) ?_
                                refine WO_call Hvad.call160 (by rfl) (Ret.mono (arg_spec C c v B m t f _ _ (MS.ext hM (by repeat (first | assumption | exact Ext.refl _ | refine Ext.alloc ?_ _ | refine Ext.drew ?_ | refine Ext.setB ?_ (by first | omega | (simp only [size_alloc, size_setB, size_drew]; omega)) _ | exact Ext.trans (by assumption) (by assumption) | refine Ext.trans ?_ (by assumption)))) hA (by omega)) ?_)
                                rintro _ w160_84 ⟨hE160_84, rfl⟩
                                have hz160_84 := hE160_84.1
                                refine WO_p (PS_buildI (k := .u64) (zs := [0, 0, 0, 0]) (ps := [(0, _)]) (L := [_, 0, 0, 0]) Hvad.zeroValue59 Hvad.runUnderlying59 Hvad.sizeOf26 rfl rfl rfl rfl) ?_
                                refine WO_call Hvad.call240 (by rfl) (Ret.mono (reach_spec _ _ _ (by first | assumption | exact argW_wd hM.ty _ _ | exact Wd32 | exact Wd1) (by first | assumption | exact argW_wd hM.ty _ _ | exact Wd32 | exact Wd1)) ?_)
                                rintro _ w240_85 ⟨hE240_85, rfl⟩
                                have hz240_85 := hE240_85.1
                                refine WO_p (PS_extract_int rfl rfl) ?_
                                refine WO_p (PS_extract_bool rfl rfl) ?_
                                refine WO_p (PS_assign_int rfl) ?_
                                refine WO_p (PS_assign_bool rfl) ?_
                                refine WO_nil ?_
                                refine thn_normal ?_
                                refine W_ret ?_
                                refine inBlk_ret ?_
                                refine thn_ret ?_
                                refine bodyQ_ret2 Hvad.results163 rfl rfl (.int _ _) (.bool _) rfl rfl ?_
                                refine ⟨(by repeat (first | assumption | exact Ext.refl _ | refine Ext.alloc ?_ _ | refine Ext.drew ?_ | refine Ext.setB ?_ (by first | omega | (simp only [size_alloc, size_setB, size_drew]; omega)) _ | refine Ext.trans ?_ (by assumption))), ?_⟩
                                unfold reachesW
                                first
                                | rw [if_pos (by omega)]
                                | rw [if_neg (by omega), if_pos (by omega)]
                                | rw [if_neg (by omega), if_neg (by omega), if_pos (by omega)]
                                | rw [if_neg (by omega), if_neg (by omega), if_neg (by omega), if_pos (by omega)]
                                | rw [if_neg (by omega), if_neg (by omega), if_neg (by omega), if_neg (by omega), if_pos (by omega)]
                                | rw [if_neg (by omega), if_neg (by omega), if_neg (by omega), if_neg (by omega), if_neg (by omega), if_pos (by omega)]
                                | rw [if_neg (by omega), if_neg (by omega), if_neg (by omega), if_neg (by omega), if_neg (by omega), if_neg (by omega), if_pos (by omega)]
                                | rw [if_neg (by omega), if_neg (by omega), if_neg (by omega), if_neg (by omega), if_neg (by omega), if_neg (by omega), if_neg (by omega), if_pos (by omega)]
                                | rw [if_neg (by omega), if_neg (by omega), if_neg (by omega), if_neg (by omega), if_neg (by omega), if_neg (by omega), if_neg (by omega), if_neg (by omega), if_pos (by omega)]
                                | rw [if_neg (by omega), if_neg (by omega), if_neg (by omega), if_neg (by omega), if_neg (by omega), if_neg (by omega), if_neg (by omega), if_neg (by omega), if_neg (by omega)]
                              · have hb84p := hb84.h; try simp only [al_ete, al_dfn, Bool.not_eq_true', Bool.not_eq_false', al_ne, Bool.not_not, al_nn] at hb84p
                                refine W_seq ?_
                                refine W_region rfl ?_
                                refine WO_p (PS_eql rfl rfl) ?_
                                refine WO_p (PS_assign_bool rfl) ?_
                                refine WO_nil ?_
                                refine thn_normal ?_
                                refine W_if rfl (fun hb89 => ?_) (fun hb89 => ?_)
                                · have hb89p := hb89.h; try simp only [al_ete, al_dfn, Bool.not_eq_true', Bool.not_eq_false', al_ne, Bool.not_not, al_nn] at hb89p
                                  refine W_seq ?_
                                  refine W_region rfl ?_
                                  refine WO_p (PS_move_ptr rfl) ?_
                                  refine WO_p (PS_move_ptr rfl) ?_
                                  refine WO_call Hvad.call160 (by rfl) (Ret.mono (arg_spec C c v B m t f _ _ (MS.ext hM (by repeat (first | assumption | exact Ext.refl _ | refine Ext.alloc ?_ _ | refine Ext.drew ?_ | refine Ext.setB ?_ (by first | omega | (simp only [size_alloc, size_setB, size_drew]; omega)) _ | exact Ext.trans (by assumption) (by assumption) | refine Ext.trans ?_ (by assumption)))) hA (by omega)) ?_)
                                  rintro _ w160_89 ⟨hE160_89, rfl⟩
                                  have hz160_89 := hE160_89.1
                                  refine WO_p (PS_move_ptr rfl) ?_
                                  refine WO_p (PS_move_ptr rfl) ?_
                                  refine WO_call Hvad.call160 (by rfl) (Ret.mono (arg_spec C c v B m t f _ _ (MS.ext hM (by repeat (first | assumption | exact Ext.refl _ | refine Ext.alloc ?_ _ | refine Ext.drew ?_ | refine Ext.setB ?_ (by first | omega | (simp only [size_alloc, size_setB, size_drew]; omega)) _ | exact Ext.trans (by assumption) (by assumption) | refine Ext.trans ?_ (by assumption)))) hA (by omega)) ?_)
                                  rintro _ w160_90 ⟨hE160_90, rfl⟩
                                  have hz160_90 := hE160_90.1
                                  refine WO_p (PS_move_ptr rfl) ?_
                                  refine WO_p (PS_move_ptr rfl) ?_
                                  refine WO_call Hvad.call160 (by rfl) (Ret.mono (arg_spec C c v B m t f _ _ (MS.ext hM (by repeat (first | assumption | exact Ext.refl _ | refine Ext.alloc ?_ _ | refine Ext.drew ?_ | refine Ext.setB ?_ (by first | omega | (simp only [size_alloc, size_setB, size_drew]; omega)) _ | exact Ext.trans (by assumption) (by assumption) | refine Ext.trans ?_ (by assumption)))) hA (by omega)) ?_)
                                  rintro _ w160_91 ⟨hE160_91, rfl⟩
                                  have hz160_91 := hE160_91.1
                                  refine WO_p (PS_move_ptr rfl) ?_
                                  refine WO_p (PS_move_ptr rfl) ?_
                                  refine WO_call Hvad.call160 (by rfl) (Ret.mono (arg_spec C c v B m t f _ _ (MS.ext hM (by repeat (first | assumption | exact Ext.refl _ | refine Ext.alloc ?_ _ | refine Ext.drew ?_ | refine Ext.setB ?_ (by first | omega | (simp only [size_alloc, size_setB, size_drew]; omega)) _ | exact Ext.trans (by assumption) (by assumption) | refine Ext.trans ?_ (by assumption)))) hA (by omega)) ?_)
                                  rintro _ w160_92 ⟨hE160_92, rfl⟩
                                  have hz160_92 := hE160_92.1
                                  refine WO_call Hvad.call241 (by rfl) (Ret.mono (reach2_spec _ _ _ _ _ (by first | assumption | exact argW_wd hM.ty _ _ | exact Wd0) (by first | assumption | exact argW_wd hM.ty _ _ | exact Wd0) (by first | assumption | exact argW_wd hM.ty _ _ | exact Wd0) (by first | assumption | exact argW_wd hM.ty _ _ | exact Wd0)) ?_)
                                  rintro _ w241_93 ⟨hE241_93, rfl⟩
                                  have hz241_93 := hE241_93.1
                                  refine WO_p (PS_extract_int rfl rfl) ?_
                                  refine WO_p (PS_extract_bool rfl rfl) ?_
                                  refine WO_p (PS_assign_int rfl) ?_
                                  refine WO_p (PS_assign_bool rfl) ?_
                                  refine WO_nil ?_
                                  refine thn_normal ?_
                                  refine W_ret ?_
                                  refine inBlk_ret ?_
                                  refine thn_ret ?_
                                  refine bodyQ_ret2 Hvad.results163 rfl rfl (.int _ _) (.bool _) rfl rfl ?_
                                  refine ⟨(by repeat (first | assumption | exact Ext.refl _ | refine Ext.alloc ?_ _ | refine Ext.drew ?_ | refine Ext.setB ?_ (by first | omega | (simp only [size_alloc, size_setB, size_drew]; omega)) _ | refine Ext.trans ?_ (by assumption))), ?_⟩
                                  unfold reachesW
                                  first
                                  | rw [if_pos (by omega)]
                                  | rw [if_neg (by omega), if_pos (by omega)]
                                  | rw [if_neg (by omega), if_neg (by omega), if_pos (by omega)]
                                  | rw [if_neg (by omega), if_neg (by omega), if_neg (by omega), if_pos (by omega)]
                                  | rw [if_neg (by omega), if_neg (by omega), if_neg (by omega), if_neg (by omega), if_pos (by omega)]
                                  | rw [if_neg (by omega), if_neg (by omega), if_neg (by omega), if_neg (by omega), if_neg (by omega), if_pos (by omega)]
                                  | rw [if_neg (by omega), if_neg (by omega), if_neg (by omega), if_neg (by omega), if_neg (by omega), if_neg (by omega), if_pos (by omega)]
                                  | rw [if_neg (by omega), if_neg (by omega), if_neg (by omega), if_neg (by omega), if_neg (by omega), if_neg (by omega), if_neg (by omega), if_pos (by omega)]
                                  | rw [if_neg (by omega), if_neg (by omega), if_neg (by omega), if_neg (by omega), if_neg (by omega), if_neg (by omega), if_neg (by omega), if_neg (by omega), if_pos (by omega)]
                                  | rw [if_neg (by omega), if_neg (by omega), if_neg (by omega), if_neg (by omega), if_neg (by omega), if_neg (by omega), if_neg (by omega), if_neg (by omega), if_neg (by omega)]
                                · have hb89p := hb89.h; try simp only [al_ete, al_dfn, Bool.not_eq_true', Bool.not_eq_false', al_ne, Bool.not_not, al_nn] at hb89p
                                  refine W_seq ?_
                                  refine W_seq ?_
                                  refine W_region rfl ?_
                                  refine WO_p (PS_eql rfl rfl) ?_
                                  refine WO_p (PS_assign_bool rfl) ?_
                                  refine WO_nil ?_
                                  refine thn_normal ?_
                                  refine W_if rfl (fun hb97 => ?_) (fun hb97 => ?_)
                                  · have hb97p := hb97.h; try simp only [al_ete, al_dfn, Bool.not_eq_true', Bool.not_eq_false', al_ne, Bool.not_not, al_nn] at hb97p
                                    refine W_skip ?_
                                    refine thn_normal ?_
                                    refine W_condT rfl hb97.h ?_
                                    refine W_seq ?_
                                    refine W_region rfl ?_
                                    refine WO_p (PS_move_ptr rfl) ?_
                                    refine WO_p (PS_move_ptr rfl) ?_
                                    refine WO_call Hvad.call160 (by rfl) (Ret.mono (arg_spec C c v B m t f _ _ (MS.ext hM (by repeat (first | assumption | exact Ext.refl _ | refine Ext.alloc ?_ _ | refine Ext.drew ?_ | refine Ext.setB ?_ (by first | omega | (simp only [size_alloc, size_setB, size_drew]; omega)) _ | exact Ext.trans (by assumption) (by assumption) | refine Ext.trans ?_ (by assumption)))) hA (by omega)) ?_)
                                    rintro _ w160_97 ⟨hE160_97, rfl⟩
                                    have hz160_97 := hE160_97.1
                                    refine WO_p (PS_move_ptr rfl) ?_
                                    refine WO_p (PS_move_ptr rfl) ?_
                                    refine WO_call Hvad.call160 (by rfl) (Ret.mono (arg_spec C c v B m t f _ _ (MS.ext hM (by repeat (first | assumption | exact Ext.refl _ | refine Ext.alloc ?_ _ | refine Ext.drew ?_ | refine Ext.setB ?_ (by first | omega | (simp only [size_alloc, size_setB, size_drew]; omega)) _ | exact Ext.trans (by assumption) (by assumption) | refine Ext.trans ?_ (by assumption)))) hA (by omega)) ?_)
                                    rintro _ w160_98 ⟨hE160_98, rfl⟩
                                    have hz160_98 := hE160_98.1
                                    refine WO_call Hvad.call240 (by rfl) (Ret.mono (reach_spec _ _ _ (by first | assumption | exact argW_wd hM.ty _ _ | exact Wd32 | exact Wd1) (by first | assumption | exact argW_wd hM.ty _ _ | exact Wd32 | exact Wd1)) ?_)
                                    rintro _ w240_99 ⟨hE240_99, rfl⟩
                                    have hz240_99 := hE240_99.1
                                    refine WO_p (PS_extract_int rfl rfl) ?_
                                    refine WO_p (PS_extract_bool rfl rfl) ?_
                                    refine WO_p (PS_assign_int rfl) ?_
                                    refine WO_p (PS_assign_bool rfl) ?_
                                    refine WO_nil ?_
                                    refine thn_normal ?_
                                    refine W_ret ?_
                                    refine inBlk_ret ?_
                                    refine thn_ret ?_
                                    refine bodyQ_ret2 Hvad.results163 rfl rfl (.int _ _) (.bool _) rfl rfl ?_
                                    refine ⟨(by repeat (first | assumption | exact Ext.refl _ | refine Ext.alloc ?_ _ | refine Ext.drew ?_ | refine Ext.setB ?_ (by first | omega | (simp only [size_alloc, size_setB, size_drew]; omega)) _ | refine Ext.trans ?_ (by assumption))), ?_⟩
                                    unfold reachesW
                                    first
                                    | rw [if_pos (by omega)]
                                    | rw [if_neg (by omega), if_pos (by omega)]
                                    | rw [if_neg (by omega), if_neg (by omega), if_pos (by omega)]
                                    | rw [if_neg (by omega), if_neg (by omega), if_neg (by omega), if_pos (by omega)]
                                    | rw [if_neg (by omega), if_neg (by omega), if_neg (by omega), if_neg (by omega), if_pos (by omega)]
                                    | rw [if_neg (by omega), if_neg (by omega), if_neg (by omega), if_neg (by omega), if_neg (by omega), if_pos (by omega)]
                                    | rw [if_neg (by omega), if_neg (by omega), if_neg (by omega), if_neg (by omega), if_neg (by omega), if_neg (by omega), if_pos (by omega)]
                                    | rw [if_neg (by omega), if_neg (by omega), if_neg (by omega), if_neg (by omega), if_neg (by omega), if_neg (by omega), if_neg (by omega), if_pos (by omega)]
                                    | rw [if_neg (by omega), if_neg (by omega), if_neg (by omega), if_neg (by omega), if_neg (by omega), if_neg (by omega), if_neg (by omega), if_neg (by omega), if_pos (by omega)]
                                    | rw [if_neg (by omega), if_neg (by omega), if_neg (by omega), if_neg (by omega), if_neg (by omega), if_neg (by omega), if_neg (by omega), if_neg (by omega), if_neg (by omega)]
                                  · have hb97p := hb97.h; try simp only [al_ete, al_dfn, Bool.not_eq_true', Bool.not_eq_false', al_ne, Bool.not_not, al_nn] at hb97p
                                    refine W_region rfl ?_
                                    refine WO_p (PS_eql rfl rfl) ?_
                                    refine WO_p (PS_assign_bool rfl) ?_
                                    refine WO_nil ?_
                                    refine thn_normal ?_
                                    refine W_if rfl (fun hb103 => ?_) (fun hb103 => ?_)
                                    · have hb103p := hb103.h; try simp only [al_ete, al_dfn, Bool.not_eq_true', Bool.not_eq_false', al_ne, Bool.not_not, al_nn] at hb103p
                                      refine W_seq ?_
                                      refine W_region rfl ?_
                                      refine WO_p (PS_move_ptr rfl) ?_
                                      refine WO_p (PS_move_ptr rfl) ?_
                                      refine WO_call Hvad.call160 (by rfl) (Ret.mono (arg_spec C c v B m t f _ _ (MS.ext hM (by repeat (first | assumption | exact Ext.refl _ | refine Ext.alloc ?_ _ | refine Ext.drew ?_ | refine Ext.setB ?_ (by first | omega | (simp only [size_alloc, size_setB, size_drew]; omega)) _ | exact Ext.trans (by assumption) (by assumption) | refine Ext.trans ?_ (by assumption)))) hA (by omega)) ?_)
                                      rintro _ w160_103 ⟨hE160_103, rfl⟩
                                      have hz160_103 := hE160_103.1
                                      refine WO_p (PS_move_ptr rfl) ?_
                                      refine WO_p (PS_move_ptr rfl) ?_
                                      refine WO_call Hvad.call160 (by rfl) (Ret.mono (arg_spec C c v B m t f _ _ (MS.ext hM (by repeat (first | assumption | exact Ext.refl _ | refine Ext.alloc ?_ _ | refine Ext.drew ?_ | refine Ext.setB ?_ (by first | omega | (simp only [size_alloc, size_setB, size_drew]; omega)) _ | exact Ext.trans (by assumption) (by assumption) | refine Ext.trans ?_ (by assumption)))) hA (by omega)) ?_)
                                      rintro _ w160_104 ⟨hE160_104, rfl⟩
                                      have hz160_104 := hE160_104.1
                                      refine WO_call Hvad.call240 (by rfl) (Ret.mono (reach_spec _ _ _ (by first | assumption | exact argW_wd hM.ty _ _ | exact Wd32 | exact Wd1) (by first | assumption | exact argW_wd hM.ty _ _ | exact Wd32 | exact Wd1)) ?_)
                                      rintro _ w240_105 ⟨hE240_105, rfl⟩
                                      have hz240_105 := hE240_105.1
                                      refine WO_p (PS_extract_int rfl rfl) ?_
                                      refine WO_p (PS_extract_bool rfl rfl) ?_
                                      refine WO_p (PS_assign_int rfl) ?_
                                      refine WO_p (PS_assign_bool rfl) ?_
                                      refine WO_nil ?_
                                      refine thn_normal ?_
                                      refine W_ret ?_
                                      refine inBlk_ret ?_
                                      refine thn_ret ?_
                                      refine bodyQ_ret2 Hvad.results163 rfl rfl (.int _ _) (.bool _) rfl rfl ?_
                                      refine ⟨(by repeat (first | assumption | exact Ext.refl _ | refine Ext.alloc ?_ _ | refine Ext.drew ?_ | refine Ext.setB ?_ (by first | omega | (simp only [size_alloc, size_setB, size_drew]; omega)) _ | refine Ext.trans ?_ (by assumption))), ?_⟩
                                      unfold reachesW
                                      first
                                      | rw [if_pos (by omega)]
                                      | rw [if_neg (by omega), if_pos (by omega)]
                                      | rw [if_neg (by omega), if_neg (by omega), if_pos (by omega)]
                                      | rw [if_neg (by omega), if_neg (by omega), if_neg (by omega), if_pos (by omega)]
                                      | rw [if_neg (by omega), if_neg (by omega), if_neg (by omega), if_neg (by omega), if_pos (by omega)]
                                      | rw [if_neg (by omega), if_neg (by omega), if_neg (by omega), if_neg (by omega), if_neg (by omega), if_pos (by omega)]
                                      | rw [if_neg (by omega), if_neg (by omega), if_neg (by omega), if_neg (by omega), if_neg (by omega), if_neg (by omega), if_pos (by omega)]
                                      | rw [if_neg (by omega), if_neg (by omega), if_neg (by omega), if_neg (by omega), if_neg (by omega), if_neg (by omega), if_neg (by omega), if_pos (by omega)]
                                      | rw [if_neg (by omega), if_neg (by omega), if_neg (by omega), if_neg (by omega), if_neg (by omega), if_neg (by omega), if_neg (by omega), if_neg (by omega), if_pos (by omega)]
                                      | rw [if_neg (by omega), if_neg (by omega), if_neg (by omega), if_neg (by omega), if_neg (by omega), if_neg (by omega), if_neg (by omega), if_neg (by omega), if_neg (by omega)]
                                    · have hb103p := hb103.h; try simp only [al_ete, al_dfn, Bool.not_eq_true', Bool.not_eq_false', al_ne, Bool.not_not, al_nn] at hb103p
                                      refine W_seq ?_
                                      refine W_seq ?_
                                      refine W_region rfl ?_
                                      refine WO_p (PS_eql rfl rfl) ?_
                                      refine WO_p (PS_assign_bool rfl) ?_
                                      refine WO_nil ?_
                                      refine thn_normal ?_
                                      refine W_if rfl (fun hb109 => ?_) (fun hb109 => ?_)
                                      · have hb109p := hb109.h; try simp only [al_ete, al_dfn, Bool.not_eq_true', Bool.not_eq_false', al_ne, Bool.not_not, al_nn] at hb109p
                                        refine W_skip ?_
                                        refine thn_normal ?_
                                        refine W_condT rfl hb109.h ?_
                                        refine W_seq ?_
                                        refine W_region rfl ?_
                                        refine WO_p (PS_move_ptr rfl) ?_
                                        refine WO_p (PS_move_ptr rfl) ?_
                                        refine WO_call Hvad.call160 (by rfl) (Ret.mono (arg_spec C c v B m t f _ _ (MS.ext hM (by repeat (first | assumption | exact Ext.refl _ | refine Ext.alloc ?_ _ | refine Ext.drew ?_ | refine Ext.setB ?_ (by first | omega | (simp only [size_alloc, size_setB, size_drew]; omega)) _ | exact Ext.trans (by assumption) (by assumption) | refine Ext.trans ?_ (by assumption)))) hA (by omega)) ?_)
                                        rintro _ w160_109 ⟨hE160_109, rfl⟩
                                        have hz160_109 := hE160_109.1
                                        refine WO_p (PS_move_ptr rfl) ?_
                                        refine WO_p (PS_move_ptr rfl) ?_
                                        refine WO_call Hvad.call160 (by rfl) (Ret.mono (arg_spec C c v B m t f _ _ (MS.ext hM (by repeat (first | assumption | exact Ext.refl _ | refine Ext.alloc ?_ _ | refine Ext.drew ?_ | refine Ext.setB ?_ (by first | omega | (simp only [size_alloc, size_setB, size_drew]; omega)) _ | exact Ext.trans (by assumption) (by assumption) | refine Ext.trans ?_ (by assumption)))) hA (by omega)) ?_)
                                        rintro _ w160_110 ⟨hE160_110, rfl⟩
                                        have hz160_110 := hE160_110.1
                                        refine WO_p (PS_move_ptr rfl) ?_
                                        refine WO_p (PS_move_ptr rfl) ?_
                                        refine WO_call Hvad.call160 (by rfl) (Ret.mono (arg_spec C c v B m t f _ _ (MS.ext hM (by repeat (first | assumption | exact Ext.refl _ | refine Ext.alloc ?_ _ | refine Ext.drew ?_ | refine Ext.setB ?_ (by first | omega | (simp only [size_alloc, size_setB, size_drew]; omega)) _ | exact Ext.trans (by assumption) (by assumption) | refine Ext.trans ?_ (by assumption)))) hA (by omega)) ?_)
                                        rintro _ w160_111 ⟨hE160_111, rfl⟩
                                        have hz160_111 := hE160_111.1
                                        refine WO_p (PS_move_ptr rfl) ?_
                                        refine WO_p (PS_move_ptr rfl) ?_
                                        refine WO_call Hvad.call160 (by rfl) (Ret.mono (arg_spec C c v B m t f _ _ (MS.ext hM (by repeat (first | assumption | exact Ext.refl _ | refine Ext.alloc ?_ _ | refine Ext.drew ?_ | refine Ext.setB ?_ (by first | omega | (simp only [size_alloc, size_setB, size_drew]; omega)) _ | exact Ext.trans (by assumption) (by assumption) | refine Ext.trans ?_ (by assumption)))) hA (by omega)) ?_)
                                        rintro _ w160_112 ⟨hE160_112, rfl⟩
                                        have hz160_112 := hE160_112.1
                                        refine WO_call Hvad.call241 (by rfl) (Ret.mono (reach2_spec _ _ _ _ _ (by first | assumption | exact argW_wd hM.ty _ _ | exact Wd0) (by first | assumption | exact argW_wd hM.ty _ _ | exact Wd0) (by first | assumption | exact argW_wd hM.ty _ _ | exact Wd0) (by first | assumption | exact argW_wd hM.ty _ _ | exact Wd0)) ?_)
                                        rintro _ w241_113 ⟨hE241_113, rfl⟩
                                        have hz241_113 := hE241_113.1
                                        refine WO_p (PS_extract_int rfl rfl) ?_
                                        refine WO_p (PS_extract_bool rfl rfl) ?_
                                        refine WO_p (PS_assign_int rfl) ?_
                                        refine WO_p (PS_assign_bool rfl) ?_
                                        refine WO_nil ?_
                                        refine thn_normal ?_
                                        refine W_ret ?_
                                        refine inBlk_ret ?_
                                        refine thn_ret ?_
                                        refine bodyQ_ret2 Hvad.results163 rfl rfl (.int _ _) (.bool _) rfl rfl ?_
                                        refine ⟨(by repeat (first | assumption | exact Ext.refl _ | refine Ext.alloc ?_ _ | refine Ext.drew ?_ | refine Ext.setB ?_ (by first | omega | (simp only [size_alloc, size_setB, size_drew]; omega)) _ | refine Ext.trans ?_ (by assumption))), ?_⟩
                                        unfold reachesW
                                        first
                                        | rw [if_pos (by omega)]
                                        | rw [if_neg (by omega), if_pos (by omega)]
                                        | rw [if_neg (by omega), if_neg (by omega), if_pos (by omega)]
                                        | rw [if_neg (by omega), if_neg (by omega), if_neg (by omega), if_pos (by omega)]
                                        | rw [if_neg (by omega), if_neg (by omega), if_neg (by omega), if_neg (by omega), if_pos (by omega)]
                                        | rw [if_neg (by omega), if_neg (by omega), if_neg (by omega), if_neg (by omega), if_neg (by omega), if_pos (by omega)]
                                        | rw [if_neg (by omega), if_neg (by omega), if_neg (by omega), if_neg (by omega), if_neg (by omega), if_neg (by omega), if_pos (by omega)]
                                        | rw [if_neg (by omega), if_neg (by omega), if_neg (by omega), if_neg (by omega), if_neg (by omega), if_neg (by omega), if_neg (by omega), if_pos (by omega)]
                                        | rw [if_neg (by omega), if_neg (by omega), if_neg (by omega), if_neg (by omega), if_neg (by omega), if_neg (by omega), if_neg (by omega), if_neg (by omega), if_pos (by omega)]
                                        | rw [if_neg (by omega), if_neg (by omega), if_neg (by omega), if_neg (by omega), if_neg (by omega), if_neg (by omega), if_neg (by omega), if_neg (by omega), if_neg (by omega)]
                                      · have hb109p := hb109.h; try simp only [al_ete, al_dfn, Bool.not_eq_true', Bool.not_eq_false', al_ne, Bool.not_not, al_nn] at hb109p
                                        refine W_region rfl ?_
                                        refine WO_p (PS_eql rfl rfl) ?_
                                        refine WO_p (PS_assign_bool rfl) ?_
                                        refine WO_nil ?_
                                        refine thn_normal ?_
                                        refine W_if rfl (fun hb117 => ?_) (fun hb117 => ?_)
                                        · have hb117p := hb117.h; try simp only [al_ete, al_dfn, Bool.not_eq_true', Bool.not_eq_false', al_ne, Bool.not_not, al_nn] at hb117p
                                          refine W_seq ?_
                                          refine W_region rfl ?_
                                          refine WO_p (PS_move_ptr rfl) ?_
                                          refine WO_p (PS_move_ptr rfl) ?_
                                          refine WO_call Hvad.call160 (by rfl) (Ret.mono (arg_spec C c v B m t f _ _ (MS.ext hM (by repeat (first | assumption | exact Ext.refl _ | refine Ext.alloc ?_ _ | refine Ext.drew ?_ | refine Ext.setB ?_ (by first | omega | (simp only [size_alloc, size_setB, size_drew]; omega)) _ | exact Ext.trans (by assumption) (by assumption) | refine Ext.trans ?_ (by assumption)))) hA (by omega)) ?_)
                                          rintro _ w160_117 ⟨hE160_117, rfl⟩
                                          have hz160_117 := hE160_117.1
                                          refine WO_p (PS_move_ptr rfl) ?_
                                          refine WO_p (PS_move_ptr rfl) ?_
                                          refine WO_call Hvad.call160 (by rfl) (Ret.mono (arg_spec C c v B m t f _ _ (MS.ext hM (by repeat (first | assumption | exact Ext.refl _ | refine Ext.alloc ?_ _ | refine Ext.drew ?_ | refine Ext.setB ?_ (by first | omega | (simp only [size_alloc, size_setB, size_drew]; omega)) _ | exact Ext.trans (by assumption) (by assumption) | refine Ext.trans ?_ (by assumption)))) hA (by omega)) ?_)
                                          rintro _ w160_118 ⟨hE160_118, rfl⟩
                                          have hz160_118 := hE160_118.1
                                          refine WO_p (PS_move_ptr rfl) ?_
                                          refine WO_p (PS_move_ptr rfl) ?_
                                          refine WO_call Hvad.call160 (by rfl) (Ret.mono (arg_spec C c v B m t f _ _ (MS.ext hM (by repeat (first | assumption | exact Ext.refl _ | refine Ext.alloc ?_ _ | refine Ext.drew ?_ | refine Ext.setB ?_ (by first | omega | (simp only [size_alloc, size_setB, size_drew]; omega)) _ | exact Ext.trans (by assumption) (by assumption) | refine Ext.trans ?_ (by assumption)))) hA (by omega)) ?_)
                                          rintro _ w160_119 ⟨hE160_119, rfl⟩
                                          have hz160_119 := hE160_119.1
                                          refine WO_p (PS_move_ptr rfl) ?_
                                          refine WO_p (PS_move_ptr rfl) ?_
                                          refine WO_call Hvad.call160 (by rfl) (Ret.mono (arg_spec C c v B m t f _ _ (MS.ext hM (by repeat (first | assumption | exact Ext.refl _ | refine Ext.alloc ?_ _ | refine Ext.drew ?_ | refine Ext.setB ?_ (by first | omega | (simp only [size_alloc, size_setB, size_drew]; omega)) _ | exact Ext.trans (by assumption) (by assumption) | refine Ext.trans ?_ (by assumption)))) hA (by omega)) ?_)
                                          rintro _ w160_120 ⟨hE160_120, rfl⟩
                                          have hz160_120 := hE160_120.1
                                          refine WO_call Hvad.call241 (by rfl) (Ret.mono (reach2_spec _ _ _ _ _ (by first | assumption | exact argW_wd hM.ty _ _ | exact Wd0) (by first | assumption | exact argW_wd hM.ty _ _ | exact Wd0) (by first | assumption | exact argW_wd hM.ty _ _ | exact Wd0) (by first | assumption | exact argW_wd hM.ty _ _ | exact Wd0)) ?_)
                                          rintro _ w241_121 ⟨hE241_121, rfl⟩
                                          have hz241_121 := hE241_121.1
                                          refine WO_p (PS_extract_int rfl rfl) ?_
                                          refine WO_p (PS_extract_bool rfl rfl) ?_
                                          refine WO_p (PS_assign_int rfl) ?_
                                          refine WO_p (PS_assign_bool rfl) ?_
                                          refine WO_nil ?_
                                          refine thn_normal ?_
                                          refine W_ret ?_
                                          refine inBlk_ret ?_
                                          refine thn_ret ?_
                                          refine bodyQ_ret2 Hvad.results163 rfl rfl (.int _ _) (.bool _) rfl rfl ?_
                                          refine ⟨(by repeat (first | assumption | exact Ext.refl _ | refine Ext.alloc ?_ _ | refine Ext.drew ?_ | refine Ext.setB ?_ (by first | omega | (simp only [size_alloc, size_setB, size_drew]; omega)) _ | refine Ext.trans ?_ (by assumption))), ?_⟩
                                          unfold reachesW
                                          first
                                          | rw [if_pos (by omega)]
                                          | rw [if_neg (by omega), if_pos (by omega)]
                                          | rw [if_neg (by omega), if_neg (by omega), if_pos (by omega)]
                                          | rw [if_neg (by omega), if_neg (by omega), if_neg (by omega), if_pos (by omega)]
                                          | rw [if_neg (by omega), if_neg (by omega), if_neg (by omega), if_neg (by omega), if_pos (by omega)]
                                          | rw [if_neg (by omega), if_neg (by omega), if_neg (by omega), if_neg (by omega), if_neg (by omega), if_pos (by omega)]
                                          | rw [if_neg (by omega), if_neg (by omega), if_neg (by omega), if_neg (by omega), if_neg (by omega), if_neg (by omega), if_pos (by omega)]
                                          | rw [if_neg (by omega), if_neg (by omega), if_neg (by omega), if_neg (by omega), if_neg (by omega), if_neg (by omega), if_neg (by omega), if_pos (by omega)]
                                          | rw [if_neg (by omega), if_neg (by omega), if_neg (by omega), if_neg (by omega), if_neg (by omega), if_neg (by omega), if_neg (by omega), if_neg (by omega), if_pos (by omega)]
                                          | rw [if_neg (by omega), if_neg (by omega), if_neg (by omega), if_neg (by omega), if_neg (by omega), if_neg (by omega), if_neg (by omega), if_neg (by omega), if_neg (by omega)]
                                        · have hb117p := hb117.h; try simp only [al_ete, al_dfn, Bool.not_eq_true', Bool.not_eq_false', al_ne, Bool.not_not, al_nn] at hb117p
                                          refine W_seq ?_
                                          refine W_seq ?_
                                          refine W_region rfl ?_
                                          refine WO_p (PS_eql rfl rfl) ?_
                                          refine WO_p (PS_assign_bool rfl) ?_
                                          refine WO_nil ?_
                                          refine thn_normal ?_
                                          refine W_if rfl (fun hb125 => ?_) (fun hb125 => ?_)
                                          · have hb125p := hb125.h; try simp only [al_ete, al_dfn, Bool.not_eq_true', Bool.not_eq_false', al_ne, Bool.not_not, al_nn] at hb125p
                                            refine W_skip ?_
                                            refine thn_normal ?_
                                            refine W_condT rfl hb125.h ?_
                                            refine W_seq ?_
                                            refine W_region rfl ?_
                                            refine WO_p (PS_move_ptr rfl) ?_
                                            refine WO_p (PS_move_ptr rfl) ?_
                                            refine WO_call Hvad.call160 (by rfl) (Ret.mono (arg_spec C c v B m t f _ _ (MS.ext hM (by repeat (first | assumption | exact Ext.refl _ | refine Ext.alloc ?_ _ | refine Ext.drew ?_ | refine Ext.setB ?_ (by first | omega | (simp only [size_alloc, size_setB, size_drew]; omega)) _ | exact Ext.trans (by assumption) (by assumption) | refine Ext.trans ?_ (by assumption)))) hA (by omega)) ?_)
                                            rintro _ w160_125 ⟨hE160_125, rfl⟩
                                            have hz160_125 := hE160_125.1
                                            refine WO_p (PS_move_ptr rfl) ?_
                                            refine WO_p (PS_move_ptr rfl) ?_
                                            refine WO_call Hvad.call160 (by rfl) (Ret.mono (arg_spec C c v B m t f _ _ (MS.ext hM (by repeat (first | assumption | exact Ext.refl _ | refine Ext.alloc ?_ _ | refine Ext.drew ?_ | refine Ext.setB ?_ (by first | omega | (simp only [size_alloc, size_setB, size_drew]; omega)) _ | exact Ext.trans (by assumption) (by assumption) | refine Ext.trans ?_ (by assumption)))) hA (by omega)) ?_)
                                            rintro _ w160_126 ⟨hE160_126, rfl⟩
                                            have hz160_126 := hE160_126.1
                                            refine WO_p (PS_move_ptr rfl) ?_
                                            refine WO_p (PS_move_ptr rfl) ?_
                                            refine WO_call Hvad.call160 (by rfl) (Ret.mono (arg_spec C c v B m t f _ _ (MS.ext hM (by repeat (first | assumption | exact Ext.refl _ | refine Ext.alloc ?_ _ | refine Ext.drew ?_ | refine Ext.setB ?_ (by first | omega | (simp only [size_alloc, size_setB, size_drew]; omega)) _ | exact Ext.trans (by assumption) (by assumption) | refine Ext.trans ?_ (by assumption)))) hA (by omega)) ?_)
                                            rintro _ w160_127 ⟨hE160_127, rfl⟩
                                            have hz160_127 := hE160_127.1
                                            refine WO_p (PS_move_ptr rfl) ?_
                                            refine WO_p (PS_move_ptr rfl) ?_
                                            refine WO_call Hvad.call160 (by rfl) (Ret.mono (arg_spec C c v B m t f _ _ (MS.ext hM (by repeat (first | assumption | exact Ext.refl _ | refine Ext.alloc ?_ _ | refine Ext.drew ?_ | refine Ext.setB ?_ (by first | omega | (simp only [size_alloc, size_setB, size_drew]; omega)) _ | exact Ext.trans (by assumption) (by assumption) | refine Ext.trans ?_ (by assumption)))) hA (by omega)) ?_)
                                            rintro _ w160_128 ⟨hE160_128, rfl⟩
                                            have hz160_128 := hE160_128.1
                                            refine WO_call Hvad.call241 (by rfl) (Ret.mono (reach2_spec _ _ _ _ _ (by first | assumption | exact argW_wd hM.ty _ _ | exact Wd0) (by first | assumption | exact argW_wd hM.ty _ _ | exact Wd0) (by first | assumption | exact argW_wd hM.ty _ _ | exact Wd0) (by first | assumption | exact argW_wd hM.ty _ _ | exact Wd0)) ?_)
                                            rintro _ w241_129 ⟨hE241_129, rfl⟩
                                            have hz241_129 := hE241_129.1
                                            refine WO_p (PS_extract_int rfl rfl) ?_
                                            refine WO_p (PS_extract_bool rfl rfl) ?_
                                            refine WO_p (PS_assign_int rfl) ?_
                                            refine WO_p (PS_assign_bool rfl) ?_
                                            refine WO_nil ?_
                                            refine thn_normal ?_
                                            refine W_ret ?_
                                            refine inBlk_ret ?_
                                            refine thn_ret ?_
                                            refine bodyQ_ret2 Hvad.results163 rfl rfl (.int _ _) (.bool _) rfl rfl ?_
                                            refine ⟨(by repeat (first | assumption | exact Ext.refl _ | refine Ext.alloc ?_ _ | refine Ext.drew ?_ | refine Ext.setB ?_ (by first | omega | (simp only [size_alloc, size_setB, size_drew]; omega)) _ | refine Ext.trans ?_ (by assumption))), ?_⟩
                                            unfold reachesW
                                            first
                                            | rw [if_pos (by omega)]
                                            | rw [if_neg (by omega), if_pos (by omega)]
                                            | rw [if_neg (by omega), if_neg (by omega), if_pos (by omega)]
                                            | rw [if_neg (by omega), if_neg (by omega), if_neg (by omega), if_pos (by omega)]
                                            | rw [if_neg (by omega), if_neg (by omega), if_neg (by omega), if_neg (by omega), if_pos (by omega)]
                                            | rw [if_neg (by omega), if_neg (by omega), if_neg (by omega), if_neg (by omega), if_neg (by omega), if_pos (by omega)]
                                            | rw [if_neg (by omega), if_neg (by omega), if_neg (by omega), if_neg (by omega), if_neg (by omega), if_neg (by omega), if_pos (by omega)]
                                            | rw [if_neg (by omega), if_neg (by omega), if_neg (by omega), if_neg (by omega), if_neg (by omega), if_neg (by omega), if_neg (by omega), if_pos (by omega)]
                                            | rw [if_neg (by omega), if_neg (by omega), if_neg (by omega), if_neg (by omega), if_neg (by omega), if_neg (by omega), if_neg (by omega), if_neg (by omega), if_pos (by omega)]
                                            | rw [if_neg (by omega), if_neg (by omega), if_neg (by omega), if_neg (by omega), if_neg (by omega), if_neg (by omega), if_neg (by omega), if_neg (by omega), if_neg (by omega)]
                                          · have hb125p := hb125.h; try simp only [al_ete, al_dfn, Bool.not_eq_true', Bool.not_eq_false', al_ne, Bool.not_not, al_nn] at hb125p
                                            refine W_region rfl ?_
                                            refine WO_p (PS_eql rfl rfl) ?_
                                            refine WO_p (PS_assign_bool rfl) ?_
                                            refine WO_nil ?_
                                            refine thn_normal ?_
                                            refine W_if rfl (fun hb133 => ?_) (fun hb133 => ?_)
                                            · have hb133p := hb133.h; try simp only [al_ete, al_dfn, Bool.not_eq_true', Bool.not_eq_false', al_ne, Bool.not_not, al_nn] at hb133p
                                              refine W_seq ?_
                                              refine W_region rfl ?_
                                              refine WO_p (PS_move_ptr rfl) ?_
                                              refine WO_p (PS_move_ptr rfl) ?_
                                              refine WO_call Hvad.call160 (by rfl) (Ret.mono (arg_spec C c v B m t f _ _ (MS.ext hM (by repeat (first | assumption | exact Ext.refl _ | refine Ext.alloc ?_ _ | refine Ext.drew ?_ | refine Ext.setB ?_ (by first | omega | (simp only [size_alloc, size_setB, size_drew]; omega)) _ | exact Ext.trans (by assumption) (by assumption) | refine Ext.trans ?_ (by assumption)))) hA (by omega)) ?_)
                                              rintro _ w160_133 ⟨hE160_133, rfl⟩
                                              have hz160_133 := hE160_133.1
                                              refine WO_p (PS_move_ptr rfl) ?_
                                              refine WO_p (PS_move_ptr rfl) ?_
                                              refine WO_call Hvad.call160 (by rfl) (Ret.mono (arg_spec C c v B m t f _ _ (MS.ext hM (by repeat (first | assumption | exact Ext.refl _ | refine Ext.alloc ?_ _ | refine Ext.drew ?_ | refine Ext.setB ?_ (by first | omega | (simp only [size_alloc, size_setB, size_drew]; omega)) _ | exact Ext.trans (by assumption) (by assumption) | refine Ext.trans ?_ (by assumption)))) hA (by omega)) ?_)
                                              rintro _ w160_134 ⟨hE160_134, rfl⟩
                                              have hz160_134 := hE160_134.1
                                              refine WO_p (PS_move_ptr rfl) ?_
                                              refine WO_p (PS_move_ptr rfl) ?_
                                              refine WO_call Hvad.call160 (by rfl) (Ret.mono (arg_spec C c v B m t f _ _ (MS.ext hM (by repeat (first | assumption | exact Ext.refl _ | refine Ext.alloc ?_ _ | refine Ext.drew ?_ | refine Ext.setB ?_ (by first | omega | (simp only [size_alloc, size_setB, size_drew]; omega)) _ | exact Ext.trans (by assumption) (by assumption) | refine Ext.trans ?_ (by assumption)))) hA (by omega)) ?_)
                                              rintro _ w160_135 ⟨hE160_135, rfl⟩
                                              have hz160_135 := hE160_135.1
                                              refine WO_p (PS_move_ptr rfl) ?_
                                              refine WO_p (PS_move_ptr rfl) ?_
                                              refine WO_call Hvad.call160 (by rfl) (Ret.mono (arg_spec C c v B m t f _ _ (MS.ext hM (by repeat (first | assumption | exact Ext.refl _ | refine Ext.alloc ?_ _ | refine Ext.drew ?_ | refine Ext.setB ?_ (by first | omega | (simp only [size_alloc, size_setB, size_drew]; omega)) _ | exact Ext.trans (by assumption) (by assumption) | refine Ext.trans ?_ (by assumption)))) hA (by omega)) ?_)
                                              rintro _ w160_136 ⟨hE160_136, rfl⟩
                                              have hz160_136 := hE160_136.1
                                              refine WO_call Hvad.call241 (by rfl) (Ret.mono (reach2_spec _ _ _ _ _ (by first | assumption | exact argW_wd hM.ty _ _ | exact Wd0) (by first | assumption | exact argW_wd hM.ty _ _ | exact Wd0) (by first | assumption | exact argW_wd hM.ty _ _ | exact Wd0) (by first | assumption | exact argW_wd hM.ty _ _ | exact Wd0)) ?_)
                                              rintro _ w241_137 ⟨hE241_137, rfl⟩
                                              have hz241_137 := hE241_137.1
                                              refine WO_p (PS_extract_int rfl rfl) ?_
                                              refine WO_p (PS_extract_bool rfl rfl) ?_
                                              refine WO_p (PS_assign_int rfl) ?_
                                              refine WO_p (PS_assign_bool rfl) ?_
                                              refine WO_nil ?_
                                              refine thn_normal ?_
                                              refine W_ret ?_
                                              refine inBlk_ret ?_
                                              refine thn_ret ?_
                                              refine bodyQ_ret2 Hvad.results163 rfl rfl (.int _ _) (.bool _) rfl rfl ?_
                                              refine ⟨(by repeat (first | assumption | exact Ext.refl _ | refine Ext.alloc ?_ _ | refine Ext.drew ?_ | refine Ext.setB ?_ (by first | omega | (simp only [size_alloc, size_setB, size_drew]; omega)) _ | refine Ext.trans ?_ (by assumption))), ?_⟩
                                              unfold reachesW
                                              first
                                              | rw [if_pos (by omega)]
                                              | rw [if_neg (by omega), if_pos (by omega)]
                                              | rw [if_neg (by omega), if_neg (by omega), if_pos (by omega)]
                                              | rw [if_neg (by omega), if_neg (by omega), if_neg (by omega), if_pos (by omega)]
                                              | rw [if_neg (by omega), if_neg (by omega), if_neg (by omega), if_neg (by omega), if_pos (by omega)]
                                              | rw [if_neg (by omega), if_neg (by omega), if_neg (by omega), if_neg (by omega), if_neg (by omega), if_pos (by omega)]
                                              | rw [if_neg (by omega), if_neg (by omega), if_neg (by omega), if_neg (by omega), if_neg (by omega), if_neg (by omega), if_pos (by omega)]
                                              | rw [if_neg (by omega), if_neg (by omega), if_neg (by omega), if_neg (by omega), if_neg (by omega), if_neg (by omega), if_neg (by omega), if_pos (by omega)]
                                              | rw [if_neg (by omega), if_neg (by omega), if_neg (by omega), if_neg (by omega), if_neg (by omega), if_neg (by omega), if_neg (by omega), if_neg (by omega), if_pos (by omega)]
                                              | rw [if_neg (by omega), if_neg (by omega), if_neg (by omega), if_neg (by omega), if_neg (by omega), if_neg (by omega), if_neg (by omega), if_neg (by omega), if_neg (by omega)]
                                            · have hb133p := hb133.h; try simp only [al_ete, al_dfn, Bool.not_eq_true', Bool.not_eq_false', al_ne, Bool.not_not, al_nn] at hb133p
                                              refine W_skip ?_
                                              refine inBlk_normal ?_
                                              refine thn_normal ?_
                                              refine W_seq ?_
                                              refine W_region rfl ?_
                                              refine WO_p (PS_assign_int rfl) ?_
                                              refine WO_p (PS_assign_bool rfl) ?_
                                              refine WO_nil ?_
                                              refine thn_normal ?_
                                              refine W_ret ?_
                                              refine bodyQ_ret2 Hvad.results163 rfl rfl (.int _ _) (.bool _) rfl rfl ?_
                                              refine ⟨(by repeat (first | assumption | exact Ext.refl _ | refine Ext.alloc ?_ _ | refine Ext.drew ?_ | refine Ext.setB ?_ (by first | omega | (simp only [size_alloc, size_setB, size_drew]; omega)) _ | refine Ext.trans ?_ (by assumption))), ?_⟩
                                              unfold reachesW
                                              first
                                              | rw [if_pos (by omega)]
                                              | rw [if_neg (by omega), if_pos (by omega)]
                                              | rw [if_neg (by omega), if_neg (by omega), if_pos (by omega)]
                                              | rw [if_neg (by omega), if_neg (by omega), if_neg (by omega), if_pos (by omega)]
                                              | rw [if_neg (by omega), if_neg (by omega), if_neg (by omega), if_neg (by omega), if_pos (by omega)]
                                              | rw [if_neg (by omega), if_neg (by omega), if_neg (by omega), if_neg (by omega), if_neg (by omega), if_pos (by omega)]
                                              | rw [if_neg (by omega), if_neg (by omega), if_neg (by omega), if_neg (by omega), if_neg (by omega), if_neg (by omega), if_pos (by omega)]
                                              | rw [if_neg (by omega), if_neg (by omega), if_neg (by omega), if_neg (by omega), if_neg (by omega), if_neg (by omega), if_neg (by omega), if_pos (by omega)]
                                              | rw [if_neg (by omega), if_neg (by omega), if_neg (by omega), if_neg (by omega), if_neg (by omega), if_neg (by omega), if_neg (by omega), if_neg (by omega), if_pos (by omega)]
                                              | rw [if_neg (by omega), if_neg (by omega), if_neg (by omega), if_neg (by omega), if_neg (by omega), if_neg (by omega), if_neg (by omega), if_neg (by omega), if_neg (by omega)]

end Go.Proofs.YgvadwGreat
