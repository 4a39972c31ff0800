import Derived.Test.YgvacwGreatGm
namespace Go.Proofs.YgvacwGreat
set_option linter.unusedSimpArgs false
set_option linter.unusedVariables false
def yrefuse (y : PSt) (f : PF) (o : Int) : Nat :=
  if yknown o = false then 5 else if (f.stack.length : Int) < ytakes o then 3 else if 64 < (f.stack.length : Int) - ytakes o + ygives o then 4
  else if f.statY = true ∧ ywrites f o = true then 7 else if (o = 240 ∨ o = 245) ∧ 512 < yarg f 2 then 9 else if o = 62 ∧ y.ret.length < yarg f 1 + yarg f 2 then 8
  else if f.gas < ycost y f o then 2 else if o = 85 ∧ f.gas ≤ 2300 then 2 else if o = 86 ∧ ydest f.code (yarg f 0) = false then 6
  else if o = 87 ∧ yarg f 1 ≠ 0 ∧ ydest f.code (yarg f 0) = false then 6 else 0
theorem sz_ycost {y : PSt} {f : PF} (hP : PFB f) (o : Int) (ho : 0 ≤ o ∧ o ≤ 255) : sz (ycost y f o) ≤ 1000 := by
  have h1 := sz_ybare (y := y) hP o ho
  have h2 := sz_yreach hP o
  have h3 := sz_ywords (yreach f o)
  have h4 : sz (ymem (ywords (yreach f o))) ≤ 2 * sz (ywords (yreach f o)) + 10 := by
    unfold ymem
    have a1 := sz_mul 3 (ywords (yreach f o))
    have a2 := sz_mul (ywords (yreach f o)) (ywords (yreach f o))
    have a3 := sz_div (ywords (yreach f o) * ywords (yreach f o)) 512
    have a4 := sz_add (3 * ywords (yreach f o)) (ywords (yreach f o) * ywords (yreach f o) / 512)
    have a5 : sz 3 ≤ 1 := sz_le (by decide)
    omega
  have h5 : sz (ymem (ywords (yreach f o)) - ymem (f.mem.length / 32)) ≤ sz (ymem (ywords (yreach f o))) := sz_mono (Nat.sub_le _ _)
  have h6 := sz_add (ybare y f o) (ymem (ywords (yreach f o)) - ymem (f.mem.length / 32))
  unfold ycost
  split <;> omega

set_option maxRecDepth 10000 in
set_option maxHeartbeats 4000000 in
theorem yRefusal_spec [Om] (w : World) (hO : OmB w) (C : Nat) (xs : YSt) (y : PSt) (N : Nat) (hS : YSS w C xs y) (hB : PSB N y) (hN : N ≤ 100000000) (F fo : Nat) (x : YFr) (f : PF) (hF : FrS w F fo x f) (hP : PFB f) (o : Int) (ho : 0 ≤ o ∧ o ≤ 255) : Ret Hvac.prog 42 #[.pointer (some ⟨C, 0, none⟩), .pointer (some ⟨F, fo, none⟩), .int .u8 o] w fun u w' => Ext w w' ∧ ∃ s' : SV, u = .tuple #[.int .u8 (yrefuse y f o), .slice s'.1 s'.2.1 s'.2.2] ∧ (yrefuse y f o = 0 → NN w' s' (ycost y f o)) := by
  have hFR := hF.rel
  obtain ⟨r, TF, fzF, hFb, hFC⟩ := hF.blk
  have hFl := hFb.lt
  have hFsz := hFC.size
  have hk12 := hFC.self
  rw [hFR.self] at hk12
  have hSl := hS.blk.lt
  have hsbl := hFR.sb.1
  have hSb := hS.blk
  have htb := ytakes_bd ho
  have hgb := ygives_bd ho
  have hk2 := hFC.statY
  rw [hFR.statY] at hk2
  have hk4 := hFC.gas
  have hk8 := hFC.stack
  have hk10 := hFC.code
  have hslen := hFR.stack.len
  have hsl := hP.sl
  have hN4 := hFR.gas
  have hz4 := hP.gas
  have hcode := hFR.code
  have hcll := hcode.len
  have hcl := hP.cl
  have hret := hS.rel.ret.len
  have hrl := hB.rl
  refine Ret_of_W Hvac.func42 rfl rfl ?_
  refine W_seq ?_
  refine W_region rfl ?_
  refine WO_p (PS_assign_int rfl) ?_
  refine WO_p (PS_assign_slice rfl) ?_
  refine WO_nil ?_
  refine thn_normal ?_
  refine W_seq ?_
  refine W_region rfl ?_
  refine WO_p (PS_move_int rfl) ?_
  refine WO_call Hvac.call111 (by rfl) (Ret.mono (arity_spec _ _ (by omega)) ?_)
  rintro _ w111_0 ⟨hE111_0, rfl⟩
  have hz111_0 := hE111_0.1
  try simp only [size_alloc, size_setB, size_drew] at hz111_0
  refine WO_p (PS_move_tuple rfl) ?_
  refine WO_p (PS_extract_int rfl rfl) ?_
  refine WO_p (PS_extract_int rfl rfl) ?_
  refine WO_p (PS_extract_bool rfl rfl) ?_
  refine WO_p (PS_assign_int rfl) ?_
  refine WO_p (PS_assign_int rfl) ?_
  refine WO_p (PS_assign_bool rfl) ?_
  refine WO_nil ?_
  refine thn_normal ?_
  refine W_seq ?_
  refine W_block ?_
  refine W_seq ?_
  refine W_region rfl ?_
  refine WO_p (PS_move_bool rfl) ?_
  refine WO_p (PS_not rfl) ?_
  refine WO_p (PS_assign_bool rfl) ?_
  refine WO_nil ?_
  refine thn_normal ?_
  refine W_if rfl (fun hb4 => ?_) (fun hb4 => ?_)
  · have hb4p := hb4.h; try simp only [al_ete, al_dfn, Bool.not_eq_true', Bool.not_eq_false', al_ne, Bool.not_not, al_nn] at hb4p
    have hkn : yknown o = false := hb4p
    refine W_seq ?_
    refine W_region rfl ?_
    refine WO_p (PS_assign_int rfl) ?_
    refine WO_p (PS_assign_slice rfl) ?_
    refine WO_nil ?_
    refine thn_normal ?_
    refine W_ret ?_
    refine inBlk_ret ?_
    refine thn_ret ?_
    refine bodyQ_ret2 Hvac.results42 rfl rfl (.int _ _) (.slice _ _ _) rfl rfl ?_
    unfold yrefuse
    (repeat (first | rw [if_pos (by first | assumption | omega | (rintro ⟨h1, h2⟩; omega))] | rw [if_neg (by first | assumption | omega | (rintro ⟨h1, h2⟩; omega))]))
    first
    | exact ⟨(by repeat (first | assumption | exact Ext.refl _ | refine Ext.alloc ?_ _ | refine Ext.drew ?_ | refine Ext.setB ?_ (by first | omega | (simp only [size_alloc, size_setB, size_drew]; omega)) _ | refine Ext.trans ?_ (by assumption))), (_, _, _), rfl, fun h9 => (Nat.succ_ne_zero _ h9).elim⟩
    | exact ⟨(by repeat (first | assumption | exact Ext.refl _ | refine Ext.alloc ?_ _ | refine Ext.drew ?_ | refine Ext.setB ?_ (by first | omega | (simp only [size_alloc, size_setB, size_drew]; omega)) _ | refine Ext.trans ?_ (by assumption))), (_, _, _), rfl, fun _ => (by first | exact NN.nil _ | assumption | exact NN.ext (by assumption) (by repeat (first | assumption | exact Ext.refl _ | refine Ext.alloc ?_ _ | refine Ext.drew ?_ | refine Ext.setB ?_ (by first | omega | (simp only [size_alloc, size_setB, size_drew]; omega)) _ | refine Ext.trans ?_ (by assumption))))⟩
  · have hb4p := hb4.h; try simp only [al_ete, al_dfn, Bool.not_eq_true', Bool.not_eq_false', al_ne, Bool.not_not, al_nn] at hb4p
    have hkn : ¬ yknown o = false := by simp [hb4p]
    refine W_seq ?_
    refine W_region rfl ?_
    refine WO_p (PS_move_ptr rfl) ?_
    refine WO_p (PS_nilCheck rfl) ?_
    refine WO_p (PS_fieldAddr 8 Hvac.runUnderlying121 rfl Hvac.sizeOf119 rfl rfl) ?_
    refine WO_load (.slice _ _ _) Hvac.isAgg119 rfl (Hb.h (by repeat (first | assumption | exact Hb.newY _ _ | refine Hb.alloc ?_ | refine Hb.drew ?_ | refine Hb.ext (by assumption) ?_ | exact Hb.setSameL (by first | omega | (simp only [size_alloc, size_setB, size_drew]; omega)) | exact Hb.setSame (by assumption) | refine Hb.set (by first | omega | (simp only [size_alloc, size_setB, size_drew]; omega)) ?_ ))) (Ce.h (by first | assumption | exact ⟨rfl⟩)) ?_
    refine WO_p (PS_lenS Hvac.runUnderlying119 rfl) ?_
    refine WO_p (PS_move_int rfl) ?_
    refine WO_p (PS_lss rfl rfl) ?_
    refine WO_p (PS_assign_bool rfl) ?_
    refine WO_nil ?_
    refine thn_normal ?_
    refine W_if rfl (fun hb6 => ?_) (fun hb6 => ?_)
    · have hb6p := hb6.h; try simp only [al_ete, al_dfn, Bool.not_eq_true', Bool.not_eq_false', al_ne, Bool.not_not, al_nn] at hb6p
      try simp only [cmpI_gt3, cmpI_gt2, cmpI_le2, Bool.not_eq_true', Bool.not_eq_false'] at hb6p
      refine W_seq ?_
      refine W_region rfl ?_
      refine WO_p (PS_assign_int rfl) ?_
      refine WO_p (PS_assign_slice rfl) ?_
      refine WO_nil ?_
      refine thn_normal ?_
      refine W_ret ?_
      refine inBlk_ret ?_
      refine thn_ret ?_
      refine bodyQ_ret2 Hvac.results42 rfl rfl (.int _ _) (.slice _ _ _) rfl rfl ?_
      unfold yrefuse
      (repeat (first | rw [if_pos (by first | assumption | omega | (rintro ⟨h1, h2⟩; omega))] | rw [if_neg (by first | assumption | omega | (rintro ⟨h1, h2⟩; omega))]))
      first
      | exact ⟨(by repeat (first | assumption | exact Ext.refl _ | refine Ext.alloc ?_ _ | refine Ext.drew ?_ | refine Ext.setB ?_ (by first | omega | (simp only [size_alloc, size_setB, size_drew]; omega)) _ | refine Ext.trans ?_ (by assumption))), (_, _, _), rfl, fun h9 => (Nat.succ_ne_zero _ h9).elim⟩
      | exact ⟨(by repeat (first | assumption | exact Ext.refl _ | refine Ext.alloc ?_ _ | refine Ext.drew ?_ | refine Ext.setB ?_ (by first | omega | (simp only [size_alloc, size_setB, size_drew]; omega)) _ | refine Ext.trans ?_ (by assumption))), (_, _, _), rfl, fun _ => (by first | exact NN.nil _ | assumption | exact NN.ext (by assumption) (by repeat (first | assumption | exact Ext.refl _ | refine Ext.alloc ?_ _ | refine Ext.drew ?_ | refine Ext.setB ?_ (by first | omega | (simp only [size_alloc, size_setB, size_drew]; omega)) _ | refine Ext.trans ?_ (by assumption))))⟩
    · have hb6p := hb6.h; try simp only [al_ete, al_dfn, Bool.not_eq_true', Bool.not_eq_false', al_ne, Bool.not_not, al_nn] at hb6p
      try simp only [cmpI_gt3, cmpI_gt2, cmpI_le2, Bool.not_eq_true', Bool.not_eq_false'] at hb6p
      refine W_seq ?_
      refine W_region rfl ?_
      refine WO_p (PS_move_ptr rfl) ?_
      refine WO_p (PS_nilCheck rfl) ?_
      refine WO_p (PS_fieldAddr 8 Hvac.runUnderlying121 rfl Hvac.sizeOf119 rfl rfl) ?_
      refine WO_load (.slice _ _ _) Hvac.isAgg119 rfl (Hb.h (by repeat (first | assumption | exact Hb.newY _ _ | refine Hb.alloc ?_ | refine Hb.drew ?_ | refine Hb.ext (by assumption) ?_ | exact Hb.setSameL (by first | omega | (simp only [size_alloc, size_setB, size_drew]; omega)) | exact Hb.setSame (by assumption) | refine Hb.set (by first | omega | (simp only [size_alloc, size_setB, size_drew]; omega)) ?_ ))) (Ce.h (by first | assumption | exact ⟨rfl⟩)) ?_
      refine WO_p (PS_lenS Hvac.runUnderlying119 rfl) ?_
      refine WO_p (PS_move_int rfl) ?_
      refine WO_p (PS_sub_i64n rfl rfl (by omega) (by omega)) ?_
      refine WO_p (PS_move_int rfl) ?_
      refine WO_p (PS_add_i64n rfl rfl (by omega) (by omega)) ?_
      refine WO_p (PS_gtr rfl rfl) ?_
      refine WO_p (PS_assign_bool rfl) ?_
      refine WO_nil ?_
      refine thn_normal ?_
      refine W_if rfl (fun hb8 => ?_) (fun hb8 => ?_)
      · have hb8p := hb8.h; try simp only [al_ete, al_dfn, Bool.not_eq_true', Bool.not_eq_false', al_ne, Bool.not_not, al_nn] at hb8p
        try simp only [cmpI_gt3, cmpI_gt2, cmpI_le2, Bool.not_eq_true', Bool.not_eq_false'] at hb8p
        refine W_seq ?_
        refine W_region rfl ?_
        refine WO_p (PS_assign_int rfl) ?_
        refine WO_p (PS_assign_slice rfl) ?_
        refine WO_nil ?_
        refine thn_normal ?_
        refine W_ret ?_
        refine inBlk_ret ?_
        refine thn_ret ?_
        refine bodyQ_ret2 Hvac.results42 rfl rfl (.int _ _) (.slice _ _ _) rfl rfl ?_
        unfold yrefuse
        (repeat (first | rw [if_pos (by first | assumption | omega | (rintro ⟨h1, h2⟩; omega))] | rw [if_neg (by first | assumption | omega | (rintro ⟨h1, h2⟩; omega))]))
        first
        | exact ⟨(by repeat (first | assumption | exact Ext.refl _ | refine Ext.alloc ?_ _ | refine Ext.drew ?_ | refine Ext.setB ?_ (by first | omega | (simp only [size_alloc, size_setB, size_drew]; omega)) _ | refine Ext.trans ?_ (by assumption))), (_, _, _), rfl, fun h9 => (Nat.succ_ne_zero _ h9).elim⟩
        | exact ⟨(by repeat (first | assumption | exact Ext.refl _ | refine Ext.alloc ?_ _ | refine Ext.drew ?_ | refine Ext.setB ?_ (by first | omega | (simp only [size_alloc, size_setB, size_drew]; omega)) _ | refine Ext.trans ?_ (by assumption))), (_, _, _), rfl, fun _ => (by first | exact NN.nil _ | assumption | exact NN.ext (by assumption) (by repeat (first | assumption | exact Ext.refl _ | refine Ext.alloc ?_ _ | refine Ext.drew ?_ | refine Ext.setB ?_ (by first | omega | (simp only [size_alloc, size_setB, size_drew]; omega)) _ | refine Ext.trans ?_ (by assumption))))⟩
      · have hb8p := hb8.h; try simp only [al_ete, al_dfn, Bool.not_eq_true', Bool.not_eq_false', al_ne, Bool.not_not, al_nn] at hb8p
        try simp only [cmpI_gt3, cmpI_gt2, cmpI_le2, Bool.not_eq_true', Bool.not_eq_false'] at hb8p
        refine W_seq ?_
        refine W_region rfl ?_
        refine WO_p (PS_move_ptr rfl) ?_
        refine WO_p (PS_nilCheck rfl) ?_
        refine WO_p (PS_fieldAddr 2 Hvac.runUnderlying121 rfl Hvac.sizeOf4 rfl rfl) ?_
        refine WO_load (.bool _) Hvac.isAgg4 rfl (Hb.h (by repeat (first | assumption | exact Hb.newY _ _ | refine Hb.alloc ?_ | refine Hb.drew ?_ | refine Hb.ext (by assumption) ?_ | exact Hb.setSameL (by first | omega | (simp only [size_alloc, size_setB, size_drew]; omega)) | exact Hb.setSame (by assumption) | refine Hb.set (by first | omega | (simp only [size_alloc, size_setB, size_drew]; omega)) ?_ ))) (Ce.h (by first | assumption | exact ⟨rfl⟩)) ?_
        refine WO_p (PS_move_bool rfl) ?_
        refine WO_if (t := 44) rfl (fun hb10 => ?_) (fun hb10 => ?_)
        · have hb10p := hb10.h; try simp only [al_ete, al_dfn, Bool.not_eq_true', Bool.not_eq_false', al_ne, Bool.not_not, al_nn] at hb10p
          refine WO_guardT rfl rfl hb10.h ?_
          refine WO_p (PS_move_ptr rfl) ?_
          refine WO_guardT rfl rfl hb10.h ?_
          refine WO_p (PS_move_int rfl) ?_
          refine WO_guardT rfl rfl hb10.h ?_
          refine WO_call Hvac.call112 (by rfl) (Ret.mono (yWrites_spec _ (OmB.ext hO (by repeat (first | assumption | exact Ext.refl _ | refine Ext.alloc ?_ _ | refine Ext.drew ?_ | refine Ext.setB ?_ (by first | omega | (simp only [size_alloc, size_setB, size_drew]; omega)) _ | exact Ext.trans (by assumption) (by assumption) | refine Ext.trans ?_ (by assumption)))) _ _ _ _ (by first | assumption | exact FrS.ext (by assumption) (by repeat (first | assumption | exact Ext.refl _ | refine Ext.alloc ?_ _ | refine Ext.drew ?_ | refine Ext.setB ?_ (by first | omega | (simp only [size_alloc, size_setB, size_drew]; omega)) _ | exact Ext.trans (by assumption) (by assumption) | refine Ext.trans ?_ (by assumption)))) hP _ (by omega)) ?_)
          rintro _ w112_10 ⟨hE112_10, rfl⟩
          have hz112_10 := hE112_10.1
          try simp only [size_alloc, size_setB, size_drew] at hz112_10
          refine WO_p (PS_pickT rfl hb10.h rfl) ?_
          refine WO_p (PS_assign_bool rfl) ?_
          refine WO_nil ?_
          refine thn_normal ?_
          refine W_if rfl (fun hb13 => ?_) (fun hb13 => ?_)
          · have hb13p := hb13.h; try simp only [al_ete, al_dfn, Bool.not_eq_true', Bool.not_eq_false', al_ne, Bool.not_not, al_nn] at hb13p
            have hw4 : f.statY = true ∧ ywrites f o = true := ⟨by assumption, hb13p⟩
            refine W_seq ?_
            refine W_region rfl ?_
            refine WO_p (PS_assign_int rfl) ?_
            refine WO_p (PS_assign_slice rfl) ?_
            refine WO_nil ?_
            refine thn_normal ?_
            refine W_ret ?_
            refine inBlk_ret ?_
            refine thn_ret ?_
            refine bodyQ_ret2 Hvac.results42 rfl rfl (.int _ _) (.slice _ _ _) rfl rfl ?_
            unfold yrefuse
            (repeat (first | rw [if_pos (by first | assumption | omega | (rintro ⟨h1, h2⟩; omega))] | rw [if_neg (by first | assumption | omega | (rintro ⟨h1, h2⟩; omega))]))
            first
            | exact ⟨(by repeat (first | assumption | exact Ext.refl _ | refine Ext.alloc ?_ _ | refine Ext.drew ?_ | refine Ext.setB ?_ (by first | omega | (simp only [size_alloc, size_setB, size_drew]; omega)) _ | refine Ext.trans ?_ (by assumption))), (_, _, _), rfl, fun h9 => (Nat.succ_ne_zero _ h9).elim⟩
            | exact ⟨(by repeat (first | assumption | exact Ext.refl _ | refine Ext.alloc ?_ _ | refine Ext.drew ?_ | refine Ext.setB ?_ (by first | omega | (simp only [size_alloc, size_setB, size_drew]; omega)) _ | refine Ext.trans ?_ (by assumption))), (_, _, _), rfl, fun _ => (by first | exact NN.nil _ | assumption | exact NN.ext (by assumption) (by repeat (first | assumption | exact Ext.refl _ | refine Ext.alloc ?_ _ | refine Ext.drew ?_ | refine Ext.setB ?_ (by first | omega | (simp only [size_alloc, size_setB, size_drew]; omega)) _ | refine Ext.trans ?_ (by assumption))))⟩
          · have hb13p := hb13.h; try simp only [al_ete, al_dfn, Bool.not_eq_true', Bool.not_eq_false', al_ne, Bool.not_not, al_nn] at hb13p
            have hw4 : ¬ (f.statY = true ∧ ywrites f o = true) := by simp [hb13p]
            refine W_seq ?_
            refine W_region rfl ?_
            refine WO_p (PS_move_int rfl) ?_
            refine WO_p (PS_eql rfl rfl) ?_
            refine WO_p (PS_move_bool rfl) ?_
            refine WO_if (t := 52) rfl (fun hb15 => ?_) (fun hb15 => ?_)
            · have hb15p := hb15.h; try simp only [al_ete, al_dfn, Bool.not_eq_true', Bool.not_eq_false', al_ne, Bool.not_not, al_nn] at hb15p
              have ho5 : o = 240 := by omega
              refine WO_guardF rfl rfl hb15.h ?_
              refine WO_guardF rfl rfl hb15.h ?_
              refine WO_p (PS_pickT rfl hb15.h rfl) ?_
              refine WO_p (PS_move_bool rfl) ?_
              refine WO_guardT rfl rfl rfl ?_
              refine WO_p (PS_move_ptr rfl) ?_
              refine WO_guardT rfl rfl rfl ?_
              refine WO_call Hvac.call47 (by rfl) (Ret.mono (yArg_spec _ (OmB.ext hO (by repeat (first | assumption | exact Ext.refl _ | refine Ext.alloc ?_ _ | refine Ext.drew ?_ | refine Ext.setB ?_ (by first | omega | (simp only [size_alloc, size_setB, size_drew]; omega)) _ | exact Ext.trans (by assumption) (by assumption) | refine Ext.trans ?_ (by assumption)))) _ _ _ _ (by first | assumption | exact FrS.ext (by assumption) (by repeat (first | assumption | exact Ext.refl _ | refine Ext.alloc ?_ _ | refine Ext.drew ?_ | refine Ext.setB ?_ (by first | omega | (simp only [size_alloc, size_setB, size_drew]; omega)) _ | exact Ext.trans (by assumption) (by assumption) | refine Ext.trans ?_ (by assumption)))) hP _ (by decide)) ?_)
              rintro _ w47_15 ⟨hE47_15, s47_15, rfl, hN47_15, hs47_15⟩
              have hz47_15 := hE47_15.1
              try simp only [size_alloc, size_setB, size_drew] at hz47_15
              refine WO_guardT rfl rfl rfl ?_
              refine WO_call Hvac.call19 (by rfl) (Ret.mono (nNum_spec (OmB.ext hO (by repeat (first | assumption | exact Ext.refl _ | refine Ext.alloc ?_ _ | refine Ext.drew ?_ | refine Ext.setB ?_ (by first | omega | (simp only [size_alloc, size_setB, size_drew]; omega)) _ | exact Ext.trans (by assumption) (by assumption) | refine Ext.trans ?_ (by assumption)))) ⟨by omega, by omega⟩) ?_)
              rintro _ w19_16 ⟨hE19_16, s19_16, rfl, hN19_16, hs19_16⟩
              have hz19_16 := hE19_16.1
              try simp only [size_alloc, size_setB, size_drew] at hz19_16
              try simp only [Int.toNat_natCast, toNat_lit] at hN19_16 hs19_16
              refine WO_guardT rfl rfl rfl ?_
              refine WO_call Hvac.call76 (by rfl) (Ret.mono (nCmp_spec (by first | exact NN.nil _ | assumption | exact NN.ext (by assumption) (by repeat (first | assumption | exact Ext.refl _ | refine Ext.alloc ?_ _ | refine Ext.drew ?_ | refine Ext.setB ?_ (by first | omega | (simp only [size_alloc, size_setB, size_drew]; omega)) _ | exact Ext.trans (by assumption) (by assumption) | refine Ext.trans ?_ (by assumption)))) (by first | exact NN.nil _ | assumption | exact NN.ext (by assumption) (by repeat (first | assumption | exact Ext.refl _ | refine Ext.alloc ?_ _ | refine Ext.drew ?_ | refine Ext.setB ?_ (by first | omega | (simp only [size_alloc, size_setB, size_drew]; omega)) _ | exact Ext.trans (by assumption) (by assumption) | refine Ext.trans ?_ (by assumption)))) (by first | assumption | omega | (rw [sz_zero]; omega)) (by first | assumption | omega | (rw [sz_zero]; omega))) ?_)
              rintro _ w76_17 ⟨hE76_17, rfl⟩
              have hz76_17 := hE76_17.1
              try simp only [size_alloc, size_setB, size_drew] at hz76_17
              refine WO_guardT rfl rfl rfl ?_
              refine WO_p (PS_gtr rfl rfl) ?_
              refine WO_p (PS_pickT rfl rfl rfl) ?_
              refine WO_p (PS_assign_bool rfl) ?_
              refine WO_nil ?_
              refine thn_normal ?_
              refine W_if rfl (fun hb20 => ?_) (fun hb20 => ?_)
              · have hb20p := hb20.h; try simp only [al_ete, al_dfn, Bool.not_eq_true', Bool.not_eq_false', al_ne, Bool.not_not, al_nn] at hb20p
                try simp only [cmpI_gt3, cmpI_gt2, cmpI_le2, Bool.not_eq_true', Bool.not_eq_false'] at hb20p
                refine W_seq ?_
                refine W_region rfl ?_
                refine WO_p (PS_assign_int rfl) ?_
                refine WO_p (PS_assign_slice rfl) ?_
                refine WO_nil ?_
                refine thn_normal ?_
                refine W_ret ?_
                refine inBlk_ret ?_
                refine thn_ret ?_
                refine bodyQ_ret2 Hvac.results42 rfl rfl (.int _ _) (.slice _ _ _) rfl rfl ?_
                unfold yrefuse
                (repeat (first | rw [if_pos (by first | assumption | omega | (rintro ⟨h1, h2⟩; omega))] | rw [if_neg (by first | assumption | omega | (rintro ⟨h1, h2⟩; omega))]))
                first
                | exact ⟨(by repeat (first | assumption | exact Ext.refl _ | refine Ext.alloc ?_ _ | refine Ext.drew ?_ | refine Ext.setB ?_ (by first | omega | (simp only [size_alloc, size_setB, size_drew]; omega)) _ | refine Ext.trans ?_ (by assumption))), (_, _, _), rfl, fun h9 => (Nat.succ_ne_zero _ h9).elim⟩
                | exact ⟨(by repeat (first | assumption | exact Ext.refl _ | refine Ext.alloc ?_ _ | refine Ext.drew ?_ | refine Ext.setB ?_ (by first | omega | (simp only [size_alloc, size_setB, size_drew]; omega)) _ | refine Ext.trans ?_ (by assumption))), (_, _, _), rfl, fun _ => (by first | exact NN.nil _ | assumption | exact NN.ext (by assumption) (by repeat (first | assumption | exact Ext.refl _ | refine Ext.alloc ?_ _ | refine Ext.drew ?_ | refine Ext.setB ?_ (by first | omega | (simp only [size_alloc, size_setB, size_drew]; omega)) _ | refine Ext.trans ?_ (by assumption))))⟩
              · have hb20p := hb20.h; try simp only [al_ete, al_dfn, Bool.not_eq_true', Bool.not_eq_false', al_ne, Bool.not_not, al_nn] at hb20p
                try simp only [cmpI_gt3, cmpI_gt2, cmpI_le2, Bool.not_eq_true', Bool.not_eq_false'] at hb20p
                refine W_seq ?_
                refine W_drawE [false, false, false, false, true, false, true, true, false, false, false, false, false, false, false, false, false, false, false] hmix (by kernel_rfl) rfl ?_
                refine WH_p (PS_move_int rfl) rfl ?_
                refine WH_p (PS_eql rfl rfl) rfl ?_
                refine WH_p (PS_move_bool rfl) rfl ?_
                refine WH_if (t := 66) rfl (fun hb22 => ?_) (fun hb22 => ?_)
                · have hb22p := hb22.h; try simp only [al_ete, al_dfn, Bool.not_eq_true', Bool.not_eq_false', al_ne, Bool.not_not, al_nn] at hb22p
                  exfalso; omega
                · have hb22p := hb22.h; try simp only [al_ete, al_dfn, Bool.not_eq_true', Bool.not_eq_false', al_ne, Bool.not_not, al_nn] at hb22p
                  refine WH_guardF rfl rfl hb22.h ?_
                  refine WH_guardF rfl rfl hb22.h ?_
                  refine WH_guardF rfl rfl hb22.h ?_
                  refine WH_guardF rfl rfl hb22.h ?_
                  refine WH_guardF rfl rfl hb22.h ?_
                  refine WH_guardF rfl rfl hb22.h ?_
                  refine WH_guardF rfl rfl hb22.h ?_
                  refine WH_guardF rfl rfl hb22.h ?_
                  refine WH_guardF rfl rfl hb22.h ?_
                  refine WH_guardF rfl rfl hb22.h ?_
                  refine WH_guardF rfl rfl hb22.h ?_
                  refine WH_guardF rfl rfl hb22.h ?_
                  refine WH_guardF rfl rfl hb22.h ?_
                  refine WH_guardF rfl rfl hb22.h ?_
                  refine WH_p (PS_pickF rfl hb22.h rfl) rfl ?_
                  refine WH_p (PS_assign_bool rfl) rfl ?_
                  refine WH_nil ?_
                  refine thn_normal ?_
                  refine W_condF rfl rfl ?_
                  refine W_skip ?_
                  refine inBlk_normal ?_
                  refine thn_normal ?_
                  refine W_seq ?_
                  refine W_region rfl ?_
                  refine WO_p (PS_move_ptr rfl) ?_
                  refine WO_p (PS_move_ptr rfl) ?_
                  refine WO_p (PS_move_int rfl) ?_
                  refine WO_call Hvac.call113 (by rfl) (Ret.mono (yCost_spec _ (OmB.ext hO (by repeat (first | assumption | exact Ext.refl _ | refine Ext.alloc ?_ _ | refine Ext.drew ?_ | refine Ext.setB ?_ (by first | omega | (simp only [size_alloc, size_setB, size_drew]; omega)) _ | exact Ext.trans (by assumption) (by assumption) | refine Ext.trans ?_ (by assumption)))) _ _ _ _ (by first | assumption | exact YSS.ext (by assumption) (by repeat (first | assumption | exact Ext.refl _ | refine Ext.alloc ?_ _ | refine Ext.drew ?_ | refine Ext.setB ?_ (by first | omega | (simp only [size_alloc, size_setB, size_drew]; omega)) _ | exact Ext.trans (by assumption) (by assumption) | refine Ext.trans ?_ (by assumption)))) hB hN _ _ _ _ (by first | assumption | exact FrS.ext (by assumption) (by repeat (first | assumption | exact Ext.refl _ | refine Ext.alloc ?_ _ | refine Ext.drew ?_ | refine Ext.setB ?_ (by first | omega | (simp only [size_alloc, size_setB, size_drew]; omega)) _ | exact Ext.trans (by assumption) (by assumption) | refine Ext.trans ?_ (by assumption)))) hP _ (by omega)) ?_)
                  rintro _ w113_22 ⟨hE113_22, s113_22, rfl, hN113_22⟩
                  have hz113_22 := hE113_22.1
                  try simp only [size_alloc, size_setB, size_drew] at hz113_22
                  have hs113_22 := sz_ycost (y := y) hP o ho
                  refine WO_p (PS_assign_slice rfl) ?_
                  refine WO_nil ?_
                  refine thn_normal ?_
                  refine W_seq ?_
                  refine W_block ?_
                  refine W_seq ?_
                  refine W_region rfl ?_
                  refine WO_p (PS_move_slice rfl) ?_
                  refine WO_p (PS_move_ptr rfl) ?_
                  refine WO_p (PS_nilCheck rfl) ?_
                  refine WO_p (PS_fieldAddr 4 Hvac.runUnderlying121 rfl Hvac.sizeOf92 rfl rfl) ?_
                  refine WO_load (.slice _ _ _) Hvac.isAgg92 rfl (Hb.h (by repeat (first | assumption | exact Hb.newY _ _ | refine Hb.alloc ?_ | refine Hb.drew ?_ | refine Hb.ext (by assumption) ?_ | exact Hb.setSameL (by first | omega | (simp only [size_alloc, size_setB, size_drew]; omega)) | exact Hb.setSame (by assumption) | refine Hb.set (by first | omega | (simp only [size_alloc, size_setB, size_drew]; omega)) ?_ ))) (Ce.h (by first | assumption | exact ⟨rfl⟩)) ?_
                  refine WO_call Hvac.call76 (by rfl) (Ret.mono (nCmp_spec (by first | exact NN.nil _ | assumption | exact NN.ext (by assumption) (by repeat (first | assumption | exact Ext.refl _ | refine Ext.alloc ?_ _ | refine Ext.drew ?_ | refine Ext.setB ?_ (by first | omega | (simp only [size_alloc, size_setB, size_drew]; omega)) _ | exact Ext.trans (by assumption) (by assumption) | refine Ext.trans ?_ (by assumption)))) (by first | exact NN.nil _ | assumption | exact NN.ext (by assumption) (by repeat (first | assumption | exact Ext.refl _ | refine Ext.alloc ?_ _ | refine Ext.drew ?_ | refine Ext.setB ?_ (by first | omega | (simp only [size_alloc, size_setB, size_drew]; omega)) _ | exact Ext.trans (by assumption) (by assumption) | refine Ext.trans ?_ (by assumption)))) (by first | assumption | omega | (rw [sz_zero]; omega)) (by first | assumption | omega | (rw [sz_zero]; omega))) ?_)
                  rintro _ w76_23 ⟨hE76_23, rfl⟩
                  have hz76_23 := hE76_23.1
                  try simp only [size_alloc, size_setB, size_drew] at hz76_23
                  refine WO_p (PS_gtr rfl rfl) ?_
                  refine WO_p (PS_assign_bool rfl) ?_
                  refine WO_nil ?_
                  refine thn_normal ?_
                  refine W_if rfl (fun hb26 => ?_) (fun hb26 => ?_)
                  · have hb26p := hb26.h; try simp only [al_ete, al_dfn, Bool.not_eq_true', Bool.not_eq_false', al_ne, Bool.not_not, al_nn] at hb26p
                    try simp only [cmpI_gt3, cmpI_gt2, cmpI_le2, Bool.not_eq_true', Bool.not_eq_false'] at hb26p
                    refine W_seq ?_
                    refine W_region rfl ?_
                    refine WO_p (PS_move_slice rfl) ?_
                    refine WO_p (PS_assign_int rfl) ?_
                    refine WO_p (PS_assign_slice rfl) ?_
                    refine WO_nil ?_
                    refine thn_normal ?_
                    refine W_ret ?_
                    refine inBlk_ret ?_
                    refine thn_ret ?_
                    refine bodyQ_ret2 Hvac.results42 rfl rfl (.int _ _) (.slice _ _ _) rfl rfl ?_
                    unfold yrefuse
                    (repeat (first | rw [if_pos (by first | assumption | omega | (rintro ⟨h1, h2⟩; omega))] | rw [if_neg (by first | assumption | omega | (rintro ⟨h1, h2⟩; omega))]))
                    first
                    | exact ⟨(by repeat (first | assumption | exact Ext.refl _ | refine Ext.alloc ?_ _ | refine Ext.drew ?_ | refine Ext.setB ?_ (by first | omega | (simp only [size_alloc, size_setB, size_drew]; omega)) _ | refine Ext.trans ?_ (by assumption))), (_, _, _), rfl, fun h9 => (Nat.succ_ne_zero _ h9).elim⟩
                    | exact ⟨(by repeat (first | assumption | exact Ext.refl _ | refine Ext.alloc ?_ _ | refine Ext.drew ?_ | refine Ext.setB ?_ (by first | omega | (simp only [size_alloc, size_setB, size_drew]; omega)) _ | refine Ext.trans ?_ (by assumption))), (_, _, _), rfl, fun _ => (by first | exact NN.nil _ | assumption | exact NN.ext (by assumption) (by repeat (first | assumption | exact Ext.refl _ | refine Ext.alloc ?_ _ | refine Ext.drew ?_ | refine Ext.setB ?_ (by first | omega | (simp only [size_alloc, size_setB, size_drew]; omega)) _ | refine Ext.trans ?_ (by assumption))))⟩
                  · have hb26p := hb26.h; try simp only [al_ete, al_dfn, Bool.not_eq_true', Bool.not_eq_false', al_ne, Bool.not_not, al_nn] at hb26p
                    try simp only [cmpI_gt3, cmpI_gt2, cmpI_le2, Bool.not_eq_true', Bool.not_eq_false'] at hb26p
                    refine W_seq ?_
                    refine W_drawE [false, false, false, false, false, false, false, true, false, false, false, false] hmix (by kernel_rfl) rfl ?_
                    refine WH_p (PS_move_int rfl) rfl ?_
                    refine WH_p (PS_eql rfl rfl) rfl ?_
                    refine WH_p (PS_move_bool rfl) rfl ?_
                    refine WH_if (t := 98) rfl (fun hb28 => ?_) (fun hb28 => ?_)
                    · have hb28p := hb28.h; try simp only [al_ete, al_dfn, Bool.not_eq_true', Bool.not_eq_false', al_ne, Bool.not_not, al_nn] at hb28p
                      exfalso; omega
                    · have hb28p := hb28.h; try simp only [al_ete, al_dfn, Bool.not_eq_true', Bool.not_eq_false', al_ne, Bool.not_not, al_nn] at hb28p
                      refine WH_guardF rfl rfl hb28.h ?_
                      refine WH_guardF rfl rfl hb28.h ?_
                      refine WH_guardF rfl rfl hb28.h ?_
                      refine WH_guardF rfl rfl hb28.h ?_
                      refine WH_guardF rfl rfl hb28.h ?_
                      refine WH_guardF rfl rfl hb28.h ?_
                      refine WH_guardF rfl rfl hb28.h ?_
                      refine WH_p (PS_pickF rfl hb28.h rfl) rfl ?_
                      refine WH_p (PS_assign_bool rfl) rfl ?_
                      refine WH_nil ?_
                      refine thn_normal ?_
                      refine W_condF rfl rfl ?_
                      refine W_seq ?_
                      refine W_drawE [false, false, false, false, false, false, false, false, true, false, false, false, false] hmix (by kernel_rfl) rfl ?_
                      refine WH_p (PS_move_int rfl) rfl ?_
                      refine WH_p (PS_eql rfl rfl) rfl ?_
                      refine WH_p (PS_move_bool rfl) rfl ?_
                      refine WH_if (t := 111) rfl (fun hb30 => ?_) (fun hb30 => ?_)
                      · have hb30p := hb30.h; try simp only [al_ete, al_dfn, Bool.not_eq_true', Bool.not_eq_false', al_ne, Bool.not_not, al_nn] at hb30p
                        exfalso; omega
                      · have hb30p := hb30.h; try simp only [al_ete, al_dfn, Bool.not_eq_true', Bool.not_eq_false', al_ne, Bool.not_not, al_nn] at hb30p
                        refine WH_guardF rfl rfl hb30.h ?_
                        refine WH_guardF rfl rfl hb30.h ?_
                        refine WH_guardF rfl rfl hb30.h ?_
                        refine WH_guardF rfl rfl hb30.h ?_
                        refine WH_guardF rfl rfl hb30.h ?_
                        refine WH_guardF rfl rfl hb30.h ?_
                        refine WH_guardF rfl rfl hb30.h ?_
                        refine WH_guardF rfl rfl hb30.h ?_
                        refine WH_p (PS_pickF rfl hb30.h rfl) rfl ?_
                        refine WH_p (PS_assign_bool rfl) rfl ?_
                        refine WH_nil ?_
                        refine thn_normal ?_
                        refine W_condF rfl rfl ?_
                        refine W_seq ?_
                        refine W_drawE [false, false, false, false, true, true, false, false, false, false, false, false, false, false, true, false, false, false, false] hmix (by kernel_rfl) rfl ?_
                        refine WH_p (PS_move_int rfl) rfl ?_
                        refine WH_p (PS_eql rfl rfl) rfl ?_
                        refine WH_p (PS_move_bool rfl) rfl ?_
                        refine WH_if (t := 125) rfl (fun hb32 => ?_) (fun hb32 => ?_)
                        · have hb32p := hb32.h; try simp only [al_ete, al_dfn, Bool.not_eq_true', Bool.not_eq_false', al_ne, Bool.not_not, al_nn] at hb32p
                          exfalso; omega
                        · have hb32p := hb32.h; try simp only [al_ete, al_dfn, Bool.not_eq_true', Bool.not_eq_false', al_ne, Bool.not_not, al_nn] at hb32p
                          refine WH_guardF rfl rfl hb32.h ?_
                          refine WH_guardF rfl rfl hb32.h ?_
                          refine WH_guardF rfl rfl hb32.h ?_
                          refine WH_guardF rfl rfl hb32.h ?_
                          refine WH_p (PS_pickF rfl hb32.h rfl) rfl ?_
                          refine WH_p (PS_move_bool rfl) rfl ?_
                          refine WH_guardF rfl rfl rfl ?_
                          refine WH_guardF rfl rfl rfl ?_
                          refine WH_guardF rfl rfl rfl ?_
                          refine WH_guardF rfl rfl rfl ?_
                          refine WH_guardF rfl rfl rfl ?_
                          refine WH_guardF rfl rfl rfl ?_
                          refine WH_guardF rfl rfl rfl ?_
                          refine WH_guardF rfl rfl rfl ?_
                          refine WH_p (PS_pickF rfl rfl rfl) rfl ?_
                          refine WH_p (PS_assign_bool rfl) rfl ?_
                          refine WH_nil ?_
                          refine thn_normal ?_
                          refine W_condF rfl rfl ?_
                          refine W_skip ?_
                          refine inBlk_normal ?_
                          refine thn_normal ?_
                          refine W_seq ?_
                          refine W_region rfl ?_
                          refine WO_p (PS_move_slice rfl) ?_
                          refine WO_p (PS_assign_int rfl) ?_
                          refine WO_p (PS_assign_slice rfl) ?_
                          refine WO_nil ?_
                          refine thn_normal ?_
                          refine W_ret ?_
                          refine bodyQ_ret2 Hvac.results42 rfl rfl (.int _ _) (.slice _ _ _) rfl rfl ?_
                          unfold yrefuse
                          (repeat (first | rw [if_pos (by first | assumption | omega | (rintro ⟨h1, h2⟩; omega))] | rw [if_neg (by first | assumption | omega | (rintro ⟨h1, h2⟩; omega))]))
                          first
                          | exact ⟨(by repeat (first | assumption | exact Ext.refl _ | refine Ext.alloc ?_ _ | refine Ext.drew ?_ | refine Ext.setB ?_ (by first | omega | (simp only [size_alloc, size_setB, size_drew]; omega)) _ | refine Ext.trans ?_ (by assumption))), (_, _, _), rfl, fun h9 => (Nat.succ_ne_zero _ h9).elim⟩
                          | exact ⟨(by repeat (first | assumption | exact Ext.refl _ | refine Ext.alloc ?_ _ | refine Ext.drew ?_ | refine Ext.setB ?_ (by first | omega | (simp only [size_alloc, size_setB, size_drew]; omega)) _ | refine Ext.trans ?_ (by assumption))), (_, _, _), rfl, fun _ => (by first | exact NN.nil _ | assumption | exact NN.ext (by assumption) (by repeat (first | assumption | exact Ext.refl _ | refine Ext.alloc ?_ _ | refine Ext.drew ?_ | refine Ext.setB ?_ (by first | omega | (simp only [size_alloc, size_setB, size_drew]; omega)) _ | refine Ext.trans ?_ (by assumption))))⟩
            · have hb15p := hb15.h; try simp only [al_ete, al_dfn, Bool.not_eq_true', Bool.not_eq_false', al_ne, Bool.not_not, al_nn] at hb15p
              refine WO_guardT rfl rfl hb15.h ?_
              refine WO_p (PS_move_int rfl) ?_
              refine WO_guardT rfl rfl hb15.h ?_
              refine WO_p (PS_eql rfl rfl) ?_
              refine WO_p (PS_pickF rfl hb15.h rfl) ?_
              refine WO_p (PS_move_bool rfl) ?_
              refine WO_if (t := 56) rfl (fun hb34 => ?_) (fun hb34 => ?_)
              · have hb34p := hb34.h; try simp only [al_ete, al_dfn, Bool.not_eq_true', Bool.not_eq_false', al_ne, Bool.not_not, al_nn] at hb34p
                have ho5 : o = 245 := by omega
                refine WO_guardT rfl rfl hb34.h ?_
                refine WO_p (PS_move_ptr rfl) ?_
                refine WO_guardT rfl rfl hb34.h ?_
                refine WO_call Hvac.call47 (by rfl) (Ret.mono (yArg_spec _ (OmB.ext hO (by repeat (first | assumption | exact Ext.refl _ | refine Ext.alloc ?_ _ | refine Ext.drew ?_ | refine Ext.setB ?_ (by first | omega | (simp only [size_alloc, size_setB, size_drew]; omega)) _ | exact Ext.trans (by assumption) (by assumption) | refine Ext.trans ?_ (by assumption)))) _ _ _ _ (by first | assumption | exact FrS.ext (by assumption) (by repeat (first | assumption | exact Ext.refl _ | refine Ext.alloc ?_ _ | refine Ext.drew ?_ | refine Ext.setB ?_ (by first | omega | (simp only [size_alloc, size_setB, size_drew]; omega)) _ | exact Ext.trans (by assumption) (by assumption) | refine Ext.trans ?_ (by assumption)))) hP _ (by decide)) ?_)
                rintro _ w47_34 ⟨hE47_34, s47_34, rfl, hN47_34, hs47_34⟩
                have hz47_34 := hE47_34.1
                try simp only [size_alloc, size_setB, size_drew] at hz47_34
                refine WO_guardT rfl rfl hb34.h ?_
                refine WO_call Hvac.call19 (by rfl) (Ret.mono (nNum_spec (OmB.ext hO (by repeat (first | assumption | exact Ext.refl _ | refine Ext.alloc ?_ _ | refine Ext.drew ?_ | refine Ext.setB ?_ (by first | omega | (simp only [size_alloc, size_setB, size_drew]; omega)) _ | exact Ext.trans (by assumption) (by assumption) | refine Ext.trans ?_ (by assumption)))) ⟨by omega, by omega⟩) ?_)
                rintro _ w19_35 ⟨hE19_35, s19_35, rfl, hN19_35, hs19_35⟩
                have hz19_35 := hE19_35.1
                try simp only [size_alloc, size_setB, size_drew] at hz19_35
                try simp only [Int.toNat_natCast, toNat_lit] at hN19_35 hs19_35
                refine WO_guardT rfl rfl hb34.h ?_
                refine WO_call Hvac.call76 (by rfl) (Ret.mono (nCmp_spec (by first | exact NN.nil _ | assumption | exact NN.ext (by assumption) (by repeat (first | assumption | exact Ext.refl _ | refine Ext.alloc ?_ _ | refine Ext.drew ?_ | refine Ext.setB ?_ (by first | omega | (simp only [size_alloc, size_setB, size_drew]; omega)) _ | exact Ext.trans (by assumption) (by assumption) | refine Ext.trans ?_ (by assumption)))) (by first | exact NN.nil _ | assumption | exact NN.ext (by assumption) (by repeat (first | assumption | exact Ext.refl _ | refine Ext.alloc ?_ _ | refine Ext.drew ?_ | refine Ext.setB ?_ (by first | omega | (simp only [size_alloc, size_setB, size_drew]; omega)) _ | exact Ext.trans (by assumption) (by assumption) | refine Ext.trans ?_ (by assumption)))) (by first | assumption | omega | (rw [sz_zero]; omega)) (by first | assumption | omega | (rw [sz_zero]; omega))) ?_)
                rintro _ w76_36 ⟨hE76_36, rfl⟩
                have hz76_36 := hE76_36.1
                try simp only [size_alloc, size_setB, size_drew] at hz76_36
                refine WO_guardT rfl rfl hb34.h ?_
                refine WO_p (PS_gtr rfl rfl) ?_
                refine WO_p (PS_pickT rfl hb34.h rfl) ?_
                refine WO_p (PS_assign_bool rfl) ?_
                refine WO_nil ?_
                refine thn_normal ?_
                refine W_if rfl (fun hb39 => ?_) (fun hb39 => ?_)
                · have hb39p := hb39.h; try simp only [al_ete, al_dfn, Bool.not_eq_true', Bool.not_eq_false', al_ne, Bool.not_not, al_nn] at hb39p
                  try simp only [cmpI_gt3, cmpI_gt2, cmpI_le2, Bool.not_eq_true', Bool.not_eq_false'] at hb39p
                  refine W_seq ?_
                  refine W_region rfl ?_
                  refine WO_p (PS_assign_int rfl) ?_
                  refine WO_p (PS_assign_slice rfl) ?_
                  refine WO_nil ?_
                  refine thn_normal ?_
                  refine W_ret ?_
                  refine inBlk_ret ?_
                  refine thn_ret ?_
                  refine bodyQ_ret2 Hvac.results42 rfl rfl (.int _ _) (.slice _ _ _) rfl rfl ?_
                  unfold yrefuse
                  (repeat (first | rw [if_pos (by first | assumption | omega | (rintro ⟨h1, h2⟩; omega))] | rw [if_neg (by first | assumption | omega | (rintro ⟨h1, h2⟩; omega))]))
                  first
                  | exact ⟨(by repeat (first | assumption | exact Ext.refl _ | refine Ext.alloc ?_ _ | refine Ext.drew ?_ | refine Ext.setB ?_ (by first | omega | (simp only [size_alloc, size_setB, size_drew]; omega)) _ | refine Ext.trans ?_ (by assumption))), (_, _, _), rfl, fun h9 => (Nat.succ_ne_zero _ h9).elim⟩
                  | exact ⟨(by repeat (first | assumption | exact Ext.refl _ | refine Ext.alloc ?_ _ | refine Ext.drew ?_ | refine Ext.setB ?_ (by first | omega | (simp only [size_alloc, size_setB, size_drew]; omega)) _ | refine Ext.trans ?_ (by assumption))), (_, _, _), rfl, fun _ => (by first | exact NN.nil _ | assumption | exact NN.ext (by assumption) (by repeat (first | assumption | exact Ext.refl _ | refine Ext.alloc ?_ _ | refine Ext.drew ?_ | refine Ext.setB ?_ (by first | omega | (simp only [size_alloc, size_setB, size_drew]; omega)) _ | refine Ext.trans ?_ (by assumption))))⟩
                · have hb39p := hb39.h; try simp only [al_ete, al_dfn, Bool.not_eq_true', Bool.not_eq_false', al_ne, Bool.not_not, al_nn] at hb39p
                  try simp only [cmpI_gt3, cmpI_gt2, cmpI_le2, Bool.not_eq_true', Bool.not_eq_false'] at hb39p
                  refine W_seq ?_
                  refine W_drawE [false, false, false, false, true, false, true, true, false, false, false, false, false, false, false, false, false, false, false] hmix (by kernel_rfl) rfl ?_
                  refine WH_p (PS_move_int rfl) rfl ?_
                  refine WH_p (PS_eql rfl rfl) rfl ?_
                  refine WH_p (PS_move_bool rfl) rfl ?_
                  refine WH_if (t := 66) rfl (fun hb41 => ?_) (fun hb41 => ?_)
                  · have hb41p := hb41.h; try simp only [al_ete, al_dfn, Bool.not_eq_true', Bool.not_eq_false', al_ne, Bool.not_not, al_nn] at hb41p
                    exfalso; omega
                  · have hb41p := hb41.h; try simp only [al_ete, al_dfn, Bool.not_eq_true', Bool.not_eq_false', al_ne, Bool.not_not, al_nn] at hb41p
                    refine WH_guardF rfl rfl hb41.h ?_
                    refine WH_guardF rfl rfl hb41.h ?_
                    refine WH_guardF rfl rfl hb41.h ?_
                    refine WH_guardF rfl rfl hb41.h ?_
                    refine WH_guardF rfl rfl hb41.h ?_
                    refine WH_guardF rfl rfl hb41.h ?_
                    refine WH_guardF rfl rfl hb41.h ?_
                    refine WH_guardF rfl rfl hb41.h ?_
                    refine WH_guardF rfl rfl hb41.h ?_
                    refine WH_guardF rfl rfl hb41.h ?_
                    refine WH_guardF rfl rfl hb41.h ?_
                    refine WH_guardF rfl rfl hb41.h ?_
                    refine WH_guardF rfl rfl hb41.h ?_
                    refine WH_guardF rfl rfl hb41.h ?_
                    refine WH_p (PS_pickF rfl hb41.h rfl) rfl ?_
                    refine WH_p (PS_assign_bool rfl) rfl ?_
                    refine WH_nil ?_
                    refine thn_normal ?_
                    refine W_condF rfl rfl ?_
                    refine W_skip ?_
                    refine inBlk_normal ?_
                    refine thn_normal ?_
                    refine W_seq ?_
                    refine W_region rfl ?_
                    refine WO_p (PS_move_ptr rfl) ?_
                    refine WO_p (PS_move_ptr rfl) ?_
                    refine WO_p (PS_move_int rfl) ?_
                    refine WO_call Hvac.call113 (by rfl) (Ret.mono (yCost_spec _ (OmB.ext hO (by repeat (first | assumption | exact Ext.refl _ | refine Ext.alloc ?_ _ | refine Ext.drew ?_ | refine Ext.setB ?_ (by first | omega | (simp only [size_alloc, size_setB, size_drew]; omega)) _ | exact Ext.trans (by assumption) (by assumption) | refine Ext.trans ?_ (by assumption)))) _ _ _ _ (by first | assumption | exact YSS.ext (by assumption) (by repeat (first | assumption | exact Ext.refl _ | refine Ext.alloc ?_ _ | refine Ext.drew ?_ | refine Ext.setB ?_ (by first | omega | (simp only [size_alloc, size_setB, size_drew]; omega)) _ | exact Ext.trans (by assumption) (by assumption) | refine Ext.trans ?_ (by assumption)))) hB hN _ _ _ _ (by first | assumption | exact FrS.ext (by assumption) (by repeat (first | assumption | exact Ext.refl _ | refine Ext.alloc ?_ _ | refine Ext.drew ?_ | refine Ext.setB ?_ (by first | omega | (simp only [size_alloc, size_setB, size_drew]; omega)) _ | exact Ext.trans (by assumption) (by assumption) | refine Ext.trans ?_ (by assumption)))) hP _ (by omega)) ?_)
                    rintro _ w113_41 ⟨hE113_41, s113_41, rfl, hN113_41⟩
                    have hz113_41 := hE113_41.1
                    try simp only [size_alloc, size_setB, size_drew] at hz113_41
                    have hs113_41 := sz_ycost (y := y) hP o ho
                    refine WO_p (PS_assign_slice rfl) ?_
                    refine WO_nil ?_
                    refine thn_normal ?_
                    refine W_seq ?_
                    refine W_block ?_
                    refine W_seq ?_
                    refine W_region rfl ?_
                    refine WO_p (PS_move_slice rfl) ?_
                    refine WO_p (PS_move_ptr rfl) ?_
                    refine WO_p (PS_nilCheck rfl) ?_
                    refine WO_p (PS_fieldAddr 4 Hvac.runUnderlying121 rfl Hvac.sizeOf92 rfl rfl) ?_
                    refine WO_load (.slice _ _ _) Hvac.isAgg92 rfl (Hb.h (by repeat (first | assumption | exact Hb.newY _ _ | refine Hb.alloc ?_ | refine Hb.drew ?_ | refine Hb.ext (by assumption) ?_ | exact Hb.setSameL (by first | omega | (simp only [size_alloc, size_setB, size_drew]; omega)) | exact Hb.setSame (by assumption) | refine Hb.set (by first | omega | (simp only [size_alloc, size_setB, size_drew]; omega)) ?_ ))) (Ce.h (by first | assumption | exact ⟨rfl⟩)) ?_
                    refine WO_call Hvac.call76 (by rfl) (Ret.mono (nCmp_spec (by first | exact NN.nil _ | assumption | exact NN.ext (by assumption) (by repeat (first | assumption | exact Ext.refl _ | refine Ext.alloc ?_ _ | refine Ext.drew ?_ | refine Ext.setB ?_ (by first | omega | (simp only [size_alloc, size_setB, size_drew]; omega)) _ | exact Ext.trans (by assumption) (by assumption) | refine Ext.trans ?_ (by assumption)))) (by first | exact NN.nil _ | assumption | exact NN.ext (by assumption) (by repeat (first | assumption | exact Ext.refl _ | refine Ext.alloc ?_ _ | refine Ext.drew ?_ | refine Ext.setB ?_ (by first | omega | (simp only [size_alloc, size_setB, size_drew]; omega)) _ | exact Ext.trans (by assumption) (by assumption) | refine Ext.trans ?_ (by assumption)))) (by first | assumption | omega | (rw [sz_zero]; omega)) (by first | assumption | omega | (rw [sz_zero]; omega))) ?_)
                    rintro _ w76_42 ⟨hE76_42, rfl⟩
                    have hz76_42 := hE76_42.1
                    try simp only [size_alloc, size_setB, size_drew] at hz76_42
                    refine WO_p (PS_gtr rfl rfl) ?_
                    refine WO_p (PS_assign_bool rfl) ?_
                    refine WO_nil ?_
                    refine thn_normal ?_
                    refine W_if rfl (fun hb45 => ?_) (fun hb45 => ?_)
                    · have hb45p := hb45.h; try simp only [al_ete, al_dfn, Bool.not_eq_true', Bool.not_eq_false', al_ne, Bool.not_not, al_nn] at hb45p
                      try simp only [cmpI_gt3, cmpI_gt2, cmpI_le2, Bool.not_eq_true', Bool.not_eq_false'] at hb45p
                      refine W_seq ?_
                      refine W_region rfl ?_
                      refine WO_p (PS_move_slice rfl) ?_
                      refine WO_p (PS_assign_int rfl) ?_
                      refine WO_p (PS_assign_slice rfl) ?_
                      refine WO_nil ?_
                      refine thn_normal ?_
                      refine W_ret ?_
                      refine inBlk_ret ?_
                      refine thn_ret ?_
                      refine bodyQ_ret2 Hvac.results42 rfl rfl (.int _ _) (.slice _ _ _) rfl rfl ?_
                      unfold yrefuse
                      (repeat (first | rw [if_pos (by first | assumption | omega | (rintro ⟨h1, h2⟩; omega))] | rw [if_neg (by first | assumption | omega | (rintro ⟨h1, h2⟩; omega))]))
                      first
                      | exact ⟨(by repeat (first | assumption | exact Ext.refl _ | refine Ext.alloc ?_ _ | refine Ext.drew ?_ | refine Ext.setB ?_ (by first | omega | (simp only [size_alloc, size_setB, size_drew]; omega)) _ | refine Ext.trans ?_ (by assumption))), (_, _, _), rfl, fun h9 => (Nat.succ_ne_zero _ h9).elim⟩
                      | exact ⟨(by repeat (first | assumption | exact Ext.refl _ | refine Ext.alloc ?_ _ | refine Ext.drew ?_ | refine Ext.setB ?_ (by first | omega | (simp only [size_alloc, size_setB, size_drew]; omega)) _ | refine Ext.trans ?_ (by assumption))), (_, _, _), rfl, fun _ => (by first | exact NN.nil _ | assumption | exact NN.ext (by assumption) (by repeat (first | assumption | exact Ext.refl _ | refine Ext.alloc ?_ _ | refine Ext.drew ?_ | refine Ext.setB ?_ (by first | omega | (simp only [size_alloc, size_setB, size_drew]; omega)) _ | refine Ext.trans ?_ (by assumption))))⟩
                    · have hb45p := hb45.h; try simp only [al_ete, al_dfn, Bool.not_eq_true', Bool.not_eq_false', al_ne, Bool.not_not, al_nn] at hb45p
                      try simp only [cmpI_gt3, cmpI_gt2, cmpI_le2, Bool.not_eq_true', Bool.not_eq_false'] at hb45p
                      refine W_seq ?_
                      refine W_drawE [false, false, false, false, false, false, false, true, false, false, false, false] hmix (by kernel_rfl) rfl ?_
                      refine WH_p (PS_move_int rfl) rfl ?_
                      refine WH_p (PS_eql rfl rfl) rfl ?_
                      refine WH_p (PS_move_bool rfl) rfl ?_
                      refine WH_if (t := 98) rfl (fun hb47 => ?_) (fun hb47 => ?_)
                      · have hb47p := hb47.h; try simp only [al_ete, al_dfn, Bool.not_eq_true', Bool.not_eq_false', al_ne, Bool.not_not, al_nn] at hb47p
                        exfalso; omega
                      · have hb47p := hb47.h; try simp only [al_ete, al_dfn, Bool.not_eq_true', Bool.not_eq_false', al_ne, Bool.not_not, al_nn] at hb47p
                        refine WH_guardF rfl rfl hb47.h ?_
                        refine WH_guardF rfl rfl hb47.h ?_
                        refine WH_guardF rfl rfl hb47.h ?_
                        refine WH_guardF rfl rfl hb47.h ?_
                        refine WH_guardF rfl rfl hb47.h ?_
                        refine WH_guardF rfl rfl hb47.h ?_
                        refine WH_guardF rfl rfl hb47.h ?_
                        refine WH_p (PS_pickF rfl hb47.h rfl) rfl ?_
                        refine WH_p (PS_assign_bool rfl) rfl ?_
                        refine WH_nil ?_
                        refine thn_normal ?_
                        refine W_condF rfl rfl ?_
                        refine W_seq ?_
                        refine W_drawE [false, false, false, false, false, false, false, false, true, false, false, false, false] hmix (by kernel_rfl) rfl ?_
                        refine WH_p (PS_move_int rfl) rfl ?_
                        refine WH_p (PS_eql rfl rfl) rfl ?_
                        refine WH_p (PS_move_bool rfl) rfl ?_
                        refine WH_if (t := 111) rfl (fun hb49 => ?_) (fun hb49 => ?_)
                        · have hb49p := hb49.h; try simp only [al_ete, al_dfn, Bool.not_eq_true', Bool.not_eq_false', al_ne, Bool.not_not, al_nn] at hb49p
                          exfalso; omega
                        · have hb49p := hb49.h; try simp only [al_ete, al_dfn, Bool.not_eq_true', Bool.not_eq_false', al_ne, Bool.not_not, al_nn] at hb49p
                          refine WH_guardF rfl rfl hb49.h ?_
                          refine WH_guardF rfl rfl hb49.h ?_
                          refine WH_guardF rfl rfl hb49.h ?_
                          refine WH_guardF rfl rfl hb49.h ?_
                          refine WH_guardF rfl rfl hb49.h ?_
                          refine WH_guardF rfl rfl hb49.h ?_
                          refine WH_guardF rfl rfl hb49.h ?_
                          refine WH_guardF rfl rfl hb49.h ?_
                          refine WH_p (PS_pickF rfl hb49.h rfl) rfl ?_
                          refine WH_p (PS_assign_bool rfl) rfl ?_
                          refine WH_nil ?_
                          refine thn_normal ?_
                          refine W_condF rfl rfl ?_
                          refine W_seq ?_
                          refine W_drawE [false, false, false, false, true, true, false, false, false, false, false, false, false, false, true, false, false, false, false] hmix (by kernel_rfl) rfl ?_
                          refine WH_p (PS_move_int rfl) rfl ?_
                          refine WH_p (PS_eql rfl rfl) rfl ?_
                          refine WH_p (PS_move_bool rfl) rfl ?_
                          refine WH_if (t := 125) rfl (fun hb51 => ?_) (fun hb51 => ?_)
                          · have hb51p := hb51.h; try simp only [al_ete, al_dfn, Bool.not_eq_true', Bool.not_eq_false', al_ne, Bool.not_not, al_nn] at hb51p
                            exfalso; omega
                          · have hb51p := hb51.h; try simp only [al_ete, al_dfn, Bool.not_eq_true', Bool.not_eq_false', al_ne, Bool.not_not, al_nn] at hb51p
                            refine WH_guardF rfl rfl hb51.h ?_
                            refine WH_guardF rfl rfl hb51.h ?_
                            refine WH_guardF rfl rfl hb51.h ?_
                            refine WH_guardF rfl rfl hb51.h ?_
                            refine WH_p (PS_pickF rfl hb51.h rfl) rfl ?_
                            refine WH_p (PS_move_bool rfl) rfl ?_
                            refine WH_guardF rfl rfl rfl ?_
                            refine WH_guardF rfl rfl rfl ?_
                            refine WH_guardF rfl rfl rfl ?_
                            refine WH_guardF rfl rfl rfl ?_
                            refine WH_guardF rfl rfl rfl ?_
                            refine WH_guardF rfl rfl rfl ?_
                            refine WH_guardF rfl rfl rfl ?_
                            refine WH_guardF rfl rfl rfl ?_
                            refine WH_p (PS_pickF rfl rfl rfl) rfl ?_
                            refine WH_p (PS_assign_bool rfl) rfl ?_
                            refine WH_nil ?_
                            refine thn_normal ?_
                            refine W_condF rfl rfl ?_
                            refine W_skip ?_
                            refine inBlk_normal ?_
                            refine thn_normal ?_
                            refine W_seq ?_
                            refine W_region rfl ?_
                            refine WO_p (PS_move_slice rfl) ?_
                            refine WO_p (PS_assign_int rfl) ?_
                            refine WO_p (PS_assign_slice rfl) ?_
                            refine WO_nil ?_
                            refine thn_normal ?_
                            refine W_ret ?_
                            refine bodyQ_ret2 Hvac.results42 rfl rfl (.int _ _) (.slice _ _ _) rfl rfl ?_
                            unfold yrefuse
                            (repeat (first | rw [if_pos (by first | assumption | omega | (rintro ⟨h1, h2⟩; omega))] | rw [if_neg (by first | assumption | omega | (rintro ⟨h1, h2⟩; omega))]))
                            first
                            | exact ⟨(by repeat (first | assumption | exact Ext.refl _ | refine Ext.alloc ?_ _ | refine Ext.drew ?_ | refine Ext.setB ?_ (by first | omega | (simp only [size_alloc, size_setB, size_drew]; omega)) _ | refine Ext.trans ?_ (by assumption))), (_, _, _), rfl, fun h9 => (Nat.succ_ne_zero _ h9).elim⟩
                            | exact ⟨(by repeat (first | assumption | exact Ext.refl _ | refine Ext.alloc ?_ _ | refine Ext.drew ?_ | refine Ext.setB ?_ (by first | omega | (simp only [size_alloc, size_setB, size_drew]; omega)) _ | refine Ext.trans ?_ (by assumption))), (_, _, _), rfl, fun _ => (by first | exact NN.nil _ | assumption | exact NN.ext (by assumption) (by repeat (first | assumption | exact Ext.refl _ | refine Ext.alloc ?_ _ | refine Ext.drew ?_ | refine Ext.setB ?_ (by first | omega | (simp only [size_alloc, size_setB, size_drew]; omega)) _ | refine Ext.trans ?_ (by assumption))))⟩
              · have hb34p := hb34.h; try simp only [al_ete, al_dfn, Bool.not_eq_true', Bool.not_eq_false', al_ne, Bool.not_not, al_nn] at hb34p
                refine WO_guardF rfl rfl hb34.h ?_
                refine WO_guardF rfl rfl hb34.h ?_
                refine WO_guardF rfl rfl hb34.h ?_
                refine WO_guardF rfl rfl hb34.h ?_
                refine WO_guardF rfl rfl hb34.h ?_
                refine WO_p (PS_pickF rfl hb34.h rfl) ?_
                refine WO_p (PS_assign_bool rfl) ?_
                refine WO_nil ?_
                refine thn_normal ?_
                refine W_condF rfl rfl ?_
                refine W_seq ?_
                refine W_drawE [false, false, false, false, true, false, true, true, false, false, false, false, false, false, false, false, false, false, false] hmix (by kernel_rfl) rfl ?_
                refine WH_p (PS_move_int rfl) rfl ?_
                refine WH_p (PS_eql rfl rfl) rfl ?_
                refine WH_p (PS_move_bool rfl) rfl ?_
                refine WH_if (t := 66) rfl (fun hb53 => ?_) (fun hb53 => ?_)
                · have hb53p := hb53.h; try simp only [al_ete, al_dfn, Bool.not_eq_true', Bool.not_eq_false', al_ne, Bool.not_not, al_nn] at hb53p
                  have ho5 : o = 62 := by omega
                  refine WH_guardT rfl rfl hb53.h ?_
                  refine WH_p (PS_move_ptr rfl) rfl ?_
                  refine WH_guardT rfl rfl hb53.h ?_
                  refine WH_call Hvac.call47 (by rfl) (Ret.mono (yArg_spec _ (OmB.ext hO (by repeat (first | assumption | exact Ext.refl _ | refine Ext.alloc ?_ _ | refine Ext.drew ?_ | refine Ext.setB ?_ (by first | omega | (simp only [size_alloc, size_setB, size_drew]; omega)) _ | exact Ext.trans (by assumption) (by assumption) | refine Ext.trans ?_ (by assumption)))) _ _ _ _ (by first | assumption | exact FrS.ext (by assumption) (by repeat (first | assumption | exact Ext.refl _ | refine Ext.alloc ?_ _ | refine Ext.drew ?_ | refine Ext.setB ?_ (by first | omega | (simp only [size_alloc, size_setB, size_drew]; omega)) _ | exact Ext.trans (by assumption) (by assumption) | refine Ext.trans ?_ (by assumption)))) hP _ (by decide)) ?_)
                  rintro _ w47_53 ⟨hE47_53, s47_53, rfl, hN47_53, hs47_53⟩
                  refine ⟨fun _ => (by repeat (first | assumption | exact Ext.refl _ | refine Ext.alloc ?_ _ | refine Ext.drew ?_ | refine Ext.setB ?_ (by first | omega | (simp only [size_alloc, size_setB, size_drew]; omega)) _ | exact Ext.trans (by assumption) (by assumption) | refine Ext.trans ?_ (by assumption))), ?_⟩
                  have hz47_53 := hE47_53.1
                  try simp only [size_alloc, size_setB, size_drew] at hz47_53
                  refine WH_guardT rfl rfl hb53.h ?_
                  refine WH_p (PS_move_ptr rfl) rfl ?_
                  refine WH_guardT rfl rfl hb53.h ?_
                  refine WH_call Hvac.call47 (by rfl) (Ret.mono (yArg_spec _ (OmB.ext hO (by repeat (first | assumption | exact Ext.refl _ | refine Ext.alloc ?_ _ | refine Ext.drew ?_ | refine Ext.setB ?_ (by first | omega | (simp only [size_alloc, size_setB, size_drew]; omega)) _ | exact Ext.trans (by assumption) (by assumption) | refine Ext.trans ?_ (by assumption)))) _ _ _ _ (by first | assumption | exact FrS.ext (by assumption) (by repeat (first | assumption | exact Ext.refl _ | refine Ext.alloc ?_ _ | refine Ext.drew ?_ | refine Ext.setB ?_ (by first | omega | (simp only [size_alloc, size_setB, size_drew]; omega)) _ | exact Ext.trans (by assumption) (by assumption) | refine Ext.trans ?_ (by assumption)))) hP _ (by decide)) ?_)
                  rintro _ w47_54 ⟨hE47_54, s47_54, rfl, hN47_54, hs47_54⟩
                  refine ⟨fun _ => (by repeat (first | assumption | exact Ext.refl _ | refine Ext.alloc ?_ _ | refine Ext.drew ?_ | refine Ext.setB ?_ (by first | omega | (simp only [size_alloc, size_setB, size_drew]; omega)) _ | exact Ext.trans (by assumption) (by assumption) | refine Ext.trans ?_ (by assumption))), ?_⟩
                  have hz47_54 := hE47_54.1
                  try simp only [size_alloc, size_setB, size_drew] at hz47_54
                  refine WH_guardT rfl rfl hb53.h ?_
                  refine WH_call Hvac.call24 (by rfl) (Ret.mono (nAdd_spec (OmB.ext hO (by repeat (first | assumption | exact Ext.refl _ | refine Ext.alloc ?_ _ | refine Ext.drew ?_ | refine Ext.setB ?_ (by first | omega | (simp only [size_alloc, size_setB, size_drew]; omega)) _ | exact Ext.trans (by assumption) (by assumption) | refine Ext.trans ?_ (by assumption)))) (by first | exact NN.nil _ | assumption | exact NN.ext (by assumption) (by repeat (first | assumption | exact Ext.refl _ | refine Ext.alloc ?_ _ | refine Ext.drew ?_ | refine Ext.setB ?_ (by first | omega | (simp only [size_alloc, size_setB, size_drew]; omega)) _ | exact Ext.trans (by assumption) (by assumption) | refine Ext.trans ?_ (by assumption)))) (by first | exact NN.nil _ | assumption | exact NN.ext (by assumption) (by repeat (first | assumption | exact Ext.refl _ | refine Ext.alloc ?_ _ | refine Ext.drew ?_ | refine Ext.setB ?_ (by first | omega | (simp only [size_alloc, size_setB, size_drew]; omega)) _ | exact Ext.trans (by assumption) (by assumption) | refine Ext.trans ?_ (by assumption)))) (by first | assumption | omega | (rw [sz_zero]; omega)) (by first | assumption | omega | (rw [sz_zero]; omega))) ?_)
                  rintro _ w24_55 ⟨hE24_55, s24_55, rfl, hN24_55⟩
                  refine ⟨fun _ => (by repeat (first | assumption | exact Ext.refl _ | refine Ext.alloc ?_ _ | refine Ext.drew ?_ | refine Ext.setB ?_ (by first | omega | (simp only [size_alloc, size_setB, size_drew]; omega)) _ | exact Ext.trans (by assumption) (by assumption) | refine Ext.trans ?_ (by assumption))), ?_⟩
                  have hz24_55 := hE24_55.1
                  try simp only [size_alloc, size_setB, size_drew] at hz24_55
                  have hs24_55 := hN24_55.z_add
                  refine WH_guardT rfl rfl hb53.h ?_
                  refine WH_p (PS_move_ptr rfl) rfl ?_
                  refine WH_guardT rfl rfl hb53.h ?_
                  refine WH_p (PS_nilCheck rfl) rfl ?_
                  refine WH_guardT rfl rfl hb53.h ?_
                  refine WH_p (PS_fieldAddr 10 Hvac.runUnderlying99 rfl Hvac.sizeOf32 rfl rfl) rfl ?_
                  refine WH_guardT rfl rfl hb53.h ?_
                  refine WH_load (.slice _ _ _) Hvac.isAgg32 rfl (Hb.h (by repeat (first | assumption | exact Hb.newY _ _ | refine Hb.alloc ?_ | refine Hb.drew ?_ | refine Hb.ext (by assumption) ?_ | exact Hb.setSameL (by first | omega | (simp only [size_alloc, size_setB, size_drew]; omega)) | exact Hb.setSame (by assumption) | refine Hb.set (by first | omega | (simp only [size_alloc, size_setB, size_drew]; omega)) ?_ ))) (Ce.h (by first | assumption | exact ⟨rfl⟩)) ?_
                  refine WH_guardT rfl rfl hb53.h ?_
                  refine WH_p (PS_lenS Hvac.runUnderlying32 rfl) rfl ?_
                  refine WH_guardT rfl rfl hb53.h ?_
                  refine WH_p (PS_conv_u64n Hvac.runUnderlying3 Hvac.runUnderlying26 rfl (by omega) (by omega)) rfl ?_
                  refine WH_guardT rfl rfl hb53.h ?_
                  refine WH_call Hvac.call19 (by rfl) (Ret.mono (nNum_spec (OmB.ext hO (by repeat (first | assumption | exact Ext.refl _ | refine Ext.alloc ?_ _ | refine Ext.drew ?_ | refine Ext.setB ?_ (by first | omega | (simp only [size_alloc, size_setB, size_drew]; omega)) _ | exact Ext.trans (by assumption) (by assumption) | refine Ext.trans ?_ (by assumption)))) ⟨by omega, by omega⟩) ?_)
                  rintro _ w19_56 ⟨hE19_56, s19_56, rfl, hN19_56, hs19_56⟩
                  refine ⟨(fun h => by cases h), ?_⟩
                  have hz19_56 := hE19_56.1
                  try simp only [size_alloc, size_setB, size_drew] at hz19_56
                  try simp only [Int.toNat_natCast, toNat_lit] at hN19_56 hs19_56
                  refine WH_guardT rfl rfl hb53.h ?_
                  refine WH_call Hvac.call76 (by rfl) (Ret.mono (nCmp_spec (by first | exact NN.nil _ | assumption | exact NN.ext (by assumption) (by repeat (first | assumption | exact Ext.refl _ | refine Ext.alloc ?_ _ | refine Ext.drew ?_ | refine Ext.setB ?_ (by first | omega | (simp only [size_alloc, size_setB, size_drew]; omega)) _ | exact Ext.trans (by assumption) (by assumption) | refine Ext.trans ?_ (by assumption)))) (by first | exact NN.nil _ | assumption | exact NN.ext (by assumption) (by repeat (first | assumption | exact Ext.refl _ | refine Ext.alloc ?_ _ | refine Ext.drew ?_ | refine Ext.setB ?_ (by first | omega | (simp only [size_alloc, size_setB, size_drew]; omega)) _ | exact Ext.trans (by assumption) (by assumption) | refine Ext.trans ?_ (by assumption)))) (by first | assumption | omega | (rw [sz_zero]; omega)) (by first | assumption | omega | (rw [sz_zero]; omega))) ?_)
                  rintro _ w76_57 ⟨hE76_57, rfl⟩
                  refine ⟨(fun h => by cases h), ?_⟩
                  have hz76_57 := hE76_57.1
                  try simp only [size_alloc, size_setB, size_drew] at hz76_57
                  refine WH_guardT rfl rfl hb53.h ?_
                  refine WH_p (PS_gtr rfl rfl) rfl ?_
                  refine WH_p (PS_pickT rfl hb53.h rfl) rfl ?_
                  refine WH_p (PS_assign_bool rfl) rfl ?_
                  refine WH_nil ?_
                  refine thn_normal ?_
                  refine W_if rfl (fun hb60 => ?_) (fun hb60 => ?_)
                  · have hb60p := hb60.h; try simp only [al_ete, al_dfn, Bool.not_eq_true', Bool.not_eq_false', al_ne, Bool.not_not, al_nn] at hb60p
                    try simp only [cmpI_gt3, cmpI_gt2, cmpI_le2, Bool.not_eq_true', Bool.not_eq_false'] at hb60p
                    refine W_seq ?_
                    refine W_region rfl ?_
                    refine WO_p (PS_assign_int rfl) ?_
                    refine WO_p (PS_assign_slice rfl) ?_
                    refine WO_nil ?_
                    refine thn_normal ?_
                    refine W_ret ?_
                    refine inBlk_ret ?_
                    refine thn_ret ?_
                    refine bodyQ_ret2 Hvac.results42 rfl rfl (.int _ _) (.slice _ _ _) rfl rfl ?_
                    unfold yrefuse
                    (repeat (first | rw [if_pos (by first | assumption | omega | (rintro ⟨h1, h2⟩; omega))] | rw [if_neg (by first | assumption | omega | (rintro ⟨h1, h2⟩; omega))]))
                    first
                    | exact ⟨(by repeat (first | assumption | exact Ext.refl _ | refine Ext.alloc ?_ _ | refine Ext.drew ?_ | refine Ext.setB ?_ (by first | omega | (simp only [size_alloc, size_setB, size_drew]; omega)) _ | refine Ext.trans ?_ (by assumption))), (_, _, _), rfl, fun h9 => (Nat.succ_ne_zero _ h9).elim⟩
                    | exact ⟨(by repeat (first | assumption | exact Ext.refl _ | refine Ext.alloc ?_ _ | refine Ext.drew ?_ | refine Ext.setB ?_ (by first | omega | (simp only [size_alloc, size_setB, size_drew]; omega)) _ | refine Ext.trans ?_ (by assumption))), (_, _, _), rfl, fun _ => (by first | exact NN.nil _ | assumption | exact NN.ext (by assumption) (by repeat (first | assumption | exact Ext.refl _ | refine Ext.alloc ?_ _ | refine Ext.drew ?_ | refine Ext.setB ?_ (by first | omega | (simp only [size_alloc, size_setB, size_drew]; omega)) _ | refine Ext.trans ?_ (by assumption))))⟩
                  · have hb60p := hb60.h; try simp only [al_ete, al_dfn, Bool.not_eq_true', Bool.not_eq_false', al_ne, Bool.not_not, al_nn] at hb60p
                    try simp only [cmpI_gt3, cmpI_gt2, cmpI_le2, Bool.not_eq_true', Bool.not_eq_false'] at hb60p
                    refine W_skip ?_
                    refine inBlk_normal ?_
                    refine thn_normal ?_
                    refine W_seq ?_
                    refine W_region rfl ?_
                    refine WO_p (PS_move_ptr rfl) ?_
                    refine WO_p (PS_move_ptr rfl) ?_
                    refine WO_p (PS_move_int rfl) ?_
                    refine WO_call Hvac.call113 (by rfl) (Ret.mono (yCost_spec _ (OmB.ext hO (by repeat (first | assumption | exact Ext.refl _ | refine Ext.alloc ?_ _ | refine Ext.drew ?_ | refine Ext.setB ?_ (by first | omega | (simp only [size_alloc, size_setB, size_drew]; omega)) _ | exact Ext.trans (by assumption) (by assumption) | refine Ext.trans ?_ (by assumption)))) _ _ _ _ (by first | assumption | exact YSS.ext (by assumption) (by repeat (first | assumption | exact Ext.refl _ | refine Ext.alloc ?_ _ | refine Ext.drew ?_ | refine Ext.setB ?_ (by first | omega | (simp only [size_alloc, size_setB, size_drew]; omega)) _ | exact Ext.trans (by assumption) (by assumption) | refine Ext.trans ?_ (by assumption)))) hB hN _ _ _ _ (by first | assumption | exact FrS.ext (by assumption) (by repeat (first | assumption | exact Ext.refl _ | refine Ext.alloc ?_ _ | refine Ext.drew ?_ | refine Ext.setB ?_ (by first | omega | (simp only [size_alloc, size_setB, size_drew]; omega)) _ | exact Ext.trans (by assumption) (by assumption) | refine Ext.trans ?_ (by assumption)))) hP _ (by omega)) ?_)
                    rintro _ w113_60 ⟨hE113_60, s113_60, rfl, hN113_60⟩
                    have hz113_60 := hE113_60.1
                    try simp only [size_alloc, size_setB, size_drew] at hz113_60
                    have hs113_60 := sz_ycost (y := y) hP o ho
                    refine WO_p (PS_assign_slice rfl) ?_
                    refine WO_nil ?_
                    refine thn_normal ?_
                    refine W_seq ?_
                    refine W_block ?_
                    refine W_seq ?_
                    refine W_region rfl ?_
                    refine WO_p (PS_move_slice rfl) ?_
                    refine WO_p (PS_move_ptr rfl) ?_
                    refine WO_p (PS_nilCheck rfl) ?_
                    refine WO_p (PS_fieldAddr 4 Hvac.runUnderlying121 rfl Hvac.sizeOf92 rfl rfl) ?_
                    refine WO_load (.slice _ _ _) Hvac.isAgg92 rfl (Hb.h (by repeat (first | assumption | exact Hb.newY _ _ | refine Hb.alloc ?_ | refine Hb.drew ?_ | refine Hb.ext (by assumption) ?_ | exact Hb.setSameL (by first | omega | (simp only [size_alloc, size_setB, size_drew]; omega)) | exact Hb.setSame (by assumption) | refine Hb.set (by first | omega | (simp only [size_alloc, size_setB, size_drew]; omega)) ?_ ))) (Ce.h (by first | assumption | exact ⟨rfl⟩)) ?_
                    refine WO_call Hvac.call76 (by rfl) (Ret.mono (nCmp_spec (by first | exact NN.nil _ | assumption | exact NN.ext (by assumption) (by repeat (first | assumption | exact Ext.refl _ | refine Ext.alloc ?_ _ | refine Ext.drew ?_ | refine Ext.setB ?_ (by first | omega | (simp only [size_alloc, size_setB, size_drew]; omega)) _ | exact Ext.trans (by assumption) (by assumption) | refine Ext.trans ?_ (by assumption)))) (by first | exact NN.nil _ | assumption | exact NN.ext (by assumption) (by repeat (first | assumption | exact Ext.refl _ | refine Ext.alloc ?_ _ | refine Ext.drew ?_ | refine Ext.setB ?_ (by first | omega | (simp only [size_alloc, size_setB, size_drew]; omega)) _ | exact Ext.trans (by assumption) (by assumption) | refine Ext.trans ?_ (by assumption)))) (by first | assumption | omega | (rw [sz_zero]; omega)) (by first | assumption | omega | (rw [sz_zero]; omega))) ?_)
                    rintro _ w76_61 ⟨hE76_61, rfl⟩
                    have hz76_61 := hE76_61.1
                    try simp only [size_alloc, size_setB, size_drew] at hz76_61
                    refine WO_p (PS_gtr rfl rfl) ?_
                    refine WO_p (PS_assign_bool rfl) ?_
                    refine WO_nil ?_
                    refine thn_normal ?_
                    refine W_if rfl (fun hb64 => ?_) (fun hb64 => ?_)
                    · have hb64p := hb64.h; try simp only [al_ete, al_dfn, Bool.not_eq_true', Bool.not_eq_false', al_ne, Bool.not_not, al_nn] at hb64p
                      try simp only [cmpI_gt3, cmpI_gt2, cmpI_le2, Bool.not_eq_true', Bool.not_eq_false'] at hb64p
                      refine W_seq ?_
                      refine W_region rfl ?_
                      refine WO_p (PS_move_slice rfl) ?_
                      refine WO_p (PS_assign_int rfl) ?_
                      refine WO_p (PS_assign_slice rfl) ?_
                      refine WO_nil ?_
                      refine thn_normal ?_
                      refine W_ret ?_
                      refine inBlk_ret ?_
                      refine thn_ret ?_
                      refine bodyQ_ret2 Hvac.results42 rfl rfl (.int _ _) (.slice _ _ _) rfl rfl ?_
                      unfold yrefuse
                      (repeat (first | rw [if_pos (by first | assumption | omega | (rintro ⟨h1, h2⟩; omega))] | rw [if_neg (by first | assumption | omega | (rintro ⟨h1, h2⟩; omega))]))
                      first
                      | exact ⟨(by repeat (first | assumption | exact Ext.refl _ | refine Ext.alloc ?_ _ | refine Ext.drew ?_ | refine Ext.setB ?_ (by first | omega | (simp only [size_alloc, size_setB, size_drew]; omega)) _ | refine Ext.trans ?_ (by assumption))), (_, _, _), rfl, fun h9 => (Nat.succ_ne_zero _ h9).elim⟩
                      | exact ⟨(by repeat (first | assumption | exact Ext.refl _ | refine Ext.alloc ?_ _ | refine Ext.drew ?_ | refine Ext.setB ?_ (by first | omega | (simp only [size_alloc, size_setB, size_drew]; omega)) _ | refine Ext.trans ?_ (by assumption))), (_, _, _), rfl, fun _ => (by first | exact NN.nil _ | assumption | exact NN.ext (by assumption) (by repeat (first | assumption | exact Ext.refl _ | refine Ext.alloc ?_ _ | refine Ext.drew ?_ | refine Ext.setB ?_ (by first | omega | (simp only [size_alloc, size_setB, size_drew]; omega)) _ | refine Ext.trans ?_ (by assumption))))⟩
                    · have hb64p := hb64.h; try simp only [al_ete, al_dfn, Bool.not_eq_true', Bool.not_eq_false', al_ne, Bool.not_not, al_nn] at hb64p
                      try simp only [cmpI_gt3, cmpI_gt2, cmpI_le2, Bool.not_eq_true', Bool.not_eq_false'] at hb64p
                      refine W_seq ?_
                      refine W_drawE [false, false, false, false, false, false, false, true, false, false, false, false] hmix (by kernel_rfl) rfl ?_
                      refine WH_p (PS_move_int rfl) rfl ?_
                      refine WH_p (PS_eql rfl rfl) rfl ?_
                      refine WH_p (PS_move_bool rfl) rfl ?_
                      refine WH_if (t := 98) rfl (fun hb66 => ?_) (fun hb66 => ?_)
                      · have hb66p := hb66.h; try simp only [al_ete, al_dfn, Bool.not_eq_true', Bool.not_eq_false', al_ne, Bool.not_not, al_nn] at hb66p
                        exfalso; omega
                      · have hb66p := hb66.h; try simp only [al_ete, al_dfn, Bool.not_eq_true', Bool.not_eq_false', al_ne, Bool.not_not, al_nn] at hb66p
                        refine WH_guardF rfl rfl hb66.h ?_
                        refine WH_guardF rfl rfl hb66.h ?_
                        refine WH_guardF rfl rfl hb66.h ?_
                        refine WH_guardF rfl rfl hb66.h ?_
                        refine WH_guardF rfl rfl hb66.h ?_
                        refine WH_guardF rfl rfl hb66.h ?_
                        refine WH_guardF rfl rfl hb66.h ?_
                        refine WH_p (PS_pickF rfl hb66.h rfl) rfl ?_
                        refine WH_p (PS_assign_bool rfl) rfl ?_
                        refine WH_nil ?_
                        refine thn_normal ?_
                        refine W_condF rfl rfl ?_
                        refine W_seq ?_
                        refine W_drawE [false, false, false, false, false, false, false, false, true, false, false, false, false] hmix (by kernel_rfl) rfl ?_
                        refine WH_p (PS_move_int rfl) rfl ?_
                        refine WH_p (PS_eql rfl rfl) rfl ?_
                        refine WH_p (PS_move_bool rfl) rfl ?_
                        refine WH_if (t := 111) rfl (fun hb68 => ?_) (fun hb68 => ?_)
                        · have hb68p := hb68.h; try simp only [al_ete, al_dfn, Bool.not_eq_true', Bool.not_eq_false', al_ne, Bool.not_not, al_nn] at hb68p
                          exfalso; omega
                        · have hb68p := hb68.h; try simp only [al_ete, al_dfn, Bool.not_eq_true', Bool.not_eq_false', al_ne, Bool.not_not, al_nn] at hb68p
                          refine WH_guardF rfl rfl hb68.h ?_
                          refine WH_guardF rfl rfl hb68.h ?_
                          refine WH_guardF rfl rfl hb68.h ?_
                          refine WH_guardF rfl rfl hb68.h ?_
                          refine WH_guardF rfl rfl hb68.h ?_
                          refine WH_guardF rfl rfl hb68.h ?_
                          refine WH_guardF rfl rfl hb68.h ?_
                          refine WH_guardF rfl rfl hb68.h ?_
                          refine WH_p (PS_pickF rfl hb68.h rfl) rfl ?_
                          refine WH_p (PS_assign_bool rfl) rfl ?_
                          refine WH_nil ?_
                          refine thn_normal ?_
                          refine W_condF rfl rfl ?_
                          refine W_seq ?_
                          refine W_drawE [false, false, false, false, true, true, false, false, false, false, false, false, false, false, true, false, false, false, false] hmix (by kernel_rfl) rfl ?_
                          refine WH_p (PS_move_int rfl) rfl ?_
                          refine WH_p (PS_eql rfl rfl) rfl ?_
                          refine WH_p (PS_move_bool rfl) rfl ?_
                          refine WH_if (t := 125) rfl (fun hb70 => ?_) (fun hb70 => ?_)
                          · have hb70p := hb70.h; try simp only [al_ete, al_dfn, Bool.not_eq_true', Bool.not_eq_false', al_ne, Bool.not_not, al_nn] at hb70p
                            exfalso; omega
                          · have hb70p := hb70.h; try simp only [al_ete, al_dfn, Bool.not_eq_true', Bool.not_eq_false', al_ne, Bool.not_not, al_nn] at hb70p
                            refine WH_guardF rfl rfl hb70.h ?_
                            refine WH_guardF rfl rfl hb70.h ?_
                            refine WH_guardF rfl rfl hb70.h ?_
                            refine WH_guardF rfl rfl hb70.h ?_
                            refine WH_p (PS_pickF rfl hb70.h rfl) rfl ?_
                            refine WH_p (PS_move_bool rfl) rfl ?_
                            refine WH_guardF rfl rfl rfl ?_
                            refine WH_guardF rfl rfl rfl ?_
                            refine WH_guardF rfl rfl rfl ?_
                            refine WH_guardF rfl rfl rfl ?_
                            refine WH_guardF rfl rfl rfl ?_
                            refine WH_guardF rfl rfl rfl ?_
                            refine WH_guardF rfl rfl rfl ?_
                            refine WH_guardF rfl rfl rfl ?_
                            refine WH_p (PS_pickF rfl rfl rfl) rfl ?_
                            refine WH_p (PS_assign_bool rfl) rfl ?_
                            refine WH_nil ?_
                            refine thn_normal ?_
                            refine W_condF rfl rfl ?_
                            refine W_skip ?_
                            refine inBlk_normal ?_
                            refine thn_normal ?_
                            refine W_seq ?_
                            refine W_region rfl ?_
                            refine WO_p (PS_move_slice rfl) ?_
                            refine WO_p (PS_assign_int rfl) ?_
                            refine WO_p (PS_assign_slice rfl) ?_
                            refine WO_nil ?_
                            refine thn_normal ?_
                            refine W_ret ?_
                            refine bodyQ_ret2 Hvac.results42 rfl rfl (.int _ _) (.slice _ _ _) rfl rfl ?_
                            unfold yrefuse
                            (repeat (first | rw [if_pos (by first | assumption | omega | (rintro ⟨h1, h2⟩; omega))] | rw [if_neg (by first | assumption | omega | (rintro ⟨h1, h2⟩; omega))]))
                            first
                            | exact ⟨(by repeat (first | assumption | exact Ext.refl _ | refine Ext.alloc ?_ _ | refine Ext.drew ?_ | refine Ext.setB ?_ (by first | omega | (simp only [size_alloc, size_setB, size_drew]; omega)) _ | refine Ext.trans ?_ (by assumption))), (_, _, _), rfl, fun h9 => (Nat.succ_ne_zero _ h9).elim⟩
                            | exact ⟨(by repeat (first | assumption | exact Ext.refl _ | refine Ext.alloc ?_ _ | refine Ext.drew ?_ | refine Ext.setB ?_ (by first | omega | (simp only [size_alloc, size_setB, size_drew]; omega)) _ | refine Ext.trans ?_ (by assumption))), (_, _, _), rfl, fun _ => (by first | exact NN.nil _ | assumption | exact NN.ext (by assumption) (by repeat (first | assumption | exact Ext.refl _ | refine Ext.alloc ?_ _ | refine Ext.drew ?_ | refine Ext.setB ?_ (by first | omega | (simp only [size_alloc, size_setB, size_drew]; omega)) _ | refine Ext.trans ?_ (by assumption))))⟩
                · have hb53p := hb53.h; try simp only [al_ete, al_dfn, Bool.not_eq_true', Bool.not_eq_false', al_ne, Bool.not_not, al_nn] at hb53p
                  refine WH_guardF rfl rfl hb53.h ?_
                  refine WH_guardF rfl rfl hb53.h ?_
                  refine WH_guardF rfl rfl hb53.h ?_
                  refine WH_guardF rfl rfl hb53.h ?_
                  refine WH_guardF rfl rfl hb53.h ?_
                  refine WH_guardF rfl rfl hb53.h ?_
                  refine WH_guardF rfl rfl hb53.h ?_
                  refine WH_guardF rfl rfl hb53.h ?_
                  refine WH_guardF rfl rfl hb53.h ?_
                  refine WH_guardF rfl rfl hb53.h ?_
                  refine WH_guardF rfl rfl hb53.h ?_
                  refine WH_guardF rfl rfl hb53.h ?_
                  refine WH_guardF rfl rfl hb53.h ?_
                  refine WH_guardF rfl rfl hb53.h ?_
                  refine WH_p (PS_pickF rfl hb53.h rfl) rfl ?_
                  refine WH_p (PS_assign_bool rfl) rfl ?_
                  refine WH_nil ?_
                  refine thn_normal ?_
                  refine W_condF rfl rfl ?_
                  refine W_skip ?_
                  refine inBlk_normal ?_
                  refine thn_normal ?_
                  refine W_seq ?_
                  refine W_region rfl ?_
                  refine WO_p (PS_move_ptr rfl) ?_
                  refine WO_p (PS_move_ptr rfl) ?_
                  refine WO_p (PS_move_int rfl) ?_
                  refine WO_call Hvac.call113 (by rfl) (Ret.mono (yCost_spec _ (OmB.ext hO (by repeat (first | assumption | exact Ext.refl _ | refine Ext.alloc ?_ _ | refine Ext.drew ?_ | refine Ext.setB ?_ (by first | omega | (simp only [size_alloc, size_setB, size_drew]; omega)) _ | exact Ext.trans (by assumption) (by assumption) | refine Ext.trans ?_ (by assumption)))) _ _ _ _ (by first | assumption | exact YSS.ext (by assumption) (by repeat (first | assumption | exact Ext.refl _ | refine Ext.alloc ?_ _ | refine Ext.drew ?_ | refine Ext.setB ?_ (by first | omega | (simp only [size_alloc, size_setB, size_drew]; omega)) _ | exact Ext.trans (by assumption) (by assumption) | refine Ext.trans ?_ (by assumption)))) hB hN _ _ _ _ (by first | assumption | exact FrS.ext (by assumption) (by repeat (first | assumption | exact Ext.refl _ | refine Ext.alloc ?_ _ | refine Ext.drew ?_ | refine Ext.setB ?_ (by first | omega | (simp only [size_alloc, size_setB, size_drew]; omega)) _ | exact Ext.trans (by assumption) (by assumption) | refine Ext.trans ?_ (by assumption)))) hP _ (by omega)) ?_)
                  rintro _ w113_70 ⟨hE113_70, s113_70, rfl, hN113_70⟩
                  have hz113_70 := hE113_70.1
                  try simp only [size_alloc, size_setB, size_drew] at hz113_70
                  have hs113_70 := sz_ycost (y := y) hP o ho
                  refine WO_p (PS_assign_slice rfl) ?_
                  refine WO_nil ?_
                  refine thn_normal ?_
                  refine W_seq ?_
                  refine W_block ?_
                  refine W_seq ?_
                  refine W_region rfl ?_
                  refine WO_p (PS_move_slice rfl) ?_
                  refine WO_p (PS_move_ptr rfl) ?_
                  refine WO_p (PS_nilCheck rfl) ?_
                  refine WO_p (PS_fieldAddr 4 Hvac.runUnderlying121 rfl Hvac.sizeOf92 rfl rfl) ?_
                  refine WO_load (.slice _ _ _) Hvac.isAgg92 rfl (Hb.h (by repeat (first | assumption | exact Hb.newY _ _ | refine Hb.alloc ?_ | refine Hb.drew ?_ | refine Hb.ext (by assumption) ?_ | exact Hb.setSameL (by first | omega | (simp only [size_alloc, size_setB, size_drew]; omega)) | exact Hb.setSame (by assumption) | refine Hb.set (by first | omega | (simp only [size_alloc, size_setB, size_drew]; omega)) ?_ ))) (Ce.h (by first | assumption | exact ⟨rfl⟩)) ?_
                  refine WO_call Hvac.call76 (by rfl) (Ret.mono (nCmp_spec (by first | exact NN.nil _ | assumption | exact NN.ext (by assumption) (by repeat (first | assumption | exact Ext.refl _ | refine Ext.alloc ?_ _ | refine Ext.drew ?_ | refine Ext.setB ?_ (by first | omega | (simp only [size_alloc, size_setB, size_drew]; omega)) _ | exact Ext.trans (by assumption) (by assumption) | refine Ext.trans ?_ (by assumption)))) (by first | exact NN.nil _ | assumption | exact NN.ext (by assumption) (by repeat (first | assumption | exact Ext.refl _ | refine Ext.alloc ?_ _ | refine Ext.drew ?_ | refine Ext.setB ?_ (by first | omega | (simp only [size_alloc, size_setB, size_drew]; omega)) _ | exact Ext.trans (by assumption) (by assumption) | refine Ext.trans ?_ (by assumption)))) (by first | assumption | omega | (rw [sz_zero]; omega)) (by first | assumption | omega | (rw [sz_zero]; omega))) ?_)
                  rintro _ w76_71 ⟨hE76_71, rfl⟩
                  have hz76_71 := hE76_71.1
                  try simp only [size_alloc, size_setB, size_drew] at hz76_71
                  refine WO_p (PS_gtr rfl rfl) ?_
                  refine WO_p (PS_assign_bool rfl) ?_
                  refine WO_nil ?_
                  refine thn_normal ?_
                  refine W_if rfl (fun hb74 => ?_) (fun hb74 => ?_)
                  · have hb74p := hb74.h; try simp only [al_ete, al_dfn, Bool.not_eq_true', Bool.not_eq_false', al_ne, Bool.not_not, al_nn] at hb74p
                    try simp only [cmpI_gt3, cmpI_gt2, cmpI_le2, Bool.not_eq_true', Bool.not_eq_false'] at hb74p
                    refine W_seq ?_
                    refine W_region rfl ?_
                    refine WO_p (PS_move_slice rfl) ?_
                    refine WO_p (PS_assign_int rfl) ?_
                    refine WO_p (PS_assign_slice rfl) ?_
                    refine WO_nil ?_
                    refine thn_normal ?_
                    refine W_ret ?_
                    refine inBlk_ret ?_
                    refine thn_ret ?_
                    refine bodyQ_ret2 Hvac.results42 rfl rfl (.int _ _) (.slice _ _ _) rfl rfl ?_
                    unfold yrefuse
                    (repeat (first | rw [if_pos (by first | assumption | omega | (rintro ⟨h1, h2⟩; omega))] | rw [if_neg (by first | assumption | omega | (rintro ⟨h1, h2⟩; omega))]))
                    first
                    | exact ⟨(by repeat (first | assumption | exact Ext.refl _ | refine Ext.alloc ?_ _ | refine Ext.drew ?_ | refine Ext.setB ?_ (by first | omega | (simp only [size_alloc, size_setB, size_drew]; omega)) _ | refine Ext.trans ?_ (by assumption))), (_, _, _), rfl, fun h9 => (Nat.succ_ne_zero _ h9).elim⟩
                    | exact ⟨(by repeat (first | assumption | exact Ext.refl _ | refine Ext.alloc ?_ _ | refine Ext.drew ?_ | refine Ext.setB ?_ (by first | omega | (simp only [size_alloc, size_setB, size_drew]; omega)) _ | refine Ext.trans ?_ (by assumption))), (_, _, _), rfl, fun _ => (by first | exact NN.nil _ | assumption | exact NN.ext (by assumption) (by repeat (first | assumption | exact Ext.refl _ | refine Ext.alloc ?_ _ | refine Ext.drew ?_ | refine Ext.setB ?_ (by first | omega | (simp only [size_alloc, size_setB, size_drew]; omega)) _ | refine Ext.trans ?_ (by assumption))))⟩
                  · have hb74p := hb74.h; try simp only [al_ete, al_dfn, Bool.not_eq_true', Bool.not_eq_false', al_ne, Bool.not_not, al_nn] at hb74p
                    try simp only [cmpI_gt3, cmpI_gt2, cmpI_le2, Bool.not_eq_true', Bool.not_eq_false'] at hb74p
                    refine W_seq ?_
                    refine W_drawE [false, false, false, false, false, false, false, true, false, false, false, false] hmix (by kernel_rfl) rfl ?_
                    refine WH_p (PS_move_int rfl) rfl ?_
                    refine WH_p (PS_eql rfl rfl) rfl ?_
                    refine WH_p (PS_move_bool rfl) rfl ?_
                    refine WH_if (t := 98) rfl (fun hb76 => ?_) (fun hb76 => ?_)
                    · have hb76p := hb76.h; try simp only [al_ete, al_dfn, Bool.not_eq_true', Bool.not_eq_false', al_ne, Bool.not_not, al_nn] at hb76p
                      have ho5 : o = 85 := by omega
                      refine WH_guardT rfl rfl hb76.h ?_
                      refine WH_p (PS_move_ptr rfl) rfl ?_
                      refine WH_guardT rfl rfl hb76.h ?_
                      refine WH_p (PS_nilCheck rfl) rfl ?_
                      refine WH_guardT rfl rfl hb76.h ?_
                      refine WH_p (PS_fieldAddr 4 Hvac.runUnderlying121 rfl Hvac.sizeOf92 rfl rfl) rfl ?_
                      refine WH_guardT rfl rfl hb76.h ?_
                      refine WH_load (.slice _ _ _) Hvac.isAgg92 rfl (Hb.h (by repeat (first | assumption | exact Hb.newY _ _ | refine Hb.alloc ?_ | refine Hb.drew ?_ | refine Hb.ext (by assumption) ?_ | exact Hb.setSameL (by first | omega | (simp only [size_alloc, size_setB, size_drew]; omega)) | exact Hb.setSame (by assumption) | refine Hb.set (by first | omega | (simp only [size_alloc, size_setB, size_drew]; omega)) ?_ ))) (Ce.h (by first | assumption | exact ⟨rfl⟩)) ?_
                      refine WH_guardT rfl rfl hb76.h ?_
                      refine WH_call Hvac.call19 (by rfl) (Ret.mono (nNum_spec (OmB.ext hO (by repeat (first | assumption | exact Ext.refl _ | refine Ext.alloc ?_ _ | refine Ext.drew ?_ | refine Ext.setB ?_ (by first | omega | (simp only [size_alloc, size_setB, size_drew]; omega)) _ | exact Ext.trans (by assumption) (by assumption) | refine Ext.trans ?_ (by assumption)))) ⟨by omega, by omega⟩) ?_)
                      rintro _ w19_76 ⟨hE19_76, s19_76, rfl, hN19_76, hs19_76⟩
                      refine ⟨fun _ => (by repeat (first | assumption | exact Ext.refl _ | refine Ext.alloc ?_ _ | refine Ext.drew ?_ | refine Ext.setB ?_ (by first | omega | (simp only [size_alloc, size_setB, size_drew]; omega)) _ | exact Ext.trans (by assumption) (by assumption) | refine Ext.trans ?_ (by assumption))), ?_⟩
                      have hz19_76 := hE19_76.1
                      try simp only [size_alloc, size_setB, size_drew] at hz19_76
                      try simp only [Int.toNat_natCast, toNat_lit] at hN19_76 hs19_76
                      refine WH_guardT rfl rfl hb76.h ?_
                      refine WH_call Hvac.call76 (by rfl) (Ret.mono (nCmp_spec (by first | exact NN.nil _ | assumption | exact NN.ext (by assumption) (by repeat (first | assumption | exact Ext.refl _ | refine Ext.alloc ?_ _ | refine Ext.drew ?_ | refine Ext.setB ?_ (by first | omega | (simp only [size_alloc, size_setB, size_drew]; omega)) _ | exact Ext.trans (by assumption) (by assumption) | refine Ext.trans ?_ (by assumption)))) (by first | exact NN.nil _ | assumption | exact NN.ext (by assumption) (by repeat (first | assumption | exact Ext.refl _ | refine Ext.alloc ?_ _ | refine Ext.drew ?_ | refine Ext.setB ?_ (by first | omega | (simp only [size_alloc, size_setB, size_drew]; omega)) _ | exact Ext.trans (by assumption) (by assumption) | refine Ext.trans ?_ (by assumption)))) (by first | assumption | omega | (rw [sz_zero]; omega)) (by first | assumption | omega | (rw [sz_zero]; omega))) ?_)
                      rintro _ w76_77 ⟨hE76_77, rfl⟩
                      refine ⟨(fun h => by cases h), ?_⟩
                      have hz76_77 := hE76_77.1
                      try simp only [size_alloc, size_setB, size_drew] at hz76_77
                      refine WH_guardT rfl rfl hb76.h ?_
                      refine WH_p (PS_leq rfl rfl) rfl ?_
                      refine WH_p (PS_pickT rfl hb76.h rfl) rfl ?_
                      refine WH_p (PS_assign_bool rfl) rfl ?_
                      refine WH_nil ?_
                      refine thn_normal ?_
                      refine W_if rfl (fun hb80 => ?_) (fun hb80 => ?_)
                      · have hb80p := hb80.h; try simp only [al_ete, al_dfn, Bool.not_eq_true', Bool.not_eq_false', al_ne, Bool.not_not, al_nn] at hb80p
                        try simp only [cmpI_gt3, cmpI_gt2, cmpI_le2, Bool.not_eq_true', Bool.not_eq_false'] at hb80p
                        refine W_seq ?_
                        refine W_region rfl ?_
                        refine WO_p (PS_move_slice rfl) ?_
                        refine WO_p (PS_assign_int rfl) ?_
                        refine WO_p (PS_assign_slice rfl) ?_
                        refine WO_nil ?_
                        refine thn_normal ?_
                        refine W_ret ?_
                        refine inBlk_ret ?_
                        refine thn_ret ?_
                        refine bodyQ_ret2 Hvac.results42 rfl rfl (.int _ _) (.slice _ _ _) rfl rfl ?_
                        unfold yrefuse
                        (repeat (first | rw [if_pos (by first | assumption | omega | (rintro ⟨h1, h2⟩; omega))] | rw [if_neg (by first | assumption | omega | (rintro ⟨h1, h2⟩; omega))]))
                        first
                        | exact ⟨(by repeat (first | assumption | exact Ext.refl _ | refine Ext.alloc ?_ _ | refine Ext.drew ?_ | refine Ext.setB ?_ (by first | omega | (simp only [size_alloc, size_setB, size_drew]; omega)) _ | refine Ext.trans ?_ (by assumption))), (_, _, _), rfl, fun h9 => (Nat.succ_ne_zero _ h9).elim⟩
                        | exact ⟨(by repeat (first | assumption | exact Ext.refl _ | refine Ext.alloc ?_ _ | refine Ext.drew ?_ | refine Ext.setB ?_ (by first | omega | (simp only [size_alloc, size_setB, size_drew]; omega)) _ | refine Ext.trans ?_ (by assumption))), (_, _, _), rfl, fun _ => (by first | exact NN.nil _ | assumption | exact NN.ext (by assumption) (by repeat (first | assumption | exact Ext.refl _ | refine Ext.alloc ?_ _ | refine Ext.drew ?_ | refine Ext.setB ?_ (by first | omega | (simp only [size_alloc, size_setB, size_drew]; omega)) _ | refine Ext.trans ?_ (by assumption))))⟩
                      · have hb80p := hb80.h; try simp only [al_ete, al_dfn, Bool.not_eq_true', Bool.not_eq_false', al_ne, Bool.not_not, al_nn] at hb80p
                        try simp only [cmpI_gt3, cmpI_gt2, cmpI_le2, Bool.not_eq_true', Bool.not_eq_false'] at hb80p
                        refine W_seq ?_
                        refine W_drawE [false, false, false, false, false, false, false, false, true, false, false, false, false] hmix (by kernel_rfl) rfl ?_
                        refine WH_p (PS_move_int rfl) rfl ?_
                        refine WH_p (PS_eql rfl rfl) rfl ?_
                        refine WH_p (PS_move_bool rfl) rfl ?_
                        refine WH_if (t := 111) rfl (fun hb82 => ?_) (fun hb82 => ?_)
                        · have hb82p := hb82.h; try simp only [al_ete, al_dfn, Bool.not_eq_true', Bool.not_eq_false', al_ne, Bool.not_not, al_nn] at hb82p
                          exfalso; omega
                        · have hb82p := hb82.h; try simp only [al_ete, al_dfn, Bool.not_eq_true', Bool.not_eq_false', al_ne, Bool.not_not, al_nn] at hb82p
                          refine WH_guardF rfl rfl hb82.h ?_
                          refine WH_guardF rfl rfl hb82.h ?_
                          refine WH_guardF rfl rfl hb82.h ?_
                          refine WH_guardF rfl rfl hb82.h ?_
                          refine WH_guardF rfl rfl hb82.h ?_
                          refine WH_guardF rfl rfl hb82.h ?_
                          refine WH_guardF rfl rfl hb82.h ?_
                          refine WH_guardF rfl rfl hb82.h ?_
                          refine WH_p (PS_pickF rfl hb82.h rfl) rfl ?_
                          refine WH_p (PS_assign_bool rfl) rfl ?_
                          refine WH_nil ?_
                          refine thn_normal ?_
                          refine W_condF rfl rfl ?_
                          refine W_seq ?_
                          refine W_drawE [false, false, false, false, true, true, false, false, false, false, false, false, false, false, true, false, false, false, false] hmix (by kernel_rfl) rfl ?_
                          refine WH_p (PS_move_int rfl) rfl ?_
                          refine WH_p (PS_eql rfl rfl) rfl ?_
                          refine WH_p (PS_move_bool rfl) rfl ?_
                          refine WH_if (t := 125) rfl (fun hb84 => ?_) (fun hb84 => ?_)
                          · have hb84p := hb84.h; try simp only [al_ete, al_dfn, Bool.not_eq_true', Bool.not_eq_false', al_ne, Bool.not_not, al_nn] at hb84p
                            exfalso; omega
                          · have hb84p := hb84.h; try simp only [al_ete, al_dfn, Bool.not_eq_true', Bool.not_eq_false', al_ne, Bool.not_not, al_nn] at hb84p
                            refine WH_guardF rfl rfl hb84.h ?_
                            refine WH_guardF rfl rfl hb84.h ?_
                            refine WH_guardF rfl rfl hb84.h ?_
                            refine WH_guardF rfl rfl hb84.h ?_
                            refine WH_p (PS_pickF rfl hb84.h rfl) rfl ?_
                            refine WH_p (PS_move_bool rfl) rfl ?_
                            refine WH_guardF rfl rfl rfl ?_
                            refine WH_guardF rfl rfl rfl ?_
                            refine WH_guardF rfl rfl rfl ?_
                            refine WH_guardF rfl rfl rfl ?_
                            refine WH_guardF rfl rfl rfl ?_
                            refine WH_guardF rfl rfl rfl ?_
                            refine WH_guardF rfl rfl rfl ?_
                            refine WH_guardF rfl rfl rfl ?_
                            refine WH_p (PS_pickF rfl rfl rfl) rfl ?_
                            refine WH_p (PS_assign_bool rfl) rfl ?_
                            refine WH_nil ?_
                            refine thn_normal ?_
                            refine W_condF rfl rfl ?_
                            refine W_skip ?_
                            refine inBlk_normal ?_
                            refine thn_normal ?_
                            refine W_seq ?_
                            refine W_region rfl ?_
                            refine WO_p (PS_move_slice rfl) ?_
                            refine WO_p (PS_assign_int rfl) ?_
                            refine WO_p (PS_assign_slice rfl) ?_
                            refine WO_nil ?_
                            refine thn_normal ?_
                            refine W_ret ?_
                            refine bodyQ_ret2 Hvac.results42 rfl rfl (.int _ _) (.slice _ _ _) rfl rfl ?_
                            unfold yrefuse
                            (repeat (first | rw [if_pos (by first | assumption | omega | (rintro ⟨h1, h2⟩; omega))] | rw [if_neg (by first | assumption | omega | (rintro ⟨h1, h2⟩; omega))]))
                            first
                            | exact ⟨(by repeat (first | assumption | exact Ext.refl _ | refine Ext.alloc ?_ _ | refine Ext.drew ?_ | refine Ext.setB ?_ (by first | omega | (simp only [size_alloc, size_setB, size_drew]; omega)) _ | refine Ext.trans ?_ (by assumption))), (_, _, _), rfl, fun h9 => (Nat.succ_ne_zero _ h9).elim⟩
                            | exact ⟨(by repeat (first | assumption | exact Ext.refl _ | refine Ext.alloc ?_ _ | refine Ext.drew ?_ | refine Ext.setB ?_ (by first | omega | (simp only [size_alloc, size_setB, size_drew]; omega)) _ | refine Ext.trans ?_ (by assumption))), (_, _, _), rfl, fun _ => (by first | exact NN.nil _ | assumption | exact NN.ext (by assumption) (by repeat (first | assumption | exact Ext.refl _ | refine Ext.alloc ?_ _ | refine Ext.drew ?_ | refine Ext.setB ?_ (by first | omega | (simp only [size_alloc, size_setB, size_drew]; omega)) _ | refine Ext.trans ?_ (by assumption))))⟩
                    · have hb76p := hb76.h; try simp only [al_ete, al_dfn, Bool.not_eq_true', Bool.not_eq_false', al_ne, Bool.not_not, al_nn] at hb76p
                      refine WH_guardF rfl rfl hb76.h ?_
                      refine WH_guardF rfl rfl hb76.h ?_
                      refine WH_guardF rfl rfl hb76.h ?_
                      refine WH_guardF rfl rfl hb76.h ?_
                      refine WH_guardF rfl rfl hb76.h ?_
                      refine WH_guardF rfl rfl hb76.h ?_
                      refine WH_guardF rfl rfl hb76.h ?_
                      refine WH_p (PS_pickF rfl hb76.h rfl) rfl ?_
                      refine WH_p (PS_assign_bool rfl) rfl ?_
                      refine WH_nil ?_
                      refine thn_normal ?_
                      refine W_condF rfl rfl ?_
                      refine W_seq ?_
                      refine W_drawE [false, false, false, false, false, false, false, false, true, false, false, false, false] hmix (by kernel_rfl) rfl ?_
                      refine WH_p (PS_move_int rfl) rfl ?_
                      refine WH_p (PS_eql rfl rfl) rfl ?_
                      refine WH_p (PS_move_bool rfl) rfl ?_
                      refine WH_if (t := 111) rfl (fun hb86 => ?_) (fun hb86 => ?_)
                      · have hb86p := hb86.h; try simp only [al_ete, al_dfn, Bool.not_eq_true', Bool.not_eq_false', al_ne, Bool.not_not, al_nn] at hb86p
                        have ho5 : o = 86 := by omega
                        refine WH_guardT rfl rfl hb86.h ?_
                        refine WH_p (PS_move_ptr rfl) rfl ?_
                        refine WH_guardT rfl rfl hb86.h ?_
                        refine WH_p (PS_nilCheck rfl) rfl ?_
                        refine WH_guardT rfl rfl hb86.h ?_
                        refine WH_p (PS_fieldAddr 10 Hvac.runUnderlying121 rfl Hvac.sizeOf32 rfl rfl) rfl ?_
                        refine WH_guardT rfl rfl hb86.h ?_
                        refine WH_load (.slice _ _ _) Hvac.isAgg32 rfl (Hb.h (by repeat (first | assumption | exact Hb.newY _ _ | refine Hb.alloc ?_ | refine Hb.drew ?_ | refine Hb.ext (by assumption) ?_ | exact Hb.setSameL (by first | omega | (simp only [size_alloc, size_setB, size_drew]; omega)) | exact Hb.setSame (by assumption) | refine Hb.set (by first | omega | (simp only [size_alloc, size_setB, size_drew]; omega)) ?_ ))) (Ce.h (by first | assumption | exact ⟨rfl⟩)) ?_
                        refine WH_guardT rfl rfl hb86.h ?_
                        refine WH_p (PS_move_ptr rfl) rfl ?_
                        refine WH_guardT rfl rfl hb86.h ?_
                        refine WH_call Hvac.call47 (by rfl) (Ret.mono (yArg_spec _ (OmB.ext hO (by repeat (first | assumption | exact Ext.refl _ | refine Ext.alloc ?_ _ | refine Ext.drew ?_ | refine Ext.setB ?_ (by first | omega | (simp only [size_alloc, size_setB, size_drew]; omega)) _ | exact Ext.trans (by assumption) (by assumption) | refine Ext.trans ?_ (by assumption)))) _ _ _ _ (by first | assumption | exact FrS.ext (by assumption) (by repeat (first | assumption | exact Ext.refl _ | refine Ext.alloc ?_ _ | refine Ext.drew ?_ | refine Ext.setB ?_ (by first | omega | (simp only [size_alloc, size_setB, size_drew]; omega)) _ | exact Ext.trans (by assumption) (by assumption) | refine Ext.trans ?_ (by assumption)))) hP _ (by decide)) ?_)
                        rintro _ w47_86 ⟨hE47_86, s47_86, rfl, hN47_86, hs47_86⟩
                        refine ⟨fun _ => (by repeat (first | assumption | exact Ext.refl _ | refine Ext.alloc ?_ _ | refine Ext.drew ?_ | refine Ext.setB ?_ (by first | omega | (simp only [size_alloc, size_setB, size_drew]; omega)) _ | exact Ext.trans (by assumption) (by assumption) | refine Ext.trans ?_ (by assumption))), ?_⟩
                        have hz47_86 := hE47_86.1
                        try simp only [size_alloc, size_setB, size_drew] at hz47_86
                        refine WH_guardT rfl rfl hb86.h ?_
                        refine WH_call Hvac.call114 (by rfl) (Ret.mono (yIsDest_spec _ (OmB.ext hO (by repeat (first | assumption | exact Ext.refl _ | refine Ext.alloc ?_ _ | refine Ext.drew ?_ | refine Ext.setB ?_ (by first | omega | (simp only [size_alloc, size_setB, size_drew]; omega)) _ | exact Ext.trans (by assumption) (by assumption) | refine Ext.trans ?_ (by assumption)))) _ _ _ _ (by first | exact PB.nil _ | assumption | exact PB.ext (by assumption) (by repeat (first | assumption | exact Ext.refl _ | refine Ext.alloc ?_ _ | refine Ext.drew ?_ | refine Ext.setB ?_ (by first | omega | (simp only [size_alloc, size_setB, size_drew]; omega)) _ | exact Ext.trans (by assumption) (by assumption) | refine Ext.trans ?_ (by assumption)))) (by omega) _ _ _ _ (by first | exact NN.nil _ | assumption | exact NN.ext (by assumption) (by repeat (first | assumption | exact Ext.refl _ | refine Ext.alloc ?_ _ | refine Ext.drew ?_ | refine Ext.setB ?_ (by first | omega | (simp only [size_alloc, size_setB, size_drew]; omega)) _ | exact Ext.trans (by assumption) (by assumption) | refine Ext.trans ?_ (by assumption)))) (by first | assumption | omega | (rw [sz_zero]; omega))) ?_)
                        rintro _ w114_87 ⟨hE114_87, rfl⟩
                        refine ⟨(fun h => by cases h), ?_⟩
                        have hz114_87 := hE114_87.1
                        try simp only [size_alloc, size_setB, size_drew] at hz114_87
                        refine WH_guardT rfl rfl hb86.h ?_
                        refine WH_p (PS_not rfl) rfl ?_
                        refine WH_p (PS_pickT rfl hb86.h rfl) rfl ?_
                        refine WH_p (PS_assign_bool rfl) rfl ?_
                        refine WH_nil ?_
                        refine thn_normal ?_
                        refine W_if rfl (fun hb91 => ?_) (fun hb91 => ?_)
                        · have hb91p := hb91.h; try simp only [al_ete, al_dfn, Bool.not_eq_true', Bool.not_eq_false', al_ne, Bool.not_not, al_nn] at hb91p
                          have hd9 : o = 86 ∧ ydest f.code (yarg f 0) = false := ⟨by omega, hb91p⟩
                          refine W_seq ?_
                          refine W_region rfl ?_
                          refine WO_p (PS_move_slice rfl) ?_
                          refine WO_p (PS_assign_int rfl) ?_
                          refine WO_p (PS_assign_slice rfl) ?_
                          refine WO_nil ?_
                          refine thn_normal ?_
                          refine W_ret ?_
                          refine inBlk_ret ?_
                          refine thn_ret ?_
                          refine bodyQ_ret2 Hvac.results42 rfl rfl (.int _ _) (.slice _ _ _) rfl rfl ?_
                          unfold yrefuse
                          (repeat (first | rw [if_pos (by first | assumption | omega | (rintro ⟨h1, h2⟩; omega))] | rw [if_neg (by first | assumption | omega | (rintro ⟨h1, h2⟩; omega))]))
                          first
                          | exact ⟨(by repeat (first | assumption | exact Ext.refl _ | refine Ext.alloc ?_ _ | refine Ext.drew ?_ | refine Ext.setB ?_ (by first | omega | (simp only [size_alloc, size_setB, size_drew]; omega)) _ | refine Ext.trans ?_ (by assumption))), (_, _, _), rfl, fun h9 => (Nat.succ_ne_zero _ h9).elim⟩
                          | exact ⟨(by repeat (first | assumption | exact Ext.refl _ | refine Ext.alloc ?_ _ | refine Ext.drew ?_ | refine Ext.setB ?_ (by first | omega | (simp only [size_alloc, size_setB, size_drew]; omega)) _ | refine Ext.trans ?_ (by assumption))), (_, _, _), rfl, fun _ => (by first | exact NN.nil _ | assumption | exact NN.ext (by assumption) (by repeat (first | assumption | exact Ext.refl _ | refine Ext.alloc ?_ _ | refine Ext.drew ?_ | refine Ext.setB ?_ (by first | omega | (simp only [size_alloc, size_setB, size_drew]; omega)) _ | refine Ext.trans ?_ (by assumption))))⟩
                        · have hb91p := hb91.h; try simp only [al_ete, al_dfn, Bool.not_eq_true', Bool.not_eq_false', al_ne, Bool.not_not, al_nn] at hb91p
                          have hd9 : ¬ (o = 86 ∧ ydest f.code (yarg f 0) = false) := by simp [hb91p]
                          refine W_seq ?_
                          refine W_drawE [false, false, false, false, true, true, false, false, false, false, false, false, false, false, true, false, false, false, false] hmix (by kernel_rfl) rfl ?_
                          refine WH_p (PS_move_int rfl) rfl ?_
                          refine WH_p (PS_eql rfl rfl) rfl ?_
                          refine WH_p (PS_move_bool rfl) rfl ?_
                          refine WH_if (t := 125) rfl (fun hb93 => ?_) (fun hb93 => ?_)
                          · have hb93p := hb93.h; try simp only [al_ete, al_dfn, Bool.not_eq_true', Bool.not_eq_false', al_ne, Bool.not_not, al_nn] at hb93p
                            exfalso; omega
                          · have hb93p := hb93.h; try simp only [al_ete, al_dfn, Bool.not_eq_true', Bool.not_eq_false', al_ne, Bool.not_not, al_nn] at hb93p
                            refine WH_guardF rfl rfl hb93.h ?_
                            refine WH_guardF rfl rfl hb93.h ?_
                            refine WH_guardF rfl rfl hb93.h ?_
                            refine WH_guardF rfl rfl hb93.h ?_
                            refine WH_p (PS_pickF rfl hb93.h rfl) rfl ?_
                            refine WH_p (PS_move_bool rfl) rfl ?_
                            refine WH_guardF rfl rfl rfl ?_
                            refine WH_guardF rfl rfl rfl ?_
                            refine WH_guardF rfl rfl rfl ?_
                            refine WH_guardF rfl rfl rfl ?_
                            refine WH_guardF rfl rfl rfl ?_
                            refine WH_guardF rfl rfl rfl ?_
                            refine WH_guardF rfl rfl rfl ?_
                            refine WH_guardF rfl rfl rfl ?_
                            refine WH_p (PS_pickF rfl rfl rfl) rfl ?_
                            refine WH_p (PS_assign_bool rfl) rfl ?_
                            refine WH_nil ?_
                            refine thn_normal ?_
                            refine W_condF rfl rfl ?_
                            refine W_skip ?_
                            refine inBlk_normal ?_
                            refine thn_normal ?_
                            refine W_seq ?_
                            refine W_region rfl ?_
                            refine WO_p (PS_move_slice rfl) ?_
                            refine WO_p (PS_assign_int rfl) ?_
                            refine WO_p (PS_assign_slice rfl) ?_
                            refine WO_nil ?_
                            refine thn_normal ?_
                            refine W_ret ?_
                            refine bodyQ_ret2 Hvac.results42 rfl rfl (.int _ _) (.slice _ _ _) rfl rfl ?_
                            unfold yrefuse
                            (repeat (first | rw [if_pos (by first | assumption | omega | (rintro ⟨h1, h2⟩; omega))] | rw [if_neg (by first | assumption | omega | (rintro ⟨h1, h2⟩; omega))]))
                            first
                            | exact ⟨(by repeat (first | assumption | exact Ext.refl _ | refine Ext.alloc ?_ _ | refine Ext.drew ?_ | refine Ext.setB ?_ (by first | omega | (simp only [size_alloc, size_setB, size_drew]; omega)) _ | refine Ext.trans ?_ (by assumption))), (_, _, _), rfl, fun h9 => (Nat.succ_ne_zero _ h9).elim⟩
                            | exact ⟨(by repeat (first | assumption | exact Ext.refl _ | refine Ext.alloc ?_ _ | refine Ext.drew ?_ | refine Ext.setB ?_ (by first | omega | (simp only [size_alloc, size_setB, size_drew]; omega)) _ | refine Ext.trans ?_ (by assumption))), (_, _, _), rfl, fun _ => (by first | exact NN.nil _ | assumption | exact NN.ext (by assumption) (by repeat (first | assumption | exact Ext.refl _ | refine Ext.alloc ?_ _ | refine Ext.drew ?_ | refine Ext.setB ?_ (by first | omega | (simp only [size_alloc, size_setB, size_drew]; omega)) _ | refine Ext.trans ?_ (by assumption))))⟩
                      · have hb86p := hb86.h; try simp only [al_ete, al_dfn, Bool.not_eq_true', Bool.not_eq_false', al_ne, Bool.not_not, al_nn] at hb86p
                        refine WH_guardF rfl rfl hb86.h ?_
                        refine WH_guardF rfl rfl hb86.h ?_
                        refine WH_guardF rfl rfl hb86.h ?_
                        refine WH_guardF rfl rfl hb86.h ?_
                        refine WH_guardF rfl rfl hb86.h ?_
                        refine WH_guardF rfl rfl hb86.h ?_
                        refine WH_guardF rfl rfl hb86.h ?_
                        refine WH_guardF rfl rfl hb86.h ?_
                        refine WH_p (PS_pickF rfl hb86.h rfl) rfl ?_
                        refine WH_p (PS_assign_bool rfl) rfl ?_
                        refine WH_nil ?_
                        refine thn_normal ?_
                        refine W_condF rfl rfl ?_
                        refine W_seq ?_
                        refine W_drawE [false, false, false, false, true, true, false, false, false, false, false, false, false, false, true, false, false, false, false] hmix (by kernel_rfl) rfl ?_
                        refine WH_p (PS_move_int rfl) rfl ?_
                        refine WH_p (PS_eql rfl rfl) rfl ?_
                        refine WH_p (PS_move_bool rfl) rfl ?_
                        refine WH_if (t := 125) rfl (fun hb95 => ?_) (fun hb95 => ?_)
                        · have hb95p := hb95.h; try simp only [al_ete, al_dfn, Bool.not_eq_true', Bool.not_eq_false', al_ne, Bool.not_not, al_nn] at hb95p
                          have ho5 : o = 87 := by omega
                          refine WH_guardT rfl rfl hb95.h ?_
                          refine WH_p (PS_move_ptr rfl) rfl ?_
                          refine WH_guardT rfl rfl hb95.h ?_
                          refine WH_call Hvac.call47 (by rfl) (Ret.mono (yArg_spec _ (OmB.ext hO (by repeat (first | assumption | exact Ext.refl _ | refine Ext.alloc ?_ _ | refine Ext.drew ?_ | refine Ext.setB ?_ (by first | omega | (simp only [size_alloc, size_setB, size_drew]; omega)) _ | exact Ext.trans (by assumption) (by assumption) | refine Ext.trans ?_ (by assumption)))) _ _ _ _ (by first | assumption | exact FrS.ext (by assumption) (by repeat (first | assumption | exact Ext.refl _ | refine Ext.alloc ?_ _ | refine Ext.drew ?_ | refine Ext.setB ?_ (by first | omega | (simp only [size_alloc, size_setB, size_drew]; omega)) _ | exact Ext.trans (by assumption) (by assumption) | refine Ext.trans ?_ (by assumption)))) hP _ (by decide)) ?_)
                          rintro _ w47_95 ⟨hE47_95, s47_95, rfl, hN47_95, hs47_95⟩
                          refine ⟨fun _ => (by repeat (first | assumption | exact Ext.refl _ | refine Ext.alloc ?_ _ | refine Ext.drew ?_ | refine Ext.setB ?_ (by first | omega | (simp only [size_alloc, size_setB, size_drew]; omega)) _ | exact Ext.trans (by assumption) (by assumption) | refine Ext.trans ?_ (by assumption))), ?_⟩
                          have hz47_95 := hE47_95.1
                          try simp only [size_alloc, size_setB, size_drew] at hz47_95
                          refine WH_guardT rfl rfl hb95.h ?_
                          refine WH_call Hvac.call91 (by rfl) (Ret.mono (yIsZero_spec _ (OmB.ext hO (by repeat (first | assumption | exact Ext.refl _ | refine Ext.alloc ?_ _ | refine Ext.drew ?_ | refine Ext.setB ?_ (by first | omega | (simp only [size_alloc, size_setB, size_drew]; omega)) _ | exact Ext.trans (by assumption) (by assumption) | refine Ext.trans ?_ (by assumption)))) _ _ _ _ (by first | exact NN.nil _ | assumption | exact NN.ext (by assumption) (by repeat (first | assumption | exact Ext.refl _ | refine Ext.alloc ?_ _ | refine Ext.drew ?_ | refine Ext.setB ?_ (by first | omega | (simp only [size_alloc, size_setB, size_drew]; omega)) _ | exact Ext.trans (by assumption) (by assumption) | refine Ext.trans ?_ (by assumption)))) (by first | assumption | omega | (rw [sz_zero]; omega))) ?_)
                          rintro _ w91_96 ⟨hE91_96, rfl⟩
                          refine ⟨fun _ => (by repeat (first | assumption | exact Ext.refl _ | refine Ext.alloc ?_ _ | refine Ext.drew ?_ | refine Ext.setB ?_ (by first | omega | (simp only [size_alloc, size_setB, size_drew]; omega)) _ | exact Ext.trans (by assumption) (by assumption) | refine Ext.trans ?_ (by assumption))), ?_⟩
                          have hz91_96 := hE91_96.1
                          try simp only [size_alloc, size_setB, size_drew] at hz91_96
                          refine WH_guardT rfl rfl hb95.h ?_
                          refine WH_p (PS_not rfl) rfl ?_
                          refine WH_p (PS_pickT rfl hb95.h rfl) rfl ?_
                          refine WH_p (PS_move_bool rfl) rfl ?_
                          refine WH_if (t := 131) rfl (fun hb100 => ?_) (fun hb100 => ?_)
                          · have hb100p := hb100.h; try simp only [al_ete, al_dfn, Bool.not_eq_true', Bool.not_eq_false', al_ne, Bool.not_not, al_nn] at hb100p
                            refine WH_guardT rfl rfl hb100.h ?_
                            refine WH_p (PS_move_ptr rfl) rfl ?_
                            refine WH_guardT rfl rfl hb100.h ?_
                            refine WH_p (PS_nilCheck rfl) rfl ?_
                            refine WH_guardT rfl rfl hb100.h ?_
                            refine WH_p (PS_fieldAddr 10 Hvac.runUnderlying121 rfl Hvac.sizeOf32 rfl rfl) rfl ?_
                            refine WH_guardT rfl rfl hb100.h ?_
                            refine WH_load (.slice _ _ _) Hvac.isAgg32 rfl (Hb.h (by repeat (first | assumption | exact Hb.newY _ _ | refine Hb.alloc ?_ | refine Hb.drew ?_ | refine Hb.ext (by assumption) ?_ | exact Hb.setSameL (by first | omega | (simp only [size_alloc, size_setB, size_drew]; omega)) | exact Hb.setSame (by assumption) | refine Hb.set (by first | omega | (simp only [size_alloc, size_setB, size_drew]; omega)) ?_ ))) (Ce.h (by first | assumption | exact ⟨rfl⟩)) ?_
                            refine WH_guardT rfl rfl hb100.h ?_
                            refine WH_p (PS_move_ptr rfl) rfl ?_
                            refine WH_guardT rfl rfl hb100.h ?_
                            refine WH_call Hvac.call47 (by rfl) (Ret.mono (yArg_spec _ (OmB.ext hO (by repeat (first | assumption | exact Ext.refl _ | refine Ext.alloc ?_ _ | refine Ext.drew ?_ | refine Ext.setB ?_ (by first | omega | (simp only [size_alloc, size_setB, size_drew]; omega)) _ | exact Ext.trans (by assumption) (by assumption) | refine Ext.trans ?_ (by assumption)))) _ _ _ _ (by first | assumption | exact FrS.ext (by assumption) (by repeat (first | assumption | exact Ext.refl _ | refine Ext.alloc ?_ _ | refine Ext.drew ?_ | refine Ext.setB ?_ (by first | omega | (simp only [size_alloc, size_setB, size_drew]; omega)) _ | exact Ext.trans (by assumption) (by assumption) | refine Ext.trans ?_ (by assumption)))) hP _ (by decide)) ?_)
                            rintro _ w47_100 ⟨hE47_100, s47_100, rfl, hN47_100, hs47_100⟩
                            refine ⟨fun _ => (by repeat (first | assumption | exact Ext.refl _ | refine Ext.alloc ?_ _ | refine Ext.drew ?_ | refine Ext.setB ?_ (by first | omega | (simp only [size_alloc, size_setB, size_drew]; omega)) _ | exact Ext.trans (by assumption) (by assumption) | refine Ext.trans ?_ (by assumption))), ?_⟩
                            have hz47_100 := hE47_100.1
                            try simp only [size_alloc, size_setB, size_drew] at hz47_100
                            refine WH_guardT rfl rfl hb100.h ?_
                            refine WH_call Hvac.call114 (by rfl) (Ret.mono (yIsDest_spec _ (OmB.ext hO (by repeat (first | assumption | exact Ext.refl _ | refine Ext.alloc ?_ _ | refine Ext.drew ?_ | refine Ext.setB ?_ (by first | omega | (simp only [size_alloc, size_setB, size_drew]; omega)) _ | exact Ext.trans (by assumption) (by assumption) | refine Ext.trans ?_ (by assumption)))) _ _ _ _ (by first | exact PB.nil _ | assumption | exact PB.ext (by assumption) (by repeat (first | assumption | exact Ext.refl _ | refine Ext.alloc ?_ _ | refine Ext.drew ?_ | refine Ext.setB ?_ (by first | omega | (simp only [size_alloc, size_setB, size_drew]; omega)) _ | exact Ext.trans (by assumption) (by assumption) | refine Ext.trans ?_ (by assumption)))) (by omega) _ _ _ _ (by first | exact NN.nil _ | assumption | exact NN.ext (by assumption) (by repeat (first | assumption | exact Ext.refl _ | refine Ext.alloc ?_ _ | refine Ext.drew ?_ | refine Ext.setB ?_ (by first | omega | (simp only [size_alloc, size_setB, size_drew]; omega)) _ | exact Ext.trans (by assumption) (by assumption) | refine Ext.trans ?_ (by assumption)))) (by first | assumption | omega | (rw [sz_zero]; omega))) ?_)
                            rintro _ w114_101 ⟨hE114_101, rfl⟩
                            refine ⟨(fun h => by cases h), ?_⟩
                            have hz114_101 := hE114_101.1
                            try simp only [size_alloc, size_setB, size_drew] at hz114_101
                            refine WH_guardT rfl rfl hb100.h ?_
                            refine WH_p (PS_not rfl) rfl ?_
                            refine WH_p (PS_pickT rfl hb100.h rfl) rfl ?_
                            refine WH_p (PS_assign_bool rfl) rfl ?_
                            refine WH_nil ?_
                            refine thn_normal ?_
                            refine W_if rfl (fun hb105 => ?_) (fun hb105 => ?_)
                            · have hb105p := hb105.h; try simp only [al_ete, al_dfn, Bool.not_eq_true', Bool.not_eq_false', al_ne, Bool.not_not, al_nn] at hb105p
                              have hd10 : o = 87 ∧ yarg f 1 ≠ 0 ∧ ydest f.code (yarg f 0) = false := ⟨by omega, by omega, hb105p⟩
                              refine W_seq ?_
                              refine W_region rfl ?_
                              refine WO_p (PS_move_slice rfl) ?_
                              refine WO_p (PS_assign_int rfl) ?_
                              refine WO_p (PS_assign_slice rfl) ?_
                              refine WO_nil ?_
                              refine thn_normal ?_
                              refine W_ret ?_
                              refine inBlk_ret ?_
                              refine thn_ret ?_
                              refine bodyQ_ret2 Hvac.results42 rfl rfl (.int _ _) (.slice _ _ _) rfl rfl ?_
                              unfold yrefuse
                              (repeat (first | rw [if_pos (by first | assumption | omega | (rintro ⟨h1, h2⟩; omega))] | rw [if_neg (by first | assumption | omega | (rintro ⟨h1, h2⟩; omega))]))
                              first
                              | exact ⟨(by repeat (first | assumption | exact Ext.refl _ | refine Ext.alloc ?_ _ | refine Ext.drew ?_ | refine Ext.setB ?_ (by first | omega | (simp only [size_alloc, size_setB, size_drew]; omega)) _ | refine Ext.trans ?_ (by assumption))), (_, _, _), rfl, fun h9 => (Nat.succ_ne_zero _ h9).elim⟩
                              | exact ⟨(by repeat (first | assumption | exact Ext.refl _ | refine Ext.alloc ?_ _ | refine Ext.drew ?_ | refine Ext.setB ?_ (by first | omega | (simp only [size_alloc, size_setB, size_drew]; omega)) _ | refine Ext.trans ?_ (by assumption))), (_, _, _), rfl, fun _ => (by first | exact NN.nil _ | assumption | exact NN.ext (by assumption) (by repeat (first | assumption | exact Ext.refl _ | refine Ext.alloc ?_ _ | refine Ext.drew ?_ | refine Ext.setB ?_ (by first | omega | (simp only [size_alloc, size_setB, size_drew]; omega)) _ | refine Ext.trans ?_ (by assumption))))⟩
                            · have hb105p := hb105.h; try simp only [al_ete, al_dfn, Bool.not_eq_true', Bool.not_eq_false', al_ne, Bool.not_not, al_nn] at hb105p
                              have hd10 : ¬ (o = 87 ∧ yarg f 1 ≠ 0 ∧ ydest f.code (yarg f 0) = false) := by simp [hb105p]
                              refine W_skip ?_
                              refine inBlk_normal ?_
                              refine thn_normal ?_
                              refine W_seq ?_
                              refine W_region rfl ?_
                              refine WO_p (PS_move_slice rfl) ?_
                              refine WO_p (PS_assign_int rfl) ?_
                              refine WO_p (PS_assign_slice rfl) ?_
                              refine WO_nil ?_
                              refine thn_normal ?_
                              refine W_ret ?_
                              refine bodyQ_ret2 Hvac.results42 rfl rfl (.int _ _) (.slice _ _ _) rfl rfl ?_
                              unfold yrefuse
                              (repeat (first | rw [if_pos (by first | assumption | omega | (rintro ⟨h1, h2⟩; omega))] | rw [if_neg (by first | assumption | omega | (rintro ⟨h1, h2⟩; omega))]))
                              first
                              | exact ⟨(by repeat (first | assumption | exact Ext.refl _ | refine Ext.alloc ?_ _ | refine Ext.drew ?_ | refine Ext.setB ?_ (by first | omega | (simp only [size_alloc, size_setB, size_drew]; omega)) _ | refine Ext.trans ?_ (by assumption))), (_, _, _), rfl, fun h9 => (Nat.succ_ne_zero _ h9).elim⟩
                              | exact ⟨(by repeat (first | assumption | exact Ext.refl _ | refine Ext.alloc ?_ _ | refine Ext.drew ?_ | refine Ext.setB ?_ (by first | omega | (simp only [size_alloc, size_setB, size_drew]; omega)) _ | refine Ext.trans ?_ (by assumption))), (_, _, _), rfl, fun _ => (by first | exact NN.nil _ | assumption | exact NN.ext (by assumption) (by repeat (first | assumption | exact Ext.refl _ | refine Ext.alloc ?_ _ | refine Ext.drew ?_ | refine Ext.setB ?_ (by first | omega | (simp only [size_alloc, size_setB, size_drew]; omega)) _ | refine Ext.trans ?_ (by assumption))))⟩
                          · have hb100p := hb100.h; try simp only [al_ete, al_dfn, Bool.not_eq_true', Bool.not_eq_false', al_ne, Bool.not_not, al_nn] at hb100p
                            refine WH_guardF rfl rfl hb100.h ?_
                            refine WH_guardF rfl rfl hb100.h ?_
                            refine WH_guardF rfl rfl hb100.h ?_
                            refine WH_guardF rfl rfl hb100.h ?_
                            refine WH_guardF rfl rfl hb100.h ?_
                            refine WH_guardF rfl rfl hb100.h ?_
                            refine WH_guardF rfl rfl hb100.h ?_
                            refine WH_guardF rfl rfl hb100.h ?_
                            refine WH_p (PS_pickF rfl hb100.h rfl) rfl ?_
                            refine WH_p (PS_assign_bool rfl) rfl ?_
                            refine WH_nil ?_
                            refine thn_normal ?_
                            refine W_condF rfl rfl ?_
                            refine W_skip ?_
                            refine inBlk_normal ?_
                            refine thn_normal ?_
                            refine W_seq ?_
                            refine W_region rfl ?_
                            refine WO_p (PS_move_slice rfl) ?_
                            refine WO_p (PS_assign_int rfl) ?_
                            refine WO_p (PS_assign_slice rfl) ?_
                            refine WO_nil ?_
                            refine thn_normal ?_
                            refine W_ret ?_
                            refine bodyQ_ret2 Hvac.results42 rfl rfl (.int _ _) (.slice _ _ _) rfl rfl ?_
                            unfold yrefuse
                            (repeat (first | rw [if_pos (by first | assumption | omega | (rintro ⟨h1, h2⟩; omega))] | rw [if_neg (by first | assumption | omega | (rintro ⟨h1, h2⟩; omega))]))
                            first
                            | exact ⟨(by repeat (first | assumption | exact Ext.refl _ | refine Ext.alloc ?_ _ | refine Ext.drew ?_ | refine Ext.setB ?_ (by first | omega | (simp only [size_alloc, size_setB, size_drew]; omega)) _ | refine Ext.trans ?_ (by assumption))), (_, _, _), rfl, fun h9 => (Nat.succ_ne_zero _ h9).elim⟩
                            | exact ⟨(by repeat (first | assumption | exact Ext.refl _ | refine Ext.alloc ?_ _ | refine Ext.drew ?_ | refine Ext.setB ?_ (by first | omega | (simp only [size_alloc, size_setB, size_drew]; omega)) _ | refine Ext.trans ?_ (by assumption))), (_, _, _), rfl, fun _ => (by first | exact NN.nil _ | assumption | exact NN.ext (by assumption) (by repeat (first | assumption | exact Ext.refl _ | refine Ext.alloc ?_ _ | refine Ext.drew ?_ | refine Ext.setB ?_ (by first | omega | (simp only [size_alloc, size_setB, size_drew]; omega)) _ | refine Ext.trans ?_ (by assumption))))⟩
                        · have hb95p := hb95.h; try simp only [al_ete, al_dfn, Bool.not_eq_true', Bool.not_eq_false', al_ne, Bool.not_not, al_nn] at hb95p
                          refine WH_guardF rfl rfl hb95.h ?_
                          refine WH_guardF rfl rfl hb95.h ?_
                          refine WH_guardF rfl rfl hb95.h ?_
                          refine WH_guardF rfl rfl hb95.h ?_
                          refine WH_p (PS_pickF rfl hb95.h rfl) rfl ?_
                          refine WH_p (PS_move_bool rfl) rfl ?_
                          refine WH_guardF rfl rfl rfl ?_
                          refine WH_guardF rfl rfl rfl ?_
                          refine WH_guardF rfl rfl rfl ?_
                          refine WH_guardF rfl rfl rfl ?_
                          refine WH_guardF rfl rfl rfl ?_
                          refine WH_guardF rfl rfl rfl ?_
                          refine WH_guardF rfl rfl rfl ?_
                          refine WH_guardF rfl rfl rfl ?_
                          refine WH_p (PS_pickF rfl rfl rfl) rfl ?_
                          refine WH_p (PS_assign_bool rfl) rfl ?_
                          refine WH_nil ?_
                          refine thn_normal ?_
                          refine W_condF rfl rfl ?_
                          refine W_skip ?_
                          refine inBlk_normal ?_
                          refine thn_normal ?_
                          refine W_seq ?_
                          refine W_region rfl ?_
                          refine WO_p (PS_move_slice rfl) ?_
                          refine WO_p (PS_assign_int rfl) ?_
                          refine WO_p (PS_assign_slice rfl) ?_
                          refine WO_nil ?_
                          refine thn_normal ?_
                          refine W_ret ?_
                          refine bodyQ_ret2 Hvac.results42 rfl rfl (.int _ _) (.slice _ _ _) rfl rfl ?_
                          unfold yrefuse
                          (repeat (first | rw [if_pos (by first | assumption | omega | (rintro ⟨h1, h2⟩; omega))] | rw [if_neg (by first | assumption | omega | (rintro ⟨h1, h2⟩; omega))]))
                          first
                          | exact ⟨(by repeat (first | assumption | exact Ext.refl _ | refine Ext.alloc ?_ _ | refine Ext.drew ?_ | refine Ext.setB ?_ (by first | omega | (simp only [size_alloc, size_setB, size_drew]; omega)) _ | refine Ext.trans ?_ (by assumption))), (_, _, _), rfl, fun h9 => (Nat.succ_ne_zero _ h9).elim⟩
                          | exact ⟨(by repeat (first | assumption | exact Ext.refl _ | refine Ext.alloc ?_ _ | refine Ext.drew ?_ | refine Ext.setB ?_ (by first | omega | (simp only [size_alloc, size_setB, size_drew]; omega)) _ | refine Ext.trans ?_ (by assumption))), (_, _, _), rfl, fun _ => (by first | exact NN.nil _ | assumption | exact NN.ext (by assumption) (by repeat (first | assumption | exact Ext.refl _ | refine Ext.alloc ?_ _ | refine Ext.drew ?_ | refine Ext.setB ?_ (by first | omega | (simp only [size_alloc, size_setB, size_drew]; omega)) _ | refine Ext.trans ?_ (by assumption))))⟩
        · have hb10p := hb10.h; try simp only [al_ete, al_dfn, Bool.not_eq_true', Bool.not_eq_false', al_ne, Bool.not_not, al_nn] at hb10p
          have hw4 : ¬ (f.statY = true ∧ ywrites f o = true) := by simp [hb10p]
          refine WO_guardF rfl rfl hb10.h ?_
          refine WO_guardF rfl rfl hb10.h ?_
          refine WO_guardF rfl rfl hb10.h ?_
          refine WO_p (PS_pickF rfl hb10.h rfl) ?_
          refine WO_p (PS_assign_bool rfl) ?_
          refine WO_nil ?_
          refine thn_normal ?_
          refine W_condF rfl rfl ?_
          refine W_seq ?_
          refine W_region rfl ?_
          refine WO_p (PS_move_int rfl) ?_
          refine WO_p (PS_eql rfl rfl) ?_
          refine WO_p (PS_move_bool rfl) ?_
          refine WO_if (t := 52) rfl (fun hb107 => ?_) (fun hb107 => ?_)
          · have hb107p := hb107.h; try simp only [al_ete, al_dfn, Bool.not_eq_true', Bool.not_eq_false', al_ne, Bool.not_not, al_nn] at hb107p
            have ho5 : o = 240 := by omega
            refine WO_guardF rfl rfl hb107.h ?_
            refine WO_guardF rfl rfl hb107.h ?_
            refine WO_p (PS_pickT rfl hb107.h rfl) ?_
            refine WO_p (PS_move_bool rfl) ?_
            refine WO_guardT rfl rfl rfl ?_
            refine WO_p (PS_move_ptr rfl) ?_
            refine WO_guardT rfl rfl rfl ?_
            refine WO_call Hvac.call47 (by rfl) (Ret.mono (yArg_spec _ (OmB.ext hO (by repeat (first | assumption | exact Ext.refl _ | refine Ext.alloc ?_ _ | refine Ext.drew ?_ | refine Ext.setB ?_ (by first | omega | (simp only [size_alloc, size_setB, size_drew]; omega)) _ | exact Ext.trans (by assumption) (by assumption) | refine Ext.trans ?_ (by assumption)))) _ _ _ _ (by first | assumption | exact FrS.ext (by assumption) (by repeat (first | assumption | exact Ext.refl _ | refine Ext.alloc ?_ _ | refine Ext.drew ?_ | refine Ext.setB ?_ (by first | omega | (simp only [size_alloc, size_setB, size_drew]; omega)) _ | exact Ext.trans (by assumption) (by assumption) | refine Ext.trans ?_ (by assumption)))) hP _ (by decide)) ?_)
            rintro _ w47_107 ⟨hE47_107, s47_107, rfl, hN47_107, hs47_107⟩
            have hz47_107 := hE47_107.1
            try simp only [size_alloc, size_setB, size_drew] at hz47_107
            refine WO_guardT rfl rfl rfl ?_
            refine WO_call Hvac.call19 (by rfl) (Ret.mono (nNum_spec (OmB.ext hO (by repeat (first | assumption | exact Ext.refl _ | refine Ext.alloc ?_ _ | refine Ext.drew ?_ | refine Ext.setB ?_ (by first | omega | (simp only [size_alloc, size_setB, size_drew]; omega)) _ | exact Ext.trans (by assumption) (by assumption) | refine Ext.trans ?_ (by assumption)))) ⟨by omega, by omega⟩) ?_)
            rintro _ w19_108 ⟨hE19_108, s19_108, rfl, hN19_108, hs19_108⟩
            have hz19_108 := hE19_108.1
            try simp only [size_alloc, size_setB, size_drew] at hz19_108
            try simp only [Int.toNat_natCast, toNat_lit] at hN19_108 hs19_108
            refine WO_guardT rfl rfl rfl ?_
            refine WO_call Hvac.call76 (by rfl) (Ret.mono (nCmp_spec (by first | exact NN.nil _ | assumption | exact NN.ext (by assumption) (by repeat (first | assumption | exact Ext.refl _ | refine Ext.alloc ?_ _ | refine Ext.drew ?_ | refine Ext.setB ?_ (by first | omega | (simp only [size_alloc, size_setB, size_drew]; omega)) _ | exact Ext.trans (by assumption) (by assumption) | refine Ext.trans ?_ (by assumption)))) (by first | exact NN.nil _ | assumption | exact NN.ext (by assumption) (by repeat (first | assumption | exact Ext.refl _ | refine Ext.alloc ?_ _ | refine Ext.drew ?_ | refine Ext.setB ?_ (by first | omega | (simp only [size_alloc, size_setB, size_drew]; omega)) _ | exact Ext.trans (by assumption) (by assumption) | refine Ext.trans ?_ (by assumption)))) (by first | assumption | omega | (rw [sz_zero]; omega)) (by first | assumption | omega | (rw [sz_zero]; omega))) ?_)
            rintro _ w76_109 ⟨hE76_109, rfl⟩
            have hz76_109 := hE76_109.1
            try simp only [size_alloc, size_setB, size_drew] at hz76_109
            refine WO_guardT rfl rfl rfl ?_
            refine WO_p (PS_gtr rfl rfl) ?_
            refine WO_p (PS_pickT rfl rfl rfl) ?_
            refine WO_p (PS_assign_bool rfl) ?_
            refine WO_nil ?_
            refine thn_normal ?_
            refine W_if rfl (fun hb112 => ?_) (fun hb112 => ?_)
            · have hb112p := hb112.h; try simp only [al_ete, al_dfn, Bool.not_eq_true', Bool.not_eq_false', al_ne, Bool.not_not, al_nn] at hb112p
              try simp only [cmpI_gt3, cmpI_gt2, cmpI_le2, Bool.not_eq_true', Bool.not_eq_false'] at hb112p
              refine W_seq ?_
              refine W_region rfl ?_
              refine WO_p (PS_assign_int rfl) ?_
              refine WO_p (PS_assign_slice rfl) ?_
              refine WO_nil ?_
              refine thn_normal ?_
              refine W_ret ?_
              refine inBlk_ret ?_
              refine thn_ret ?_
              refine bodyQ_ret2 Hvac.results42 rfl rfl (.int _ _) (.slice _ _ _) rfl rfl ?_
              unfold yrefuse
              (repeat (first | rw [if_pos (by first | assumption | omega | (rintro ⟨h1, h2⟩; omega))] | rw [if_neg (by first | assumption | omega | (rintro ⟨h1, h2⟩; omega))]))
              first
              | exact ⟨(by repeat (first | assumption | exact Ext.refl _ | refine Ext.alloc ?_ _ | refine Ext.drew ?_ | refine Ext.setB ?_ (by first | omega | (simp only [size_alloc, size_setB, size_drew]; omega)) _ | refine Ext.trans ?_ (by assumption))), (_, _, _), rfl, fun h9 => (Nat.succ_ne_zero _ h9).elim⟩
              | exact ⟨(by repeat (first | assumption | exact Ext.refl _ | refine Ext.alloc ?_ _ | refine Ext.drew ?_ | refine Ext.setB ?_ (by first | omega | (simp only [size_alloc, size_setB, size_drew]; omega)) _ | refine Ext.trans ?_ (by assumption))), (_, _, _), rfl, fun _ => (by first | exact NN.nil _ | assumption | exact NN.ext (by assumption) (by repeat (first | assumption | exact Ext.refl _ | refine Ext.alloc ?_ _ | refine Ext.drew ?_ | refine Ext.setB ?_ (by first | omega | (simp only [size_alloc, size_setB, size_drew]; omega)) _ | refine Ext.trans ?_ (by assumption))))⟩
            · have hb112p := hb112.h; try simp only [al_ete, al_dfn, Bool.not_eq_true', Bool.not_eq_false', al_ne, Bool.not_not, al_nn] at hb112p
              try simp only [cmpI_gt3, cmpI_gt2, cmpI_le2, Bool.not_eq_true', Bool.not_eq_false'] at hb112p
              refine W_seq ?_
              refine W_drawE [false, false, false, false, true, false, true, true, false, false, false, false, false, false, false, false, false, false, false] hmix (by kernel_rfl) rfl ?_
              refine WH_p (PS_move_int rfl) rfl ?_
              refine WH_p (PS_eql rfl rfl) rfl ?_
              refine WH_p (PS_move_bool rfl) rfl ?_
              refine WH_if (t := 66) rfl (fun hb114 => ?_) (fun hb114 => ?_)
              · have hb114p := hb114.h; try simp only [al_ete, al_dfn, Bool.not_eq_true', Bool.not_eq_false', al_ne, Bool.not_not, al_nn] at hb114p
                exfalso; omega
              · have hb114p := hb114.h; try simp only [al_ete, al_dfn, Bool.not_eq_true', Bool.not_eq_false', al_ne, Bool.not_not, al_nn] at hb114p
                refine WH_guardF rfl rfl hb114.h ?_
                refine WH_guardF rfl rfl hb114.h ?_
                refine WH_guardF rfl rfl hb114.h ?_
                refine WH_guardF rfl rfl hb114.h ?_
                refine WH_guardF rfl rfl hb114.h ?_
                refine WH_guardF rfl rfl hb114.h ?_
                refine WH_guardF rfl rfl hb114.h ?_
                refine WH_guardF rfl rfl hb114.h ?_
                refine WH_guardF rfl rfl hb114.h ?_
                refine WH_guardF rfl rfl hb114.h ?_
                refine WH_guardF rfl rfl hb114.h ?_
                refine WH_guardF rfl rfl hb114.h ?_
                refine WH_guardF rfl rfl hb114.h ?_
                refine WH_guardF rfl rfl hb114.h ?_
                refine WH_p (PS_pickF rfl hb114.h rfl) rfl ?_
                refine WH_p (PS_assign_bool rfl) rfl ?_
                refine WH_nil ?_
                refine thn_normal ?_
                refine W_condF rfl rfl ?_
                refine W_skip ?_
                refine inBlk_normal ?_
                refine thn_normal ?_
                refine W_seq ?_
                refine W_region rfl ?_
                refine WO_p (PS_move_ptr rfl) ?_
                refine WO_p (PS_move_ptr rfl) ?_
                refine WO_p (PS_move_int rfl) ?_
                refine WO_call Hvac.call113 (by rfl) (Ret.mono (yCost_spec _ (OmB.ext hO (by repeat (first | assumption | exact Ext.refl _ | refine Ext.alloc ?_ _ | refine Ext.drew ?_ | refine Ext.setB ?_ (by first | omega | (simp only [size_alloc, size_setB, size_drew]; omega)) _ | exact Ext.trans (by assumption) (by assumption) | refine Ext.trans ?_ (by assumption)))) _ _ _ _ (by first | assumption | exact YSS.ext (by assumption) (by repeat (first | assumption | exact Ext.refl _ | refine Ext.alloc ?_ _ | refine Ext.drew ?_ | refine Ext.setB ?_ (by first | omega | (simp only [size_alloc, size_setB, size_drew]; omega)) _ | exact Ext.trans (by assumption) (by assumption) | refine Ext.trans ?_ (by assumption)))) hB hN _ _ _ _ (by first | assumption | exact FrS.ext (by assumption) (by repeat (first | assumption | exact Ext.refl _ | refine Ext.alloc ?_ _ | refine Ext.drew ?_ | refine Ext.setB ?_ (by first | omega | (simp only [size_alloc, size_setB, size_drew]; omega)) _ | exact Ext.trans (by assumption) (by assumption) | refine Ext.trans ?_ (by assumption)))) hP _ (by omega)) ?_)
                rintro _ w113_114 ⟨hE113_114, s113_114, rfl, hN113_114⟩
                have hz113_114 := hE113_114.1
                try simp only [size_alloc, size_setB, size_drew] at hz113_114
                have hs113_114 := sz_ycost (y := y) hP o ho
                refine WO_p (PS_assign_slice rfl) ?_
                refine WO_nil ?_
                refine thn_normal ?_
                refine W_seq ?_
                refine W_block ?_
                refine W_seq ?_
                refine W_region rfl ?_
                refine WO_p (PS_move_slice rfl) ?_
                refine WO_p (PS_move_ptr rfl) ?_
                refine WO_p (PS_nilCheck rfl) ?_
                refine WO_p (PS_fieldAddr 4 Hvac.runUnderlying121 rfl Hvac.sizeOf92 rfl rfl) ?_
                refine WO_load (.slice _ _ _) Hvac.isAgg92 rfl (Hb.h (by repeat (first | assumption | exact Hb.newY _ _ | refine Hb.alloc ?_ | refine Hb.drew ?_ | refine Hb.ext (by assumption) ?_ | exact Hb.setSameL (by first | omega | (simp only [size_alloc, size_setB, size_drew]; omega)) | exact Hb.setSame (by assumption) | refine Hb.set (by first | omega | (simp only [size_alloc, size_setB, size_drew]; omega)) ?_ ))) (Ce.h (by first | assumption | exact ⟨rfl⟩)) ?_
                refine WO_call Hvac.call76 (by rfl) (Ret.mono (nCmp_spec (by first | exact NN.nil _ | assumption | exact NN.ext (by assumption) (by repeat (first | assumption | exact Ext.refl _ | refine Ext.alloc ?_ _ | refine Ext.drew ?_ | refine Ext.setB ?_ (by first | omega | (simp only [size_alloc, size_setB, size_drew]; omega)) _ | exact Ext.trans (by assumption) (by assumption) | refine Ext.trans ?_ (by assumption)))) (by first | exact NN.nil _ | assumption | exact NN.ext (by assumption) (by repeat (first | assumption | exact Ext.refl _ | refine Ext.alloc ?_ _ | refine Ext.drew ?_ | refine Ext.setB ?_ (by first | omega | (simp only [size_alloc, size_setB, size_drew]; omega)) _ | exact Ext.trans (by assumption) (by assumption) | refine Ext.trans ?_ (by assumption)))) (by first | assumption | omega | (rw [sz_zero]; omega)) (by first | assumption | omega | (rw [sz_zero]; omega))) ?_)
                rintro _ w76_115 ⟨hE76_115, rfl⟩
                have hz76_115 := hE76_115.1
                try simp only [size_alloc, size_setB, size_drew] at hz76_115
                refine WO_p (PS_gtr rfl rfl) ?_
                refine WO_p (PS_assign_bool rfl) ?_
                refine WO_nil ?_
                refine thn_normal ?_
                refine W_if rfl (fun hb118 => ?_) (fun hb118 => ?_)
                · have hb118p := hb118.h; try simp only [al_ete, al_dfn, Bool.not_eq_true', Bool.not_eq_false', al_ne, Bool.not_not, al_nn] at hb118p
                  try simp only [cmpI_gt3, cmpI_gt2, cmpI_le2, Bool.not_eq_true', Bool.not_eq_false'] at hb118p
                  refine W_seq ?_
                  refine W_region rfl ?_
                  refine WO_p (PS_move_slice rfl) ?_
                  refine WO_p (PS_assign_int rfl) ?_
                  refine WO_p (PS_assign_slice rfl) ?_
                  refine WO_nil ?_
                  refine thn_normal ?_
                  refine W_ret ?_
                  refine inBlk_ret ?_
                  refine thn_ret ?_
                  refine bodyQ_ret2 Hvac.results42 rfl rfl (.int _ _) (.slice _ _ _) rfl rfl ?_
                  unfold yrefuse
                  (repeat (first | rw [if_pos (by first | assumption | omega | (rintro ⟨h1, h2⟩; omega))] | rw [if_neg (by first | assumption | omega | (rintro ⟨h1, h2⟩; omega))]))
                  first
                  | exact ⟨(by repeat (first | assumption | exact Ext.refl _ | refine Ext.alloc ?_ _ | refine Ext.drew ?_ | refine Ext.setB ?_ (by first | omega | (simp only [size_alloc, size_setB, size_drew]; omega)) _ | refine Ext.trans ?_ (by assumption))), (_, _, _), rfl, fun h9 => (Nat.succ_ne_zero _ h9).elim⟩
                  | exact ⟨(by repeat (first | assumption | exact Ext.refl _ | refine Ext.alloc ?_ _ | refine Ext.drew ?_ | refine Ext.setB ?_ (by first | omega | (simp only [size_alloc, size_setB, size_drew]; omega)) _ | refine Ext.trans ?_ (by assumption))), (_, _, _), rfl, fun _ => (by first | exact NN.nil _ | assumption | exact NN.ext (by assumption) (by repeat (first | assumption | exact Ext.refl _ | refine Ext.alloc ?_ _ | refine Ext.drew ?_ | refine Ext.setB ?_ (by first | omega | (simp only [size_alloc, size_setB, size_drew]; omega)) _ | refine Ext.trans ?_ (by assumption))))⟩
                · have hb118p := hb118.h; try simp only [al_ete, al_dfn, Bool.not_eq_true', Bool.not_eq_false', al_ne, Bool.not_not, al_nn] at hb118p
                  try simp only [cmpI_gt3, cmpI_gt2, cmpI_le2, Bool.not_eq_true', Bool.not_eq_false'] at hb118p
                  refine W_seq ?_
                  refine W_drawE [false, false, false, false, false, false, false, true, false, false, false, false] hmix (by kernel_rfl) rfl ?_
                  refine WH_p (PS_move_int rfl) rfl ?_
                  refine WH_p (PS_eql rfl rfl) rfl ?_
                  refine WH_p (PS_move_bool rfl) rfl ?_
                  refine WH_if (t := 98) rfl (fun hb120 => ?_) (fun hb120 => ?_)
                  · have hb120p := hb120.h; try simp only [al_ete, al_dfn, Bool.not_eq_true', Bool.not_eq_false', al_ne, Bool.not_not, al_nn] at hb120p
                    exfalso; omega
                  · have hb120p := hb120.h; try simp only [al_ete, al_dfn, Bool.not_eq_true', Bool.not_eq_false', al_ne, Bool.not_not, al_nn] at hb120p
                    refine WH_guardF rfl rfl hb120.h ?_
                    refine WH_guardF rfl rfl hb120.h ?_
                    refine WH_guardF rfl rfl hb120.h ?_
                    refine WH_guardF rfl rfl hb120.h ?_
                    refine WH_guardF rfl rfl hb120.h ?_
                    refine WH_guardF rfl rfl hb120.h ?_
                    refine WH_guardF rfl rfl hb120.h ?_
                    refine WH_p (PS_pickF rfl hb120.h rfl) rfl ?_
                    refine WH_p (PS_assign_bool rfl) rfl ?_
                    refine WH_nil ?_
                    refine thn_normal ?_
                    refine W_condF rfl rfl ?_
                    refine W_seq ?_
                    refine W_drawE [false, false, false, false, false, false, false, false, true, false, false, false, false] hmix (by kernel_rfl) rfl ?_
                    refine WH_p (PS_move_int rfl) rfl ?_
                    refine WH_p (PS_eql rfl rfl) rfl ?_
                    refine WH_p (PS_move_bool rfl) rfl ?_
                    refine WH_if (t := 111) rfl (fun hb122 => ?_) (fun hb122 => ?_)
                    · have hb122p := hb122.h; try simp only [al_ete, al_dfn, Bool.not_eq_true', Bool.not_eq_false', al_ne, Bool.not_not, al_nn] at hb122p
                      exfalso; omega
                    · have hb122p := hb122.h; try simp only [al_ete, al_dfn, Bool.not_eq_true', Bool.not_eq_false', al_ne, Bool.not_not, al_nn] at hb122p
                      refine WH_guardF rfl rfl hb122.h ?_
                      refine WH_guardF rfl rfl hb122.h ?_
                      refine WH_guardF rfl rfl hb122.h ?_
                      refine WH_guardF rfl rfl hb122.h ?_
                      refine WH_guardF rfl rfl hb122.h ?_
                      refine WH_guardF rfl rfl hb122.h ?_
                      refine WH_guardF rfl rfl hb122.h ?_
                      refine WH_guardF rfl rfl hb122.h ?_
                      refine WH_p (PS_pickF rfl hb122.h rfl) rfl ?_
                      refine WH_p (PS_assign_bool rfl) rfl ?_
                      refine WH_nil ?_
                      refine thn_normal ?_
                      refine W_condF rfl rfl ?_
                      refine W_seq ?_
                      refine W_drawE [false, false, false, false, true, true, false, false, false, false, false, false, false, false, true, false, false, false, false] hmix (by kernel_rfl) rfl ?_
                      refine WH_p (PS_move_int rfl) rfl ?_
                      refine WH_p (PS_eql rfl rfl) rfl ?_
                      refine WH_p (PS_move_bool rfl) rfl ?_
                      refine WH_if (t := 125) rfl (fun hb124 => ?_) (fun hb124 => ?_)
                      · have hb124p := hb124.h; try simp only [al_ete, al_dfn, Bool.not_eq_true', Bool.not_eq_false', al_ne, Bool.not_not, al_nn] at hb124p
                        exfalso; omega
                      · have hb124p := hb124.h; try simp only [al_ete, al_dfn, Bool.not_eq_true', Bool.not_eq_false', al_ne, Bool.not_not, al_nn] at hb124p
                        refine WH_guardF rfl rfl hb124.h ?_
                        refine WH_guardF rfl rfl hb124.h ?_
                        refine WH_guardF rfl rfl hb124.h ?_
                        refine WH_guardF rfl rfl hb124.h ?_
                        refine WH_p (PS_pickF rfl hb124.h rfl) rfl ?_
                        refine WH_p (PS_move_bool rfl) rfl ?_
                        refine WH_guardF rfl rfl rfl ?_
                        refine WH_guardF rfl rfl rfl ?_
                        refine WH_guardF rfl rfl rfl ?_
                        refine WH_guardF rfl rfl rfl ?_
                        refine WH_guardF rfl rfl rfl ?_
                        refine WH_guardF rfl rfl rfl ?_
                        refine WH_guardF rfl rfl rfl ?_
                        refine WH_guardF rfl rfl rfl ?_
                        refine WH_p (PS_pickF rfl rfl rfl) rfl ?_
                        refine WH_p (PS_assign_bool rfl) rfl ?_
                        refine WH_nil ?_
                        refine thn_normal ?_
                        refine W_condF rfl rfl ?_
                        refine W_skip ?_
                        refine inBlk_normal ?_
                        refine thn_normal ?_
                        refine W_seq ?_
                        refine W_region rfl ?_
                        refine WO_p (PS_move_slice rfl) ?_
                        refine WO_p (PS_assign_int rfl) ?_
                        refine WO_p (PS_assign_slice rfl) ?_
                        refine WO_nil ?_
                        refine thn_normal ?_
                        refine W_ret ?_
                        refine bodyQ_ret2 Hvac.results42 rfl rfl (.int _ _) (.slice _ _ _) rfl rfl ?_
                        unfold yrefuse
                        (repeat (first | rw [if_pos (by first | assumption | omega | (rintro ⟨h1, h2⟩; omega))] | rw [if_neg (by first | assumption | omega | (rintro ⟨h1, h2⟩; omega))]))
                        first
                        | exact ⟨(by repeat (first | assumption | exact Ext.refl _ | refine Ext.alloc ?_ _ | refine Ext.drew ?_ | refine Ext.setB ?_ (by first | omega | (simp only [size_alloc, size_setB, size_drew]; omega)) _ | refine Ext.trans ?_ (by assumption))), (_, _, _), rfl, fun h9 => (Nat.succ_ne_zero _ h9).elim⟩
                        | exact ⟨(by repeat (first | assumption | exact Ext.refl _ | refine Ext.alloc ?_ _ | refine Ext.drew ?_ | refine Ext.setB ?_ (by first | omega | (simp only [size_alloc, size_setB, size_drew]; omega)) _ | refine Ext.trans ?_ (by assumption))), (_, _, _), rfl, fun _ => (by first | exact NN.nil _ | assumption | exact NN.ext (by assumption) (by repeat (first | assumption | exact Ext.refl _ | refine Ext.alloc ?_ _ | refine Ext.drew ?_ | refine Ext.setB ?_ (by first | omega | (simp only [size_alloc, size_setB, size_drew]; omega)) _ | refine Ext.trans ?_ (by assumption))))⟩
          · have hb107p := hb107.h; try simp only [al_ete, al_dfn, Bool.not_eq_true', Bool.not_eq_false', al_ne, Bool.not_not, al_nn] at hb107p
            refine WO_guardT rfl rfl hb107.h ?_
            refine WO_p (PS_move_int rfl) ?_
            refine WO_guardT rfl rfl hb107.h ?_
            refine WO_p (PS_eql rfl rfl) ?_
            refine WO_p (PS_pickF rfl hb107.h rfl) ?_
            refine WO_p (PS_move_bool rfl) ?_
            refine WO_if (t := 56) rfl (fun hb126 => ?_) (fun hb126 => ?_)
            · have hb126p := hb126.h; try simp only [al_ete, al_dfn, Bool.not_eq_true', Bool.not_eq_false', al_ne, Bool.not_not, al_nn] at hb126p
              have ho5 : o = 245 := by omega
              refine WO_guardT rfl rfl hb126.h ?_
              refine WO_p (PS_move_ptr rfl) ?_
              refine WO_guardT rfl rfl hb126.h ?_
              refine WO_call Hvac.call47 (by rfl) (Ret.mono (yArg_spec _ (OmB.ext hO (by repeat (first | assumption | exact Ext.refl _ | refine Ext.alloc ?_ _ | refine Ext.drew ?_ | refine Ext.setB ?_ (by first | omega | (simp only [size_alloc, size_setB, size_drew]; omega)) _ | exact Ext.trans (by assumption) (by assumption) | refine Ext.trans ?_ (by assumption)))) _ _ _ _ (by first | assumption | exact FrS.ext (by assumption) (by repeat (first | assumption | exact Ext.refl _ | refine Ext.alloc ?_ _ | refine Ext.drew ?_ | refine Ext.setB ?_ (by first | omega | (simp only [size_alloc, size_setB, size_drew]; omega)) _ | exact Ext.trans (by assumption) (by assumption) | refine Ext.trans ?_ (by assumption)))) hP _ (by decide)) ?_)
              rintro _ w47_126 ⟨hE47_126, s47_126, rfl, hN47_126, hs47_126⟩
              have hz47_126 := hE47_126.1
              try simp only [size_alloc, size_setB, size_drew] at hz47_126
              refine WO_guardT rfl rfl hb126.h ?_
              refine WO_call Hvac.call19 (by rfl) (Ret.mono (nNum_spec (OmB.ext hO (by repeat (first | assumption | exact Ext.refl _ | refine Ext.alloc ?_ _ | refine Ext.drew ?_ | refine Ext.setB ?_ (by first | omega | (simp only [size_alloc, size_setB, size_drew]; omega)) _ | exact Ext.trans (by assumption) (by assumption) | refine Ext.trans ?_ (by assumption)))) ⟨by omega, by omega⟩) ?_)
              rintro _ w19_127 ⟨hE19_127, s19_127, rfl, hN19_127, hs19_127⟩
              have hz19_127 := hE19_127.1
              try simp only [size_alloc, size_setB, size_drew] at hz19_127
              try simp only [Int.toNat_natCast, toNat_lit] at hN19_127 hs19_127
              refine WO_guardT rfl rfl hb126.h ?_
              refine WO_call Hvac.call76 (by rfl) (Ret.mono (nCmp_spec (by first | exact NN.nil _ | assumption | exact NN.ext (by assumption) (by repeat (first | assumption | exact Ext.refl _ | refine Ext.alloc ?_ _ | refine Ext.drew ?_ | refine Ext.setB ?_ (by first | omega | (simp only [size_alloc, size_setB, size_drew]; omega)) _ | exact Ext.trans (by assumption) (by assumption) | refine Ext.trans ?_ (by assumption)))) (by first | exact NN.nil _ | assumption | exact NN.ext (by assumption) (by repeat (first | assumption | exact Ext.refl _ | refine Ext.alloc ?_ _ | refine Ext.drew ?_ | refine Ext.setB ?_ (by first | omega | (simp only [size_alloc, size_setB, size_drew]; omega)) _ | exact Ext.trans (by assumption) (by assumption) | refine Ext.trans ?_ (by assumption)))) (by first | assumption | omega | (rw [sz_zero]; omega)) (by first | assumption | omega | (rw [sz_zero]; omega))) ?_)
              rintro _ w76_128 ⟨hE76_128, rfl⟩
              have hz76_128 := hE76_128.1
              try simp only [size_alloc, size_setB, size_drew] at hz76_128
              refine WO_guardT rfl rfl hb126.h ?_
              refine WO_p (PS_gtr rfl rfl) ?_
              refine WO_p (PS_pickT rfl hb126.h rfl) ?_
              refine WO_p (PS_assign_bool rfl) ?_
              refine WO_nil ?_
              refine thn_normal ?_
              refine W_if rfl (fun hb131 => ?_) (fun hb131 => ?_)
              · have hb131p := hb131.h; try simp only [al_ete, al_dfn, Bool.not_eq_true', Bool.not_eq_false', al_ne, Bool.not_not, al_nn] at hb131p
                try simp only [cmpI_gt3, cmpI_gt2, cmpI_le2, Bool.not_eq_true', Bool.not_eq_false'] at hb131p
                refine W_seq ?_
                refine W_region rfl ?_
                refine WO_p (PS_assign_int rfl) ?_
                refine WO_p (PS_assign_slice rfl) ?_
                refine WO_nil ?_
                refine thn_normal ?_
                refine W_ret ?_
                refine inBlk_ret ?_
                refine thn_ret ?_
                refine bodyQ_ret2 Hvac.results42 rfl rfl (.int _ _) (.slice _ _ _) rfl rfl ?_
                unfold yrefuse
                (repeat (first | rw [if_pos (by first | assumption | omega | (rintro ⟨h1, h2⟩; omega))] | rw [if_neg (by first | assumption | omega | (rintro ⟨h1, h2⟩; omega))]))
                first
                | exact ⟨(by repeat (first | assumption | exact Ext.refl _ | refine Ext.alloc ?_ _ | refine Ext.drew ?_ | refine Ext.setB ?_ (by first | omega | (simp only [size_alloc, size_setB, size_drew]; omega)) _ | refine Ext.trans ?_ (by assumption))), (_, _, _), rfl, fun h9 => (Nat.succ_ne_zero _ h9).elim⟩
                | exact ⟨(by repeat (first | assumption | exact Ext.refl _ | refine Ext.alloc ?_ _ | refine Ext.drew ?_ | refine Ext.setB ?_ (by first | omega | (simp only [size_alloc, size_setB, size_drew]; omega)) _ | refine Ext.trans ?_ (by assumption))), (_, _, _), rfl, fun _ => (by first | exact NN.nil _ | assumption | exact NN.ext (by assumption) (by repeat (first | assumption | exact Ext.refl _ | refine Ext.alloc ?_ _ | refine Ext.drew ?_ | refine Ext.setB ?_ (by first | omega | (simp only [size_alloc, size_setB, size_drew]; omega)) _ | refine Ext.trans ?_ (by assumption))))⟩
              · have hb131p := hb131.h; try simp only [al_ete, al_dfn, Bool.not_eq_true', Bool.not_eq_false', al_ne, Bool.not_not, al_nn] at hb131p
                try simp only [cmpI_gt3, cmpI_gt2, cmpI_le2, Bool.not_eq_true', Bool.not_eq_false'] at hb131p
                refine W_seq ?_
                refine W_drawE [false, false, false, false, true, false, true, true, false, false, false, false, false, false, false, false, false, false, false] hmix (by kernel_rfl) rfl ?_
                refine WH_p (PS_move_int rfl) rfl ?_
                refine WH_p (PS_eql rfl rfl) rfl ?_
                refine WH_p (PS_move_bool rfl) rfl ?_
                refine WH_if (t := 66) rfl (fun hb133 => ?_) (fun hb133 => ?_)
                · have hb133p := hb133.h; try simp only [al_ete, al_dfn, Bool.not_eq_true', Bool.not_eq_false', al_ne, Bool.not_not, al_nn] at hb133p
                  exfalso; omega
                · have hb133p := hb133.h; try simp only [al_ete, al_dfn, Bool.not_eq_true', Bool.not_eq_false', al_ne, Bool.not_not, al_nn] at hb133p
                  refine WH_guardF rfl rfl hb133.h ?_
                  refine WH_guardF rfl rfl hb133.h ?_
                  refine WH_guardF rfl rfl hb133.h ?_
                  refine WH_guardF rfl rfl hb133.h ?_
                  refine WH_guardF rfl rfl hb133.h ?_
                  refine WH_guardF rfl rfl hb133.h ?_
                  refine WH_guardF rfl rfl hb133.h ?_
                  refine WH_guardF rfl rfl hb133.h ?_
                  refine WH_guardF rfl rfl hb133.h ?_
                  refine WH_guardF rfl rfl hb133.h ?_
                  refine WH_guardF rfl rfl hb133.h ?_
                  refine WH_guardF rfl rfl hb133.h ?_
                  refine WH_guardF rfl rfl hb133.h ?_
                  refine WH_guardF rfl rfl hb133.h ?_
                  refine WH_p (PS_pickF rfl hb133.h rfl) rfl ?_
                  refine WH_p (PS_assign_bool rfl) rfl ?_
                  refine WH_nil ?_
                  refine thn_normal ?_
                  refine W_condF rfl rfl ?_
                  refine W_skip ?_
                  refine inBlk_normal ?_
                  refine thn_normal ?_
                  refine W_seq ?_
                  refine W_region rfl ?_
                  refine WO_p (PS_move_ptr rfl) ?_
                  refine WO_p (PS_move_ptr rfl) ?_
                  refine WO_p (PS_move_int rfl) ?_
                  refine WO_call Hvac.call113 (by rfl) (Ret.mono (yCost_spec _ (OmB.ext hO (by repeat (first | assumption | exact Ext.refl _ | refine Ext.alloc ?_ _ | refine Ext.drew ?_ | refine Ext.setB ?_ (by first | omega | (simp only [size_alloc, size_setB, size_drew]; omega)) _ | exact Ext.trans (by assumption) (by assumption) | refine Ext.trans ?_ (by assumption)))) _ _ _ _ (by first | assumption | exact YSS.ext (by assumption) (by repeat (first | assumption | exact Ext.refl _ | refine Ext.alloc ?_ _ | refine Ext.drew ?_ | refine Ext.setB ?_ (by first | omega | (simp only [size_alloc, size_setB, size_drew]; omega)) _ | exact Ext.trans (by assumption) (by assumption) | refine Ext.trans ?_ (by assumption)))) hB hN _ _ _ _ (by first | assumption | exact FrS.ext (by assumption) (by repeat (first | assumption | exact Ext.refl _ | refine Ext.alloc ?_ _ | refine Ext.drew ?_ | refine Ext.setB ?_ (by first | omega | (simp only [size_alloc, size_setB, size_drew]; omega)) _ | exact Ext.trans (by assumption) (by assumption) | refine Ext.trans ?_ (by assumption)))) hP _ (by omega)) ?_)
                  rintro _ w113_133 ⟨hE113_133, s113_133, rfl, hN113_133⟩
                  have hz113_133 := hE113_133.1
                  try simp only [size_alloc, size_setB, size_drew] at hz113_133
                  have hs113_133 := sz_ycost (y := y) hP o ho
                  refine WO_p (PS_assign_slice rfl) ?_
                  refine WO_nil ?_
                  refine thn_normal ?_
                  refine W_seq ?_
                  refine W_block ?_
                  refine W_seq ?_
                  refine W_region rfl ?_
                  refine WO_p (PS_move_slice rfl) ?_
                  refine WO_p (PS_move_ptr rfl) ?_
                  refine WO_p (PS_nilCheck rfl) ?_
                  refine WO_p (PS_fieldAddr 4 Hvac.runUnderlying121 rfl Hvac.sizeOf92 rfl rfl) ?_
                  refine WO_load (.slice _ _ _) Hvac.isAgg92 rfl (Hb.h (by repeat (first | assumption | exact Hb.newY _ _ | refine Hb.alloc ?_ | refine Hb.drew ?_ | refine Hb.ext (by assumption) ?_ | exact Hb.setSameL (by first | omega | (simp only [size_alloc, size_setB, size_drew]; omega)) | exact Hb.setSame (by assumption) | refine Hb.set (by first | omega | (simp only [size_alloc, size_setB, size_drew]; omega)) ?_ ))) (Ce.h (by first | assumption | exact ⟨rfl⟩)) ?_
                  refine WO_call Hvac.call76 (by rfl) (Ret.mono (nCmp_spec (by first | exact NN.nil _ | assumption | exact NN.ext (by assumption) (by repeat (first | assumption | exact Ext.refl _ | refine Ext.alloc ?_ _ | refine Ext.drew ?_ | refine Ext.setB ?_ (by first | omega | (simp only [size_alloc, size_setB, size_drew]; omega)) _ | exact Ext.trans (by assumption) (by assumption) | refine Ext.trans ?_ (by assumption)))) (by first | exact NN.nil _ | assumption | exact NN.ext (by assumption) (by repeat (first | assumption | exact Ext.refl _ | refine Ext.alloc ?_ _ | refine Ext.drew ?_ | refine Ext.setB ?_ (by first | omega | (simp only [size_alloc, size_setB, size_drew]; omega)) _ | exact Ext.trans (by assumption) (by assumption) | refine Ext.trans ?_ (by assumption)))) (by first | assumption | omega | (rw [sz_zero]; omega)) (by first | assumption | omega | (rw [sz_zero]; omega))) ?_)
                  rintro _ w76_134 ⟨hE76_134, rfl⟩
                  have hz76_134 := hE76_134.1
                  try simp only [size_alloc, size_setB, size_drew] at hz76_134
                  refine WO_p (PS_gtr rfl rfl) ?_
                  refine WO_p (PS_assign_bool rfl) ?_
                  refine WO_nil ?_
                  refine thn_normal ?_
                  refine W_if rfl (fun hb137 => ?_) (fun hb137 => ?_)
                  · have hb137p := hb137.h; try simp only [al_ete, al_dfn, Bool.not_eq_true', Bool.not_eq_false', al_ne, Bool.not_not, al_nn] at hb137p
                    try simp only [cmpI_gt3, cmpI_gt2, cmpI_le2, Bool.not_eq_true', Bool.not_eq_false'] at hb137p
                    refine W_seq ?_
                    refine W_region rfl ?_
                    refine WO_p (PS_move_slice rfl) ?_
                    refine WO_p (PS_assign_int rfl) ?_
                    refine WO_p (PS_assign_slice rfl) ?_
                    refine WO_nil ?_
                    refine thn_normal ?_
                    refine W_ret ?_
                    refine inBlk_ret ?_
                    refine thn_ret ?_
                    refine bodyQ_ret2 Hvac.results42 rfl rfl (.int _ _) (.slice _ _ _) rfl rfl ?_
                    unfold yrefuse
                    (repeat (first | rw [if_pos (by first | assumption | omega | (rintro ⟨h1, h2⟩; omega))] | rw [if_neg (by first | assumption | omega | (rintro ⟨h1, h2⟩; omega))]))
                    first
                    | exact ⟨(by repeat (first | assumption | exact Ext.refl _ | refine Ext.alloc ?_ _ | refine Ext.drew ?_ | refine Ext.setB ?_ (by first | omega | (simp only [size_alloc, size_setB, size_drew]; omega)) _ | refine Ext.trans ?_ (by assumption))), (_, _, _), rfl, fun h9 => (Nat.succ_ne_zero _ h9).elim⟩
                    | exact ⟨(by repeat (first | assumption | exact Ext.refl _ | refine Ext.alloc ?_ _ | refine Ext.drew ?_ | refine Ext.setB ?_ (by first | omega | (simp only [size_alloc, size_setB, size_drew]; omega)) _ | refine Ext.trans ?_ (by assumption))), (_, _, _), rfl, fun _ => (by first | exact NN.nil _ | assumption | exact NN.ext (by assumption) (by repeat (first | assumption | exact Ext.refl _ | refine Ext.alloc ?_ _ | refine Ext.drew ?_ | refine Ext.setB ?_ (by first | omega | (simp only [size_alloc, size_setB, size_drew]; omega)) _ | refine Ext.trans ?_ (by assumption))))⟩
                  · have hb137p := hb137.h; try simp only [al_ete, al_dfn, Bool.not_eq_true', Bool.not_eq_false', al_ne, Bool.not_not, al_nn] at hb137p
                    try simp only [cmpI_gt3, cmpI_gt2, cmpI_le2, Bool.not_eq_true', Bool.not_eq_false'] at hb137p
                    refine W_seq ?_
                    refine W_drawE [false, false, false, false, false, false, false, true, false, false, false, false] hmix (by kernel_rfl) rfl ?_
                    refine WH_p (PS_move_int rfl) rfl ?_
                    refine WH_p (PS_eql rfl rfl) rfl ?_
                    refine WH_p (PS_move_bool rfl) rfl ?_
                    refine WH_if (t := 98) rfl (fun hb139 => ?_) (fun hb139 => ?_)
                    · have hb139p := hb139.h; try simp only [al_ete, al_dfn, Bool.not_eq_true', Bool.not_eq_false', al_ne, Bool.not_not, al_nn] at hb139p
                      exfalso; omega
                    · have hb139p := hb139.h; try simp only [al_ete, al_dfn, Bool.not_eq_true', Bool.not_eq_false', al_ne, Bool.not_not, al_nn] at hb139p
                      refine WH_guardF rfl rfl hb139.h ?_
                      refine WH_guardF rfl rfl hb139.h ?_
                      refine WH_guardF rfl rfl hb139.h ?_
                      refine WH_guardF rfl rfl hb139.h ?_
                      refine WH_guardF rfl rfl hb139.h ?_
                      refine WH_guardF rfl rfl hb139.h ?_
                      refine WH_guardF rfl rfl hb139.h ?_
                      refine WH_p (PS_pickF rfl hb139.h rfl) rfl ?_
                      refine WH_p (PS_assign_bool rfl) rfl ?_
                      refine WH_nil ?_
                      refine thn_normal ?_
                      refine W_condF rfl rfl ?_
                      refine W_seq ?_
                      refine W_drawE [false, false, false, false, false, false, false, false, true, false, false, false, false] hmix (by kernel_rfl) rfl ?_
                      refine WH_p (PS_move_int rfl) rfl ?_
                      refine WH_p (PS_eql rfl rfl) rfl ?_
                      refine WH_p (PS_move_bool rfl) rfl ?_
                      refine WH_if (t := 111) rfl (fun hb141 => ?_) (fun hb141 => ?_)
                      · have hb141p := hb141.h; try simp only [al_ete, al_dfn, Bool.not_eq_true', Bool.not_eq_false', al_ne, Bool.not_not, al_nn] at hb141p
                        exfalso; omega
                      · have hb141p := hb141.h; try simp only [al_ete, al_dfn, Bool.not_eq_true', Bool.not_eq_false', al_ne, Bool.not_not, al_nn] at hb141p
                        refine WH_guardF rfl rfl hb141.h ?_
                        refine WH_guardF rfl rfl hb141.h ?_
                        refine WH_guardF rfl rfl hb141.h ?_
                        refine WH_guardF rfl rfl hb141.h ?_
                        refine WH_guardF rfl rfl hb141.h ?_
                        refine WH_guardF rfl rfl hb141.h ?_
                        refine WH_guardF rfl rfl hb141.h ?_
                        refine WH_guardF rfl rfl hb141.h ?_
                        refine WH_p (PS_pickF rfl hb141.h rfl) rfl ?_
                        refine WH_p (PS_assign_bool rfl) rfl ?_
                        refine WH_nil ?_
                        refine thn_normal ?_
                        refine W_condF rfl rfl ?_
                        refine W_seq ?_
                        refine W_drawE [false, false, false, false, true, true, false, false, false, false, false, false, false, false, true, false, false, false, false] hmix (by kernel_rfl) rfl ?_
                        refine WH_p (PS_move_int rfl) rfl ?_
                        refine WH_p (PS_eql rfl rfl) rfl ?_
                        refine WH_p (PS_move_bool rfl) rfl ?_
                        refine WH_if (t := 125) rfl (fun hb143 => ?_) (fun hb143 => ?_)
                        · have hb143p := hb143.h; try simp only [al_ete, al_dfn, Bool.not_eq_true', Bool.not_eq_false', al_ne, Bool.not_not, al_nn] at hb143p
                          exfalso; omega
                        · have hb143p := hb143.h; try simp only [al_ete, al_dfn, Bool.not_eq_true', Bool.not_eq_false', al_ne, Bool.not_not, al_nn] at hb143p
                          refine WH_guardF rfl rfl hb143.h ?_
                          refine WH_guardF rfl rfl hb143.h ?_
                          refine WH_guardF rfl rfl hb143.h ?_
                          refine WH_guardF rfl rfl hb143.h ?_
                          refine WH_p (PS_pickF rfl hb143.h rfl) rfl ?_
                          refine WH_p (PS_move_bool rfl) rfl ?_
                          refine WH_guardF rfl rfl rfl ?_
                          refine WH_guardF rfl rfl rfl ?_
                          refine WH_guardF rfl rfl rfl ?_
                          refine WH_guardF rfl rfl rfl ?_
                          refine WH_guardF rfl rfl rfl ?_
                          refine WH_guardF rfl rfl rfl ?_
                          refine WH_guardF rfl rfl rfl ?_
                          refine WH_guardF rfl rfl rfl ?_
                          refine WH_p (PS_pickF rfl rfl rfl) rfl ?_
                          refine WH_p (PS_assign_bool rfl) rfl ?_
                          refine WH_nil ?_
                          refine thn_normal ?_
                          refine W_condF rfl rfl ?_
                          refine W_skip ?_
                          refine inBlk_normal ?_
                          refine thn_normal ?_
                          refine W_seq ?_
                          refine W_region rfl ?_
                          refine WO_p (PS_move_slice rfl) ?_
                          refine WO_p (PS_assign_int rfl) ?_
                          refine WO_p (PS_assign_slice rfl) ?_
                          refine WO_nil ?_
                          refine thn_normal ?_
                          refine W_ret ?_
                          refine bodyQ_ret2 Hvac.results42 rfl rfl (.int _ _) (.slice _ _ _) rfl rfl ?_
                          unfold yrefuse
                          (repeat (first | rw [if_pos (by first | assumption | omega | (rintro ⟨h1, h2⟩; omega))] | rw [if_neg (by first | assumption | omega | (rintro ⟨h1, h2⟩; omega))]))
                          first
                          | exact ⟨(by repeat (first | assumption | exact Ext.refl _ | refine Ext.alloc ?_ _ | refine Ext.drew ?_ | refine Ext.setB ?_ (by first | omega | (simp only [size_alloc, size_setB, size_drew]; omega)) _ | refine Ext.trans ?_ (by assumption))), (_, _, _), rfl, fun h9 => (Nat.succ_ne_zero _ h9).elim⟩
                          | exact ⟨(by repeat (first | assumption | exact Ext.refl _ | refine Ext.alloc ?_ _ | refine Ext.drew ?_ | refine Ext.setB ?_ (by first | omega | (simp only [size_alloc, size_setB, size_drew]; omega)) _ | refine Ext.trans ?_ (by assumption))), (_, _, _), rfl, fun _ => (by first | exact NN.nil _ | assumption | exact NN.ext (by assumption) (by repeat (first | assumption | exact Ext.refl _ | refine Ext.alloc ?_ _ | refine Ext.drew ?_ | refine Ext.setB ?_ (by first | omega | (simp only [size_alloc, size_setB, size_drew]; omega)) _ | refine Ext.trans ?_ (by assumption))))⟩
            · have hb126p := hb126.h; try simp only [al_ete, al_dfn, Bool.not_eq_true', Bool.not_eq_false', al_ne, Bool.not_not, al_nn] at hb126p
              refine WO_guardF rfl rfl hb126.h ?_
              refine WO_guardF rfl rfl hb126.h ?_
              refine WO_guardF rfl rfl hb126.h ?_
              refine WO_guardF rfl rfl hb126.h ?_
              refine WO_guardF rfl rfl hb126.h ?_
              refine WO_p (PS_pickF rfl hb126.h rfl) ?_
              refine WO_p (PS_assign_bool rfl) ?_
              refine WO_nil ?_
              refine thn_normal ?_
              refine W_condF rfl rfl ?_
              refine W_seq ?_
              refine W_drawE [false, false, false, false, true, false, true, true, false, false, false, false, false, false, false, false, false, false, false] hmix (by kernel_rfl) rfl ?_
              refine WH_p (PS_move_int rfl) rfl ?_
              refine WH_p (PS_eql rfl rfl) rfl ?_
              refine WH_p (PS_move_bool rfl) rfl ?_
              refine WH_if (t := 66) rfl (fun hb145 => ?_) (fun hb145 => ?_)
              · have hb145p := hb145.h; try simp only [al_ete, al_dfn, Bool.not_eq_true', Bool.not_eq_false', al_ne, Bool.not_not, al_nn] at hb145p
                have ho5 : o = 62 := by omega
                refine WH_guardT rfl rfl hb145.h ?_
                refine WH_p (PS_move_ptr rfl) rfl ?_
                refine WH_guardT rfl rfl hb145.h ?_
                refine WH_call Hvac.call47 (by rfl) (Ret.mono (yArg_spec _ (OmB.ext hO (by repeat (first | assumption | exact Ext.refl _ | refine Ext.alloc ?_ _ | refine Ext.drew ?_ | refine Ext.setB ?_ (by first | omega | (simp only [size_alloc, size_setB, size_drew]; omega)) _ | exact Ext.trans (by assumption) (by assumption) | refine Ext.trans ?_ (by assumption)))) _ _ _ _ (by first | assumption | exact FrS.ext (by assumption) (by repeat (first | assumption | exact Ext.refl _ | refine Ext.alloc ?_ _ | refine Ext.drew ?_ | refine Ext.setB ?_ (by first | omega | (simp only [size_alloc, size_setB, size_drew]; omega)) _ | exact Ext.trans (by assumption) (by assumption) | refine Ext.trans ?_ (by assumption)))) hP _ (by decide)) ?_)
                rintro _ w47_145 ⟨hE47_145, s47_145, rfl, hN47_145, hs47_145⟩
                refine ⟨fun _ => (by repeat (first | assumption | exact Ext.refl _ | refine Ext.alloc ?_ _ | refine Ext.drew ?_ | refine Ext.setB ?_ (by first | omega | (simp only [size_alloc, size_setB, size_drew]; omega)) _ | exact Ext.trans (by assumption) (by assumption) | refine Ext.trans ?_ (by assumption))), ?_⟩
                have hz47_145 := hE47_145.1
                try simp only [size_alloc, size_setB, size_drew] at hz47_145
                refine WH_guardT rfl rfl hb145.h ?_
                refine WH_p (PS_move_ptr rfl) rfl ?_
                refine WH_guardT rfl rfl hb145.h ?_
                refine WH_call Hvac.call47 (by rfl) (Ret.mono (yArg_spec _ (OmB.ext hO (by repeat (first | assumption | exact Ext.refl _ | refine Ext.alloc ?_ _ | refine Ext.drew ?_ | refine Ext.setB ?_ (by first | omega | (simp only [size_alloc, size_setB, size_drew]; omega)) _ | exact Ext.trans (by assumption) (by assumption) | refine Ext.trans ?_ (by assumption)))) _ _ _ _ (by first | assumption | exact FrS.ext (by assumption) (by repeat (first | assumption | exact Ext.refl _ | refine Ext.alloc ?_ _ | refine Ext.drew ?_ | refine Ext.setB ?_ (by first | omega | (simp only [size_alloc, size_setB, size_drew]; omega)) _ | exact Ext.trans (by assumption) (by assumption) | refine Ext.trans ?_ (by assumption)))) hP _ (by decide)) ?_)
                rintro _ w47_146 ⟨hE47_146, s47_146, rfl, hN47_146, hs47_146⟩
                refine ⟨fun _ => (by repeat (first | assumption | exact Ext.refl _ | refine Ext.alloc ?_ _ | refine Ext.drew ?_ | refine Ext.setB ?_ (by first | omega | (simp only [size_alloc, size_setB, size_drew]; omega)) _ | exact Ext.trans (by assumption) (by assumption) | refine Ext.trans ?_ (by assumption))), ?_⟩
                have hz47_146 := hE47_146.1
                try simp only [size_alloc, size_setB, size_drew] at hz47_146
                refine WH_guardT rfl rfl hb145.h ?_
                refine WH_call Hvac.call24 (by rfl) (Ret.mono (nAdd_spec (OmB.ext hO (by repeat (first | assumption | exact Ext.refl _ | refine Ext.alloc ?_ _ | refine Ext.drew ?_ | refine Ext.setB ?_ (by first | omega | (simp only [size_alloc, size_setB, size_drew]; omega)) _ | exact Ext.trans (by assumption) (by assumption) | refine Ext.trans ?_ (by assumption)))) (by first | exact NN.nil _ | assumption | exact NN.ext (by assumption) (by repeat (first | assumption | exact Ext.refl _ | refine Ext.alloc ?_ _ | refine Ext.drew ?_ | refine Ext.setB ?_ (by first | omega | (simp only [size_alloc, size_setB, size_drew]; omega)) _ | exact Ext.trans (by assumption) (by assumption) | refine Ext.trans ?_ (by assumption)))) (by first | exact NN.nil _ | assumption | exact NN.ext (by assumption) (by repeat (first | assumption | exact Ext.refl _ | refine Ext.alloc ?_ _ | refine Ext.drew ?_ | refine Ext.setB ?_ (by first | omega | (simp only [size_alloc, size_setB, size_drew]; omega)) _ | exact Ext.trans (by assumption) (by assumption) | refine Ext.trans ?_ (by assumption)))) (by first | assumption | omega | (rw [sz_zero]; omega)) (by first | assumption | omega | (rw [sz_zero]; omega))) ?_)
                rintro _ w24_147 ⟨hE24_147, s24_147, rfl, hN24_147⟩
                refine ⟨fun _ => (by repeat (first | assumption | exact Ext.refl _ | refine Ext.alloc ?_ _ | refine Ext.drew ?_ | refine Ext.setB ?_ (by first | omega | (simp only [size_alloc, size_setB, size_drew]; omega)) _ | exact Ext.trans (by assumption) (by assumption) | refine Ext.trans ?_ (by assumption))), ?_⟩
                have hz24_147 := hE24_147.1
                try simp only [size_alloc, size_setB, size_drew] at hz24_147
                have hs24_147 := hN24_147.z_add
                refine WH_guardT rfl rfl hb145.h ?_
                refine WH_p (PS_move_ptr rfl) rfl ?_
                refine WH_guardT rfl rfl hb145.h ?_
                refine WH_p (PS_nilCheck rfl) rfl ?_
                refine WH_guardT rfl rfl hb145.h ?_
                refine WH_p (PS_fieldAddr 10 Hvac.runUnderlying99 rfl Hvac.sizeOf32 rfl rfl) rfl ?_
                refine WH_guardT rfl rfl hb145.h ?_
                refine WH_load (.slice _ _ _) Hvac.isAgg32 rfl (Hb.h (by repeat (first | assumption | exact Hb.newY _ _ | refine Hb.alloc ?_ | refine Hb.drew ?_ | refine Hb.ext (by assumption) ?_ | exact Hb.setSameL (by first | omega | (simp only [size_alloc, size_setB, size_drew]; omega)) | exact Hb.setSame (by assumption) | refine Hb.set (by first | omega | (simp only [size_alloc, size_setB, size_drew]; omega)) ?_ ))) (Ce.h (by first | assumption | exact ⟨rfl⟩)) ?_
                refine WH_guardT rfl rfl hb145.h ?_
                refine WH_p (PS_lenS Hvac.runUnderlying32 rfl) rfl ?_
                refine WH_guardT rfl rfl hb145.h ?_
                refine WH_p (PS_conv_u64n Hvac.runUnderlying3 Hvac.runUnderlying26 rfl (by omega) (by omega)) rfl ?_
                refine WH_guardT rfl rfl hb145.h ?_
                refine WH_call Hvac.call19 (by rfl) (Ret.mono (nNum_spec (OmB.ext hO (by repeat (first | assumption | exact Ext.refl _ | refine Ext.alloc ?_ _ | refine Ext.drew ?_ | refine Ext.setB ?_ (by first | omega | (simp only [size_alloc, size_setB, size_drew]; omega)) _ | exact Ext.trans (by assumption) (by assumption) | refine Ext.trans ?_ (by assumption)))) ⟨by omega, by omega⟩) ?_)
                rintro _ w19_148 ⟨hE19_148, s19_148, rfl, hN19_148, hs19_148⟩
                refine ⟨(fun h => by cases h), ?_⟩
                have hz19_148 := hE19_148.1
                try simp only [size_alloc, size_setB, size_drew] at hz19_148
                try simp only [Int.toNat_natCast, toNat_lit] at hN19_148 hs19_148
                refine WH_guardT rfl rfl hb145.h ?_
                refine WH_call Hvac.call76 (by rfl) (Ret.mono (nCmp_spec (by first | exact NN.nil _ | assumption | exact NN.ext (by assumption) (by repeat (first | assumption | exact Ext.refl _ | refine Ext.alloc ?_ _ | refine Ext.drew ?_ | refine Ext.setB ?_ (by first | omega | (simp only [size_alloc, size_setB, size_drew]; omega)) _ | exact Ext.trans (by assumption) (by assumption) | refine Ext.trans ?_ (by assumption)))) (by first | exact NN.nil _ | assumption | exact NN.ext (by assumption) (by repeat (first | assumption | exact Ext.refl _ | refine Ext.alloc ?_ _ | refine Ext.drew ?_ | refine Ext.setB ?_ (by first | omega | (simp only [size_alloc, size_setB, size_drew]; omega)) _ | exact Ext.trans (by assumption) (by assumption) | refine Ext.trans ?_ (by assumption)))) (by first | assumption | omega | (rw [sz_zero]; omega)) (by first | assumption | omega | (rw [sz_zero]; omega))) ?_)
                rintro _ w76_149 ⟨hE76_149, rfl⟩
                refine ⟨(fun h => by cases h), ?_⟩
                have hz76_149 := hE76_149.1
                try simp only [size_alloc, size_setB, size_drew] at hz76_149
                refine WH_guardT rfl rfl hb145.h ?_
                refine WH_p (PS_gtr rfl rfl) rfl ?_
                refine WH_p (PS_pickT rfl hb145.h rfl) rfl ?_
                refine WH_p (PS_assign_bool rfl) rfl ?_
                refine WH_nil ?_
                refine thn_normal ?_
                refine W_if rfl (fun hb152 => ?_) (fun hb152 => ?_)
                · have hb152p := hb152.h; try simp only [al_ete, al_dfn, Bool.not_eq_true', Bool.not_eq_false', al_ne, Bool.not_not, al_nn] at hb152p
                  try simp only [cmpI_gt3, cmpI_gt2, cmpI_le2, Bool.not_eq_true', Bool.not_eq_false'] at hb152p
                  refine W_seq ?_
                  refine W_region rfl ?_
                  refine WO_p (PS_assign_int rfl) ?_
                  refine WO_p (PS_assign_slice rfl) ?_
                  refine WO_nil ?_
                  refine thn_normal ?_
                  refine W_ret ?_
                  refine inBlk_ret ?_
                  refine thn_ret ?_
                  refine bodyQ_ret2 Hvac.results42 rfl rfl (.int _ _) (.slice _ _ _) rfl rfl ?_
                  unfold yrefuse
                  (repeat (first | rw [if_pos (by first | assumption | omega | (rintro ⟨h1, h2⟩; omega))] | rw [if_neg (by first | assumption | omega | (rintro ⟨h1, h2⟩; omega))]))
                  first
                  | exact ⟨(by repeat (first | assumption | exact Ext.refl _ | refine Ext.alloc ?_ _ | refine Ext.drew ?_ | refine Ext.setB ?_ (by first | omega | (simp only [size_alloc, size_setB, size_drew]; omega)) _ | refine Ext.trans ?_ (by assumption))), (_, _, _), rfl, fun h9 => (Nat.succ_ne_zero _ h9).elim⟩
                  | exact ⟨(by repeat (first | assumption | exact Ext.refl _ | refine Ext.alloc ?_ _ | refine Ext.drew ?_ | refine Ext.setB ?_ (by first | omega | (simp only [size_alloc, size_setB, size_drew]; omega)) _ | refine Ext.trans ?_ (by assumption))), (_, _, _), rfl, fun _ => (by first | exact NN.nil _ | assumption | exact NN.ext (by assumption) (by repeat (first | assumption | exact Ext.refl _ | refine Ext.alloc ?_ _ | refine Ext.drew ?_ | refine Ext.setB ?_ (by first | omega | (simp only [size_alloc, size_setB, size_drew]; omega)) _ | refine Ext.trans ?_ (by assumption))))⟩
                · have hb152p := hb152.h; try simp only [al_ete, al_dfn, Bool.not_eq_true', Bool.not_eq_false', al_ne, Bool.not_not, al_nn] at hb152p
                  try simp only [cmpI_gt3, cmpI_gt2, cmpI_le2, Bool.not_eq_true', Bool.not_eq_false'] at hb152p
                  refine W_skip ?_
                  refine inBlk_normal ?_
                  refine thn_normal ?_
                  refine W_seq ?_
                  refine W_region rfl ?_
                  refine WO_p (PS_move_ptr rfl) ?_
                  refine WO_p (PS_move_ptr rfl) ?_
                  refine WO_p (PS_move_int rfl) ?_
                  refine WO_call Hvac.call113 (by rfl) (Ret.mono (yCost_spec _ (OmB.ext hO (by repeat (first | assumption | exact Ext.refl _ | refine Ext.alloc ?_ _ | refine Ext.drew ?_ | refine Ext.setB ?_ (by first | omega | (simp only [size_alloc, size_setB, size_drew]; omega)) _ | exact Ext.trans (by assumption) (by assumption) | refine Ext.trans ?_ (by assumption)))) _ _ _ _ (by first | assumption | exact YSS.ext (by assumption) (by repeat (first | assumption | exact Ext.refl _ | refine Ext.alloc ?_ _ | refine Ext.drew ?_ | refine Ext.setB ?_ (by first | omega | (simp only [size_alloc, size_setB, size_drew]; omega)) _ | exact Ext.trans (by assumption) (by assumption) | refine Ext.trans ?_ (by assumption)))) hB hN _ _ _ _ (by first | assumption | exact FrS.ext (by assumption) (by repeat (first | assumption | exact Ext.refl _ | refine Ext.alloc ?_ _ | refine Ext.drew ?_ | refine Ext.setB ?_ (by first | omega | (simp only [size_alloc, size_setB, size_drew]; omega)) _ | exact Ext.trans (by assumption) (by assumption) | refine Ext.trans ?_ (by assumption)))) hP _ (by omega)) ?_)
                  rintro _ w113_152 ⟨hE113_152, s113_152, rfl, hN113_152⟩
                  have hz113_152 := hE113_152.1
                  try simp only [size_alloc, size_setB, size_drew] at hz113_152
                  have hs113_152 := sz_ycost (y := y) hP o ho
                  refine WO_p (PS_assign_slice rfl) ?_
                  refine WO_nil ?_
                  refine thn_normal ?_
                  refine W_seq ?_
                  refine W_block ?_
                  refine W_seq ?_
                  refine W_region rfl ?_
                  refine WO_p (PS_move_slice rfl) ?_
                  refine WO_p (PS_move_ptr rfl) ?_
                  refine WO_p (PS_nilCheck rfl) ?_
                  refine WO_p (PS_fieldAddr 4 Hvac.runUnderlying121 rfl Hvac.sizeOf92 rfl rfl) ?_
                  refine WO_load (.slice _ _ _) Hvac.isAgg92 rfl (Hb.h (by repeat (first | assumption | exact Hb.newY _ _ | refine Hb.alloc ?_ | refine Hb.drew ?_ | refine Hb.ext (by assumption) ?_ | exact Hb.setSameL (by first | omega | (simp only [size_alloc, size_setB, size_drew]; omega)) | exact Hb.setSame (by assumption) | refine Hb.set (by first | omega | (simp only [size_alloc, size_setB, size_drew]; omega)) ?_ ))) (Ce.h (by first | assumption | exact ⟨rfl⟩)) ?_
                  refine WO_call Hvac.call76 (by rfl) (Ret.mono (nCmp_spec (by first | exact NN.nil _ | assumption | exact NN.ext (by assumption) (by repeat (first | assumption | exact Ext.refl _ | refine Ext.alloc ?_ _ | refine Ext.drew ?_ | refine Ext.setB ?_ (by first | omega | (simp only [size_alloc, size_setB, size_drew]; omega)) _ | exact Ext.trans (by assumption) (by assumption) | refine Ext.trans ?_ (by assumption)))) (by first | exact NN.nil _ | assumption | exact NN.ext (by assumption) (by repeat (first | assumption | exact Ext.refl _ | refine Ext.alloc ?_ _ | refine Ext.drew ?_ | refine Ext.setB ?_ (by first | omega | (simp only [size_alloc, size_setB, size_drew]; omega)) _ | exact Ext.trans (by assumption) (by assumption) | refine Ext.trans ?_ (by assumption)))) (by first | assumption | omega | (rw [sz_zero]; omega)) (by first | assumption | omega | (rw [sz_zero]; omega))) ?_)
                  rintro _ w76_153 ⟨hE76_153, rfl⟩
                  have hz76_153 := hE76_153.1
                  try simp only [size_alloc, size_setB, size_drew] at hz76_153
                  refine WO_p (PS_gtr rfl rfl) ?_
                  refine WO_p (PS_assign_bool rfl) ?_
                  refine WO_nil ?_
                  refine thn_normal ?_
                  refine W_if rfl (fun hb156 => ?_) (fun hb156 => ?_)
                  · have hb156p := hb156.h; try simp only [al_ete, al_dfn, Bool.not_eq_true', Bool.not_eq_false', al_ne, Bool.not_not, al_nn] at hb156p
                    try simp only [cmpI_gt3, cmpI_gt2, cmpI_le2, Bool.not_eq_true', Bool.not_eq_false'] at hb156p
                    refine W_seq ?_
                    refine W_region rfl ?_
                    refine WO_p (PS_move_slice rfl) ?_
                    refine WO_p (PS_assign_int rfl) ?_
                    refine WO_p (PS_assign_slice rfl) ?_
                    refine WO_nil ?_
                    refine thn_normal ?_
                    refine W_ret ?_
                    refine inBlk_ret ?_
                    refine thn_ret ?_
                    refine bodyQ_ret2 Hvac.results42 rfl rfl (.int _ _) (.slice _ _ _) rfl rfl ?_
                    unfold yrefuse
                    (repeat (first | rw [if_pos (by first | assumption | omega | (rintro ⟨h1, h2⟩; omega))] | rw [if_neg (by first | assumption | omega | (rintro ⟨h1, h2⟩; omega))]))
                    first
                    | exact ⟨(by repeat (first | assumption | exact Ext.refl _ | refine Ext.alloc ?_ _ | refine Ext.drew ?_ | refine Ext.setB ?_ (by first | omega | (simp only [size_alloc, size_setB, size_drew]; omega)) _ | refine Ext.trans ?_ (by assumption))), (_, _, _), rfl, fun h9 => (Nat.succ_ne_zero _ h9).elim⟩
                    | exact ⟨(by repeat (first | assumption | exact Ext.refl _ | refine Ext.alloc ?_ _ | refine Ext.drew ?_ | refine Ext.setB ?_ (by first | omega | (simp only [size_alloc, size_setB, size_drew]; omega)) _ | refine Ext.trans ?_ (by assumption))), (_, _, _), rfl, fun _ => (by first | exact NN.nil _ | assumption | exact NN.ext (by assumption) (by repeat (first | assumption | exact Ext.refl _ | refine Ext.alloc ?_ _ | refine Ext.drew ?_ | refine Ext.setB ?_ (by first | omega | (simp only [size_alloc, size_setB, size_drew]; omega)) _ | refine Ext.trans ?_ (by assumption))))⟩
                  · have hb156p := hb156.h; try simp only [al_ete, al_dfn, Bool.not_eq_true', Bool.not_eq_false', al_ne, Bool.not_not, al_nn] at hb156p
                    try simp only [cmpI_gt3, cmpI_gt2, cmpI_le2, Bool.not_eq_true', Bool.not_eq_false'] at hb156p
                    refine W_seq ?_
                    refine W_drawE [false, false, false, false, false, false, false, true, false, false, false, false] hmix (by kernel_rfl) rfl ?_
                    refine WH_p (PS_move_int rfl) rfl ?_
                    refine WH_p (PS_eql rfl rfl) rfl ?_
                    refine WH_p (PS_move_bool rfl) rfl ?_
                    refine WH_if (t := 98) rfl (fun hb158 => ?_) (fun hb158 => ?_)
                    · have hb158p := hb158.h; try simp only [al_ete, al_dfn, Bool.not_eq_true', Bool.not_eq_false', al_ne, Bool.not_not, al_nn] at hb158p
                      exfalso; omega
                    · have hb158p := hb158.h; try simp only [al_ete, al_dfn, Bool.not_eq_true', Bool.not_eq_false', al_ne, Bool.not_not, al_nn] at hb158p
                      refine WH_guardF rfl rfl hb158.h ?_
                      refine WH_guardF rfl rfl hb158.h ?_
                      refine WH_guardF rfl rfl hb158.h ?_
                      refine WH_guardF rfl rfl hb158.h ?_
                      refine WH_guardF rfl rfl hb158.h ?_
                      refine WH_guardF rfl rfl hb158.h ?_
                      refine WH_guardF rfl rfl hb158.h ?_
                      refine WH_p (PS_pickF rfl hb158.h rfl) rfl ?_
                      refine WH_p (PS_assign_bool rfl) rfl ?_
                      refine WH_nil ?_
                      refine thn_normal ?_
                      refine W_condF rfl rfl ?_
                      refine W_seq ?_
                      refine W_drawE [false, false, false, false, false, false, false, false, true, false, false, false, false] hmix (by kernel_rfl) rfl ?_
                      refine WH_p (PS_move_int rfl) rfl ?_
                      refine WH_p (PS_eql rfl rfl) rfl ?_
                      refine WH_p (PS_move_bool rfl) rfl ?_
                      refine WH_if (t := 111) rfl (fun hb160 => ?_) (fun hb160 => ?_)
                      · have hb160p := hb160.h; try simp only [al_ete, al_dfn, Bool.not_eq_true', Bool.not_eq_false', al_ne, Bool.not_not, al_nn] at hb160p
                        exfalso; omega
                      · have hb160p := hb160.h; try simp only [al_ete, al_dfn, Bool.not_eq_true', Bool.not_eq_false', al_ne, Bool.not_not, al_nn] at hb160p
                        refine WH_guardF rfl rfl hb160.h ?_
                        refine WH_guardF rfl rfl hb160.h ?_
                        refine WH_guardF rfl rfl hb160.h ?_
                        refine WH_guardF rfl rfl hb160.h ?_
                        refine WH_guardF rfl rfl hb160.h ?_
                        refine WH_guardF rfl rfl hb160.h ?_
                        refine WH_guardF rfl rfl hb160.h ?_
                        refine WH_guardF rfl rfl hb160.h ?_
                        refine WH_p (PS_pickF rfl hb160.h rfl) rfl ?_
                        refine WH_p (PS_assign_bool rfl) rfl ?_
                        refine WH_nil ?_
                        refine thn_normal ?_
                        refine W_condF rfl rfl ?_
                        refine W_seq ?_
                        refine W_drawE [false, false, false, false, true, true, false, false, false, false, false, false, false, false, true, false, false, false, false] hmix (by kernel_rfl) rfl ?_
                        refine WH_p (PS_move_int rfl) rfl ?_
                        refine WH_p (PS_eql rfl rfl) rfl ?_
                        refine WH_p (PS_move_bool rfl) rfl ?_
                        refine WH_if (t := 125) rfl (fun hb162 => ?_) (fun hb162 => ?_)
                        · have hb162p := hb162.h; try simp only [al_ete, al_dfn, Bool.not_eq_true', Bool.not_eq_false', al_ne, Bool.not_not, al_nn] at hb162p
                          exfalso; omega
                        · have hb162p := hb162.h; try simp only [al_ete, al_dfn, Bool.not_eq_true', Bool.not_eq_false', al_ne, Bool.not_not, al_nn] at hb162p
                          refine WH_guardF rfl rfl hb162.h ?_
                          refine WH_guardF rfl rfl hb162.h ?_
                          refine WH_guardF rfl rfl hb162.h ?_
                          refine WH_guardF rfl rfl hb162.h ?_
                          refine WH_p (PS_pickF rfl hb162.h rfl) rfl ?_
                          refine WH_p (PS_move_bool rfl) rfl ?_
                          refine WH_guardF rfl rfl rfl ?_
                          refine WH_guardF rfl rfl rfl ?_
                          refine WH_guardF rfl rfl rfl ?_
                          refine WH_guardF rfl rfl rfl ?_
                          refine WH_guardF rfl rfl rfl ?_
                          refine WH_guardF rfl rfl rfl ?_
                          refine WH_guardF rfl rfl rfl ?_
                          refine WH_guardF rfl rfl rfl ?_
                          refine WH_p (PS_pickF rfl rfl rfl) rfl ?_
                          refine WH_p (PS_assign_bool rfl) rfl ?_
                          refine WH_nil ?_
                          refine thn_normal ?_
                          refine W_condF rfl rfl ?_
                          refine W_skip ?_
                          refine inBlk_normal ?_
                          refine thn_normal ?_
                          refine W_seq ?_
                          refine W_region rfl ?_
                          refine WO_p (PS_move_slice rfl) ?_
                          refine WO_p (PS_assign_int rfl) ?_
                          refine WO_p (PS_assign_slice rfl) ?_
                          refine WO_nil ?_
                          refine thn_normal ?_
                          refine W_ret ?_
                          refine bodyQ_ret2 Hvac.results42 rfl rfl (.int _ _) (.slice _ _ _) rfl rfl ?_
                          unfold yrefuse
                          (repeat (first | rw [if_pos (by first | assumption | omega | (rintro ⟨h1, h2⟩; omega))] | rw [if_neg (by first | assumption | omega | (rintro ⟨h1, h2⟩; omega))]))
                          first
                          | exact ⟨(by repeat (first | assumption | exact Ext.refl _ | refine Ext.alloc ?_ _ | refine Ext.drew ?_ | refine Ext.setB ?_ (by first | omega | (simp only [size_alloc, size_setB, size_drew]; omega)) _ | refine Ext.trans ?_ (by assumption))), (_, _, _), rfl, fun h9 => (Nat.succ_ne_zero _ h9).elim⟩
                          | exact ⟨(by repeat (first | assumption | exact Ext.refl _ | refine Ext.alloc ?_ _ | refine Ext.drew ?_ | refine Ext.setB ?_ (by first | omega | (simp only [size_alloc, size_setB, size_drew]; omega)) _ | refine Ext.trans ?_ (by assumption))), (_, _, _), rfl, fun _ => (by first | exact NN.nil _ | assumption | exact NN.ext (by assumption) (by repeat (first | assumption | exact Ext.refl _ | refine Ext.alloc ?_ _ | refine Ext.drew ?_ | refine Ext.setB ?_ (by first | omega | (simp only [size_alloc, size_setB, size_drew]; omega)) _ | refine Ext.trans ?_ (by assumption))))⟩
              · have hb145p := hb145.h; try simp only [al_ete, al_dfn, Bool.not_eq_true', Bool.not_eq_false', al_ne, Bool.not_not, al_nn] at hb145p
                refine WH_guardF rfl rfl hb145.h ?_
                refine WH_guardF rfl rfl hb145.h ?_
                refine WH_guardF rfl rfl hb145.h ?_
                refine WH_guardF rfl rfl hb145.h ?_
                refine WH_guardF rfl rfl hb145.h ?_
                refine WH_guardF rfl rfl hb145.h ?_
                refine WH_guardF rfl rfl hb145.h ?_
                refine WH_guardF rfl rfl hb145.h ?_
                refine WH_guardF rfl rfl hb145.h ?_
                refine WH_guardF rfl rfl hb145.h ?_
                refine WH_guardF rfl rfl hb145.h ?_
                refine WH_guardF rfl rfl hb145.h ?_
                refine WH_guardF rfl rfl hb145.h ?_
                refine WH_guardF rfl rfl hb145.h ?_
                refine WH_p (PS_pickF rfl hb145.h rfl) rfl ?_
                refine WH_p (PS_assign_bool rfl) rfl ?_
                refine WH_nil ?_
                refine thn_normal ?_
                refine W_condF rfl rfl ?_
                refine W_skip ?_
                refine inBlk_normal ?_
                refine thn_normal ?_
                refine W_seq ?_
                refine W_region rfl ?_
                refine WO_p (PS_move_ptr rfl) ?_
                refine WO_p (PS_move_ptr rfl) ?_
                refine WO_p (PS_move_int rfl) ?_
                refine WO_call Hvac.call113 (by rfl) (Ret.mono (yCost_spec _ (OmB.ext hO (by repeat (first | assumption | exact Ext.refl _ | refine Ext.alloc ?_ _ | refine Ext.drew ?_ | refine Ext.setB ?_ (by first | omega | (simp only [size_alloc, size_setB, size_drew]; omega)) _ | exact Ext.trans (by assumption) (by assumption) | refine Ext.trans ?_ (by assumption)))) _ _ _ _ (by first | assumption | exact YSS.ext (by assumption) (by repeat (first | assumption | exact Ext.refl _ | refine Ext.alloc ?_ _ | refine Ext.drew ?_ | refine Ext.setB ?_ (by first | omega | (simp only [size_alloc, size_setB, size_drew]; omega)) _ | exact Ext.trans (by assumption) (by assumption) | refine Ext.trans ?_ (by assumption)))) hB hN _ _ _ _ (by first | assumption | exact FrS.ext (by assumption) (by repeat (first | assumption | exact Ext.refl _ | refine Ext.alloc ?_ _ | refine Ext.drew ?_ | refine Ext.setB ?_ (by first | omega | (simp only [size_alloc, size_setB, size_drew]; omega)) _ | exact Ext.trans (by assumption) (by assumption) | refine Ext.trans ?_ (by assumption)))) hP _ (by omega)) ?_)
                rintro _ w113_162 ⟨hE113_162, s113_162, rfl, hN113_162⟩
                have hz113_162 := hE113_162.1
                try simp only [size_alloc, size_setB, size_drew] at hz113_162
                have hs113_162 := sz_ycost (y := y) hP o ho
                refine WO_p (PS_assign_slice rfl) ?_
                refine WO_nil ?_
                refine thn_normal ?_
                refine W_seq ?_
                refine W_block ?_
                refine W_seq ?_
                refine W_region rfl ?_
                refine WO_p (PS_move_slice rfl) ?_
                refine WO_p (PS_move_ptr rfl) ?_
                refine WO_p (PS_nilCheck rfl) ?_
                refine WO_p (PS_fieldAddr 4 Hvac.runUnderlying121 rfl Hvac.sizeOf92 rfl rfl) ?_
                refine WO_load (.slice _ _ _) Hvac.isAgg92 rfl (Hb.h (by repeat (first | assumption | exact Hb.newY _ _ | refine Hb.alloc ?_ | refine Hb.drew ?_ | refine Hb.ext (by assumption) ?_ | exact Hb.setSameL (by first | omega | (simp only [size_alloc, size_setB, size_drew]; omega)) | exact Hb.setSame (by assumption) | refine Hb.set (by first | omega | (simp only [size_alloc, size_setB, size_drew]; omega)) ?_ ))) (Ce.h (by first | assumption | exact ⟨rfl⟩)) ?_
                refine WO_call Hvac.call76 (by rfl) (Ret.mono (nCmp_spec (by first | exact NN.nil _ | assumption | exact NN.ext (by assumption) (by repeat (first | assumption | exact Ext.refl _ | refine Ext.alloc ?_ _ | refine Ext.drew ?_ | refine Ext.setB ?_ (by first | omega | (simp only [size_alloc, size_setB, size_drew]; omega)) _ | exact Ext.trans (by assumption) (by assumption) | refine Ext.trans ?_ (by assumption)))) (by first | exact NN.nil _ | assumption | exact NN.ext (by assumption) (by repeat (first | assumption | exact Ext.refl _ | refine Ext.alloc ?_ _ | refine Ext.drew ?_ | refine Ext.setB ?_ (by first | omega | (simp only [size_alloc, size_setB, size_drew]; omega)) _ | exact Ext.trans (by assumption) (by assumption) | refine Ext.trans ?_ (by assumption)))) (by first | assumption | omega | (rw [sz_zero]; omega)) (by first | assumption | omega | (rw [sz_zero]; omega))) ?_)
                rintro _ w76_163 ⟨hE76_163, rfl⟩
                have hz76_163 := hE76_163.1
                try simp only [size_alloc, size_setB, size_drew] at hz76_163
                refine WO_p (PS_gtr rfl rfl) ?_
                refine WO_p (PS_assign_bool rfl) ?_
                refine WO_nil ?_
                refine thn_normal ?_
                refine W_if rfl (fun hb166 => ?_) (fun hb166 => ?_)
                · have hb166p := hb166.h; try simp only [al_ete, al_dfn, Bool.not_eq_true', Bool.not_eq_false', al_ne, Bool.not_not, al_nn] at hb166p
                  try simp only [cmpI_gt3, cmpI_gt2, cmpI_le2, Bool.not_eq_true', Bool.not_eq_false'] at hb166p
                  refine W_seq ?_
                  refine W_region rfl ?_
                  refine WO_p (PS_move_slice rfl) ?_
                  refine WO_p (PS_assign_int rfl) ?_
                  refine WO_p (PS_assign_slice rfl) ?_
                  refine WO_nil ?_
                  refine thn_normal ?_
                  refine W_ret ?_
                  refine inBlk_ret ?_
                  refine thn_ret ?_
                  refine bodyQ_ret2 Hvac.results42 rfl rfl (.int _ _) (.slice _ _ _) rfl rfl ?_
                  unfold yrefuse
                  (repeat (first | rw [if_pos (by first | assumption | omega | (rintro ⟨h1, h2⟩; omega))] | rw [if_neg (by first | assumption | omega | (rintro ⟨h1, h2⟩; omega))]))
                  first
                  | exact ⟨(by repeat (first | assumption | exact Ext.refl _ | refine Ext.alloc ?_ _ | refine Ext.drew ?_ | refine Ext.setB ?_ (by first | omega | (simp only [size_alloc, size_setB, size_drew]; omega)) _ | refine Ext.trans ?_ (by assumption))), (_, _, _), rfl, fun h9 => (Nat.succ_ne_zero _ h9).elim⟩
                  | exact ⟨(by repeat (first | assumption | exact Ext.refl _ | refine Ext.alloc ?_ _ | refine Ext.drew ?_ | refine Ext.setB ?_ (by first | omega | (simp only [size_alloc, size_setB, size_drew]; omega)) _ | refine Ext.trans ?_ (by assumption))), (_, _, _), rfl, fun _ => (by first | exact NN.nil _ | assumption | exact NN.ext (by assumption) (by repeat (first | assumption | exact Ext.refl _ | refine Ext.alloc ?_ _ | refine Ext.drew ?_ | refine Ext.setB ?_ (by first | omega | (simp only [size_alloc, size_setB, size_drew]; omega)) _ | refine Ext.trans ?_ (by assumption))))⟩
                · have hb166p := hb166.h; try simp only [al_ete, al_dfn, Bool.not_eq_true', Bool.not_eq_false', al_ne, Bool.not_not, al_nn] at hb166p
                  try simp only [cmpI_gt3, cmpI_gt2, cmpI_le2, Bool.not_eq_true', Bool.not_eq_false'] at hb166p
                  refine W_seq ?_
                  refine W_drawE [false, false, false, false, false, false, false, true, false, false, false, false] hmix (by kernel_rfl) rfl ?_
                  refine WH_p (PS_move_int rfl) rfl ?_
                  refine WH_p (PS_eql rfl rfl) rfl ?_
                  refine WH_p (PS_move_bool rfl) rfl ?_
                  refine WH_if (t := 98) rfl (fun hb168 => ?_) (fun hb168 => ?_)
                  · have hb168p := hb168.h; try simp only [al_ete, al_dfn, Bool.not_eq_true', Bool.not_eq_false', al_ne, Bool.not_not, al_nn] at hb168p
                    have ho5 : o = 85 := by omega
                    refine WH_guardT rfl rfl hb168.h ?_
                    refine WH_p (PS_move_ptr rfl) rfl ?_
                    refine WH_guardT rfl rfl hb168.h ?_
                    refine WH_p (PS_nilCheck rfl) rfl ?_
                    refine WH_guardT rfl rfl hb168.h ?_
                    refine WH_p (PS_fieldAddr 4 Hvac.runUnderlying121 rfl Hvac.sizeOf92 rfl rfl) rfl ?_
                    refine WH_guardT rfl rfl hb168.h ?_
                    refine WH_load (.slice _ _ _) Hvac.isAgg92 rfl (Hb.h (by repeat (first | assumption | exact Hb.newY _ _ | refine Hb.alloc ?_ | refine Hb.drew ?_ | refine Hb.ext (by assumption) ?_ | exact Hb.setSameL (by first | omega | (simp only [size_alloc, size_setB, size_drew]; omega)) | exact Hb.setSame (by assumption) | refine Hb.set (by first | omega | (simp only [size_alloc, size_setB, size_drew]; omega)) ?_ ))) (Ce.h (by first | assumption | exact ⟨rfl⟩)) ?_
                    refine WH_guardT rfl rfl hb168.h ?_
                    refine WH_call Hvac.call19 (by rfl) (Ret.mono (nNum_spec (OmB.ext hO (by repeat (first | assumption | exact Ext.refl _ | refine Ext.alloc ?_ _ | refine Ext.drew ?_ | refine Ext.setB ?_ (by first | omega | (simp only [size_alloc, size_setB, size_drew]; omega)) _ | exact Ext.trans (by assumption) (by assumption) | refine Ext.trans ?_ (by assumption)))) ⟨by omega, by omega⟩) ?_)
                    rintro _ w19_168 ⟨hE19_168, s19_168, rfl, hN19_168, hs19_168⟩
                    refine ⟨fun _ => (by repeat (first | assumption | exact Ext.refl _ | refine Ext.alloc ?_ _ | refine Ext.drew ?_ | refine Ext.setB ?_ (by first | omega | (simp only [size_alloc, size_setB, size_drew]; omega)) _ | exact Ext.trans (by assumption) (by assumption) | refine Ext.trans ?_ (by assumption))), ?_⟩
                    have hz19_168 := hE19_168.1
                    try simp only [size_alloc, size_setB, size_drew] at hz19_168
                    try simp only [Int.toNat_natCast, toNat_lit] at hN19_168 hs19_168
                    refine WH_guardT rfl rfl hb168.h ?_
                    refine WH_call Hvac.call76 (by rfl) (Ret.mono (nCmp_spec (by first | exact NN.nil _ | assumption | exact NN.ext (by assumption) (by repeat (first | assumption | exact Ext.refl _ | refine Ext.alloc ?_ _ | refine Ext.drew ?_ | refine Ext.setB ?_ (by first | omega | (simp only [size_alloc, size_setB, size_drew]; omega)) _ | exact Ext.trans (by assumption) (by assumption) | refine Ext.trans ?_ (by assumption)))) (by first | exact NN.nil _ | assumption | exact NN.ext (by assumption) (by repeat (first | assumption | exact Ext.refl _ | refine Ext.alloc ?_ _ | refine Ext.drew ?_ | refine Ext.setB ?_ (by first | omega | (simp only [size_alloc, size_setB, size_drew]; omega)) _ | exact Ext.trans (by assumption) (by assumption) | refine Ext.trans ?_ (by assumption)))) (by first | assumption | omega | (rw [sz_zero]; omega)) (by first | assumption | omega | (rw [sz_zero]; omega))) ?_)
                    rintro _ w76_169 ⟨hE76_169, rfl⟩
                    refine ⟨(fun h => by cases h), ?_⟩
                    have hz76_169 := hE76_169.1
                    try simp only [size_alloc, size_setB, size_drew] at hz76_169
                    refine WH_guardT rfl rfl hb168.h ?_
                    refine WH_p (PS_leq rfl rfl) rfl ?_
                    refine WH_p (PS_pickT rfl hb168.h rfl) rfl ?_
                    refine WH_p (PS_assign_bool rfl) rfl ?_
                    refine WH_nil ?_
                    refine thn_normal ?_
                    refine W_if rfl (fun hb172 => ?_) (fun hb172 => ?_)
                    · have hb172p := hb172.h; try simp only [al_ete, al_dfn, Bool.not_eq_true', Bool.not_eq_false', al_ne, Bool.not_not, al_nn] at hb172p
                      try simp only [cmpI_gt3, cmpI_gt2, cmpI_le2, Bool.not_eq_true', Bool.not_eq_false'] at hb172p
                      refine W_seq ?_
                      refine W_region rfl ?_
                      refine WO_p (PS_move_slice rfl) ?_
                      refine WO_p (PS_assign_int rfl) ?_
                      refine WO_p (PS_assign_slice rfl) ?_
                      refine WO_nil ?_
                      refine thn_normal ?_
                      refine W_ret ?_
                      refine inBlk_ret ?_
                      refine thn_ret ?_
                      refine bodyQ_ret2 Hvac.results42 rfl rfl (.int _ _) (.slice _ _ _) rfl rfl ?_
                      unfold yrefuse
                      (repeat (first | rw [if_pos (by first | assumption | omega | (rintro ⟨h1, h2⟩; omega))] | rw [if_neg (by first | assumption | omega | (rintro ⟨h1, h2⟩; omega))]))
                      first
                      | exact ⟨(by repeat (first | assumption | exact Ext.refl _ | refine Ext.alloc ?_ _ | refine Ext.drew ?_ | refine Ext.setB ?_ (by first | omega | (simp only [size_alloc, size_setB, size_drew]; omega)) _ | refine Ext.trans ?_ (by assumption))), (_, _, _), rfl, fun h9 => (Nat.succ_ne_zero _ h9).elim⟩
                      | exact ⟨(by repeat (first | assumption | exact Ext.refl _ | refine Ext.alloc ?_ _ | refine Ext.drew ?_ | refine Ext.setB ?_ (by first | omega | (simp only [size_alloc, size_setB, size_drew]; omega)) _ | refine Ext.trans ?_ (by assumption))), (_, _, _), rfl, fun _ => (by first | exact NN.nil _ | assumption | exact NN.ext (by assumption) (by repeat (first | assumption | exact Ext.refl _ | refine Ext.alloc ?_ _ | refine Ext.drew ?_ | refine Ext.setB ?_ (by first | omega | (simp only [size_alloc, size_setB, size_drew]; omega)) _ | refine Ext.trans ?_ (by assumption))))⟩
                    · have hb172p := hb172.h; try simp only [al_ete, al_dfn, Bool.not_eq_true', Bool.not_eq_false', al_ne, Bool.not_not, al_nn] at hb172p
                      try simp only [cmpI_gt3, cmpI_gt2, cmpI_le2, Bool.not_eq_true', Bool.not_eq_false'] at hb172p
                      refine W_seq ?_
                      refine W_drawE [false, false, false, false, false, false, false, false, true, false, false, false, false] hmix (by kernel_rfl) rfl ?_
                      refine WH_p (PS_move_int rfl) rfl ?_
                      refine WH_p (PS_eql rfl rfl) rfl ?_
                      refine WH_p (PS_move_bool rfl) rfl ?_
                      refine WH_if (t := 111) rfl (fun hb174 => ?_) (fun hb174 => ?_)
                      · have hb174p := hb174.h; try simp only [al_ete, al_dfn, Bool.not_eq_true', Bool.not_eq_false', al_ne, Bool.not_not, al_nn] at hb174p
                        exfalso; omega
                      · have hb174p := hb174.h; try simp only [al_ete, al_dfn, Bool.not_eq_true', Bool.not_eq_false', al_ne, Bool.not_not, al_nn] at hb174p
                        refine WH_guardF rfl rfl hb174.h ?_
                        refine WH_guardF rfl rfl hb174.h ?_
                        refine WH_guardF rfl rfl hb174.h ?_
                        refine WH_guardF rfl rfl hb174.h ?_
                        refine WH_guardF rfl rfl hb174.h ?_
                        refine WH_guardF rfl rfl hb174.h ?_
                        refine WH_guardF rfl rfl hb174.h ?_
                        refine WH_guardF rfl rfl hb174.h ?_
                        refine WH_p (PS_pickF rfl hb174.h rfl) rfl ?_
                        refine WH_p (PS_assign_bool rfl) rfl ?_
                        refine WH_nil ?_
                        refine thn_normal ?_
                        refine W_condF rfl rfl ?_
                        refine W_seq ?_
                        refine W_drawE [false, false, false, false, true, true, false, false, false, false, false, false, false, false, true, false, false, false, false] hmix (by kernel_rfl) rfl ?_
                        refine WH_p (PS_move_int rfl) rfl ?_
                        refine WH_p (PS_eql rfl rfl) rfl ?_
                        refine WH_p (PS_move_bool rfl) rfl ?_
                        refine WH_if (t := 125) rfl (fun hb176 => ?_) (fun hb176 => ?_)
                        · have hb176p := hb176.h; try simp only [al_ete, al_dfn, Bool.not_eq_true', Bool.not_eq_false', al_ne, Bool.not_not, al_nn] at hb176p
                          exfalso; omega
                        · have hb176p := hb176.h; try simp only [al_ete, al_dfn, Bool.not_eq_true', Bool.not_eq_false', al_ne, Bool.not_not, al_nn] at hb176p
                          refine WH_guardF rfl rfl hb176.h ?_
                          refine WH_guardF rfl rfl hb176.h ?_
                          refine WH_guardF rfl rfl hb176.h ?_
                          refine WH_guardF rfl rfl hb176.h ?_
                          refine WH_p (PS_pickF rfl hb176.h rfl) rfl ?_
                          refine WH_p (PS_move_bool rfl) rfl ?_
                          refine WH_guardF rfl rfl rfl ?_
                          refine WH_guardF rfl rfl rfl ?_
                          refine WH_guardF rfl rfl rfl ?_
                          refine WH_guardF rfl rfl rfl ?_
                          refine WH_guardF rfl rfl rfl ?_
                          refine WH_guardF rfl rfl rfl ?_
                          refine WH_guardF rfl rfl rfl ?_
                          refine WH_guardF rfl rfl rfl ?_
                          refine WH_p (PS_pickF rfl rfl rfl) rfl ?_
                          refine WH_p (PS_assign_bool rfl) rfl ?_
                          refine WH_nil ?_
                          refine thn_normal ?_
                          refine W_condF rfl rfl ?_
                          refine W_skip ?_
                          refine inBlk_normal ?_
                          refine thn_normal ?_
                          refine W_seq ?_
                          refine W_region rfl ?_
                          refine WO_p (PS_move_slice rfl) ?_
                          refine WO_p (PS_assign_int rfl) ?_
                          refine WO_p (PS_assign_slice rfl) ?_
                          refine WO_nil ?_
                          refine thn_normal ?_
                          refine W_ret ?_
                          refine bodyQ_ret2 Hvac.results42 rfl rfl (.int _ _) (.slice _ _ _) rfl rfl ?_
                          unfold yrefuse
                          (repeat (first | rw [if_pos (by first | assumption | omega | (rintro ⟨h1, h2⟩; omega))] | rw [if_neg (by first | assumption | omega | (rintro ⟨h1, h2⟩; omega))]))
                          first
                          | exact ⟨(by repeat (first | assumption | exact Ext.refl _ | refine Ext.alloc ?_ _ | refine Ext.drew ?_ | refine Ext.setB ?_ (by first | omega | (simp only [size_alloc, size_setB, size_drew]; omega)) _ | refine Ext.trans ?_ (by assumption))), (_, _, _), rfl, fun h9 => (Nat.succ_ne_zero _ h9).elim⟩
                          | exact ⟨(by repeat (first | assumption | exact Ext.refl _ | refine Ext.alloc ?_ _ | refine Ext.drew ?_ | refine Ext.setB ?_ (by first | omega | (simp only [size_alloc, size_setB, size_drew]; omega)) _ | refine Ext.trans ?_ (by assumption))), (_, _, _), rfl, fun _ => (by first | exact NN.nil _ | assumption | exact NN.ext (by assumption) (by repeat (first | assumption | exact Ext.refl _ | refine Ext.alloc ?_ _ | refine Ext.drew ?_ | refine Ext.setB ?_ (by first | omega | (simp only [size_alloc, size_setB, size_drew]; omega)) _ | refine Ext.trans ?_ (by assumption))))⟩
                  · have hb168p := hb168.h; try simp only [al_ete, al_dfn, Bool.not_eq_true', Bool.not_eq_false', al_ne, Bool.not_not, al_nn] at hb168p
                    refine WH_guardF rfl rfl hb168.h ?_
                    refine WH_guardF rfl rfl hb168.h ?_
                    refine WH_guardF rfl rfl hb168.h ?_
                    refine WH_guardF rfl rfl hb168.h ?_
                    refine WH_guardF rfl rfl hb168.h ?_
                    refine WH_guardF rfl rfl hb168.h ?_
                    refine WH_guardF rfl rfl hb168.h ?_
                    refine WH_p (PS_pickF rfl hb168.h rfl) rfl ?_
                    refine WH_p (PS_assign_bool rfl) rfl ?_
                    refine WH_nil ?_
                    refine thn_normal ?_
                    refine W_condF rfl rfl ?_
                    refine W_seq ?_
                    refine W_drawE [false, false, false, false, false, false, false, false, true, false, false, false, false] hmix (by kernel_rfl) rfl ?_
                    refine WH_p (PS_move_int rfl) rfl ?_
                    refine WH_p (PS_eql rfl rfl) rfl ?_
                    refine WH_p (PS_move_bool rfl) rfl ?_
                    refine WH_if (t := 111) rfl (fun hb178 => ?_) (fun hb178 => ?_)
                    · have hb178p := hb178.h; try simp only [al_ete, al_dfn, Bool.not_eq_true', Bool.not_eq_false', al_ne, Bool.not_not, al_nn] at hb178p
                      have ho5 : o = 86 := by omega
                      refine WH_guardT rfl rfl hb178.h ?_
                      refine WH_p (PS_move_ptr rfl) rfl ?_
                      refine WH_guardT rfl rfl hb178.h ?_
                      refine WH_p (PS_nilCheck rfl) rfl ?_
                      refine WH_guardT rfl rfl hb178.h ?_
                      refine WH_p (PS_fieldAddr 10 Hvac.runUnderlying121 rfl Hvac.sizeOf32 rfl rfl) rfl ?_
                      refine WH_guardT rfl rfl hb178.h ?_
                      refine WH_load (.slice _ _ _) Hvac.isAgg32 rfl (Hb.h (by repeat (first | assumption | exact Hb.newY _ _ | refine Hb.alloc ?_ | refine Hb.drew ?_ | refine Hb.ext (by assumption) ?_ | exact Hb.setSameL (by first | omega | (simp only [size_alloc, size_setB, size_drew]; omega)) | exact Hb.setSame (by assumption) | refine Hb.set (by first | omega | (simp only [size_alloc, size_setB, size_drew]; omega)) ?_ ))) (Ce.h (by first | assumption | exact ⟨rfl⟩)) ?_
                      refine WH_guardT rfl rfl hb178.h ?_
                      refine WH_p (PS_move_ptr rfl) rfl ?_
                      refine WH_guardT rfl rfl hb178.h ?_
                      refine WH_call Hvac.call47 (by rfl) (Ret.mono (yArg_spec _ (OmB.ext hO (by repeat (first | assumption | exact Ext.refl _ | refine Ext.alloc ?_ _ | refine Ext.drew ?_ | refine Ext.setB ?_ (by first | omega | (simp only [size_alloc, size_setB, size_drew]; omega)) _ | exact Ext.trans (by assumption) (by assumption) | refine Ext.trans ?_ (by assumption)))) _ _ _ _ (by first | assumption | exact FrS.ext (by assumption) (by repeat (first | assumption | exact Ext.refl _ | refine Ext.alloc ?_ _ | refine Ext.drew ?_ | refine Ext.setB ?_ (by first | omega | (simp only [size_alloc, size_setB, size_drew]; omega)) _ | exact Ext.trans (by assumption) (by assumption) | refine Ext.trans ?_ (by assumption)))) hP _ (by decide)) ?_)
                      rintro _ w47_178 ⟨hE47_178, s47_178, rfl, hN47_178, hs47_178⟩
                      refine ⟨fun _ => (by repeat (first | assumption | exact Ext.refl _ | refine Ext.alloc ?_ _ | refine Ext.drew ?_ | refine Ext.setB ?_ (by first | omega | (simp only [size_alloc, size_setB, size_drew]; omega)) _ | exact Ext.trans (by assumption) (by assumption) | refine Ext.trans ?_ (by assumption))), ?_⟩
                      have hz47_178 := hE47_178.1
                      try simp only [size_alloc, size_setB, size_drew] at hz47_178
                      refine WH_guardT rfl rfl hb178.h ?_
                      refine WH_call Hvac.call114 (by rfl) (Ret.mono (yIsDest_spec _ (OmB.ext hO (by repeat (first | assumption | exact Ext.refl _ | refine Ext.alloc ?_ _ | refine Ext.drew ?_ | refine Ext.setB ?_ (by first | omega | (simp only [size_alloc, size_setB, size_drew]; omega)) _ | exact Ext.trans (by assumption) (by assumption) | refine Ext.trans ?_ (by assumption)))) _ _ _ _ (by first | exact PB.nil _ | assumption | exact PB.ext (by assumption) (by repeat (first | assumption | exact Ext.refl _ | refine Ext.alloc ?_ _ | refine Ext.drew ?_ | refine Ext.setB ?_ (by first | omega | (simp only [size_alloc, size_setB, size_drew]; omega)) _ | exact Ext.trans (by assumption) (by assumption) | refine Ext.trans ?_ (by assumption)))) (by omega) _ _ _ _ (by first | exact NN.nil _ | assumption | exact NN.ext (by assumption) (by repeat (first | assumption | exact Ext.refl _ | refine Ext.alloc ?_ _ | refine Ext.drew ?_ | refine Ext.setB ?_ (by first | omega | (simp only [size_alloc, size_setB, size_drew]; omega)) _ | exact Ext.trans (by assumption) (by assumption) | refine Ext.trans ?_ (by assumption)))) (by first | assumption | omega | (rw [sz_zero]; omega))) ?_)
                      rintro _ w114_179 ⟨hE114_179, rfl⟩
                      refine ⟨(fun h => by cases h), ?_⟩
                      have hz114_179 := hE114_179.1
                      try simp only [size_alloc, size_setB, size_drew] at hz114_179
                      refine WH_guardT rfl rfl hb178.h ?_
                      refine WH_p (PS_not rfl) rfl ?_
                      refine WH_p (PS_pickT rfl hb178.h rfl) rfl ?_
                      refine WH_p (PS_assign_bool rfl) rfl ?_
                      refine WH_nil ?_
                      refine thn_normal ?_
                      refine W_if rfl (fun hb183 => ?_) (fun hb183 => ?_)
                      · have hb183p := hb183.h; try simp only [al_ete, al_dfn, Bool.not_eq_true', Bool.not_eq_false', al_ne, Bool.not_not, al_nn] at hb183p
                        have hd9 : o = 86 ∧ ydest f.code (yarg f 0) = false := ⟨by omega, hb183p⟩
                        refine W_seq ?_
                        refine W_region rfl ?_
                        refine WO_p (PS_move_slice rfl) ?_
                        refine WO_p (PS_assign_int rfl) ?_
                        refine WO_p (PS_assign_slice rfl) ?_
                        refine WO_nil ?_
                        refine thn_normal ?_
                        refine W_ret ?_
                        refine inBlk_ret ?_
                        refine thn_ret ?_
                        refine bodyQ_ret2 Hvac.results42 rfl rfl (.int _ _) (.slice _ _ _) rfl rfl ?_
                        unfold yrefuse
                        (repeat (first | rw [if_pos (by first | assumption | omega | (rintro ⟨h1, h2⟩; omega))] | rw [if_neg (by first | assumption | omega | (rintro ⟨h1, h2⟩; omega))]))
                        first
                        | exact ⟨(by repeat (first | assumption | exact Ext.refl _ | refine Ext.alloc ?_ _ | refine Ext.drew ?_ | refine Ext.setB ?_ (by first | omega | (simp only [size_alloc, size_setB, size_drew]; omega)) _ | refine Ext.trans ?_ (by assumption))), (_, _, _), rfl, fun h9 => (Nat.succ_ne_zero _ h9).elim⟩
                        | exact ⟨(by repeat (first | assumption | exact Ext.refl _ | refine Ext.alloc ?_ _ | refine Ext.drew ?_ | refine Ext.setB ?_ (by first | omega | (simp only [size_alloc, size_setB, size_drew]; omega)) _ | refine Ext.trans ?_ (by assumption))), (_, _, _), rfl, fun _ => (by first | exact NN.nil _ | assumption | exact NN.ext (by assumption) (by repeat (first | assumption | exact Ext.refl _ | refine Ext.alloc ?_ _ | refine Ext.drew ?_ | refine Ext.setB ?_ (by first | omega | (simp only [size_alloc, size_setB, size_drew]; omega)) _ | refine Ext.trans ?_ (by assumption))))⟩
                      · have hb183p := hb183.h; try simp only [al_ete, al_dfn, Bool.not_eq_true', Bool.not_eq_false', al_ne, Bool.not_not, al_nn] at hb183p
                        have hd9 : ¬ (o = 86 ∧ ydest f.code (yarg f 0) = false) := by simp [hb183p]
                        refine W_seq ?_
                        refine W_drawE [false, false, false, false, true, true, false, false, false, false, false, false, false, false, true, false, false, false, false] hmix (by kernel_rfl) rfl ?_
                        refine WH_p (PS_move_int rfl) rfl ?_
                        refine WH_p (PS_eql rfl rfl) rfl ?_
                        refine WH_p (PS_move_bool rfl) rfl ?_
                        refine WH_if (t := 125) rfl (fun hb185 => ?_) (fun hb185 => ?_)
                        · have hb185p := hb185.h; try simp only [al_ete, al_dfn, Bool.not_eq_true', Bool.not_eq_false', al_ne, Bool.not_not, al_nn] at hb185p
                          exfalso; omega
                        · have hb185p := hb185.h; try simp only [al_ete, al_dfn, Bool.not_eq_true', Bool.not_eq_false', al_ne, Bool.not_not, al_nn] at hb185p
                          refine WH_guardF rfl rfl hb185.h ?_
                          refine WH_guardF rfl rfl hb185.h ?_
                          refine WH_guardF rfl rfl hb185.h ?_
                          refine WH_guardF rfl rfl hb185.h ?_
                          refine WH_p (PS_pickF rfl hb185.h rfl) rfl ?_
                          refine WH_p (PS_move_bool rfl) rfl ?_
                          refine WH_guardF rfl rfl rfl ?_
                          refine WH_guardF rfl rfl rfl ?_
                          refine WH_guardF rfl rfl rfl ?_
                          refine WH_guardF rfl rfl rfl ?_
                          refine WH_guardF rfl rfl rfl ?_
                          refine WH_guardF rfl rfl rfl ?_
                          refine WH_guardF rfl rfl rfl ?_
                          refine WH_guardF rfl rfl rfl ?_
                          refine WH_p (PS_pickF rfl rfl rfl) rfl ?_
                          refine WH_p (PS_assign_bool rfl) rfl ?_
                          refine WH_nil ?_
                          refine thn_normal ?_
                          refine W_condF rfl rfl ?_
                          refine W_skip ?_
                          refine inBlk_normal ?_
                          refine thn_normal ?_
                          refine W_seq ?_
                          refine W_region rfl ?_
                          refine WO_p (PS_move_slice rfl) ?_
                          refine WO_p (PS_assign_int rfl) ?_
                          refine WO_p (PS_assign_slice rfl) ?_
                          refine WO_nil ?_
                          refine thn_normal ?_
                          refine W_ret ?_
                          refine bodyQ_ret2 Hvac.results42 rfl rfl (.int _ _) (.slice _ _ _) rfl rfl ?_
                          unfold yrefuse
                          (repeat (first | rw [if_pos (by first | assumption | omega | (rintro ⟨h1, h2⟩; omega))] | rw [if_neg (by first | assumption | omega | (rintro ⟨h1, h2⟩; omega))]))
                          first
                          | exact ⟨(by repeat (first | assumption | exact Ext.refl _ | refine Ext.alloc ?_ _ | refine Ext.drew ?_ | refine Ext.setB ?_ (by first | omega | (simp only [size_alloc, size_setB, size_drew]; omega)) _ | refine Ext.trans ?_ (by assumption))), (_, _, _), rfl, fun h9 => (Nat.succ_ne_zero _ h9).elim⟩
                          | exact ⟨(by repeat (first | assumption | exact Ext.refl _ | refine Ext.alloc ?_ _ | refine Ext.drew ?_ | refine Ext.setB ?_ (by first | omega | (simp only [size_alloc, size_setB, size_drew]; omega)) _ | refine Ext.trans ?_ (by assumption))), (_, _, _), rfl, fun _ => (by first | exact NN.nil _ | assumption | exact NN.ext (by assumption) (by repeat (first | assumption | exact Ext.refl _ | refine Ext.alloc ?_ _ | refine Ext.drew ?_ | refine Ext.setB ?_ (by first | omega | (simp only [size_alloc, size_setB, size_drew]; omega)) _ | refine Ext.trans ?_ (by assumption))))⟩
                    · have hb178p := hb178.h; try simp only [al_ete, al_dfn, Bool.not_eq_true', Bool.not_eq_false', al_ne, Bool.not_not, al_nn] at hb178p
                      refine WH_guardF rfl rfl hb178.h ?_
                      refine WH_guardF rfl rfl hb178.h ?_
                      refine WH_guardF rfl rfl hb178.h ?_
                      refine WH_guardF rfl rfl hb178.h ?_
                      refine WH_guardF rfl rfl hb178.h ?_
                      refine WH_guardF rfl rfl hb178.h ?_
                      refine WH_guardF rfl rfl hb178.h ?_
                      refine WH_guardF rfl rfl hb178.h ?_
                      refine WH_p (PS_pickF rfl hb178.h rfl) rfl ?_
                      refine WH_p (PS_assign_bool rfl) rfl ?_
                      refine WH_nil ?_
                      refine thn_normal ?_
                      refine W_condF rfl rfl ?_
                      refine W_seq ?_
                      refine W_drawE [false, false, false, false, true, true, false, false, false, false, false, false, false, false, true, false, false, false, false] hmix (by kernel_rfl) rfl ?_
                      refine WH_p (PS_move_int rfl) rfl ?_
                      refine WH_p (PS_eql rfl rfl) rfl ?_
                      refine WH_p (PS_move_bool rfl) rfl ?_
                      refine WH_if (t := 125) rfl (fun hb187 => ?_) (fun hb187 => ?_)
                      · have hb187p := hb187.h; try simp only [al_ete, al_dfn, Bool.not_eq_true', Bool.not_eq_false', al_ne, Bool.not_not, al_nn] at hb187p
                        have ho5 : o = 87 := by omega
                        refine WH_guardT rfl rfl hb187.h ?_
                        refine WH_p (PS_move_ptr rfl) rfl ?_
                        refine WH_guardT rfl rfl hb187.h ?_
                        refine WH_call Hvac.call47 (by rfl) (Ret.mono (yArg_spec _ (OmB.ext hO (by repeat (first | assumption | exact Ext.refl _ | refine Ext.alloc ?_ _ | refine Ext.drew ?_ | refine Ext.setB ?_ (by first | omega | (simp only [size_alloc, size_setB, size_drew]; omega)) _ | exact Ext.trans (by assumption) (by assumption) | refine Ext.trans ?_ (by assumption)))) _ _ _ _ (by first | assumption | exact FrS.ext (by assumption) (by repeat (first | assumption | exact Ext.refl _ | refine Ext.alloc ?_ _ | refine Ext.drew ?_ | refine Ext.setB ?_ (by first | omega | (simp only [size_alloc, size_setB, size_drew]; omega)) _ | exact Ext.trans (by assumption) (by assumption) | refine Ext.trans ?_ (by assumption)))) hP _ (by decide)) ?_)
                        rintro _ w47_187 ⟨hE47_187, s47_187, rfl, hN47_187, hs47_187⟩
                        refine ⟨fun _ => (by repeat (first | assumption | exact Ext.refl _ | refine Ext.alloc ?_ _ | refine Ext.drew ?_ | refine Ext.setB ?_ (by first | omega | (simp only [size_alloc, size_setB, size_drew]; omega)) _ | exact Ext.trans (by assumption) (by assumption) | refine Ext.trans ?_ (by assumption))), ?_⟩
                        have hz47_187 := hE47_187.1
                        try simp only [size_alloc, size_setB, size_drew] at hz47_187
                        refine WH_guardT rfl rfl hb187.h ?_
                        refine WH_call Hvac.call91 (by rfl) (Ret.mono (yIsZero_spec _ (OmB.ext hO (by repeat (first | assumption | exact Ext.refl _ | refine Ext.alloc ?_ _ | refine Ext.drew ?_ | refine Ext.setB ?_ (by first | omega | (simp only [size_alloc, size_setB, size_drew]; omega)) _ | exact Ext.trans (by assumption) (by assumption) | refine Ext.trans ?_ (by assumption)))) _ _ _ _ (by first | exact NN.nil _ | assumption | exact NN.ext (by assumption) (by repeat (first | assumption | exact Ext.refl _ | refine Ext.alloc ?_ _ | refine Ext.drew ?_ | refine Ext.setB ?_ (by first | omega | (simp only [size_alloc, size_setB, size_drew]; omega)) _ | exact Ext.trans (by assumption) (by assumption) | refine Ext.trans ?_ (by assumption)))) (by first | assumption | omega | (rw [sz_zero]; omega))) ?_)
                        rintro _ w91_188 ⟨hE91_188, rfl⟩
                        refine ⟨fun _ => (by repeat (first | assumption | exact Ext.refl _ | refine Ext.alloc ?_ _ | refine Ext.drew ?_ | refine Ext.setB ?_ (by first | omega | (simp only [size_alloc, size_setB, size_drew]; omega)) _ | exact Ext.trans (by assumption) (by assumption) | refine Ext.trans ?_ (by assumption))), ?_⟩
                        have hz91_188 := hE91_188.1
                        try simp only [size_alloc, size_setB, size_drew] at hz91_188
                        refine WH_guardT rfl rfl hb187.h ?_
                        refine WH_p (PS_not rfl) rfl ?_
                        refine WH_p (PS_pickT rfl hb187.h rfl) rfl ?_
                        refine WH_p (PS_move_bool rfl) rfl ?_
                        refine WH_if (t := 131) rfl (fun hb192 => ?_) (fun hb192 => ?_)
                        · have hb192p := hb192.h; try simp only [al_ete, al_dfn, Bool.not_eq_true', Bool.not_eq_false', al_ne, Bool.not_not, al_nn] at hb192p
                          refine WH_guardT rfl rfl hb192.h ?_
                          refine WH_p (PS_move_ptr rfl) rfl ?_
                          refine WH_guardT rfl rfl hb192.h ?_
                          refine WH_p (PS_nilCheck rfl) rfl ?_
                          refine WH_guardT rfl rfl hb192.h ?_
                          refine WH_p (PS_fieldAddr 10 Hvac.runUnderlying121 rfl Hvac.sizeOf32 rfl rfl) rfl ?_
                          refine WH_guardT rfl rfl hb192.h ?_
                          refine WH_load (.slice _ _ _) Hvac.isAgg32 rfl (Hb.h (by repeat (first | assumption | exact Hb.newY _ _ | refine Hb.alloc ?_ | refine Hb.drew ?_ | refine Hb.ext (by assumption) ?_ | exact Hb.setSameL (by first | omega | (simp only [size_alloc, size_setB, size_drew]; omega)) | exact Hb.setSame (by assumption) | refine Hb.set (by first | omega | (simp only [size_alloc, size_setB, size_drew]; omega)) ?_ ))) (Ce.h (by first | assumption | exact ⟨rfl⟩)) ?_
                          refine WH_guardT rfl rfl hb192.h ?_
                          refine WH_p (PS_move_ptr rfl) rfl ?_
                          refine WH_guardT rfl rfl hb192.h ?_
                          refine WH_call Hvac.call47 (by rfl) (Ret.mono (yArg_spec _ (OmB.ext hO (by repeat (first | assumption | exact Ext.refl _ | refine Ext.alloc ?_ _ | refine Ext.drew ?_ | refine Ext.setB ?_ (by first | omega | (simp only [size_alloc, size_setB, size_drew]; omega)) _ | exact Ext.trans (by assumption) (by assumption) | refine Ext.trans ?_ (by assumption)))) _ _ _ _ (by first | assumption | exact FrS.ext (by assumption) (by repeat (first | assumption | exact Ext.refl _ | refine Ext.alloc ?_ _ | refine Ext.drew ?_ | refine Ext.setB ?_ (by first | omega | (simp only [size_alloc, size_setB, size_drew]; omega)) _ | exact Ext.trans (by assumption) (by assumption) | refine Ext.trans ?_ (by assumption)))) hP _ (by decide)) ?_)
                          rintro _ w47_192 ⟨hE47_192, s47_192, rfl, hN47_192, hs47_192⟩
                          refine ⟨fun _ => (by repeat (first | assumption | exact Ext.refl _ | refine Ext.alloc ?_ _ | refine Ext.drew ?_ | refine Ext.setB ?_ (by first | omega | (simp only [size_alloc, size_setB, size_drew]; omega)) _ | exact Ext.trans (by assumption) (by assumption) | refine Ext.trans ?_ (by assumption))), ?_⟩
                          have hz47_192 := hE47_192.1
                          try simp only [size_alloc, size_setB, size_drew] at hz47_192
                          refine WH_guardT rfl rfl hb192.h ?_
                          refine WH_call Hvac.call114 (by rfl) (Ret.mono (yIsDest_spec _ (OmB.ext hO (by repeat (first | assumption | exact Ext.refl _ | refine Ext.alloc ?_ _ | refine Ext.drew ?_ | refine Ext.setB ?_ (by first | omega | (simp only [size_alloc, size_setB, size_drew]; omega)) _ | exact Ext.trans (by assumption) (by assumption) | refine Ext.trans ?_ (by assumption)))) _ _ _ _ (by first | exact PB.nil _ | assumption | exact PB.ext (by assumption) (by repeat (first | assumption | exact Ext.refl _ | refine Ext.alloc ?_ _ | refine Ext.drew ?_ | refine Ext.setB ?_ (by first | omega | (simp only [size_alloc, size_setB, size_drew]; omega)) _ | exact Ext.trans (by assumption) (by assumption) | refine Ext.trans ?_ (by assumption)))) (by omega) _ _ _ _ (by first | exact NN.nil _ | assumption | exact NN.ext (by assumption) (by repeat (first | assumption | exact Ext.refl _ | refine Ext.alloc ?_ _ | refine Ext.drew ?_ | refine Ext.setB ?_ (by first | omega | (simp only [size_alloc, size_setB, size_drew]; omega)) _ | exact Ext.trans (by assumption) (by assumption) | refine Ext.trans ?_ (by assumption)))) (by first | assumption | omega | (rw [sz_zero]; omega))) ?_)
                          rintro _ w114_193 ⟨hE114_193, rfl⟩
                          refine ⟨(fun h => by cases h), ?_⟩
                          have hz114_193 := hE114_193.1
                          try simp only [size_alloc, size_setB, size_drew] at hz114_193
                          refine WH_guardT rfl rfl hb192.h ?_
                          refine WH_p (PS_not rfl) rfl ?_
                          refine WH_p (PS_pickT rfl hb192.h rfl) rfl ?_
                          refine WH_p (PS_assign_bool rfl) rfl ?_
                          refine WH_nil ?_
                          refine thn_normal ?_
                          refine W_if rfl (fun hb197 => ?_) (fun hb197 => ?_)
                          · have hb197p := hb197.h; try simp only [al_ete, al_dfn, Bool.not_eq_true', Bool.not_eq_false', al_ne, Bool.not_not, al_nn] at hb197p
                            have hd10 : o = 87 ∧ yarg f 1 ≠ 0 ∧ ydest f.code (yarg f 0) = false := ⟨by omega, by omega, hb197p⟩
                            refine W_seq ?_
                            refine W_region rfl ?_
                            refine WO_p (PS_move_slice rfl) ?_
                            refine WO_p (PS_assign_int rfl) ?_
                            refine WO_p (PS_assign_slice rfl) ?_
                            refine WO_nil ?_
                            refine thn_normal ?_
                            refine W_ret ?_
                            refine inBlk_ret ?_
                            refine thn_ret ?_
                            refine bodyQ_ret2 Hvac.results42 rfl rfl (.int _ _) (.slice _ _ _) rfl rfl ?_
                            unfold yrefuse
                            (repeat (first | rw [if_pos (by first | assumption | omega | (rintro ⟨h1, h2⟩; omega))] | rw [if_neg (by first | assumption | omega | (rintro ⟨h1, h2⟩; omega))]))
                            first
                            | exact ⟨(by repeat (first | assumption | exact Ext.refl _ | refine Ext.alloc ?_ _ | refine Ext.drew ?_ | refine Ext.setB ?_ (by first | omega | (simp only [size_alloc, size_setB, size_drew]; omega)) _ | refine Ext.trans ?_ (by assumption))), (_, _, _), rfl, fun h9 => (Nat.succ_ne_zero _ h9).elim⟩
                            | exact ⟨(by repeat (first | assumption | exact Ext.refl _ | refine Ext.alloc ?_ _ | refine Ext.drew ?_ | refine Ext.setB ?_ (by first | omega | (simp only [size_alloc, size_setB, size_drew]; omega)) _ | refine Ext.trans ?_ (by assumption))), (_, _, _), rfl, fun _ => (by first | exact NN.nil _ | assumption | exact NN.ext (by assumption) (by repeat (first | assumption | exact Ext.refl _ | refine Ext.alloc ?_ _ | refine Ext.drew ?_ | refine Ext.setB ?_ (by first | omega | (simp only [size_alloc, size_setB, size_drew]; omega)) _ | refine Ext.trans ?_ (by assumption))))⟩
                          · have hb197p := hb197.h; try simp only [al_ete, al_dfn, Bool.not_eq_true', Bool.not_eq_false', al_ne, Bool.not_not, al_nn] at hb197p
                            have hd10 : ¬ (o = 87 ∧ yarg f 1 ≠ 0 ∧ ydest f.code (yarg f 0) = false) := by simp [hb197p]
                            refine W_skip ?_
                            refine inBlk_normal ?_
                            refine thn_normal ?_
                            refine W_seq ?_
                            refine W_region rfl ?_
                            refine WO_p (PS_move_slice rfl) ?_
                            refine WO_p (PS_assign_int rfl) ?_
                            refine WO_p (PS_assign_slice rfl) ?_
                            refine WO_nil ?_
                            refine thn_normal ?_
                            refine W_ret ?_
                            refine bodyQ_ret2 Hvac.results42 rfl rfl (.int _ _) (.slice _ _ _) rfl rfl ?_
                            unfold yrefuse
                            (repeat (first | rw [if_pos (by first | assumption | omega | (rintro ⟨h1, h2⟩; omega))] | rw [if_neg (by first | assumption | omega | (rintro ⟨h1, h2⟩; omega))]))
                            first
                            | exact ⟨(by repeat (first | assumption | exact Ext.refl _ | refine Ext.alloc ?_ _ | refine Ext.drew ?_ | refine Ext.setB ?_ (by first | omega | (simp only [size_alloc, size_setB, size_drew]; omega)) _ | refine Ext.trans ?_ (by assumption))), (_, _, _), rfl, fun h9 => (Nat.succ_ne_zero _ h9).elim⟩
                            | exact ⟨(by repeat (first | assumption | exact Ext.refl _ | refine Ext.alloc ?_ _ | refine Ext.drew ?_ | refine Ext.setB ?_ (by first | omega | (simp only [size_alloc, size_setB, size_drew]; omega)) _ | refine Ext.trans ?_ (by assumption))), (_, _, _), rfl, fun _ => (by first | exact NN.nil _ | assumption | exact NN.ext (by assumption) (by repeat (first | assumption | exact Ext.refl _ | refine Ext.alloc ?_ _ | refine Ext.drew ?_ | refine Ext.setB ?_ (by first | omega | (simp only [size_alloc, size_setB, size_drew]; omega)) _ | refine Ext.trans ?_ (by assumption))))⟩
                        · have hb192p := hb192.h; try simp only [al_ete, al_dfn, Bool.not_eq_true', Bool.not_eq_false', al_ne, Bool.not_not, al_nn] at hb192p
                          refine WH_guardF rfl rfl hb192.h ?_
                          refine WH_guardF rfl rfl hb192.h ?_
                          refine WH_guardF rfl rfl hb192.h ?_
                          refine WH_guardF rfl rfl hb192.h ?_
                          refine WH_guardF rfl rfl hb192.h ?_
                          refine WH_guardF rfl rfl hb192.h ?_
                          refine WH_guardF rfl rfl hb192.h ?_
                          refine WH_guardF rfl rfl hb192.h ?_
                          refine WH_p (PS_pickF rfl hb192.h rfl) rfl ?_
                          refine WH_p (PS_assign_bool rfl) rfl ?_
                          refine WH_nil ?_
                          refine thn_normal ?_
                          refine W_condF rfl rfl ?_
                          refine W_skip ?_
                          refine inBlk_normal ?_
                          refine thn_normal ?_
                          refine W_seq ?_
                          refine W_region rfl ?_
                          refine WO_p (PS_move_slice rfl) ?_
                          refine WO_p (PS_assign_int rfl) ?_
                          refine WO_p (PS_assign_slice rfl) ?_
                          refine WO_nil ?_
                          refine thn_normal ?_
                          refine W_ret ?_
                          refine bodyQ_ret2 Hvac.results42 rfl rfl (.int _ _) (.slice _ _ _) rfl rfl ?_
                          unfold yrefuse
                          (repeat (first | rw [if_pos (by first | assumption | omega | (rintro ⟨h1, h2⟩; omega))] | rw [if_neg (by first | assumption | omega | (rintro ⟨h1, h2⟩; omega))]))
                          first
                          | exact ⟨(by repeat (first | assumption | exact Ext.refl _ | refine Ext.alloc ?_ _ | refine Ext.drew ?_ | refine Ext.setB ?_ (by first | omega | (simp only [size_alloc, size_setB, size_drew]; omega)) _ | refine Ext.trans ?_ (by assumption))), (_, _, _), rfl, fun h9 => (Nat.succ_ne_zero _ h9).elim⟩
                          | exact ⟨(by repeat (first | assumption | exact Ext.refl _ | refine Ext.alloc ?_ _ | refine Ext.drew ?_ | refine Ext.setB ?_ (by first | omega | (simp only [size_alloc, size_setB, size_drew]; omega)) _ | refine Ext.trans ?_ (by assumption))), (_, _, _), rfl, fun _ => (by first | exact NN.nil _ | assumption | exact NN.ext (by assumption) (by repeat (first | assumption | exact Ext.refl _ | refine Ext.alloc ?_ _ | refine Ext.drew ?_ | refine Ext.setB ?_ (by first | omega | (simp only [size_alloc, size_setB, size_drew]; omega)) _ | refine Ext.trans ?_ (by assumption))))⟩
                      · have hb187p := hb187.h; try simp only [al_ete, al_dfn, Bool.not_eq_true', Bool.not_eq_false', al_ne, Bool.not_not, al_nn] at hb187p
                        refine WH_guardF rfl rfl hb187.h ?_
                        refine WH_guardF rfl rfl hb187.h ?_
                        refine WH_guardF rfl rfl hb187.h ?_
                        refine WH_guardF rfl rfl hb187.h ?_
                        refine WH_p (PS_pickF rfl hb187.h rfl) rfl ?_
                        refine WH_p (PS_move_bool rfl) rfl ?_
                        refine WH_guardF rfl rfl rfl ?_
                        refine WH_guardF rfl rfl rfl ?_
                        refine WH_guardF rfl rfl rfl ?_
                        refine WH_guardF rfl rfl rfl ?_
                        refine WH_guardF rfl rfl rfl ?_
                        refine WH_guardF rfl rfl rfl ?_
                        refine WH_guardF rfl rfl rfl ?_
                        refine WH_guardF rfl rfl rfl ?_
                        refine WH_p (PS_pickF rfl rfl rfl) rfl ?_
                        refine WH_p (PS_assign_bool rfl) rfl ?_
                        refine WH_nil ?_
                        refine thn_normal ?_
                        refine W_condF rfl rfl ?_
                        refine W_skip ?_
                        refine inBlk_normal ?_
                        refine thn_normal ?_
                        refine W_seq ?_
                        refine W_region rfl ?_
                        refine WO_p (PS_move_slice rfl) ?_
                        refine WO_p (PS_assign_int rfl) ?_
                        refine WO_p (PS_assign_slice rfl) ?_
                        refine WO_nil ?_
                        refine thn_normal ?_
                        refine W_ret ?_
                        refine bodyQ_ret2 Hvac.results42 rfl rfl (.int _ _) (.slice _ _ _) rfl rfl ?_
                        unfold yrefuse
                        (repeat (first | rw [if_pos (by first | assumption | omega | (rintro ⟨h1, h2⟩; omega))] | rw [if_neg (by first | assumption | omega | (rintro ⟨h1, h2⟩; omega))]))
                        first
                        | exact ⟨(by repeat (first | assumption | exact Ext.refl _ | refine Ext.alloc ?_ _ | refine Ext.drew ?_ | refine Ext.setB ?_ (by first | omega | (simp only [size_alloc, size_setB, size_drew]; omega)) _ | refine Ext.trans ?_ (by assumption))), (_, _, _), rfl, fun h9 => (Nat.succ_ne_zero _ h9).elim⟩
                        | exact ⟨(by repeat (first | assumption | exact Ext.refl _ | refine Ext.alloc ?_ _ | refine Ext.drew ?_ | refine Ext.setB ?_ (by first | omega | (simp only [size_alloc, size_setB, size_drew]; omega)) _ | refine Ext.trans ?_ (by assumption))), (_, _, _), rfl, fun _ => (by first | exact NN.nil _ | assumption | exact NN.ext (by assumption) (by repeat (first | assumption | exact Ext.refl _ | refine Ext.alloc ?_ _ | refine Ext.drew ?_ | refine Ext.setB ?_ (by first | omega | (simp only [size_alloc, size_setB, size_drew]; omega)) _ | refine Ext.trans ?_ (by assumption))))⟩

end Go.Proofs.YgvacwGreat
