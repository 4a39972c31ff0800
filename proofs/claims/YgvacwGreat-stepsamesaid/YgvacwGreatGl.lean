import Derived.Test.YgvacwGreatGk
namespace Go.Proofs.YgvacwGreat
set_option linter.unusedSimpArgs false
set_option linter.unusedVariables false
def ybare (y : PSt) (f : PF) (o : Int) : Nat :=
  if (96 ≤ o ∧ o ≤ 159) ∨ (16 ≤ o ∧ o ≤ 29) ∨ o = 1 ∨ o = 3 ∨ o = 53 ∨ (81 ≤ o ∧ o ≤ 83) then 3
  else if o = 2 ∨ (4 ≤ o ∧ o ≤ 7) ∨ o = 11 ∨ o = 71 then 5 else if o = 8 ∨ o = 9 ∨ o = 86 then 8 else if o = 87 then 10 else if o = 91 then 1 else if o = 64 then 20
  else if o = 0 ∨ o = 243 ∨ o = 253 then 0 else if o = 10 then yexp (yarg f 1) else if o = 32 then 30 + 6 * ywords (yarg f 1) else if o = 55 ∨ o = 57 ∨ o = 62 ∨ o = 94 then 3 + ycopy (yarg f 2)
  else if o = 49 ∨ o = 59 ∨ o = 63 then yaccess y.now.warmA (yaddr (yarg f 0)) else if o = 60 then yaccess y.now.warmA (yaddr (yarg f 0)) + ycopy (yarg f 3)
  else if 160 ≤ o ∧ o ≤ 164 then (375 + 375 * (o - 160)).toNat + 8 * yarg f 1 else if o = 84 then (if (f.self, yarg f 0) ∈ y.now.warmS then 100 else 2100) else if o = 85 then (ysstA y f).1
  else if o = 92 ∨ o = 93 then 100 else if o = 255 then ydestroy y f else if yfam o = 16 then yenterc y f o else 2
def ycost (y : PSt) (f : PF) (o : Int) : Nat :=
  if ywords (yreach f o) ≤ f.mem.length / 32 then ybare y f o else ybare y f o + (ymem (ywords (yreach f o)) - ymem (f.mem.length / 32))

theorem NN.z_copy [Om] {w : World} {s : SV} {a : Nat} (h : NN w s (ycopy a)) : sz (ycopy a) ≤ sz a + 4 := by
  unfold ycopy
  have h1 := sz_mul 3 (ywords a)
  have h2 := sz_ywords a
  have h3 : sz 3 ≤ 1 := sz_le (by decide)
  omega
set_option maxRecDepth 10000 in
set_option maxHeartbeats 4000000 in
theorem yBareCost_spec [Om] (w : World) (hO : OmB w) (C : Nat) (xs : YSt) (y : PSt) (N : Nat) (hS : YSS w C xs y) (hB : PSB N y) (hN : N ≤ 100000000) (F fo : Nat) (x : YFr) (f : PF) (hF : FrS w F fo x f) (hP : PFB f) (o : Int) (ho : 0 ≤ o ∧ o ≤ 255) : Ret Hvac.prog 197 #[.pointer (some ⟨C, 0, none⟩), .pointer (some ⟨F, fo, none⟩), .int .u8 o] w fun u w' => Ext w w' ∧ ∃ s' : SV, u = .slice s'.1 s'.2.1 s'.2.2 ∧ NN w' s' (ybare y f o) := by
  have hFR := hF.rel
  obtain ⟨r, TF, fzF, hFb, hFC⟩ := hF.blk
  have hFl := hFb.lt
  have hFsz := hFC.size
  have hk12 := hFC.self
  rw [hFR.self] at hk12
  have hSl := hS.blk.lt
  have hsbl := hFR.sb.1
  have hSb := hS.blk
  refine Ret_of_W Hvac.func197 rfl rfl ?_
  refine W_seq ?_
  refine W_region rfl ?_
  refine WO_p (PS_assign_slice rfl) ?_
  refine WO_nil ?_
  refine thn_normal ?_
  refine W_seq ?_
  refine W_block ?_
  refine W_seq ?_
  refine W_seq ?_
  refine W_region rfl ?_
  refine WO_p (PS_move_int rfl) ?_
  refine WO_p (PS_geq rfl rfl) ?_
  refine WO_p (PS_move_bool rfl) ?_
  refine WO_if (t := 13) rfl (fun hb2 => ?_) (fun hb2 => ?_)
  · have hb2p := hb2.h; try simp only [al_ete, al_dfn, Bool.not_eq_true', Bool.not_eq_false', al_ne, Bool.not_not, al_nn] at hb2p
    refine WO_guardT rfl rfl hb2.h ?_
    refine WO_p (PS_move_int rfl) ?_
    refine WO_guardT rfl rfl hb2.h ?_
    refine WO_p (PS_leq rfl rfl) ?_
    refine WO_p (PS_pickT rfl hb2.h rfl) ?_
    refine WO_p (PS_assign_bool rfl) ?_
    refine WO_nil ?_
    refine thn_normal ?_
    refine W_if rfl (fun hb4 => ?_) (fun hb4 => ?_)
    · have hb4p := hb4.h; try simp only [al_ete, al_dfn, Bool.not_eq_true', Bool.not_eq_false', al_ne, Bool.not_not, al_nn] at hb4p
      refine W_skip ?_
      refine thn_normal ?_
      refine W_condT rfl hb4.h ?_
      refine W_seq ?_
      refine W_region rfl ?_
      refine WO_call Hvac.call19 (by rfl) (Ret.mono (nNum_spec (OmB.ext hO (by repeat (first | assumption | exact Ext.refl _ | refine Ext.alloc ?_ _ | refine Ext.drew ?_ | refine Ext.setB ?_ (by first | omega | (simp only [size_alloc, size_setB, size_drew]; omega)) _ | exact Ext.trans (by assumption) (by assumption) | refine Ext.trans ?_ (by assumption)))) ⟨by omega, by omega⟩) ?_)
      rintro _ w19_4 ⟨hE19_4, s19_4, rfl, hN19_4, hs19_4⟩
      have hz19_4 := hE19_4.1
      try simp only [size_alloc, size_setB, size_drew] at hz19_4
      try simp only [Int.toNat_natCast, toNat_lit] at hN19_4 hs19_4
      refine WO_p (PS_assign_slice rfl) ?_
      refine WO_nil ?_
      refine thn_normal ?_
      refine W_ret ?_
      refine inBlk_ret ?_
      refine thn_ret ?_
      refine bodyQ_ret1 Hvac.results197 rfl (.slice _ _ _) rfl ?_
      first
      | (subst ho5; exact ⟨(by repeat (first | assumption | exact Ext.refl _ | refine Ext.alloc ?_ _ | refine Ext.drew ?_ | refine Ext.setB ?_ (by first | omega | (simp only [size_alloc, size_setB, size_drew]; omega)) _ | refine Ext.trans ?_ (by assumption))), (_, _, _), rfl, (by first | exact NN.nil _ | assumption | exact NN.ext (by assumption) (by repeat (first | assumption | exact Ext.refl _ | refine Ext.alloc ?_ _ | refine Ext.drew ?_ | refine Ext.setB ?_ (by first | omega | (simp only [size_alloc, size_setB, size_drew]; omega)) _ | refine Ext.trans ?_ (by assumption))))⟩)
      | (refine ⟨(by repeat (first | assumption | exact Ext.refl _ | refine Ext.alloc ?_ _ | refine Ext.drew ?_ | refine Ext.setB ?_ (by first | omega | (simp only [size_alloc, size_setB, size_drew]; omega)) _ | refine Ext.trans ?_ (by assumption))), (_, _, _), rfl, ?_⟩
         refine NN.castY (by first | exact NN.nil _ | assumption | exact NN.ext (by assumption) (by repeat (first | assumption | exact Ext.refl _ | refine Ext.alloc ?_ _ | refine Ext.drew ?_ | refine Ext.setB ?_ (by first | omega | (simp only [size_alloc, size_setB, size_drew]; omega)) _ | refine Ext.trans ?_ (by assumption)))) ?_
         unfold ybare
         (repeat (first | rw [if_pos (by first | omega | assumption)] | rw [if_neg (by first | omega | assumption)]))
         all_goals rfl)
    · have hb4p := hb4.h; try simp only [al_ete, al_dfn, Bool.not_eq_true', Bool.not_eq_false', al_ne, Bool.not_not, al_nn] at hb4p
      refine W_seq ?_
      refine W_region rfl ?_
      refine WO_p (PS_move_int rfl) ?_
      refine WO_p (PS_geq rfl rfl) ?_
      refine WO_p (PS_move_bool rfl) ?_
      refine WO_if (t := 19) rfl (fun hb7 => ?_) (fun hb7 => ?_)
      · have hb7p := hb7.h; try simp only [al_ete, al_dfn, Bool.not_eq_true', Bool.not_eq_false', al_ne, Bool.not_not, al_nn] at hb7p
        refine WO_guardT rfl rfl hb7.h ?_
        refine WO_p (PS_move_int rfl) ?_
        refine WO_guardT rfl rfl hb7.h ?_
        refine WO_p (PS_leq rfl rfl) ?_
        refine WO_p (PS_pickT rfl hb7.h rfl) ?_
        refine WO_p (PS_assign_bool rfl) ?_
        refine WO_nil ?_
        refine thn_normal ?_
        refine W_if rfl (fun hb9 => ?_) (fun hb9 => ?_)
        · have hb9p := hb9.h; try simp only [al_ete, al_dfn, Bool.not_eq_true', Bool.not_eq_false', al_ne, Bool.not_not, al_nn] at hb9p
          exfalso; omega
        · have hb9p := hb9.h; try simp only [al_ete, al_dfn, Bool.not_eq_true', Bool.not_eq_false', al_ne, Bool.not_not, al_nn] at hb9p
          refine W_seq ?_
          refine W_region rfl ?_
          refine WO_p (PS_move_int rfl) ?_
          refine WO_p (PS_eql rfl rfl) ?_
          refine WO_p (PS_assign_bool rfl) ?_
          refine WO_nil ?_
          refine thn_normal ?_
          refine W_if rfl (fun hb11 => ?_) (fun hb11 => ?_)
          · have hb11p := hb11.h; try simp only [al_ete, al_dfn, Bool.not_eq_true', Bool.not_eq_false', al_ne, Bool.not_not, al_nn] at hb11p
            exfalso; omega
          · have hb11p := hb11.h; try simp only [al_ete, al_dfn, Bool.not_eq_true', Bool.not_eq_false', al_ne, Bool.not_not, al_nn] at hb11p
            refine W_seq ?_
            refine W_region rfl ?_
            refine WO_p (PS_move_int rfl) ?_
            refine WO_p (PS_eql rfl rfl) ?_
            refine WO_p (PS_assign_bool rfl) ?_
            refine WO_nil ?_
            refine thn_normal ?_
            refine W_if rfl (fun hb13 => ?_) (fun hb13 => ?_)
            · have hb13p := hb13.h; try simp only [al_ete, al_dfn, Bool.not_eq_true', Bool.not_eq_false', al_ne, Bool.not_not, al_nn] at hb13p
              exfalso; omega
            · have hb13p := hb13.h; try simp only [al_ete, al_dfn, Bool.not_eq_true', Bool.not_eq_false', al_ne, Bool.not_not, al_nn] at hb13p
              refine W_seq ?_
              refine W_region rfl ?_
              refine WO_p (PS_move_int rfl) ?_
              refine WO_p (PS_eql rfl rfl) ?_
              refine WO_p (PS_assign_bool rfl) ?_
              refine WO_nil ?_
              refine thn_normal ?_
              refine W_if rfl (fun hb15 => ?_) (fun hb15 => ?_)
              · have hb15p := hb15.h; try simp only [al_ete, al_dfn, Bool.not_eq_true', Bool.not_eq_false', al_ne, Bool.not_not, al_nn] at hb15p
                exfalso; omega
              · have hb15p := hb15.h; try simp only [al_ete, al_dfn, Bool.not_eq_true', Bool.not_eq_false', al_ne, Bool.not_not, al_nn] at hb15p
                refine W_region rfl ?_
                refine WO_p (PS_move_int rfl) ?_
                refine WO_p (PS_geq rfl rfl) ?_
                refine WO_p (PS_move_bool rfl) ?_
                refine WO_if (t := 31) rfl (fun hb17 => ?_) (fun hb17 => ?_)
                · have hb17p := hb17.h; try simp only [al_ete, al_dfn, Bool.not_eq_true', Bool.not_eq_false', al_ne, Bool.not_not, al_nn] at hb17p
                  refine WO_guardT rfl rfl hb17.h ?_
                  refine WO_p (PS_move_int rfl) ?_
                  refine WO_guardT rfl rfl hb17.h ?_
                  refine WO_p (PS_leq rfl rfl) ?_
                  refine WO_p (PS_pickT rfl hb17.h rfl) ?_
                  refine WO_p (PS_assign_bool rfl) ?_
                  refine WO_nil ?_
                  refine thn_normal ?_
                  refine W_if rfl (fun hb19 => ?_) (fun hb19 => ?_)
                  · have hb19p := hb19.h; try simp only [al_ete, al_dfn, Bool.not_eq_true', Bool.not_eq_false', al_ne, Bool.not_not, al_nn] at hb19p
                    exfalso; omega
                  · have hb19p := hb19.h; try simp only [al_ete, al_dfn, Bool.not_eq_true', Bool.not_eq_false', al_ne, Bool.not_not, al_nn] at hb19p
                    refine W_seq ?_
                    refine W_seq ?_
                    refine W_region rfl ?_
                    refine WO_p (PS_move_int rfl) ?_
                    refine WO_p (PS_eql rfl rfl) ?_
                    refine WO_p (PS_assign_bool rfl) ?_
                    refine WO_nil ?_
                    refine thn_normal ?_
                    refine W_if rfl (fun hb21 => ?_) (fun hb21 => ?_)
                    · have hb21p := hb21.h; try simp only [al_ete, al_dfn, Bool.not_eq_true', Bool.not_eq_false', al_ne, Bool.not_not, al_nn] at hb21p
                      exfalso; omega
                    · have hb21p := hb21.h; try simp only [al_ete, al_dfn, Bool.not_eq_true', Bool.not_eq_false', al_ne, Bool.not_not, al_nn] at hb21p
                      refine W_seq ?_
                      refine W_region rfl ?_
                      refine WO_p (PS_move_int rfl) ?_
                      refine WO_p (PS_geq rfl rfl) ?_
                      refine WO_p (PS_move_bool rfl) ?_
                      refine WO_if (t := 41) rfl (fun hb23 => ?_) (fun hb23 => ?_)
                      · have hb23p := hb23.h; try simp only [al_ete, al_dfn, Bool.not_eq_true', Bool.not_eq_false', al_ne, Bool.not_not, al_nn] at hb23p
                        refine WO_guardT rfl rfl hb23.h ?_
                        refine WO_p (PS_move_int rfl) ?_
                        refine WO_guardT rfl rfl hb23.h ?_
                        refine WO_p (PS_leq rfl rfl) ?_
                        refine WO_p (PS_pickT rfl hb23.h rfl) ?_
                        refine WO_p (PS_assign_bool rfl) ?_
                        refine WO_nil ?_
                        refine thn_normal ?_
                        refine W_if rfl (fun hb25 => ?_) (fun hb25 => ?_)
                        · have hb25p := hb25.h; try simp only [al_ete, al_dfn, Bool.not_eq_true', Bool.not_eq_false', al_ne, Bool.not_not, al_nn] at hb25p
                          exfalso; omega
                        · have hb25p := hb25.h; try simp only [al_ete, al_dfn, Bool.not_eq_true', Bool.not_eq_false', al_ne, Bool.not_not, al_nn] at hb25p
                          refine W_seq ?_
                          refine W_region rfl ?_
                          refine WO_p (PS_move_int rfl) ?_
                          refine WO_p (PS_eql rfl rfl) ?_
                          refine WO_p (PS_assign_bool rfl) ?_
                          refine WO_nil ?_
                          refine thn_normal ?_
                          refine W_if rfl (fun hb27 => ?_) (fun hb27 => ?_)
                          · have hb27p := hb27.h; try simp only [al_ete, al_dfn, Bool.not_eq_true', Bool.not_eq_false', al_ne, Bool.not_not, al_nn] at hb27p
                            exfalso; omega
                          · have hb27p := hb27.h; try simp only [al_ete, al_dfn, Bool.not_eq_true', Bool.not_eq_false', al_ne, Bool.not_not, al_nn] at hb27p
                            refine W_region rfl ?_
                            refine WO_p (PS_move_int rfl) ?_
                            refine WO_p (PS_eql rfl rfl) ?_
                            refine WO_p (PS_assign_bool rfl) ?_
                            refine WO_nil ?_
                            refine thn_normal ?_
                            refine W_if rfl (fun hb29 => ?_) (fun hb29 => ?_)
                            · have hb29p := hb29.h; try simp only [al_ete, al_dfn, Bool.not_eq_true', Bool.not_eq_false', al_ne, Bool.not_not, al_nn] at hb29p
                              exfalso; omega
                            · have hb29p := hb29.h; try simp only [al_ete, al_dfn, Bool.not_eq_true', Bool.not_eq_false', al_ne, Bool.not_not, al_nn] at hb29p
                              refine W_seq ?_
                              refine W_seq ?_
                              refine W_region rfl ?_
                              refine WO_p (PS_move_int rfl) ?_
                              refine WO_p (PS_eql rfl rfl) ?_
                              refine WO_p (PS_assign_bool rfl) ?_
                              refine WO_nil ?_
                              refine thn_normal ?_
                              refine W_if rfl (fun hb31 => ?_) (fun hb31 => ?_)
                              · have hb31p := hb31.h; try simp only [al_ete, al_dfn, Bool.not_eq_true', Bool.not_eq_false', al_ne, Bool.not_not, al_nn] at hb31p
                                exfalso; omega
                              · have hb31p := hb31.h; try simp only [al_ete, al_dfn, Bool.not_eq_true', Bool.not_eq_false', al_ne, Bool.not_not, al_nn] at hb31p
                                refine W_seq ?_
                                refine W_region rfl ?_
                                refine WO_p (PS_move_int rfl) ?_
                                refine WO_p (PS_eql rfl rfl) ?_
                                refine WO_p (PS_assign_bool rfl) ?_
                                refine WO_nil ?_
                                refine thn_normal ?_
                                refine W_if rfl (fun hb33 => ?_) (fun hb33 => ?_)
                                · have hb33p := hb33.h; try simp only [al_ete, al_dfn, Bool.not_eq_true', Bool.not_eq_false', al_ne, Bool.not_not, al_nn] at hb33p
                                  exfalso; omega
                                · have hb33p := hb33.h; try simp only [al_ete, al_dfn, Bool.not_eq_true', Bool.not_eq_false', al_ne, Bool.not_not, al_nn] at hb33p
                                  refine W_region rfl ?_
                                  refine WO_p (PS_move_int rfl) ?_
                                  refine WO_p (PS_eql rfl rfl) ?_
                                  refine WO_p (PS_assign_bool rfl) ?_
                                  refine WO_nil ?_
                                  refine thn_normal ?_
                                  refine W_if rfl (fun hb35 => ?_) (fun hb35 => ?_)
                                  · have hb35p := hb35.h; try simp only [al_ete, al_dfn, Bool.not_eq_true', Bool.not_eq_false', al_ne, Bool.not_not, al_nn] at hb35p
                                    exfalso; omega
                                  · have hb35p := hb35.h; try simp only [al_ete, al_dfn, Bool.not_eq_true', Bool.not_eq_false', al_ne, Bool.not_not, al_nn] at hb35p
                                    refine W_seq ?_
                                    refine W_region rfl ?_
                                    refine WO_p (PS_move_int rfl) ?_
                                    refine WO_p (PS_eql rfl rfl) ?_
                                    refine WO_p (PS_assign_bool rfl) ?_
                                    refine WO_nil ?_
                                    refine thn_normal ?_
                                    refine W_if rfl (fun hb37 => ?_) (fun hb37 => ?_)
                                    · have hb37p := hb37.h; try simp only [al_ete, al_dfn, Bool.not_eq_true', Bool.not_eq_false', al_ne, Bool.not_not, al_nn] at hb37p
                                      exfalso; omega
                                    · have hb37p := hb37.h; try simp only [al_ete, al_dfn, Bool.not_eq_true', Bool.not_eq_false', al_ne, Bool.not_not, al_nn] at hb37p
                                      refine W_seq ?_
                                      refine W_region rfl ?_
                                      refine WO_p (PS_move_int rfl) ?_
                                      refine WO_p (PS_eql rfl rfl) ?_
                                      refine WO_p (PS_assign_bool rfl) ?_
                                      refine WO_nil ?_
                                      refine thn_normal ?_
                                      refine W_if rfl (fun hb39 => ?_) (fun hb39 => ?_)
                                      · have hb39p := hb39.h; try simp only [al_ete, al_dfn, Bool.not_eq_true', Bool.not_eq_false', al_ne, Bool.not_not, al_nn] at hb39p
                                        exfalso; omega
                                      · have hb39p := hb39.h; try simp only [al_ete, al_dfn, Bool.not_eq_true', Bool.not_eq_false', al_ne, Bool.not_not, al_nn] at hb39p
                                        refine W_seq ?_
                                        refine W_region rfl ?_
                                        refine WO_p (PS_move_int rfl) ?_
                                        refine WO_p (PS_eql rfl rfl) ?_
                                        refine WO_p (PS_assign_bool rfl) ?_
                                        refine WO_nil ?_
                                        refine thn_normal ?_
                                        refine W_if rfl (fun hb41 => ?_) (fun hb41 => ?_)
                                        · have hb41p := hb41.h; try simp only [al_ete, al_dfn, Bool.not_eq_true', Bool.not_eq_false', al_ne, Bool.not_not, al_nn] at hb41p
                                          exfalso; omega
                                        · have hb41p := hb41.h; try simp only [al_ete, al_dfn, Bool.not_eq_true', Bool.not_eq_false', al_ne, Bool.not_not, al_nn] at hb41p
                                          refine W_seq ?_
                                          refine W_seq ?_
                                          refine W_region rfl ?_
                                          refine WO_p (PS_move_int rfl) ?_
                                          refine WO_p (PS_eql rfl rfl) ?_
                                          refine WO_p (PS_assign_bool rfl) ?_
                                          refine WO_nil ?_
                                          refine thn_normal ?_
                                          refine W_if rfl (fun hb43 => ?_) (fun hb43 => ?_)
                                          · have hb43p := hb43.h; try simp only [al_ete, al_dfn, Bool.not_eq_true', Bool.not_eq_false', al_ne, Bool.not_not, al_nn] at hb43p
                                            exfalso; omega
                                          · have hb43p := hb43.h; try simp only [al_ete, al_dfn, Bool.not_eq_true', Bool.not_eq_false', al_ne, Bool.not_not, al_nn] at hb43p
                                            refine W_seq ?_
                                            refine W_region rfl ?_
                                            refine WO_p (PS_move_int rfl) ?_
                                            refine WO_p (PS_eql rfl rfl) ?_
                                            refine WO_p (PS_assign_bool rfl) ?_
                                            refine WO_nil ?_
                                            refine thn_normal ?_
                                            refine W_if rfl (fun hb45 => ?_) (fun hb45 => ?_)
                                            · have hb45p := hb45.h; try simp only [al_ete, al_dfn, Bool.not_eq_true', Bool.not_eq_false', al_ne, Bool.not_not, al_nn] at hb45p
                                              have ho5 : o = 243 := by omega
                                              refine W_skip ?_
                                              refine thn_normal ?_
                                              refine W_condT rfl hb45.h ?_
                                              refine W_seq ?_
                                              refine W_region rfl ?_
                                              refine WO_call Hvac.call19 (by rfl) (Ret.mono (nNum_spec (OmB.ext hO (by repeat (first | assumption | exact Ext.refl _ | refine Ext.alloc ?_ _ | refine Ext.drew ?_ | refine Ext.setB ?_ (by first | omega | (simp only [size_alloc, size_setB, size_drew]; omega)) _ | exact Ext.trans (by assumption) (by assumption) | refine Ext.trans ?_ (by assumption)))) ⟨by omega, by omega⟩) ?_)
                                              rintro _ w19_45 ⟨hE19_45, s19_45, rfl, hN19_45, hs19_45⟩
                                              have hz19_45 := hE19_45.1
                                              try simp only [size_alloc, size_setB, size_drew] at hz19_45
                                              try simp only [Int.toNat_natCast, toNat_lit] at hN19_45 hs19_45
                                              refine WO_p (PS_assign_slice rfl) ?_
                                              refine WO_nil ?_
                                              refine thn_normal ?_
                                              refine W_ret ?_
                                              refine inBlk_ret ?_
                                              refine thn_ret ?_
                                              refine bodyQ_ret1 Hvac.results197 rfl (.slice _ _ _) rfl ?_
                                              first
                                              | (subst ho5; exact ⟨(by repeat (first | assumption | exact Ext.refl _ | refine Ext.alloc ?_ _ | refine Ext.drew ?_ | refine Ext.setB ?_ (by first | omega | (simp only [size_alloc, size_setB, size_drew]; omega)) _ | refine Ext.trans ?_ (by assumption))), (_, _, _), rfl, (by first | exact NN.nil _ | assumption | exact NN.ext (by assumption) (by repeat (first | assumption | exact Ext.refl _ | refine Ext.alloc ?_ _ | refine Ext.drew ?_ | refine Ext.setB ?_ (by first | omega | (simp only [size_alloc, size_setB, size_drew]; omega)) _ | refine Ext.trans ?_ (by assumption))))⟩)
                                              | (refine ⟨(by repeat (first | assumption | exact Ext.refl _ | refine Ext.alloc ?_ _ | refine Ext.drew ?_ | refine Ext.setB ?_ (by first | omega | (simp only [size_alloc, size_setB, size_drew]; omega)) _ | refine Ext.trans ?_ (by assumption))), (_, _, _), rfl, ?_⟩
                                                 refine NN.castY (by first | exact NN.nil _ | assumption | exact NN.ext (by assumption) (by repeat (first | assumption | exact Ext.refl _ | refine Ext.alloc ?_ _ | refine Ext.drew ?_ | refine Ext.setB ?_ (by first | omega | (simp only [size_alloc, size_setB, size_drew]; omega)) _ | refine Ext.trans ?_ (by assumption)))) ?_
                                                 unfold ybare
                                                 (repeat (first | rw [if_pos (by first | omega | assumption)] | rw [if_neg (by first | omega | assumption)]))
                                                 all_goals rfl)
                                            · have hb45p := hb45.h; try simp only [al_ete, al_dfn, Bool.not_eq_true', Bool.not_eq_false', al_ne, Bool.not_not, al_nn] at hb45p
                                              refine W_region rfl ?_
                                              refine WO_p (PS_move_int rfl) ?_
                                              refine WO_p (PS_eql rfl rfl) ?_
                                              refine WO_p (PS_assign_bool rfl) ?_
                                              refine WO_nil ?_
                                              refine thn_normal ?_
                                              refine W_if rfl (fun hb48 => ?_) (fun hb48 => ?_)
                                              · have hb48p := hb48.h; try simp only [al_ete, al_dfn, Bool.not_eq_true', Bool.not_eq_false', al_ne, Bool.not_not, al_nn] at hb48p
                                                have ho5 : o = 253 := by omega
                                                refine W_seq ?_
                                                refine W_region rfl ?_
                                                refine WO_call Hvac.call19 (by rfl) (Ret.mono (nNum_spec (OmB.ext hO (by repeat (first | assumption | exact Ext.refl _ | refine Ext.alloc ?_ _ | refine Ext.drew ?_ | refine Ext.setB ?_ (by first | omega | (simp only [size_alloc, size_setB, size_drew]; omega)) _ | exact Ext.trans (by assumption) (by assumption) | refine Ext.trans ?_ (by assumption)))) ⟨by omega, by omega⟩) ?_)
                                                rintro _ w19_48 ⟨hE19_48, s19_48, rfl, hN19_48, hs19_48⟩
                                                have hz19_48 := hE19_48.1
                                                try simp only [size_alloc, size_setB, size_drew] at hz19_48
                                                try simp only [Int.toNat_natCast, toNat_lit] at hN19_48 hs19_48
                                                refine WO_p (PS_assign_slice rfl) ?_
                                                refine WO_nil ?_
                                                refine thn_normal ?_
                                                refine W_ret ?_
                                                refine inBlk_ret ?_
                                                refine thn_ret ?_
                                                refine bodyQ_ret1 Hvac.results197 rfl (.slice _ _ _) rfl ?_
                                                first
                                                | (subst ho5; exact ⟨(by repeat (first | assumption | exact Ext.refl _ | refine Ext.alloc ?_ _ | refine Ext.drew ?_ | refine Ext.setB ?_ (by first | omega | (simp only [size_alloc, size_setB, size_drew]; omega)) _ | refine Ext.trans ?_ (by assumption))), (_, _, _), rfl, (by first | exact NN.nil _ | assumption | exact NN.ext (by assumption) (by repeat (first | assumption | exact Ext.refl _ | refine Ext.alloc ?_ _ | refine Ext.drew ?_ | refine Ext.setB ?_ (by first | omega | (simp only [size_alloc, size_setB, size_drew]; omega)) _ | refine Ext.trans ?_ (by assumption))))⟩)
                                                | (refine ⟨(by repeat (first | assumption | exact Ext.refl _ | refine Ext.alloc ?_ _ | refine Ext.drew ?_ | refine Ext.setB ?_ (by first | omega | (simp only [size_alloc, size_setB, size_drew]; omega)) _ | refine Ext.trans ?_ (by assumption))), (_, _, _), rfl, ?_⟩
                                                   refine NN.castY (by first | exact NN.nil _ | assumption | exact NN.ext (by assumption) (by repeat (first | assumption | exact Ext.refl _ | refine Ext.alloc ?_ _ | refine Ext.drew ?_ | refine Ext.setB ?_ (by first | omega | (simp only [size_alloc, size_setB, size_drew]; omega)) _ | refine Ext.trans ?_ (by assumption)))) ?_
                                                   unfold ybare
                                                   (repeat (first | rw [if_pos (by first | omega | assumption)] | rw [if_neg (by first | omega | assumption)]))
                                                   all_goals rfl)
                                              · have hb48p := hb48.h; try simp only [al_ete, al_dfn, Bool.not_eq_true', Bool.not_eq_false', al_ne, Bool.not_not, al_nn] at hb48p
                                                refine W_seq ?_
                                                refine W_region rfl ?_
                                                refine WO_p (PS_move_int rfl) ?_
                                                refine WO_p (PS_eql rfl rfl) ?_
                                                refine WO_p (PS_assign_bool rfl) ?_
                                                refine WO_nil ?_
                                                refine thn_normal ?_
                                                refine W_if rfl (fun hb51 => ?_) (fun hb51 => ?_)
                                                · have hb51p := hb51.h; try simp only [al_ete, al_dfn, Bool.not_eq_true', Bool.not_eq_false', al_ne, Bool.not_not, al_nn] at hb51p
                                                  exfalso; omega
                                                · have hb51p := hb51.h; try simp only [al_ete, al_dfn, Bool.not_eq_true', Bool.not_eq_false', al_ne, Bool.not_not, al_nn] at hb51p
                                                  refine W_seq ?_
                                                  refine W_region rfl ?_
                                                  refine WO_p (PS_move_int rfl) ?_
                                                  refine WO_p (PS_eql rfl rfl) ?_
                                                  refine WO_p (PS_assign_bool rfl) ?_
                                                  refine WO_nil ?_
                                                  refine thn_normal ?_
                                                  refine W_if rfl (fun hb53 => ?_) (fun hb53 => ?_)
                                                  · have hb53p := hb53.h; try simp only [al_ete, al_dfn, Bool.not_eq_true', Bool.not_eq_false', al_ne, Bool.not_not, al_nn] at hb53p
                                                    exfalso; omega
                                                  · have hb53p := hb53.h; try simp only [al_ete, al_dfn, Bool.not_eq_true', Bool.not_eq_false', al_ne, Bool.not_not, al_nn] at hb53p
                                                    refine W_seq ?_
                                                    refine W_seq ?_
                                                    refine W_region rfl ?_
                                                    refine WO_p (PS_move_int rfl) ?_
                                                    refine WO_p (PS_eql rfl rfl) ?_
                                                    refine WO_p (PS_assign_bool rfl) ?_
                                                    refine WO_nil ?_
                                                    refine thn_normal ?_
                                                    refine W_if rfl (fun hb55 => ?_) (fun hb55 => ?_)
                                                    · have hb55p := hb55.h; try simp only [al_ete, al_dfn, Bool.not_eq_true', Bool.not_eq_false', al_ne, Bool.not_not, al_nn] at hb55p
                                                      exfalso; omega
                                                    · have hb55p := hb55.h; try simp only [al_ete, al_dfn, Bool.not_eq_true', Bool.not_eq_false', al_ne, Bool.not_not, al_nn] at hb55p
                                                      refine W_seq ?_
                                                      refine W_region rfl ?_
                                                      refine WO_p (PS_move_int rfl) ?_
                                                      refine WO_p (PS_eql rfl rfl) ?_
                                                      refine WO_p (PS_assign_bool rfl) ?_
                                                      refine WO_nil ?_
                                                      refine thn_normal ?_
                                                      refine W_if rfl (fun hb57 => ?_) (fun hb57 => ?_)
                                                      · have hb57p := hb57.h; try simp only [al_ete, al_dfn, Bool.not_eq_true', Bool.not_eq_false', al_ne, Bool.not_not, al_nn] at hb57p
                                                        exfalso; omega
                                                      · have hb57p := hb57.h; try simp only [al_ete, al_dfn, Bool.not_eq_true', Bool.not_eq_false', al_ne, Bool.not_not, al_nn] at hb57p
                                                        refine W_seq ?_
                                                        refine W_region rfl ?_
                                                        refine WO_p (PS_move_int rfl) ?_
                                                        refine WO_p (PS_eql rfl rfl) ?_
                                                        refine WO_p (PS_assign_bool rfl) ?_
                                                        refine WO_nil ?_
                                                        refine thn_normal ?_
                                                        refine W_if rfl (fun hb59 => ?_) (fun hb59 => ?_)
                                                        · have hb59p := hb59.h; try simp only [al_ete, al_dfn, Bool.not_eq_true', Bool.not_eq_false', al_ne, Bool.not_not, al_nn] at hb59p
                                                          exfalso; omega
                                                        · have hb59p := hb59.h; try simp only [al_ete, al_dfn, Bool.not_eq_true', Bool.not_eq_false', al_ne, Bool.not_not, al_nn] at hb59p
                                                          refine W_region rfl ?_
                                                          refine WO_p (PS_move_int rfl) ?_
                                                          refine WO_p (PS_eql rfl rfl) ?_
                                                          refine WO_p (PS_assign_bool rfl) ?_
                                                          refine WO_nil ?_
                                                          refine thn_normal ?_
                                                          refine W_if rfl (fun hb61 => ?_) (fun hb61 => ?_)
                                                          · have hb61p := hb61.h; try simp only [al_ete, al_dfn, Bool.not_eq_true', Bool.not_eq_false', al_ne, Bool.not_not, al_nn] at hb61p
                                                            exfalso; omega
                                                          · have hb61p := hb61.h; try simp only [al_ete, al_dfn, Bool.not_eq_true', Bool.not_eq_false', al_ne, Bool.not_not, al_nn] at hb61p
                                                            refine W_seq ?_
                                                            refine W_seq ?_
                                                            refine W_region rfl ?_
                                                            refine WO_p (PS_move_int rfl) ?_
                                                            refine WO_p (PS_eql rfl rfl) ?_
                                                            refine WO_p (PS_assign_bool rfl) ?_
                                                            refine WO_nil ?_
                                                            refine thn_normal ?_
                                                            refine W_if rfl (fun hb63 => ?_) (fun hb63 => ?_)
                                                            · have hb63p := hb63.h; try simp only [al_ete, al_dfn, Bool.not_eq_true', Bool.not_eq_false', al_ne, Bool.not_not, al_nn] at hb63p
                                                              exfalso; omega
                                                            · have hb63p := hb63.h; try simp only [al_ete, al_dfn, Bool.not_eq_true', Bool.not_eq_false', al_ne, Bool.not_not, al_nn] at hb63p
                                                              refine W_seq ?_
                                                              refine W_region rfl ?_
                                                              refine WO_p (PS_move_int rfl) ?_
                                                              refine WO_p (PS_eql rfl rfl) ?_
                                                              refine WO_p (PS_assign_bool rfl) ?_
                                                              refine WO_nil ?_
                                                              refine thn_normal ?_
                                                              refine W_if rfl (fun hb65 => ?_) (fun hb65 => ?_)
                                                              · have hb65p := hb65.h; try simp only [al_ete, al_dfn, Bool.not_eq_true', Bool.not_eq_false', al_ne, Bool.not_not, al_nn] at hb65p
                                                                exfalso; omega
                                                              · have hb65p := hb65.h; try simp only [al_ete, al_dfn, Bool.not_eq_true', Bool.not_eq_false', al_ne, Bool.not_not, al_nn] at hb65p
                                                                refine W_region rfl ?_
                                                                refine WO_p (PS_move_int rfl) ?_
                                                                refine WO_p (PS_eql rfl rfl) ?_
                                                                refine WO_p (PS_assign_bool rfl) ?_
                                                                refine WO_nil ?_
                                                                refine thn_normal ?_
                                                                refine W_if rfl (fun hb67 => ?_) (fun hb67 => ?_)
                                                                · have hb67p := hb67.h; try simp only [al_ete, al_dfn, Bool.not_eq_true', Bool.not_eq_false', al_ne, Bool.not_not, al_nn] at hb67p
                                                                  exfalso; omega
                                                                · have hb67p := hb67.h; try simp only [al_ete, al_dfn, Bool.not_eq_true', Bool.not_eq_false', al_ne, Bool.not_not, al_nn] at hb67p
                                                                  refine W_seq ?_
                                                                  refine W_region rfl ?_
                                                                  refine WO_p (PS_move_int rfl) ?_
                                                                  refine WO_p (PS_eql rfl rfl) ?_
                                                                  refine WO_p (PS_assign_bool rfl) ?_
                                                                  refine WO_nil ?_
                                                                  refine thn_normal ?_
                                                                  refine W_if rfl (fun hb69 => ?_) (fun hb69 => ?_)
                                                                  · have hb69p := hb69.h; try simp only [al_ete, al_dfn, Bool.not_eq_true', Bool.not_eq_false', al_ne, Bool.not_not, al_nn] at hb69p
                                                                    exfalso; omega
                                                                  · have hb69p := hb69.h; try simp only [al_ete, al_dfn, Bool.not_eq_true', Bool.not_eq_false', al_ne, Bool.not_not, al_nn] at hb69p
                                                                    refine W_seq ?_
                                                                    refine W_region rfl ?_
                                                                    refine WO_p (PS_move_int rfl) ?_
                                                                    refine WO_p (PS_geq rfl rfl) ?_
                                                                    refine WO_p (PS_move_bool rfl) ?_
                                                                    refine WO_if (t := 139) rfl (fun hb71 => ?_) (fun hb71 => ?_)
                                                                    · have hb71p := hb71.h; try simp only [al_ete, al_dfn, Bool.not_eq_true', Bool.not_eq_false', al_ne, Bool.not_not, al_nn] at hb71p
                                                                      refine WO_guardT rfl rfl hb71.h ?_
                                                                      refine WO_p (PS_move_int rfl) ?_
                                                                      refine WO_guardT rfl rfl hb71.h ?_
                                                                      refine WO_p (PS_leq rfl rfl) ?_
                                                                      refine WO_p (PS_pickT rfl hb71.h rfl) ?_
                                                                      refine WO_p (PS_assign_bool rfl) ?_
                                                                      refine WO_nil ?_
                                                                      refine thn_normal ?_
                                                                      refine W_if rfl (fun hb73 => ?_) (fun hb73 => ?_)
                                                                      · have hb73p := hb73.h; try simp only [al_ete, al_dfn, Bool.not_eq_true', Bool.not_eq_false', al_ne, Bool.not_not, al_nn] at hb73p
                                                                        refine W_seq ?_
                                                                        refine W_region rfl ?_
                                                                        refine WO_p (PS_move_int rfl) ?_
                                                                        refine WO_p (PS_sub_u8n rfl rfl (by omega) (by omega)) ?_
                                                                        refine WO_p (PS_conv_u64n Hvac.runUnderlying5 Hvac.runUnderlying26 rfl (by omega) (by omega)) ?_
                                                                        refine WO_p (PS_mul_u64n rfl rfl (by omega) (by omega)) ?_
                                                                        refine WO_p (PS_add_u64n rfl rfl (by omega) (by omega)) ?_
                                                                        refine WO_call Hvac.call19 (by rfl) (Ret.mono (nNum_spec (OmB.ext hO (by repeat (first | assumption | exact Ext.refl _ | refine Ext.alloc ?_ _ | refine Ext.drew ?_ | refine Ext.setB ?_ (by first | omega | (simp only [size_alloc, size_setB, size_drew]; omega)) _ | exact Ext.trans (by assumption) (by assumption) | refine Ext.trans ?_ (by assumption)))) ⟨by omega, by omega⟩) ?_)
                                                                        rintro _ w19_73 ⟨hE19_73, s19_73, rfl, hN19_73, hs19_73⟩
                                                                        have hz19_73 := hE19_73.1
                                                                        try simp only [size_alloc, size_setB, size_drew] at hz19_73
                                                                        try simp only [Int.toNat_natCast, toNat_lit] at hN19_73 hs19_73
                                                                        refine WO_call Hvac.call19 (by rfl) (Ret.mono (nNum_spec (OmB.ext hO (by repeat (first | assumption | exact Ext.refl _ | refine Ext.alloc ?_ _ | refine Ext.drew ?_ | refine Ext.setB ?_ (by first | omega | (simp only [size_alloc, size_setB, size_drew]; omega)) _ | exact Ext.trans (by assumption) (by assumption) | refine Ext.trans ?_ (by assumption)))) ⟨by omega, by omega⟩) ?_)
                                                                        rintro _ w19_74 ⟨hE19_74, s19_74, rfl, hN19_74, hs19_74⟩
                                                                        have hz19_74 := hE19_74.1
                                                                        try simp only [size_alloc, size_setB, size_drew] at hz19_74
                                                                        try simp only [Int.toNat_natCast, toNat_lit] at hN19_74 hs19_74
                                                                        refine WO_p (PS_move_ptr rfl) ?_
                                                                        refine WO_call Hvac.call47 (by rfl) (Ret.mono (yArg_spec _ (OmB.ext hO (by repeat (first | assumption | exact Ext.refl _ | refine Ext.alloc ?_ _ | refine Ext.drew ?_ | refine Ext.setB ?_ (by first | omega | (simp only [size_alloc, size_setB, size_drew]; omega)) _ | exact Ext.trans (by assumption) (by assumption) | refine Ext.trans ?_ (by assumption)))) _ _ _ _ (by first | assumption | exact FrS.ext (by assumption) (by repeat (first | assumption | exact Ext.refl _ | refine Ext.alloc ?_ _ | refine Ext.drew ?_ | refine Ext.setB ?_ (by first | omega | (simp only [size_alloc, size_setB, size_drew]; omega)) _ | exact Ext.trans (by assumption) (by assumption) | refine Ext.trans ?_ (by assumption)))) hP _ (by decide)) ?_)
                                                                        rintro _ w47_75 ⟨hE47_75, s47_75, rfl, hN47_75, hs47_75⟩
                                                                        have hz47_75 := hE47_75.1
                                                                        try simp only [size_alloc, size_setB, size_drew] at hz47_75
                                                                        refine WO_call Hvac.call26 (by rfl) (Ret.mono (nMul_spec (OmB.ext hO (by repeat (first | assumption | exact Ext.refl _ | refine Ext.alloc ?_ _ | refine Ext.drew ?_ | refine Ext.setB ?_ (by first | omega | (simp only [size_alloc, size_setB, size_drew]; omega)) _ | exact Ext.trans (by assumption) (by assumption) | refine Ext.trans ?_ (by assumption)))) (by first | exact NN.nil _ | assumption | exact NN.ext (by assumption) (by repeat (first | assumption | exact Ext.refl _ | refine Ext.alloc ?_ _ | refine Ext.drew ?_ | refine Ext.setB ?_ (by first | omega | (simp only [size_alloc, size_setB, size_drew]; omega)) _ | exact Ext.trans (by assumption) (by assumption) | refine Ext.trans ?_ (by assumption)))) (by first | exact NN.nil _ | assumption | exact NN.ext (by assumption) (by repeat (first | assumption | exact Ext.refl _ | refine Ext.alloc ?_ _ | refine Ext.drew ?_ | refine Ext.setB ?_ (by first | omega | (simp only [size_alloc, size_setB, size_drew]; omega)) _ | exact Ext.trans (by assumption) (by assumption) | refine Ext.trans ?_ (by assumption)))) (by first | assumption | omega | (rw [sz_zero]; omega)) (by first | assumption | omega | (rw [sz_zero]; omega))) ?_)
                                                                        rintro _ w26_76 ⟨hE26_76, s26_76, rfl, hN26_76⟩
                                                                        have hz26_76 := hE26_76.1
                                                                        try simp only [size_alloc, size_setB, size_drew] at hz26_76
                                                                        have hs26_76 := hN26_76.z_mul
                                                                        refine WO_call Hvac.call24 (by rfl) (Ret.mono (nAdd_spec (OmB.ext hO (by repeat (first | assumption | exact Ext.refl _ | refine Ext.alloc ?_ _ | refine Ext.drew ?_ | refine Ext.setB ?_ (by first | omega | (simp only [size_alloc, size_setB, size_drew]; omega)) _ | exact Ext.trans (by assumption) (by assumption) | refine Ext.trans ?_ (by assumption)))) (by first | exact NN.nil _ | assumption | exact NN.ext (by assumption) (by repeat (first | assumption | exact Ext.refl _ | refine Ext.alloc ?_ _ | refine Ext.drew ?_ | refine Ext.setB ?_ (by first | omega | (simp only [size_alloc, size_setB, size_drew]; omega)) _ | exact Ext.trans (by assumption) (by assumption) | refine Ext.trans ?_ (by assumption)))) (by first | exact NN.nil _ | assumption | exact NN.ext (by assumption) (by repeat (first | assumption | exact Ext.refl _ | refine Ext.alloc ?_ _ | refine Ext.drew ?_ | refine Ext.setB ?_ (by first | omega | (simp only [size_alloc, size_setB, size_drew]; omega)) _ | exact Ext.trans (by assumption) (by assumption) | refine Ext.trans ?_ (by assumption)))) (by first | assumption | omega | (rw [sz_zero]; omega)) (by first | assumption | omega | (rw [sz_zero]; omega))) ?_)
                                                                        rintro _ w24_77 ⟨hE24_77, s24_77, rfl, hN24_77⟩
                                                                        have hz24_77 := hE24_77.1
                                                                        try simp only [size_alloc, size_setB, size_drew] at hz24_77
                                                                        have hs24_77 := hN24_77.z_add
                                                                        refine WO_p (PS_assign_slice rfl) ?_
                                                                        refine WO_nil ?_
                                                                        refine thn_normal ?_
                                                                        refine W_ret ?_
                                                                        refine inBlk_ret ?_
                                                                        refine thn_ret ?_
                                                                        refine bodyQ_ret1 Hvac.results197 rfl (.slice _ _ _) rfl ?_
                                                                        first
                                                                        | (subst ho5; exact ⟨(by repeat (first | assumption | exact Ext.refl _ | refine Ext.alloc ?_ _ | refine Ext.drew ?_ | refine Ext.setB ?_ (by first | omega | (simp only [size_alloc, size_setB, size_drew]; omega)) _ | refine Ext.trans ?_ (by assumption))), (_, _, _), rfl, (by first | exact NN.nil _ | assumption | exact NN.ext (by assumption) (by repeat (first | assumption | exact Ext.refl _ | refine Ext.alloc ?_ _ | refine Ext.drew ?_ | refine Ext.setB ?_ (by first | omega | (simp only [size_alloc, size_setB, size_drew]; omega)) _ | refine Ext.trans ?_ (by assumption))))⟩)
                                                                        | (refine ⟨(by repeat (first | assumption | exact Ext.refl _ | refine Ext.alloc ?_ _ | refine Ext.drew ?_ | refine Ext.setB ?_ (by first | omega | (simp only [size_alloc, size_setB, size_drew]; omega)) _ | refine Ext.trans ?_ (by assumption))), (_, _, _), rfl, ?_⟩
                                                                           refine NN.castY (by first | exact NN.nil _ | assumption | exact NN.ext (by assumption) (by repeat (first | assumption | exact Ext.refl _ | refine Ext.alloc ?_ _ | refine Ext.drew ?_ | refine Ext.setB ?_ (by first | omega | (simp only [size_alloc, size_setB, size_drew]; omega)) _ | refine Ext.trans ?_ (by assumption)))) ?_
                                                                           unfold ybare
                                                                           (repeat (first | rw [if_pos (by first | omega | assumption)] | rw [if_neg (by first | omega | assumption)]))
                                                                           all_goals rfl)
                                                                      · have hb73p := hb73.h; try simp only [al_ete, al_dfn, Bool.not_eq_true', Bool.not_eq_false', al_ne, Bool.not_not, al_nn] at hb73p
                                                                        refine W_seq ?_
                                                                        refine W_region rfl ?_
                                                                        refine WO_p (PS_move_int rfl) ?_
                                                                        refine WO_p (PS_eql rfl rfl) ?_
                                                                        refine WO_p (PS_assign_bool rfl) ?_
                                                                        refine WO_nil ?_
                                                                        refine thn_normal ?_
                                                                        refine W_if rfl (fun hb80 => ?_) (fun hb80 => ?_)
                                                                        · have hb80p := hb80.h; try simp only [al_ete, al_dfn, Bool.not_eq_true', Bool.not_eq_false', al_ne, Bool.not_not, al_nn] at hb80p
                                                                          exfalso; omega
                                                                        · have hb80p := hb80.h; try simp only [al_ete, al_dfn, Bool.not_eq_true', Bool.not_eq_false', al_ne, Bool.not_not, al_nn] at hb80p
                                                                          refine W_seq ?_
                                                                          refine W_region rfl ?_
                                                                          refine WO_p (PS_move_int rfl) ?_
                                                                          refine WO_p (PS_eql rfl rfl) ?_
                                                                          refine WO_p (PS_assign_bool rfl) ?_
                                                                          refine WO_nil ?_
                                                                          refine thn_normal ?_
                                                                          refine W_if rfl (fun hb82 => ?_) (fun hb82 => ?_)
                                                                          · have hb82p := hb82.h; try simp only [al_ete, al_dfn, Bool.not_eq_true', Bool.not_eq_false', al_ne, Bool.not_not, al_nn] at hb82p
                                                                            exfalso; omega
                                                                          · have hb82p := hb82.h; try simp only [al_ete, al_dfn, Bool.not_eq_true', Bool.not_eq_false', al_ne, Bool.not_not, al_nn] at hb82p
                                                                            refine W_seq ?_
                                                                            refine W_seq ?_
                                                                            refine W_region rfl ?_
                                                                            refine WO_p (PS_move_int rfl) ?_
                                                                            refine WO_p (PS_eql rfl rfl) ?_
                                                                            refine WO_p (PS_assign_bool rfl) ?_
                                                                            refine WO_nil ?_
                                                                            refine thn_normal ?_
                                                                            refine W_if rfl (fun hb84 => ?_) (fun hb84 => ?_)
                                                                            · have hb84p := hb84.h; try simp only [al_ete, al_dfn, Bool.not_eq_true', Bool.not_eq_false', al_ne, Bool.not_not, al_nn] at hb84p
                                                                              exfalso; omega
                                                                            · have hb84p := hb84.h; try simp only [al_ete, al_dfn, Bool.not_eq_true', Bool.not_eq_false', al_ne, Bool.not_not, al_nn] at hb84p
                                                                              refine W_region rfl ?_
                                                                              refine WO_p (PS_move_int rfl) ?_
                                                                              refine WO_p (PS_eql rfl rfl) ?_
                                                                              refine WO_p (PS_assign_bool rfl) ?_
                                                                              refine WO_nil ?_
                                                                              refine thn_normal ?_
                                                                              refine W_if rfl (fun hb86 => ?_) (fun hb86 => ?_)
                                                                              · have hb86p := hb86.h; try simp only [al_ete, al_dfn, Bool.not_eq_true', Bool.not_eq_false', al_ne, Bool.not_not, al_nn] at hb86p
                                                                                exfalso; omega
                                                                              · have hb86p := hb86.h; try simp only [al_ete, al_dfn, Bool.not_eq_true', Bool.not_eq_false', al_ne, Bool.not_not, al_nn] at hb86p
                                                                                refine W_seq ?_
                                                                                refine W_region rfl ?_
                                                                                refine WO_p (PS_move_int rfl) ?_
                                                                                refine WO_p (PS_eql rfl rfl) ?_
                                                                                refine WO_p (PS_assign_bool rfl) ?_
                                                                                refine WO_nil ?_
                                                                                refine thn_normal ?_
                                                                                refine W_if rfl (fun hb88 => ?_) (fun hb88 => ?_)
                                                                                · have hb88p := hb88.h; try simp only [al_ete, al_dfn, Bool.not_eq_true', Bool.not_eq_false', al_ne, Bool.not_not, al_nn] at hb88p
                                                                                  have ho5 : o = 255 := by omega
                                                                                  refine W_seq ?_
                                                                                  refine W_region rfl ?_
                                                                                  refine WO_p (PS_move_ptr rfl) ?_
                                                                                  refine WO_p (PS_move_ptr rfl) ?_
                                                                                  refine WO_call Hvac.call299 (by rfl) (Ret.mono (yDestroyCost_spec _ (OmB.ext hO (by repeat (first | assumption | exact Ext.refl _ | refine Ext.alloc ?_ _ | refine Ext.drew ?_ | refine Ext.setB ?_ (by first | omega | (simp only [size_alloc, size_setB, size_drew]; omega)) _ | exact Ext.trans (by assumption) (by assumption) | refine Ext.trans ?_ (by assumption)))) _ _ _ _ (by first | assumption | exact YSS.ext (by assumption) (by repeat (first | assumption | exact Ext.refl _ | refine Ext.alloc ?_ _ | refine Ext.drew ?_ | refine Ext.setB ?_ (by first | omega | (simp only [size_alloc, size_setB, size_drew]; omega)) _ | exact Ext.trans (by assumption) (by assumption) | refine Ext.trans ?_ (by assumption)))) hB hN _ _ _ _ (by first | assumption | exact FrS.ext (by assumption) (by repeat (first | assumption | exact Ext.refl _ | refine Ext.alloc ?_ _ | refine Ext.drew ?_ | refine Ext.setB ?_ (by first | omega | (simp only [size_alloc, size_setB, size_drew]; omega)) _ | exact Ext.trans (by assumption) (by assumption) | refine Ext.trans ?_ (by assumption)))) hP) ?_)
                                                                                  rintro _ w299_88 ⟨hE299_88, s299_88, rfl, hN299_88⟩
                                                                                  have hz299_88 := hE299_88.1
                                                                                  try simp only [size_alloc, size_setB, size_drew] at hz299_88
                                                                                  refine WO_p (PS_assign_slice rfl) ?_
                                                                                  refine WO_nil ?_
                                                                                  refine thn_normal ?_
                                                                                  refine W_ret ?_
                                                                                  refine inBlk_ret ?_
                                                                                  refine thn_ret ?_
                                                                                  refine bodyQ_ret1 Hvac.results197 rfl (.slice _ _ _) rfl ?_
                                                                                  first
                                                                                  | (subst ho5; exact ⟨(by repeat (first | assumption | exact Ext.refl _ | refine Ext.alloc ?_ _ | refine Ext.drew ?_ | refine Ext.setB ?_ (by first | omega | (simp only [size_alloc, size_setB, size_drew]; omega)) _ | refine Ext.trans ?_ (by assumption))), (_, _, _), rfl, (by first | exact NN.nil _ | assumption | exact NN.ext (by assumption) (by repeat (first | assumption | exact Ext.refl _ | refine Ext.alloc ?_ _ | refine Ext.drew ?_ | refine Ext.setB ?_ (by first | omega | (simp only [size_alloc, size_setB, size_drew]; omega)) _ | refine Ext.trans ?_ (by assumption))))⟩)
                                                                                  | (refine ⟨(by repeat (first | assumption | exact Ext.refl _ | refine Ext.alloc ?_ _ | refine Ext.drew ?_ | refine Ext.setB ?_ (by first | omega | (simp only [size_alloc, size_setB, size_drew]; omega)) _ | refine Ext.trans ?_ (by assumption))), (_, _, _), rfl, ?_⟩
                                                                                     refine NN.castY (by first | exact NN.nil _ | assumption | exact NN.ext (by assumption) (by repeat (first | assumption | exact Ext.refl _ | refine Ext.alloc ?_ _ | refine Ext.drew ?_ | refine Ext.setB ?_ (by first | omega | (simp only [size_alloc, size_setB, size_drew]; omega)) _ | refine Ext.trans ?_ (by assumption)))) ?_
                                                                                     unfold ybare
                                                                                     (repeat (first | rw [if_pos (by first | omega | assumption)] | rw [if_neg (by first | omega | assumption)]))
                                                                                     all_goals rfl)
                                                                                · have hb88p := hb88.h; try simp only [al_ete, al_dfn, Bool.not_eq_true', Bool.not_eq_false', al_ne, Bool.not_not, al_nn] at hb88p
                                                                                  refine W_seq ?_
                                                                                  refine W_region rfl ?_
                                                                                  refine WO_p (PS_move_int rfl) ?_
                                                                                  refine WO_call Hvac.call49 (by rfl) (Ret.mono (family_spec _ _ (by omega)) ?_)
                                                                                  rintro _ w49_89 ⟨hE49_89, rfl⟩
                                                                                  have hz49_89 := hE49_89.1
                                                                                  try simp only [size_alloc, size_setB, size_drew] at hz49_89
                                                                                  refine WO_p (PS_eql rfl rfl) ?_
                                                                                  refine WO_p (PS_assign_bool rfl) ?_
                                                                                  refine WO_nil ?_
                                                                                  refine thn_normal ?_
                                                                                  refine W_if rfl (fun hb92 => ?_) (fun hb92 => ?_)
                                                                                  · have hb92p := hb92.h; try simp only [al_ete, al_dfn, Bool.not_eq_true', Bool.not_eq_false', al_ne, Bool.not_not, al_nn] at hb92p
                                                                                    refine W_seq ?_
                                                                                    refine W_region rfl ?_
                                                                                    refine WO_p (PS_move_ptr rfl) ?_
                                                                                    refine WO_p (PS_move_ptr rfl) ?_
                                                                                    refine WO_p (PS_move_int rfl) ?_
                                                                                    refine WO_call Hvac.call300 (by rfl) (Ret.mono (yEnterCost_spec _ (OmB.ext hO (by repeat (first | assumption | exact Ext.refl _ | refine Ext.alloc ?_ _ | refine Ext.drew ?_ | refine Ext.setB ?_ (by first | omega | (simp only [size_alloc, size_setB, size_drew]; omega)) _ | exact Ext.trans (by assumption) (by assumption) | refine Ext.trans ?_ (by assumption)))) _ _ _ _ (by first | assumption | exact YSS.ext (by assumption) (by repeat (first | assumption | exact Ext.refl _ | refine Ext.alloc ?_ _ | refine Ext.drew ?_ | refine Ext.setB ?_ (by first | omega | (simp only [size_alloc, size_setB, size_drew]; omega)) _ | exact Ext.trans (by assumption) (by assumption) | refine Ext.trans ?_ (by assumption)))) hB hN _ _ _ _ (by first | assumption | exact FrS.ext (by assumption) (by repeat (first | assumption | exact Ext.refl _ | refine Ext.alloc ?_ _ | refine Ext.drew ?_ | refine Ext.setB ?_ (by first | omega | (simp only [size_alloc, size_setB, size_drew]; omega)) _ | exact Ext.trans (by assumption) (by assumption) | refine Ext.trans ?_ (by assumption)))) hP _ (by omega)) ?_)
                                                                                    rintro _ w300_92 ⟨hE300_92, s300_92, rfl, hN300_92⟩
                                                                                    have hz300_92 := hE300_92.1
                                                                                    try simp only [size_alloc, size_setB, size_drew] at hz300_92
                                                                                    refine WO_p (PS_assign_slice rfl) ?_
                                                                                    refine WO_nil ?_
                                                                                    refine thn_normal ?_
                                                                                    refine W_ret ?_
                                                                                    refine inBlk_ret ?_
                                                                                    refine thn_ret ?_
                                                                                    refine bodyQ_ret1 Hvac.results197 rfl (.slice _ _ _) rfl ?_
                                                                                    first
                                                                                    | (subst ho5; exact ⟨(by repeat (first | assumption | exact Ext.refl _ | refine Ext.alloc ?_ _ | refine Ext.drew ?_ | refine Ext.setB ?_ (by first | omega | (simp only [size_alloc, size_setB, size_drew]; omega)) _ | refine Ext.trans ?_ (by assumption))), (_, _, _), rfl, (by first | exact NN.nil _ | assumption | exact NN.ext (by assumption) (by repeat (first | assumption | exact Ext.refl _ | refine Ext.alloc ?_ _ | refine Ext.drew ?_ | refine Ext.setB ?_ (by first | omega | (simp only [size_alloc, size_setB, size_drew]; omega)) _ | refine Ext.trans ?_ (by assumption))))⟩)
                                                                                    | (refine ⟨(by repeat (first | assumption | exact Ext.refl _ | refine Ext.alloc ?_ _ | refine Ext.drew ?_ | refine Ext.setB ?_ (by first | omega | (simp only [size_alloc, size_setB, size_drew]; omega)) _ | refine Ext.trans ?_ (by assumption))), (_, _, _), rfl, ?_⟩
                                                                                       refine NN.castY (by first | exact NN.nil _ | assumption | exact NN.ext (by assumption) (by repeat (first | assumption | exact Ext.refl _ | refine Ext.alloc ?_ _ | refine Ext.drew ?_ | refine Ext.setB ?_ (by first | omega | (simp only [size_alloc, size_setB, size_drew]; omega)) _ | refine Ext.trans ?_ (by assumption)))) ?_
                                                                                       unfold ybare
                                                                                       (repeat (first | rw [if_pos (by first | omega | assumption)] | rw [if_neg (by first | omega | assumption)]))
                                                                                       all_goals rfl)
                                                                                  · have hb92p := hb92.h; try simp only [al_ete, al_dfn, Bool.not_eq_true', Bool.not_eq_false', al_ne, Bool.not_not, al_nn] at hb92p
                                                                                    refine W_skip ?_
                                                                                    refine inBlk_normal ?_
                                                                                    refine thn_normal ?_
                                                                                    refine W_seq ?_
                                                                                    refine W_region rfl ?_
                                                                                    refine WO_call Hvac.call19 (by rfl) (Ret.mono (nNum_spec (OmB.ext hO (by repeat (first | assumption | exact Ext.refl _ | refine Ext.alloc ?_ _ | refine Ext.drew ?_ | refine Ext.setB ?_ (by first | omega | (simp only [size_alloc, size_setB, size_drew]; omega)) _ | exact Ext.trans (by assumption) (by assumption) | refine Ext.trans ?_ (by assumption)))) ⟨by omega, by omega⟩) ?_)
                                                                                    rintro _ w19_93 ⟨hE19_93, s19_93, rfl, hN19_93, hs19_93⟩
                                                                                    have hz19_93 := hE19_93.1
                                                                                    try simp only [size_alloc, size_setB, size_drew] at hz19_93
                                                                                    try simp only [Int.toNat_natCast, toNat_lit] at hN19_93 hs19_93
                                                                                    refine WO_p (PS_assign_slice rfl) ?_
                                                                                    refine WO_nil ?_
                                                                                    refine thn_normal ?_
                                                                                    refine W_ret ?_
                                                                                    refine bodyQ_ret1 Hvac.results197 rfl (.slice _ _ _) rfl ?_
                                                                                    first
                                                                                    | (subst ho5; exact ⟨(by repeat (first | assumption | exact Ext.refl _ | refine Ext.alloc ?_ _ | refine Ext.drew ?_ | refine Ext.setB ?_ (by first | omega | (simp only [size_alloc, size_setB, size_drew]; omega)) _ | refine Ext.trans ?_ (by assumption))), (_, _, _), rfl, (by first | exact NN.nil _ | assumption | exact NN.ext (by assumption) (by repeat (first | assumption | exact Ext.refl _ | refine Ext.alloc ?_ _ | refine Ext.drew ?_ | refine Ext.setB ?_ (by first | omega | (simp only [size_alloc, size_setB, size_drew]; omega)) _ | refine Ext.trans ?_ (by assumption))))⟩)
                                                                                    | (refine ⟨(by repeat (first | assumption | exact Ext.refl _ | refine Ext.alloc ?_ _ | refine Ext.drew ?_ | refine Ext.setB ?_ (by first | omega | (simp only [size_alloc, size_setB, size_drew]; omega)) _ | refine Ext.trans ?_ (by assumption))), (_, _, _), rfl, ?_⟩
                                                                                       refine NN.castY (by first | exact NN.nil _ | assumption | exact NN.ext (by assumption) (by repeat (first | assumption | exact Ext.refl _ | refine Ext.alloc ?_ _ | refine Ext.drew ?_ | refine Ext.setB ?_ (by first | omega | (simp only [size_alloc, size_setB, size_drew]; omega)) _ | refine Ext.trans ?_ (by assumption)))) ?_
                                                                                       unfold ybare
                                                                                       (repeat (first | rw [if_pos (by first | omega | assumption)] | rw [if_neg (by first | omega | assumption)]))
                                                                                       all_goals rfl)
                                                                    · have hb71p := hb71.h; try simp only [al_ete, al_dfn, Bool.not_eq_true', Bool.not_eq_false', al_ne, Bool.not_not, al_nn] at hb71p
                                                                      exfalso; omega
                      · have hb23p := hb23.h; try simp only [al_ete, al_dfn, Bool.not_eq_true', Bool.not_eq_false', al_ne, Bool.not_not, al_nn] at hb23p
                        exfalso; omega
                · have hb17p := hb17.h; try simp only [al_ete, al_dfn, Bool.not_eq_true', Bool.not_eq_false', al_ne, Bool.not_not, al_nn] at hb17p
                  exfalso; omega
      · have hb7p := hb7.h; try simp only [al_ete, al_dfn, Bool.not_eq_true', Bool.not_eq_false', al_ne, Bool.not_not, al_nn] at hb7p
        exfalso; omega
  · have hb2p := hb2.h; try simp only [al_ete, al_dfn, Bool.not_eq_true', Bool.not_eq_false', al_ne, Bool.not_not, al_nn] at hb2p
    refine WO_guardF rfl rfl hb2.h ?_
    refine WO_guardF rfl rfl hb2.h ?_
    refine WO_p (PS_pickF rfl hb2.h rfl) ?_
    refine WO_p (PS_assign_bool rfl) ?_
    refine WO_nil ?_
    refine thn_normal ?_
    refine W_condF rfl rfl ?_
    refine W_seq ?_
    refine W_region rfl ?_
    refine WO_p (PS_move_int rfl) ?_
    refine WO_p (PS_geq rfl rfl) ?_
    refine WO_p (PS_move_bool rfl) ?_
    refine WO_if (t := 19) rfl (fun hb96 => ?_) (fun hb96 => ?_)
    · have hb96p := hb96.h; try simp only [al_ete, al_dfn, Bool.not_eq_true', Bool.not_eq_false', al_ne, Bool.not_not, al_nn] at hb96p
      refine WO_guardT rfl rfl hb96.h ?_
      refine WO_p (PS_move_int rfl) ?_
      refine WO_guardT rfl rfl hb96.h ?_
      refine WO_p (PS_leq rfl rfl) ?_
      refine WO_p (PS_pickT rfl hb96.h rfl) ?_
      refine WO_p (PS_assign_bool rfl) ?_
      refine WO_nil ?_
      refine thn_normal ?_
      refine W_if rfl (fun hb98 => ?_) (fun hb98 => ?_)
      · have hb98p := hb98.h; try simp only [al_ete, al_dfn, Bool.not_eq_true', Bool.not_eq_false', al_ne, Bool.not_not, al_nn] at hb98p
        refine W_skip ?_
        refine thn_normal ?_
        refine W_condT rfl hb98.h ?_
        refine W_seq ?_
        refine W_region rfl ?_
        refine WO_call Hvac.call19 (by rfl) (Ret.mono (nNum_spec (OmB.ext hO (by repeat (first | assumption | exact Ext.refl _ | refine Ext.alloc ?_ _ | refine Ext.drew ?_ | refine Ext.setB ?_ (by first | omega | (simp only [size_alloc, size_setB, size_drew]; omega)) _ | exact Ext.trans (by assumption) (by assumption) | refine Ext.trans ?_ (by assumption)))) ⟨by omega, by omega⟩) ?_)
        rintro _ w19_98 ⟨hE19_98, s19_98, rfl, hN19_98, hs19_98⟩
        have hz19_98 := hE19_98.1
        try simp only [size_alloc, size_setB, size_drew] at hz19_98
        try simp only [Int.toNat_natCast, toNat_lit] at hN19_98 hs19_98
        refine WO_p (PS_assign_slice rfl) ?_
        refine WO_nil ?_
        refine thn_normal ?_
        refine W_ret ?_
        refine inBlk_ret ?_
        refine thn_ret ?_
        refine bodyQ_ret1 Hvac.results197 rfl (.slice _ _ _) rfl ?_
        first
        | (subst ho5; exact ⟨(by repeat (first | assumption | exact Ext.refl _ | refine Ext.alloc ?_ _ | refine Ext.drew ?_ | refine Ext.setB ?_ (by first | omega | (simp only [size_alloc, size_setB, size_drew]; omega)) _ | refine Ext.trans ?_ (by assumption))), (_, _, _), rfl, (by first | exact NN.nil _ | assumption | exact NN.ext (by assumption) (by repeat (first | assumption | exact Ext.refl _ | refine Ext.alloc ?_ _ | refine Ext.drew ?_ | refine Ext.setB ?_ (by first | omega | (simp only [size_alloc, size_setB, size_drew]; omega)) _ | refine Ext.trans ?_ (by assumption))))⟩)
        | (refine ⟨(by repeat (first | assumption | exact Ext.refl _ | refine Ext.alloc ?_ _ | refine Ext.drew ?_ | refine Ext.setB ?_ (by first | omega | (simp only [size_alloc, size_setB, size_drew]; omega)) _ | refine Ext.trans ?_ (by assumption))), (_, _, _), rfl, ?_⟩
           refine NN.castY (by first | exact NN.nil _ | assumption | exact NN.ext (by assumption) (by repeat (first | assumption | exact Ext.refl _ | refine Ext.alloc ?_ _ | refine Ext.drew ?_ | refine Ext.setB ?_ (by first | omega | (simp only [size_alloc, size_setB, size_drew]; omega)) _ | refine Ext.trans ?_ (by assumption)))) ?_
           unfold ybare
           (repeat (first | rw [if_pos (by first | omega | assumption)] | rw [if_neg (by first | omega | assumption)]))
           all_goals rfl)
      · have hb98p := hb98.h; try simp only [al_ete, al_dfn, Bool.not_eq_true', Bool.not_eq_false', al_ne, Bool.not_not, al_nn] at hb98p
        refine W_seq ?_
        refine W_region rfl ?_
        refine WO_p (PS_move_int rfl) ?_
        refine WO_p (PS_eql rfl rfl) ?_
        refine WO_p (PS_assign_bool rfl) ?_
        refine WO_nil ?_
        refine thn_normal ?_
        refine W_if rfl (fun hb101 => ?_) (fun hb101 => ?_)
        · have hb101p := hb101.h; try simp only [al_ete, al_dfn, Bool.not_eq_true', Bool.not_eq_false', al_ne, Bool.not_not, al_nn] at hb101p
          exfalso; omega
        · have hb101p := hb101.h; try simp only [al_ete, al_dfn, Bool.not_eq_true', Bool.not_eq_false', al_ne, Bool.not_not, al_nn] at hb101p
          refine W_seq ?_
          refine W_region rfl ?_
          refine WO_p (PS_move_int rfl) ?_
          refine WO_p (PS_eql rfl rfl) ?_
          refine WO_p (PS_assign_bool rfl) ?_
          refine WO_nil ?_
          refine thn_normal ?_
          refine W_if rfl (fun hb103 => ?_) (fun hb103 => ?_)
          · have hb103p := hb103.h; try simp only [al_ete, al_dfn, Bool.not_eq_true', Bool.not_eq_false', al_ne, Bool.not_not, al_nn] at hb103p
            exfalso; omega
          · have hb103p := hb103.h; try simp only [al_ete, al_dfn, Bool.not_eq_true', Bool.not_eq_false', al_ne, Bool.not_not, al_nn] at hb103p
            refine W_seq ?_
            refine W_region rfl ?_
            refine WO_p (PS_move_int rfl) ?_
            refine WO_p (PS_eql rfl rfl) ?_
            refine WO_p (PS_assign_bool rfl) ?_
            refine WO_nil ?_
            refine thn_normal ?_
            refine W_if rfl (fun hb105 => ?_) (fun hb105 => ?_)
            · have hb105p := hb105.h; try simp only [al_ete, al_dfn, Bool.not_eq_true', Bool.not_eq_false', al_ne, Bool.not_not, al_nn] at hb105p
              have ho5 : o = 53 := by omega
              refine W_skip ?_
              refine thn_normal ?_
              refine W_condT rfl hb105.h ?_
              refine W_seq ?_
              refine W_region rfl ?_
              refine WO_call Hvac.call19 (by rfl) (Ret.mono (nNum_spec (OmB.ext hO (by repeat (first | assumption | exact Ext.refl _ | refine Ext.alloc ?_ _ | refine Ext.drew ?_ | refine Ext.setB ?_ (by first | omega | (simp only [size_alloc, size_setB, size_drew]; omega)) _ | exact Ext.trans (by assumption) (by assumption) | refine Ext.trans ?_ (by assumption)))) ⟨by omega, by omega⟩) ?_)
              rintro _ w19_105 ⟨hE19_105, s19_105, rfl, hN19_105, hs19_105⟩
              have hz19_105 := hE19_105.1
              try simp only [size_alloc, size_setB, size_drew] at hz19_105
              try simp only [Int.toNat_natCast, toNat_lit] at hN19_105 hs19_105
              refine WO_p (PS_assign_slice rfl) ?_
              refine WO_nil ?_
              refine thn_normal ?_
              refine W_ret ?_
              refine inBlk_ret ?_
              refine thn_ret ?_
              refine bodyQ_ret1 Hvac.results197 rfl (.slice _ _ _) rfl ?_
              first
              | (subst ho5; exact ⟨(by repeat (first | assumption | exact Ext.refl _ | refine Ext.alloc ?_ _ | refine Ext.drew ?_ | refine Ext.setB ?_ (by first | omega | (simp only [size_alloc, size_setB, size_drew]; omega)) _ | refine Ext.trans ?_ (by assumption))), (_, _, _), rfl, (by first | exact NN.nil _ | assumption | exact NN.ext (by assumption) (by repeat (first | assumption | exact Ext.refl _ | refine Ext.alloc ?_ _ | refine Ext.drew ?_ | refine Ext.setB ?_ (by first | omega | (simp only [size_alloc, size_setB, size_drew]; omega)) _ | refine Ext.trans ?_ (by assumption))))⟩)
              | (refine ⟨(by repeat (first | assumption | exact Ext.refl _ | refine Ext.alloc ?_ _ | refine Ext.drew ?_ | refine Ext.setB ?_ (by first | omega | (simp only [size_alloc, size_setB, size_drew]; omega)) _ | refine Ext.trans ?_ (by assumption))), (_, _, _), rfl, ?_⟩
                 refine NN.castY (by first | exact NN.nil _ | assumption | exact NN.ext (by assumption) (by repeat (first | assumption | exact Ext.refl _ | refine Ext.alloc ?_ _ | refine Ext.drew ?_ | refine Ext.setB ?_ (by first | omega | (simp only [size_alloc, size_setB, size_drew]; omega)) _ | refine Ext.trans ?_ (by assumption)))) ?_
                 unfold ybare
                 (repeat (first | rw [if_pos (by first | omega | assumption)] | rw [if_neg (by first | omega | assumption)]))
                 all_goals rfl)
            · have hb105p := hb105.h; try simp only [al_ete, al_dfn, Bool.not_eq_true', Bool.not_eq_false', al_ne, Bool.not_not, al_nn] at hb105p
              refine W_region rfl ?_
              refine WO_p (PS_move_int rfl) ?_
              refine WO_p (PS_geq rfl rfl) ?_
              refine WO_p (PS_move_bool rfl) ?_
              refine WO_if (t := 31) rfl (fun hb108 => ?_) (fun hb108 => ?_)
              · have hb108p := hb108.h; try simp only [al_ete, al_dfn, Bool.not_eq_true', Bool.not_eq_false', al_ne, Bool.not_not, al_nn] at hb108p
                refine WO_guardT rfl rfl hb108.h ?_
                refine WO_p (PS_move_int rfl) ?_
                refine WO_guardT rfl rfl hb108.h ?_
                refine WO_p (PS_leq rfl rfl) ?_
                refine WO_p (PS_pickT rfl hb108.h rfl) ?_
                refine WO_p (PS_assign_bool rfl) ?_
                refine WO_nil ?_
                refine thn_normal ?_
                refine W_if rfl (fun hb110 => ?_) (fun hb110 => ?_)
                · have hb110p := hb110.h; try simp only [al_ete, al_dfn, Bool.not_eq_true', Bool.not_eq_false', al_ne, Bool.not_not, al_nn] at hb110p
                  refine W_seq ?_
                  refine W_region rfl ?_
                  refine WO_call Hvac.call19 (by rfl) (Ret.mono (nNum_spec (OmB.ext hO (by repeat (first | assumption | exact Ext.refl _ | refine Ext.alloc ?_ _ | refine Ext.drew ?_ | refine Ext.setB ?_ (by first | omega | (simp only [size_alloc, size_setB, size_drew]; omega)) _ | exact Ext.trans (by assumption) (by assumption) | refine Ext.trans ?_ (by assumption)))) ⟨by omega, by omega⟩) ?_)
                  rintro _ w19_110 ⟨hE19_110, s19_110, rfl, hN19_110, hs19_110⟩
                  have hz19_110 := hE19_110.1
                  try simp only [size_alloc, size_setB, size_drew] at hz19_110
                  try simp only [Int.toNat_natCast, toNat_lit] at hN19_110 hs19_110
                  refine WO_p (PS_assign_slice rfl) ?_
                  refine WO_nil ?_
                  refine thn_normal ?_
                  refine W_ret ?_
                  refine inBlk_ret ?_
                  refine thn_ret ?_
                  refine bodyQ_ret1 Hvac.results197 rfl (.slice _ _ _) rfl ?_
                  first
                  | (subst ho5; exact ⟨(by repeat (first | assumption | exact Ext.refl _ | refine Ext.alloc ?_ _ | refine Ext.drew ?_ | refine Ext.setB ?_ (by first | omega | (simp only [size_alloc, size_setB, size_drew]; omega)) _ | refine Ext.trans ?_ (by assumption))), (_, _, _), rfl, (by first | exact NN.nil _ | assumption | exact NN.ext (by assumption) (by repeat (first | assumption | exact Ext.refl _ | refine Ext.alloc ?_ _ | refine Ext.drew ?_ | refine Ext.setB ?_ (by first | omega | (simp only [size_alloc, size_setB, size_drew]; omega)) _ | refine Ext.trans ?_ (by assumption))))⟩)
                  | (refine ⟨(by repeat (first | assumption | exact Ext.refl _ | refine Ext.alloc ?_ _ | refine Ext.drew ?_ | refine Ext.setB ?_ (by first | omega | (simp only [size_alloc, size_setB, size_drew]; omega)) _ | refine Ext.trans ?_ (by assumption))), (_, _, _), rfl, ?_⟩
                     refine NN.castY (by first | exact NN.nil _ | assumption | exact NN.ext (by assumption) (by repeat (first | assumption | exact Ext.refl _ | refine Ext.alloc ?_ _ | refine Ext.drew ?_ | refine Ext.setB ?_ (by first | omega | (simp only [size_alloc, size_setB, size_drew]; omega)) _ | refine Ext.trans ?_ (by assumption)))) ?_
                     unfold ybare
                     (repeat (first | rw [if_pos (by first | omega | assumption)] | rw [if_neg (by first | omega | assumption)]))
                     all_goals rfl)
                · have hb110p := hb110.h; try simp only [al_ete, al_dfn, Bool.not_eq_true', Bool.not_eq_false', al_ne, Bool.not_not, al_nn] at hb110p
                  refine W_seq ?_
                  refine W_seq ?_
                  refine W_region rfl ?_
                  refine WO_p (PS_move_int rfl) ?_
                  refine WO_p (PS_eql rfl rfl) ?_
                  refine WO_p (PS_assign_bool rfl) ?_
                  refine WO_nil ?_
                  refine thn_normal ?_
                  refine W_if rfl (fun hb113 => ?_) (fun hb113 => ?_)
                  · have hb113p := hb113.h; try simp only [al_ete, al_dfn, Bool.not_eq_true', Bool.not_eq_false', al_ne, Bool.not_not, al_nn] at hb113p
                    exfalso; omega
                  · have hb113p := hb113.h; try simp only [al_ete, al_dfn, Bool.not_eq_true', Bool.not_eq_false', al_ne, Bool.not_not, al_nn] at hb113p
                    refine W_seq ?_
                    refine W_region rfl ?_
                    refine WO_p (PS_move_int rfl) ?_
                    refine WO_p (PS_geq rfl rfl) ?_
                    refine WO_p (PS_move_bool rfl) ?_
                    refine WO_if (t := 41) rfl (fun hb115 => ?_) (fun hb115 => ?_)
                    · have hb115p := hb115.h; try simp only [al_ete, al_dfn, Bool.not_eq_true', Bool.not_eq_false', al_ne, Bool.not_not, al_nn] at hb115p
                      refine WO_guardT rfl rfl hb115.h ?_
                      refine WO_p (PS_move_int rfl) ?_
                      refine WO_guardT rfl rfl hb115.h ?_
                      refine WO_p (PS_leq rfl rfl) ?_
                      refine WO_p (PS_pickT rfl hb115.h rfl) ?_
                      refine WO_p (PS_assign_bool rfl) ?_
                      refine WO_nil ?_
                      refine thn_normal ?_
                      refine W_if rfl (fun hb117 => ?_) (fun hb117 => ?_)
                      · have hb117p := hb117.h; try simp only [al_ete, al_dfn, Bool.not_eq_true', Bool.not_eq_false', al_ne, Bool.not_not, al_nn] at hb117p
                        exfalso; omega
                      · have hb117p := hb117.h; try simp only [al_ete, al_dfn, Bool.not_eq_true', Bool.not_eq_false', al_ne, Bool.not_not, al_nn] at hb117p
                        refine W_seq ?_
                        refine W_region rfl ?_
                        refine WO_p (PS_move_int rfl) ?_
                        refine WO_p (PS_eql rfl rfl) ?_
                        refine WO_p (PS_assign_bool rfl) ?_
                        refine WO_nil ?_
                        refine thn_normal ?_
                        refine W_if rfl (fun hb119 => ?_) (fun hb119 => ?_)
                        · have hb119p := hb119.h; try simp only [al_ete, al_dfn, Bool.not_eq_true', Bool.not_eq_false', al_ne, Bool.not_not, al_nn] at hb119p
                          exfalso; omega
                        · have hb119p := hb119.h; try simp only [al_ete, al_dfn, Bool.not_eq_true', Bool.not_eq_false', al_ne, Bool.not_not, al_nn] at hb119p
                          refine W_region rfl ?_
                          refine WO_p (PS_move_int rfl) ?_
                          refine WO_p (PS_eql rfl rfl) ?_
                          refine WO_p (PS_assign_bool rfl) ?_
                          refine WO_nil ?_
                          refine thn_normal ?_
                          refine W_if rfl (fun hb121 => ?_) (fun hb121 => ?_)
                          · have hb121p := hb121.h; try simp only [al_ete, al_dfn, Bool.not_eq_true', Bool.not_eq_false', al_ne, Bool.not_not, al_nn] at hb121p
                            exfalso; omega
                          · have hb121p := hb121.h; try simp only [al_ete, al_dfn, Bool.not_eq_true', Bool.not_eq_false', al_ne, Bool.not_not, al_nn] at hb121p
                            refine W_seq ?_
                            refine W_seq ?_
                            refine W_region rfl ?_
                            refine WO_p (PS_move_int rfl) ?_
                            refine WO_p (PS_eql rfl rfl) ?_
                            refine WO_p (PS_assign_bool rfl) ?_
                            refine WO_nil ?_
                            refine thn_normal ?_
                            refine W_if rfl (fun hb123 => ?_) (fun hb123 => ?_)
                            · have hb123p := hb123.h; try simp only [al_ete, al_dfn, Bool.not_eq_true', Bool.not_eq_false', al_ne, Bool.not_not, al_nn] at hb123p
                              exfalso; omega
                            · have hb123p := hb123.h; try simp only [al_ete, al_dfn, Bool.not_eq_true', Bool.not_eq_false', al_ne, Bool.not_not, al_nn] at hb123p
                              refine W_seq ?_
                              refine W_region rfl ?_
                              refine WO_p (PS_move_int rfl) ?_
                              refine WO_p (PS_eql rfl rfl) ?_
                              refine WO_p (PS_assign_bool rfl) ?_
                              refine WO_nil ?_
                              refine thn_normal ?_
                              refine W_if rfl (fun hb125 => ?_) (fun hb125 => ?_)
                              · have hb125p := hb125.h; try simp only [al_ete, al_dfn, Bool.not_eq_true', Bool.not_eq_false', al_ne, Bool.not_not, al_nn] at hb125p
                                exfalso; omega
                              · have hb125p := hb125.h; try simp only [al_ete, al_dfn, Bool.not_eq_true', Bool.not_eq_false', al_ne, Bool.not_not, al_nn] at hb125p
                                refine W_region rfl ?_
                                refine WO_p (PS_move_int rfl) ?_
                                refine WO_p (PS_eql rfl rfl) ?_
                                refine WO_p (PS_assign_bool rfl) ?_
                                refine WO_nil ?_
                                refine thn_normal ?_
                                refine W_if rfl (fun hb127 => ?_) (fun hb127 => ?_)
                                · have hb127p := hb127.h; try simp only [al_ete, al_dfn, Bool.not_eq_true', Bool.not_eq_false', al_ne, Bool.not_not, al_nn] at hb127p
                                  have ho5 : o = 86 := by omega
                                  refine W_seq ?_
                                  refine W_region rfl ?_
                                  refine WO_call Hvac.call19 (by rfl) (Ret.mono (nNum_spec (OmB.ext hO (by repeat (first | assumption | exact Ext.refl _ | refine Ext.alloc ?_ _ | refine Ext.drew ?_ | refine Ext.setB ?_ (by first | omega | (simp only [size_alloc, size_setB, size_drew]; omega)) _ | exact Ext.trans (by assumption) (by assumption) | refine Ext.trans ?_ (by assumption)))) ⟨by omega, by omega⟩) ?_)
                                  rintro _ w19_127 ⟨hE19_127, s19_127, rfl, hN19_127, hs19_127⟩
                                  have hz19_127 := hE19_127.1
                                  try simp only [size_alloc, size_setB, size_drew] at hz19_127
                                  try simp only [Int.toNat_natCast, toNat_lit] at hN19_127 hs19_127
                                  refine WO_p (PS_assign_slice rfl) ?_
                                  refine WO_nil ?_
                                  refine thn_normal ?_
                                  refine W_ret ?_
                                  refine inBlk_ret ?_
                                  refine thn_ret ?_
                                  refine bodyQ_ret1 Hvac.results197 rfl (.slice _ _ _) rfl ?_
                                  first
                                  | (subst ho5; exact ⟨(by repeat (first | assumption | exact Ext.refl _ | refine Ext.alloc ?_ _ | refine Ext.drew ?_ | refine Ext.setB ?_ (by first | omega | (simp only [size_alloc, size_setB, size_drew]; omega)) _ | refine Ext.trans ?_ (by assumption))), (_, _, _), rfl, (by first | exact NN.nil _ | assumption | exact NN.ext (by assumption) (by repeat (first | assumption | exact Ext.refl _ | refine Ext.alloc ?_ _ | refine Ext.drew ?_ | refine Ext.setB ?_ (by first | omega | (simp only [size_alloc, size_setB, size_drew]; omega)) _ | refine Ext.trans ?_ (by assumption))))⟩)
                                  | (refine ⟨(by repeat (first | assumption | exact Ext.refl _ | refine Ext.alloc ?_ _ | refine Ext.drew ?_ | refine Ext.setB ?_ (by first | omega | (simp only [size_alloc, size_setB, size_drew]; omega)) _ | refine Ext.trans ?_ (by assumption))), (_, _, _), rfl, ?_⟩
                                     refine NN.castY (by first | exact NN.nil _ | assumption | exact NN.ext (by assumption) (by repeat (first | assumption | exact Ext.refl _ | refine Ext.alloc ?_ _ | refine Ext.drew ?_ | refine Ext.setB ?_ (by first | omega | (simp only [size_alloc, size_setB, size_drew]; omega)) _ | refine Ext.trans ?_ (by assumption)))) ?_
                                     unfold ybare
                                     (repeat (first | rw [if_pos (by first | omega | assumption)] | rw [if_neg (by first | omega | assumption)]))
                                     all_goals rfl)
                                · have hb127p := hb127.h; try simp only [al_ete, al_dfn, Bool.not_eq_true', Bool.not_eq_false', al_ne, Bool.not_not, al_nn] at hb127p
                                  refine W_seq ?_
                                  refine W_region rfl ?_
                                  refine WO_p (PS_move_int rfl) ?_
                                  refine WO_p (PS_eql rfl rfl) ?_
                                  refine WO_p (PS_assign_bool rfl) ?_
                                  refine WO_nil ?_
                                  refine thn_normal ?_
                                  refine W_if rfl (fun hb130 => ?_) (fun hb130 => ?_)
                                  · have hb130p := hb130.h; try simp only [al_ete, al_dfn, Bool.not_eq_true', Bool.not_eq_false', al_ne, Bool.not_not, al_nn] at hb130p
                                    have ho5 : o = 87 := by omega
                                    refine W_seq ?_
                                    refine W_region rfl ?_
                                    refine WO_call Hvac.call19 (by rfl) (Ret.mono (nNum_spec (OmB.ext hO (by repeat (first | assumption | exact Ext.refl _ | refine Ext.alloc ?_ _ | refine Ext.drew ?_ | refine Ext.setB ?_ (by first | omega | (simp only [size_alloc, size_setB, size_drew]; omega)) _ | exact Ext.trans (by assumption) (by assumption) | refine Ext.trans ?_ (by assumption)))) ⟨by omega, by omega⟩) ?_)
                                    rintro _ w19_130 ⟨hE19_130, s19_130, rfl, hN19_130, hs19_130⟩
                                    have hz19_130 := hE19_130.1
                                    try simp only [size_alloc, size_setB, size_drew] at hz19_130
                                    try simp only [Int.toNat_natCast, toNat_lit] at hN19_130 hs19_130
                                    refine WO_p (PS_assign_slice rfl) ?_
                                    refine WO_nil ?_
                                    refine thn_normal ?_
                                    refine W_ret ?_
                                    refine inBlk_ret ?_
                                    refine thn_ret ?_
                                    refine bodyQ_ret1 Hvac.results197 rfl (.slice _ _ _) rfl ?_
                                    first
                                    | (subst ho5; exact ⟨(by repeat (first | assumption | exact Ext.refl _ | refine Ext.alloc ?_ _ | refine Ext.drew ?_ | refine Ext.setB ?_ (by first | omega | (simp only [size_alloc, size_setB, size_drew]; omega)) _ | refine Ext.trans ?_ (by assumption))), (_, _, _), rfl, (by first | exact NN.nil _ | assumption | exact NN.ext (by assumption) (by repeat (first | assumption | exact Ext.refl _ | refine Ext.alloc ?_ _ | refine Ext.drew ?_ | refine Ext.setB ?_ (by first | omega | (simp only [size_alloc, size_setB, size_drew]; omega)) _ | refine Ext.trans ?_ (by assumption))))⟩)
                                    | (refine ⟨(by repeat (first | assumption | exact Ext.refl _ | refine Ext.alloc ?_ _ | refine Ext.drew ?_ | refine Ext.setB ?_ (by first | omega | (simp only [size_alloc, size_setB, size_drew]; omega)) _ | refine Ext.trans ?_ (by assumption))), (_, _, _), rfl, ?_⟩
                                       refine NN.castY (by first | exact NN.nil _ | assumption | exact NN.ext (by assumption) (by repeat (first | assumption | exact Ext.refl _ | refine Ext.alloc ?_ _ | refine Ext.drew ?_ | refine Ext.setB ?_ (by first | omega | (simp only [size_alloc, size_setB, size_drew]; omega)) _ | refine Ext.trans ?_ (by assumption)))) ?_
                                       unfold ybare
                                       (repeat (first | rw [if_pos (by first | omega | assumption)] | rw [if_neg (by first | omega | assumption)]))
                                       all_goals rfl)
                                  · have hb130p := hb130.h; try simp only [al_ete, al_dfn, Bool.not_eq_true', Bool.not_eq_false', al_ne, Bool.not_not, al_nn] at hb130p
                                    refine W_seq ?_
                                    refine W_region rfl ?_
                                    refine WO_p (PS_move_int rfl) ?_
                                    refine WO_p (PS_eql rfl rfl) ?_
                                    refine WO_p (PS_assign_bool rfl) ?_
                                    refine WO_nil ?_
                                    refine thn_normal ?_
                                    refine W_if rfl (fun hb133 => ?_) (fun hb133 => ?_)
                                    · have hb133p := hb133.h; try simp only [al_ete, al_dfn, Bool.not_eq_true', Bool.not_eq_false', al_ne, Bool.not_not, al_nn] at hb133p
                                      have ho5 : o = 91 := by omega
                                      refine W_seq ?_
                                      refine W_region rfl ?_
                                      refine WO_call Hvac.call19 (by rfl) (Ret.mono (nNum_spec (OmB.ext hO (by repeat (first | assumption | exact Ext.refl _ | refine Ext.alloc ?_ _ | refine Ext.drew ?_ | refine Ext.setB ?_ (by first | omega | (simp only [size_alloc, size_setB, size_drew]; omega)) _ | exact Ext.trans (by assumption) (by assumption) | refine Ext.trans ?_ (by assumption)))) ⟨by omega, by omega⟩) ?_)
                                      rintro _ w19_133 ⟨hE19_133, s19_133, rfl, hN19_133, hs19_133⟩
                                      have hz19_133 := hE19_133.1
                                      try simp only [size_alloc, size_setB, size_drew] at hz19_133
                                      try simp only [Int.toNat_natCast, toNat_lit] at hN19_133 hs19_133
                                      refine WO_p (PS_assign_slice rfl) ?_
                                      refine WO_nil ?_
                                      refine thn_normal ?_
                                      refine W_ret ?_
                                      refine inBlk_ret ?_
                                      refine thn_ret ?_
                                      refine bodyQ_ret1 Hvac.results197 rfl (.slice _ _ _) rfl ?_
                                      first
                                      | (subst ho5; exact ⟨(by repeat (first | assumption | exact Ext.refl _ | refine Ext.alloc ?_ _ | refine Ext.drew ?_ | refine Ext.setB ?_ (by first | omega | (simp only [size_alloc, size_setB, size_drew]; omega)) _ | refine Ext.trans ?_ (by assumption))), (_, _, _), rfl, (by first | exact NN.nil _ | assumption | exact NN.ext (by assumption) (by repeat (first | assumption | exact Ext.refl _ | refine Ext.alloc ?_ _ | refine Ext.drew ?_ | refine Ext.setB ?_ (by first | omega | (simp only [size_alloc, size_setB, size_drew]; omega)) _ | refine Ext.trans ?_ (by assumption))))⟩)
                                      | (refine ⟨(by repeat (first | assumption | exact Ext.refl _ | refine Ext.alloc ?_ _ | refine Ext.drew ?_ | refine Ext.setB ?_ (by first | omega | (simp only [size_alloc, size_setB, size_drew]; omega)) _ | refine Ext.trans ?_ (by assumption))), (_, _, _), rfl, ?_⟩
                                         refine NN.castY (by first | exact NN.nil _ | assumption | exact NN.ext (by assumption) (by repeat (first | assumption | exact Ext.refl _ | refine Ext.alloc ?_ _ | refine Ext.drew ?_ | refine Ext.setB ?_ (by first | omega | (simp only [size_alloc, size_setB, size_drew]; omega)) _ | refine Ext.trans ?_ (by assumption)))) ?_
                                         unfold ybare
                                         (repeat (first | rw [if_pos (by first | omega | assumption)] | rw [if_neg (by first | omega | assumption)]))
                                         all_goals rfl)
                                    · have hb133p := hb133.h; try simp only [al_ete, al_dfn, Bool.not_eq_true', Bool.not_eq_false', al_ne, Bool.not_not, al_nn] at hb133p
                                      refine W_seq ?_
                                      refine W_region rfl ?_
                                      refine WO_p (PS_move_int rfl) ?_
                                      refine WO_p (PS_eql rfl rfl) ?_
                                      refine WO_p (PS_assign_bool rfl) ?_
                                      refine WO_nil ?_
                                      refine thn_normal ?_
                                      refine W_if rfl (fun hb136 => ?_) (fun hb136 => ?_)
                                      · have hb136p := hb136.h; try simp only [al_ete, al_dfn, Bool.not_eq_true', Bool.not_eq_false', al_ne, Bool.not_not, al_nn] at hb136p
                                        exfalso; omega
                                      · have hb136p := hb136.h; try simp only [al_ete, al_dfn, Bool.not_eq_true', Bool.not_eq_false', al_ne, Bool.not_not, al_nn] at hb136p
                                        refine W_seq ?_
                                        refine W_seq ?_
                                        refine W_region rfl ?_
                                        refine WO_p (PS_move_int rfl) ?_
                                        refine WO_p (PS_eql rfl rfl) ?_
                                        refine WO_p (PS_assign_bool rfl) ?_
                                        refine WO_nil ?_
                                        refine thn_normal ?_
                                        refine W_if rfl (fun hb138 => ?_) (fun hb138 => ?_)
                                        · have hb138p := hb138.h; try simp only [al_ete, al_dfn, Bool.not_eq_true', Bool.not_eq_false', al_ne, Bool.not_not, al_nn] at hb138p
                                          exfalso; omega
                                        · have hb138p := hb138.h; try simp only [al_ete, al_dfn, Bool.not_eq_true', Bool.not_eq_false', al_ne, Bool.not_not, al_nn] at hb138p
                                          refine W_seq ?_
                                          refine W_region rfl ?_
                                          refine WO_p (PS_move_int rfl) ?_
                                          refine WO_p (PS_eql rfl rfl) ?_
                                          refine WO_p (PS_assign_bool rfl) ?_
                                          refine WO_nil ?_
                                          refine thn_normal ?_
                                          refine W_if rfl (fun hb140 => ?_) (fun hb140 => ?_)
                                          · have hb140p := hb140.h; try simp only [al_ete, al_dfn, Bool.not_eq_true', Bool.not_eq_false', al_ne, Bool.not_not, al_nn] at hb140p
                                            exfalso; omega
                                          · have hb140p := hb140.h; try simp only [al_ete, al_dfn, Bool.not_eq_true', Bool.not_eq_false', al_ne, Bool.not_not, al_nn] at hb140p
                                            refine W_region rfl ?_
                                            refine WO_p (PS_move_int rfl) ?_
                                            refine WO_p (PS_eql rfl rfl) ?_
                                            refine WO_p (PS_assign_bool rfl) ?_
                                            refine WO_nil ?_
                                            refine thn_normal ?_
                                            refine W_if rfl (fun hb142 => ?_) (fun hb142 => ?_)
                                            · have hb142p := hb142.h; try simp only [al_ete, al_dfn, Bool.not_eq_true', Bool.not_eq_false', al_ne, Bool.not_not, al_nn] at hb142p
                                              exfalso; omega
                                            · have hb142p := hb142.h; try simp only [al_ete, al_dfn, Bool.not_eq_true', Bool.not_eq_false', al_ne, Bool.not_not, al_nn] at hb142p
                                              refine W_seq ?_
                                              refine W_region rfl ?_
                                              refine WO_p (PS_move_int rfl) ?_
                                              refine WO_p (PS_eql rfl rfl) ?_
                                              refine WO_p (PS_assign_bool rfl) ?_
                                              refine WO_nil ?_
                                              refine thn_normal ?_
                                              refine W_if rfl (fun hb144 => ?_) (fun hb144 => ?_)
                                              · have hb144p := hb144.h; try simp only [al_ete, al_dfn, Bool.not_eq_true', Bool.not_eq_false', al_ne, Bool.not_not, al_nn] at hb144p
                                                exfalso; omega
                                              · have hb144p := hb144.h; try simp only [al_ete, al_dfn, Bool.not_eq_true', Bool.not_eq_false', al_ne, Bool.not_not, al_nn] at hb144p
                                                refine W_seq ?_
                                                refine W_region rfl ?_
                                                refine WO_p (PS_move_int rfl) ?_
                                                refine WO_p (PS_eql rfl rfl) ?_
                                                refine WO_p (PS_assign_bool rfl) ?_
                                                refine WO_nil ?_
                                                refine thn_normal ?_
                                                refine W_if rfl (fun hb146 => ?_) (fun hb146 => ?_)
                                                · have hb146p := hb146.h; try simp only [al_ete, al_dfn, Bool.not_eq_true', Bool.not_eq_false', al_ne, Bool.not_not, al_nn] at hb146p
                                                  exfalso; omega
                                                · have hb146p := hb146.h; try simp only [al_ete, al_dfn, Bool.not_eq_true', Bool.not_eq_false', al_ne, Bool.not_not, al_nn] at hb146p
                                                  refine W_seq ?_
                                                  refine W_seq ?_
                                                  refine W_region rfl ?_
                                                  refine WO_p (PS_move_int rfl) ?_
                                                  refine WO_p (PS_eql rfl rfl) ?_
                                                  refine WO_p (PS_assign_bool rfl) ?_
                                                  refine WO_nil ?_
                                                  refine thn_normal ?_
                                                  refine W_if rfl (fun hb148 => ?_) (fun hb148 => ?_)
                                                  · have hb148p := hb148.h; try simp only [al_ete, al_dfn, Bool.not_eq_true', Bool.not_eq_false', al_ne, Bool.not_not, al_nn] at hb148p
                                                    exfalso; omega
                                                  · have hb148p := hb148.h; try simp only [al_ete, al_dfn, Bool.not_eq_true', Bool.not_eq_false', al_ne, Bool.not_not, al_nn] at hb148p
                                                    refine W_seq ?_
                                                    refine W_region rfl ?_
                                                    refine WO_p (PS_move_int rfl) ?_
                                                    refine WO_p (PS_eql rfl rfl) ?_
                                                    refine WO_p (PS_assign_bool rfl) ?_
                                                    refine WO_nil ?_
                                                    refine thn_normal ?_
                                                    refine W_if rfl (fun hb150 => ?_) (fun hb150 => ?_)
                                                    · have hb150p := hb150.h; try simp only [al_ete, al_dfn, Bool.not_eq_true', Bool.not_eq_false', al_ne, Bool.not_not, al_nn] at hb150p
                                                      exfalso; omega
                                                    · have hb150p := hb150.h; try simp only [al_ete, al_dfn, Bool.not_eq_true', Bool.not_eq_false', al_ne, Bool.not_not, al_nn] at hb150p
                                                      refine W_seq ?_
                                                      refine W_region rfl ?_
                                                      refine WO_p (PS_move_int rfl) ?_
                                                      refine WO_p (PS_eql rfl rfl) ?_
                                                      refine WO_p (PS_assign_bool rfl) ?_
                                                      refine WO_nil ?_
                                                      refine thn_normal ?_
                                                      refine W_if rfl (fun hb152 => ?_) (fun hb152 => ?_)
                                                      · have hb152p := hb152.h; try simp only [al_ete, al_dfn, Bool.not_eq_true', Bool.not_eq_false', al_ne, Bool.not_not, al_nn] at hb152p
                                                        exfalso; omega
                                                      · have hb152p := hb152.h; try simp only [al_ete, al_dfn, Bool.not_eq_true', Bool.not_eq_false', al_ne, Bool.not_not, al_nn] at hb152p
                                                        refine W_region rfl ?_
                                                        refine WO_p (PS_move_int rfl) ?_
                                                        refine WO_p (PS_eql rfl rfl) ?_
                                                        refine WO_p (PS_assign_bool rfl) ?_
                                                        refine WO_nil ?_
                                                        refine thn_normal ?_
                                                        refine W_if rfl (fun hb154 => ?_) (fun hb154 => ?_)
                                                        · have hb154p := hb154.h; try simp only [al_ete, al_dfn, Bool.not_eq_true', Bool.not_eq_false', al_ne, Bool.not_not, al_nn] at hb154p
                                                          have ho5 : o = 94 := by omega
                                                          refine W_seq ?_
                                                          refine W_region rfl ?_
                                                          refine WO_call Hvac.call19 (by rfl) (Ret.mono (nNum_spec (OmB.ext hO (by repeat (first | assumption | exact Ext.refl _ | refine Ext.alloc ?_ _ | refine Ext.drew ?_ | refine Ext.setB ?_ (by first | omega | (simp only [size_alloc, size_setB, size_drew]; omega)) _ | exact Ext.trans (by assumption) (by assumption) | refine Ext.trans ?_ (by assumption)))) ⟨by omega, by omega⟩) ?_)
                                                          rintro _ w19_154 ⟨hE19_154, s19_154, rfl, hN19_154, hs19_154⟩
                                                          have hz19_154 := hE19_154.1
                                                          try simp only [size_alloc, size_setB, size_drew] at hz19_154
                                                          try simp only [Int.toNat_natCast, toNat_lit] at hN19_154 hs19_154
                                                          refine WO_p (PS_move_ptr rfl) ?_
                                                          refine WO_call Hvac.call47 (by rfl) (Ret.mono (yArg_spec _ (OmB.ext hO (by repeat (first | assumption | exact Ext.refl _ | refine Ext.alloc ?_ _ | refine Ext.drew ?_ | refine Ext.setB ?_ (by first | omega | (simp only [size_alloc, size_setB, size_drew]; omega)) _ | exact Ext.trans (by assumption) (by assumption) | refine Ext.trans ?_ (by assumption)))) _ _ _ _ (by first | assumption | exact FrS.ext (by assumption) (by repeat (first | assumption | exact Ext.refl _ | refine Ext.alloc ?_ _ | refine Ext.drew ?_ | refine Ext.setB ?_ (by first | omega | (simp only [size_alloc, size_setB, size_drew]; omega)) _ | exact Ext.trans (by assumption) (by assumption) | refine Ext.trans ?_ (by assumption)))) hP _ (by decide)) ?_)
                                                          rintro _ w47_155 ⟨hE47_155, s47_155, rfl, hN47_155, hs47_155⟩
                                                          have hz47_155 := hE47_155.1
                                                          try simp only [size_alloc, size_setB, size_drew] at hz47_155
                                                          refine WO_call Hvac.call296 (by rfl) (Ret.mono (copyCost_spec2 _ (OmB.ext hO (by repeat (first | assumption | exact Ext.refl _ | refine Ext.alloc ?_ _ | refine Ext.drew ?_ | refine Ext.setB ?_ (by first | omega | (simp only [size_alloc, size_setB, size_drew]; omega)) _ | exact Ext.trans (by assumption) (by assumption) | refine Ext.trans ?_ (by assumption)))) _ _ _ _ (by first | exact NN.nil _ | assumption | exact NN.ext (by assumption) (by repeat (first | assumption | exact Ext.refl _ | refine Ext.alloc ?_ _ | refine Ext.drew ?_ | refine Ext.setB ?_ (by first | omega | (simp only [size_alloc, size_setB, size_drew]; omega)) _ | exact Ext.trans (by assumption) (by assumption) | refine Ext.trans ?_ (by assumption)))) (by first | assumption | omega | (rw [sz_zero]; omega))) ?_)
                                                          rintro _ w296_156 ⟨hE296_156, s296_156, rfl, hN296_156⟩
                                                          have hz296_156 := hE296_156.1
                                                          try simp only [size_alloc, size_setB, size_drew] at hz296_156
                                                          have hs296_156 := hN296_156.z_copy
                                                          refine WO_call Hvac.call24 (by rfl) (Ret.mono (nAdd_spec (OmB.ext hO (by repeat (first | assumption | exact Ext.refl _ | refine Ext.alloc ?_ _ | refine Ext.drew ?_ | refine Ext.setB ?_ (by first | omega | (simp only [size_alloc, size_setB, size_drew]; omega)) _ | exact Ext.trans (by assumption) (by assumption) | refine Ext.trans ?_ (by assumption)))) (by first | exact NN.nil _ | assumption | exact NN.ext (by assumption) (by repeat (first | assumption | exact Ext.refl _ | refine Ext.alloc ?_ _ | refine Ext.drew ?_ | refine Ext.setB ?_ (by first | omega | (simp only [size_alloc, size_setB, size_drew]; omega)) _ | exact Ext.trans (by assumption) (by assumption) | refine Ext.trans ?_ (by assumption)))) (by first | exact NN.nil _ | assumption | exact NN.ext (by assumption) (by repeat (first | assumption | exact Ext.refl _ | refine Ext.alloc ?_ _ | refine Ext.drew ?_ | refine Ext.setB ?_ (by first | omega | (simp only [size_alloc, size_setB, size_drew]; omega)) _ | exact Ext.trans (by assumption) (by assumption) | refine Ext.trans ?_ (by assumption)))) (by first | assumption | omega | (rw [sz_zero]; omega)) (by first | assumption | omega | (rw [sz_zero]; omega))) ?_)
                                                          rintro _ w24_157 ⟨hE24_157, s24_157, rfl, hN24_157⟩
                                                          have hz24_157 := hE24_157.1
                                                          try simp only [size_alloc, size_setB, size_drew] at hz24_157
                                                          have hs24_157 := hN24_157.z_add
                                                          refine WO_p (PS_assign_slice rfl) ?_
                                                          refine WO_nil ?_
                                                          refine thn_normal ?_
                                                          refine W_ret ?_
                                                          refine inBlk_ret ?_
                                                          refine thn_ret ?_
                                                          refine bodyQ_ret1 Hvac.results197 rfl (.slice _ _ _) rfl ?_
                                                          first
                                                          | (subst ho5; exact ⟨(by repeat (first | assumption | exact Ext.refl _ | refine Ext.alloc ?_ _ | refine Ext.drew ?_ | refine Ext.setB ?_ (by first | omega | (simp only [size_alloc, size_setB, size_drew]; omega)) _ | refine Ext.trans ?_ (by assumption))), (_, _, _), rfl, (by first | exact NN.nil _ | assumption | exact NN.ext (by assumption) (by repeat (first | assumption | exact Ext.refl _ | refine Ext.alloc ?_ _ | refine Ext.drew ?_ | refine Ext.setB ?_ (by first | omega | (simp only [size_alloc, size_setB, size_drew]; omega)) _ | refine Ext.trans ?_ (by assumption))))⟩)
                                                          | (refine ⟨(by repeat (first | assumption | exact Ext.refl _ | refine Ext.alloc ?_ _ | refine Ext.drew ?_ | refine Ext.setB ?_ (by first | omega | (simp only [size_alloc, size_setB, size_drew]; omega)) _ | refine Ext.trans ?_ (by assumption))), (_, _, _), rfl, ?_⟩
                                                             refine NN.castY (by first | exact NN.nil _ | assumption | exact NN.ext (by assumption) (by repeat (first | assumption | exact Ext.refl _ | refine Ext.alloc ?_ _ | refine Ext.drew ?_ | refine Ext.setB ?_ (by first | omega | (simp only [size_alloc, size_setB, size_drew]; omega)) _ | refine Ext.trans ?_ (by assumption)))) ?_
                                                             unfold ybare
                                                             (repeat (first | rw [if_pos (by first | omega | assumption)] | rw [if_neg (by first | omega | assumption)]))
                                                             all_goals rfl)
                                                        · have hb154p := hb154.h; try simp only [al_ete, al_dfn, Bool.not_eq_true', Bool.not_eq_false', al_ne, Bool.not_not, al_nn] at hb154p
                                                          refine W_seq ?_
                                                          refine W_seq ?_
                                                          refine W_region rfl ?_
                                                          refine WO_p (PS_move_int rfl) ?_
                                                          refine WO_p (PS_eql rfl rfl) ?_
                                                          refine WO_p (PS_assign_bool rfl) ?_
                                                          refine WO_nil ?_
                                                          refine thn_normal ?_
                                                          refine W_if rfl (fun hb160 => ?_) (fun hb160 => ?_)
                                                          · have hb160p := hb160.h; try simp only [al_ete, al_dfn, Bool.not_eq_true', Bool.not_eq_false', al_ne, Bool.not_not, al_nn] at hb160p
                                                            exfalso; omega
                                                          · have hb160p := hb160.h; try simp only [al_ete, al_dfn, Bool.not_eq_true', Bool.not_eq_false', al_ne, Bool.not_not, al_nn] at hb160p
                                                            refine W_seq ?_
                                                            refine W_region rfl ?_
                                                            refine WO_p (PS_move_int rfl) ?_
                                                            refine WO_p (PS_eql rfl rfl) ?_
                                                            refine WO_p (PS_assign_bool rfl) ?_
                                                            refine WO_nil ?_
                                                            refine thn_normal ?_
                                                            refine W_if rfl (fun hb162 => ?_) (fun hb162 => ?_)
                                                            · have hb162p := hb162.h; try simp only [al_ete, al_dfn, Bool.not_eq_true', Bool.not_eq_false', al_ne, Bool.not_not, al_nn] at hb162p
                                                              exfalso; omega
                                                            · have hb162p := hb162.h; try simp only [al_ete, al_dfn, Bool.not_eq_true', Bool.not_eq_false', al_ne, Bool.not_not, al_nn] at hb162p
                                                              refine W_region rfl ?_
                                                              refine WO_p (PS_move_int rfl) ?_
                                                              refine WO_p (PS_eql rfl rfl) ?_
                                                              refine WO_p (PS_assign_bool rfl) ?_
                                                              refine WO_nil ?_
                                                              refine thn_normal ?_
                                                              refine W_if rfl (fun hb164 => ?_) (fun hb164 => ?_)
                                                              · have hb164p := hb164.h; try simp only [al_ete, al_dfn, Bool.not_eq_true', Bool.not_eq_false', al_ne, Bool.not_not, al_nn] at hb164p
                                                                exfalso; omega
                                                              · have hb164p := hb164.h; try simp only [al_ete, al_dfn, Bool.not_eq_true', Bool.not_eq_false', al_ne, Bool.not_not, al_nn] at hb164p
                                                                refine W_seq ?_
                                                                refine W_region rfl ?_
                                                                refine WO_p (PS_move_int rfl) ?_
                                                                refine WO_p (PS_eql rfl rfl) ?_
                                                                refine WO_p (PS_assign_bool rfl) ?_
                                                                refine WO_nil ?_
                                                                refine thn_normal ?_
                                                                refine W_if rfl (fun hb166 => ?_) (fun hb166 => ?_)
                                                                · have hb166p := hb166.h; try simp only [al_ete, al_dfn, Bool.not_eq_true', Bool.not_eq_false', al_ne, Bool.not_not, al_nn] at hb166p
                                                                  exfalso; omega
                                                                · have hb166p := hb166.h; try simp only [al_ete, al_dfn, Bool.not_eq_true', Bool.not_eq_false', al_ne, Bool.not_not, al_nn] at hb166p
                                                                  refine W_seq ?_
                                                                  refine W_region rfl ?_
                                                                  refine WO_p (PS_move_int rfl) ?_
                                                                  refine WO_p (PS_geq rfl rfl) ?_
                                                                  refine WO_p (PS_move_bool rfl) ?_
                                                                  refine WO_if (t := 139) rfl (fun hb168 => ?_) (fun hb168 => ?_)
                                                                  · have hb168p := hb168.h; try simp only [al_ete, al_dfn, Bool.not_eq_true', Bool.not_eq_false', al_ne, Bool.not_not, al_nn] at hb168p
                                                                    exfalso; omega
                                                                  · have hb168p := hb168.h; try simp only [al_ete, al_dfn, Bool.not_eq_true', Bool.not_eq_false', al_ne, Bool.not_not, al_nn] at hb168p
                                                                    refine WO_guardF rfl rfl hb168.h ?_
                                                                    refine WO_guardF rfl rfl hb168.h ?_
                                                                    refine WO_p (PS_pickF rfl hb168.h rfl) ?_
                                                                    refine WO_p (PS_assign_bool rfl) ?_
                                                                    refine WO_nil ?_
                                                                    refine thn_normal ?_
                                                                    refine W_condF rfl rfl ?_
                                                                    refine W_seq ?_
                                                                    refine W_region rfl ?_
                                                                    refine WO_p (PS_move_int rfl) ?_
                                                                    refine WO_p (PS_eql rfl rfl) ?_
                                                                    refine WO_p (PS_assign_bool rfl) ?_
                                                                    refine WO_nil ?_
                                                                    refine thn_normal ?_
                                                                    refine W_if rfl (fun hb170 => ?_) (fun hb170 => ?_)
                                                                    · have hb170p := hb170.h; try simp only [al_ete, al_dfn, Bool.not_eq_true', Bool.not_eq_false', al_ne, Bool.not_not, al_nn] at hb170p
                                                                      have ho5 : o = 84 := by omega
                                                                      refine W_seq ?_
                                                                      refine W_seq ?_
                                                                      refine W_drawE [false, false, false, false, false, false, false, false, true, false] hmix (by kernel_rfl) rfl ?_
                                                                      refine WH_p (PS_move_ptr rfl) rfl ?_
                                                                      refine WH_p (PS_nilCheck rfl) rfl ?_
                                                                      refine WH_p (PS_fieldAddr 0 Hvac.runUnderlying99 rfl Hvac.sizeOf95 rfl rfl) rfl ?_
                                                                      refine WH_p (PS_move_ptr rfl) rfl ?_
                                                                      refine WH_p (PS_nilCheck rfl) rfl ?_
                                                                      refine WH_p (PS_fieldAddr 12 Hvac.runUnderlying121 rfl Hvac.sizeOf25 rfl rfl) rfl ?_
                                                                      refine WH_loadA _ Hvac.isAgg25 Hvac.sizeOf25 rfl (Hb.h (by repeat (first | assumption | exact Hb.newY _ _ | refine Hb.alloc ?_ | refine Hb.drew ?_ | refine Hb.ext (by assumption) ?_ | exact Hb.setSameL (by first | omega | (simp only [size_alloc, size_setB, size_drew]; omega)) | exact Hb.setSame (by assumption) | refine Hb.set (by first | omega | (simp only [size_alloc, size_setB, size_drew]; omega)) ?_ ))) (by first | omega | assumption | rfl | decide | exact Nat.le_refl _ | (simp only [size_ic, Value.cells]; omega) | (simp [encWs]; done) | (simp; omega) | simp | exact encYA_sz (by assumption) | exact encYT_sz (by assumption) | exact encYM_sz (by assumption)) (Xt.h (by first | assumption | exact Xt.whole rfl rfl | exact Xt.whole rfl (by assumption) | exact Xt.whole rfl (by simp only [size_ic, Value.cells]; omega) | exact ⟨rfl⟩)) ?_
                                                                      refine WH_p (PS_move_ptr rfl) rfl ?_
                                                                      refine WH_call Hvac.call47 (by rfl) (Ret.mono (yArg_spec _ (OmB.ext hO (by repeat (first | assumption | exact Ext.refl _ | refine Ext.alloc ?_ _ | refine Ext.drew ?_ | refine Ext.setB ?_ (by first | omega | (simp only [size_alloc, size_setB, size_drew]; omega)) _ | exact Ext.trans (by assumption) (by assumption) | refine Ext.trans ?_ (by assumption)))) _ _ _ _ (by first | assumption | exact FrS.ext (by assumption) (by repeat (first | assumption | exact Ext.refl _ | refine Ext.alloc ?_ _ | refine Ext.drew ?_ | refine Ext.setB ?_ (by first | omega | (simp only [size_alloc, size_setB, size_drew]; omega)) _ | exact Ext.trans (by assumption) (by assumption) | refine Ext.trans ?_ (by assumption)))) hP _ (by decide)) ?_)
                                                                      rintro _ w47_170 ⟨hE47_170, s47_170, rfl, hN47_170, hs47_170⟩
                                                                      refine ⟨fun _ => (by repeat (first | assumption | exact Ext.refl _ | refine Ext.alloc ?_ _ | refine Ext.drew ?_ | refine Ext.setB ?_ (by first | omega | (simp only [size_alloc, size_setB, size_drew]; omega)) _ | exact Ext.trans (by assumption) (by assumption) | refine Ext.trans ?_ (by assumption))), ?_⟩
                                                                      have hz47_170 := hE47_170.1
                                                                      try simp only [size_alloc, size_setB, size_drew] at hz47_170
                                                                      refine WH_call Hvac.call89 (by rfl) (Ret.mono (isWarmSlotS (OmB.ext hO (by repeat (first | assumption | exact Ext.refl _ | refine Ext.alloc ?_ _ | refine Ext.drew ?_ | refine Ext.setB ?_ (by first | omega | (simp only [size_alloc, size_setB, size_drew]; omega)) _ | exact Ext.trans (by assumption) (by assumption) | refine Ext.trans ?_ (by assumption)))) (by first | assumption | exact YSS.ext (by assumption) (by repeat (first | assumption | exact Ext.refl _ | refine Ext.alloc ?_ _ | refine Ext.drew ?_ | refine Ext.setB ?_ (by first | omega | (simp only [size_alloc, size_setB, size_drew]; omega)) _ | exact Ext.trans (by assumption) (by assumption) | refine Ext.trans ?_ (by assumption)))) hB hN (by first | assumption | exact hFR.sb | exact yaddr_by _) (by first | exact NN.nil _ | assumption | exact NN.ext (by assumption) (by repeat (first | assumption | exact Ext.refl _ | refine Ext.alloc ?_ _ | refine Ext.drew ?_ | refine Ext.setB ?_ (by first | omega | (simp only [size_alloc, size_setB, size_drew]; omega)) _ | exact Ext.trans (by assumption) (by assumption) | refine Ext.trans ?_ (by assumption)))) (by first | assumption | omega | (rw [sz_zero]; omega))) ?_)
                                                                      rintro _ w89_171 ⟨hE89_171, rfl⟩
                                                                      refine ⟨(fun h => by cases h), ?_⟩
                                                                      have hz89_171 := hE89_171.1
                                                                      try simp only [size_alloc, size_setB, size_drew] at hz89_171
                                                                      refine WH_nil ?_
                                                                      refine thn_normal ?_
                                                                      refine W_if rfl (fun hb173 => ?_) (fun hb173 => ?_)
                                                                      · have hb173p := hb173.h; try simp only [al_ete, al_dfn, Bool.not_eq_true', Bool.not_eq_false', al_ne, Bool.not_not, al_nn] at hb173p
                                                                        refine W_seq ?_
                                                                        refine W_region rfl ?_
                                                                        refine WO_call Hvac.call19 (by rfl) (Ret.mono (nNum_spec (OmB.ext hO (by repeat (first | assumption | exact Ext.refl _ | refine Ext.alloc ?_ _ | refine Ext.drew ?_ | refine Ext.setB ?_ (by first | omega | (simp only [size_alloc, size_setB, size_drew]; omega)) _ | exact Ext.trans (by assumption) (by assumption) | refine Ext.trans ?_ (by assumption)))) ⟨by omega, by omega⟩) ?_)
                                                                        rintro _ w19_173 ⟨hE19_173, s19_173, rfl, hN19_173, hs19_173⟩
                                                                        have hz19_173 := hE19_173.1
                                                                        try simp only [size_alloc, size_setB, size_drew] at hz19_173
                                                                        try simp only [Int.toNat_natCast, toNat_lit] at hN19_173 hs19_173
                                                                        refine WO_p (PS_assign_slice rfl) ?_
                                                                        refine WO_nil ?_
                                                                        refine thn_normal ?_
                                                                        refine W_ret ?_
                                                                        refine thn_ret ?_
                                                                        refine inBlk_ret ?_
                                                                        refine thn_ret ?_
                                                                        refine bodyQ_ret1 Hvac.results197 rfl (.slice _ _ _) rfl ?_
                                                                        first
                                                                        | (subst ho5; exact ⟨(by repeat (first | assumption | exact Ext.refl _ | refine Ext.alloc ?_ _ | refine Ext.drew ?_ | refine Ext.setB ?_ (by first | omega | (simp only [size_alloc, size_setB, size_drew]; omega)) _ | refine Ext.trans ?_ (by assumption))), (_, _, _), rfl, (by first | exact NN.nil _ | assumption | exact NN.ext (by assumption) (by repeat (first | assumption | exact Ext.refl _ | refine Ext.alloc ?_ _ | refine Ext.drew ?_ | refine Ext.setB ?_ (by first | omega | (simp only [size_alloc, size_setB, size_drew]; omega)) _ | refine Ext.trans ?_ (by assumption))))⟩)
                                                                        | (refine ⟨(by repeat (first | assumption | exact Ext.refl _ | refine Ext.alloc ?_ _ | refine Ext.drew ?_ | refine Ext.setB ?_ (by first | omega | (simp only [size_alloc, size_setB, size_drew]; omega)) _ | refine Ext.trans ?_ (by assumption))), (_, _, _), rfl, ?_⟩
                                                                           refine NN.castY (by first | exact NN.nil _ | assumption | exact NN.ext (by assumption) (by repeat (first | assumption | exact Ext.refl _ | refine Ext.alloc ?_ _ | refine Ext.drew ?_ | refine Ext.setB ?_ (by first | omega | (simp only [size_alloc, size_setB, size_drew]; omega)) _ | refine Ext.trans ?_ (by assumption)))) ?_
                                                                           unfold ybare
                                                                           (repeat (first | rw [if_pos (by first | omega | assumption)] | rw [if_neg (by first | omega | assumption)]))
                                                                           all_goals rfl)
                                                                      · have hb173p := hb173.h; try simp only [al_ete, al_dfn, Bool.not_eq_true', Bool.not_eq_false', al_ne, Bool.not_not, al_nn] at hb173p
                                                                        refine W_skip ?_
                                                                        refine thn_normal ?_
                                                                        refine W_seq ?_
                                                                        refine W_region rfl ?_
                                                                        refine WO_call Hvac.call19 (by rfl) (Ret.mono (nNum_spec (OmB.ext hO (by repeat (first | assumption | exact Ext.refl _ | refine Ext.alloc ?_ _ | refine Ext.drew ?_ | refine Ext.setB ?_ (by first | omega | (simp only [size_alloc, size_setB, size_drew]; omega)) _ | exact Ext.trans (by assumption) (by assumption) | refine Ext.trans ?_ (by assumption)))) ⟨by omega, by omega⟩) ?_)
                                                                        rintro _ w19_174 ⟨hE19_174, s19_174, rfl, hN19_174, hs19_174⟩
                                                                        have hz19_174 := hE19_174.1
                                                                        try simp only [size_alloc, size_setB, size_drew] at hz19_174
                                                                        try simp only [Int.toNat_natCast, toNat_lit] at hN19_174 hs19_174
                                                                        refine WO_p (PS_assign_slice rfl) ?_
                                                                        refine WO_nil ?_
                                                                        refine thn_normal ?_
                                                                        refine W_ret ?_
                                                                        refine inBlk_ret ?_
                                                                        refine thn_ret ?_
                                                                        refine bodyQ_ret1 Hvac.results197 rfl (.slice _ _ _) rfl ?_
                                                                        first
                                                                        | (subst ho5; exact ⟨(by repeat (first | assumption | exact Ext.refl _ | refine Ext.alloc ?_ _ | refine Ext.drew ?_ | refine Ext.setB ?_ (by first | omega | (simp only [size_alloc, size_setB, size_drew]; omega)) _ | refine Ext.trans ?_ (by assumption))), (_, _, _), rfl, (by first | exact NN.nil _ | assumption | exact NN.ext (by assumption) (by repeat (first | assumption | exact Ext.refl _ | refine Ext.alloc ?_ _ | refine Ext.drew ?_ | refine Ext.setB ?_ (by first | omega | (simp only [size_alloc, size_setB, size_drew]; omega)) _ | refine Ext.trans ?_ (by assumption))))⟩)
                                                                        | (refine ⟨(by repeat (first | assumption | exact Ext.refl _ | refine Ext.alloc ?_ _ | refine Ext.drew ?_ | refine Ext.setB ?_ (by first | omega | (simp only [size_alloc, size_setB, size_drew]; omega)) _ | refine Ext.trans ?_ (by assumption))), (_, _, _), rfl, ?_⟩
                                                                           refine NN.castY (by first | exact NN.nil _ | assumption | exact NN.ext (by assumption) (by repeat (first | assumption | exact Ext.refl _ | refine Ext.alloc ?_ _ | refine Ext.drew ?_ | refine Ext.setB ?_ (by first | omega | (simp only [size_alloc, size_setB, size_drew]; omega)) _ | refine Ext.trans ?_ (by assumption)))) ?_
                                                                           unfold ybare
                                                                           (repeat (first | rw [if_pos (by first | omega | assumption)] | rw [if_neg (by first | omega | assumption)]))
                                                                           all_goals rfl)
                                                                    · have hb170p := hb170.h; try simp only [al_ete, al_dfn, Bool.not_eq_true', Bool.not_eq_false', al_ne, Bool.not_not, al_nn] at hb170p
                                                                      refine W_seq ?_
                                                                      refine W_region rfl ?_
                                                                      refine WO_p (PS_move_int rfl) ?_
                                                                      refine WO_p (PS_eql rfl rfl) ?_
                                                                      refine WO_p (PS_assign_bool rfl) ?_
                                                                      refine WO_nil ?_
                                                                      refine thn_normal ?_
                                                                      refine W_if rfl (fun hb177 => ?_) (fun hb177 => ?_)
                                                                      · have hb177p := hb177.h; try simp only [al_ete, al_dfn, Bool.not_eq_true', Bool.not_eq_false', al_ne, Bool.not_not, al_nn] at hb177p
                                                                        have ho5 : o = 85 := by omega
                                                                        refine W_seq ?_
                                                                        refine W_region rfl ?_
                                                                        refine WO_p (PS_move_ptr rfl) ?_
                                                                        refine WO_p (PS_move_ptr rfl) ?_
                                                                        refine WO_call Hvac.call298 (by rfl) (Ret.mono (ySstoreA_spec _ (OmB.ext hO (by repeat (first | assumption | exact Ext.refl _ | refine Ext.alloc ?_ _ | refine Ext.drew ?_ | refine Ext.setB ?_ (by first | omega | (simp only [size_alloc, size_setB, size_drew]; omega)) _ | exact Ext.trans (by assumption) (by assumption) | refine Ext.trans ?_ (by assumption)))) _ _ _ _ (by first | assumption | exact YSS.ext (by assumption) (by repeat (first | assumption | exact Ext.refl _ | refine Ext.alloc ?_ _ | refine Ext.drew ?_ | refine Ext.setB ?_ (by first | omega | (simp only [size_alloc, size_setB, size_drew]; omega)) _ | exact Ext.trans (by assumption) (by assumption) | refine Ext.trans ?_ (by assumption)))) hB hN _ _ _ _ (by first | assumption | exact FrS.ext (by assumption) (by repeat (first | assumption | exact Ext.refl _ | refine Ext.alloc ?_ _ | refine Ext.drew ?_ | refine Ext.setB ?_ (by first | omega | (simp only [size_alloc, size_setB, size_drew]; omega)) _ | exact Ext.trans (by assumption) (by assumption) | refine Ext.trans ?_ (by assumption)))) hP) ?_)
                                                                        rintro _ w298_177 ⟨hE298_177, s1298_177, s2298_177, s3298_177, rfl, hN1298_177, hN2298_177, hN3298_177⟩
                                                                        have hz298_177 := hE298_177.1
                                                                        try simp only [size_alloc, size_setB, size_drew] at hz298_177
                                                                        refine WO_p (PS_move_tuple rfl) ?_
                                                                        refine WO_p (PS_extract_slice rfl rfl) ?_
                                                                        refine WO_p (PS_extract_slice rfl rfl) ?_
                                                                        refine WO_p (PS_extract_slice rfl rfl) ?_
                                                                        refine WO_p (PS_assign_slice rfl) ?_
                                                                        refine WO_p (PS_assign_slice rfl) ?_
                                                                        refine WO_p (PS_assign_slice rfl) ?_
                                                                        refine WO_nil ?_
                                                                        refine thn_normal ?_
                                                                        refine W_seq ?_
                                                                        refine W_region rfl ?_
                                                                        refine WO_p (PS_move_slice rfl) ?_
                                                                        refine WO_p (PS_assign_slice rfl) ?_
                                                                        refine WO_nil ?_
                                                                        refine thn_normal ?_
                                                                        refine W_ret ?_
                                                                        refine inBlk_ret ?_
                                                                        refine thn_ret ?_
                                                                        refine bodyQ_ret1 Hvac.results197 rfl (.slice _ _ _) rfl ?_
                                                                        first
                                                                        | (subst ho5; exact ⟨(by repeat (first | assumption | exact Ext.refl _ | refine Ext.alloc ?_ _ | refine Ext.drew ?_ | refine Ext.setB ?_ (by first | omega | (simp only [size_alloc, size_setB, size_drew]; omega)) _ | refine Ext.trans ?_ (by assumption))), (_, _, _), rfl, (by first | exact NN.nil _ | assumption | exact NN.ext (by assumption) (by repeat (first | assumption | exact Ext.refl _ | refine Ext.alloc ?_ _ | refine Ext.drew ?_ | refine Ext.setB ?_ (by first | omega | (simp only [size_alloc, size_setB, size_drew]; omega)) _ | refine Ext.trans ?_ (by assumption))))⟩)
                                                                        | (refine ⟨(by repeat (first | assumption | exact Ext.refl _ | refine Ext.alloc ?_ _ | refine Ext.drew ?_ | refine Ext.setB ?_ (by first | omega | (simp only [size_alloc, size_setB, size_drew]; omega)) _ | refine Ext.trans ?_ (by assumption))), (_, _, _), rfl, ?_⟩
                                                                           refine NN.castY (by first | exact NN.nil _ | assumption | exact NN.ext (by assumption) (by repeat (first | assumption | exact Ext.refl _ | refine Ext.alloc ?_ _ | refine Ext.drew ?_ | refine Ext.setB ?_ (by first | omega | (simp only [size_alloc, size_setB, size_drew]; omega)) _ | refine Ext.trans ?_ (by assumption)))) ?_
                                                                           unfold ybare
                                                                           (repeat (first | rw [if_pos (by first | omega | assumption)] | rw [if_neg (by first | omega | assumption)]))
                                                                           all_goals rfl)
                                                                      · have hb177p := hb177.h; try simp only [al_ete, al_dfn, Bool.not_eq_true', Bool.not_eq_false', al_ne, Bool.not_not, al_nn] at hb177p
                                                                        refine W_seq ?_
                                                                        refine W_seq ?_
                                                                        refine W_region rfl ?_
                                                                        refine WO_p (PS_move_int rfl) ?_
                                                                        refine WO_p (PS_eql rfl rfl) ?_
                                                                        refine WO_p (PS_assign_bool rfl) ?_
                                                                        refine WO_nil ?_
                                                                        refine thn_normal ?_
                                                                        refine W_if rfl (fun hb180 => ?_) (fun hb180 => ?_)
                                                                        · have hb180p := hb180.h; try simp only [al_ete, al_dfn, Bool.not_eq_true', Bool.not_eq_false', al_ne, Bool.not_not, al_nn] at hb180p
                                                                          have ho5 : o = 92 := by omega
                                                                          refine W_skip ?_
                                                                          refine thn_normal ?_
                                                                          refine W_condT rfl hb180.h ?_
                                                                          refine W_seq ?_
                                                                          refine W_region rfl ?_
                                                                          refine WO_call Hvac.call19 (by rfl) (Ret.mono (nNum_spec (OmB.ext hO (by repeat (first | assumption | exact Ext.refl _ | refine Ext.alloc ?_ _ | refine Ext.drew ?_ | refine Ext.setB ?_ (by first | omega | (simp only [size_alloc, size_setB, size_drew]; omega)) _ | exact Ext.trans (by assumption) (by assumption) | refine Ext.trans ?_ (by assumption)))) ⟨by omega, by omega⟩) ?_)
                                                                          rintro _ w19_180 ⟨hE19_180, s19_180, rfl, hN19_180, hs19_180⟩
                                                                          have hz19_180 := hE19_180.1
                                                                          try simp only [size_alloc, size_setB, size_drew] at hz19_180
                                                                          try simp only [Int.toNat_natCast, toNat_lit] at hN19_180 hs19_180
                                                                          refine WO_p (PS_assign_slice rfl) ?_
                                                                          refine WO_nil ?_
                                                                          refine thn_normal ?_
                                                                          refine W_ret ?_
                                                                          refine inBlk_ret ?_
                                                                          refine thn_ret ?_
                                                                          refine bodyQ_ret1 Hvac.results197 rfl (.slice _ _ _) rfl ?_
                                                                          first
                                                                          | (subst ho5; exact ⟨(by repeat (first | assumption | exact Ext.refl _ | refine Ext.alloc ?_ _ | refine Ext.drew ?_ | refine Ext.setB ?_ (by first | omega | (simp only [size_alloc, size_setB, size_drew]; omega)) _ | refine Ext.trans ?_ (by assumption))), (_, _, _), rfl, (by first | exact NN.nil _ | assumption | exact NN.ext (by assumption) (by repeat (first | assumption | exact Ext.refl _ | refine Ext.alloc ?_ _ | refine Ext.drew ?_ | refine Ext.setB ?_ (by first | omega | (simp only [size_alloc, size_setB, size_drew]; omega)) _ | refine Ext.trans ?_ (by assumption))))⟩)
                                                                          | (refine ⟨(by repeat (first | assumption | exact Ext.refl _ | refine Ext.alloc ?_ _ | refine Ext.drew ?_ | refine Ext.setB ?_ (by first | omega | (simp only [size_alloc, size_setB, size_drew]; omega)) _ | refine Ext.trans ?_ (by assumption))), (_, _, _), rfl, ?_⟩
                                                                             refine NN.castY (by first | exact NN.nil _ | assumption | exact NN.ext (by assumption) (by repeat (first | assumption | exact Ext.refl _ | refine Ext.alloc ?_ _ | refine Ext.drew ?_ | refine Ext.setB ?_ (by first | omega | (simp only [size_alloc, size_setB, size_drew]; omega)) _ | refine Ext.trans ?_ (by assumption)))) ?_
                                                                             unfold ybare
                                                                             (repeat (first | rw [if_pos (by first | omega | assumption)] | rw [if_neg (by first | omega | assumption)]))
                                                                             all_goals rfl)
                                                                        · have hb180p := hb180.h; try simp only [al_ete, al_dfn, Bool.not_eq_true', Bool.not_eq_false', al_ne, Bool.not_not, al_nn] at hb180p
                                                                          refine W_region rfl ?_
                                                                          refine WO_p (PS_move_int rfl) ?_
                                                                          refine WO_p (PS_eql rfl rfl) ?_
                                                                          refine WO_p (PS_assign_bool rfl) ?_
                                                                          refine WO_nil ?_
                                                                          refine thn_normal ?_
                                                                          refine W_if rfl (fun hb183 => ?_) (fun hb183 => ?_)
                                                                          · have hb183p := hb183.h; try simp only [al_ete, al_dfn, Bool.not_eq_true', Bool.not_eq_false', al_ne, Bool.not_not, al_nn] at hb183p
                                                                            have ho5 : o = 93 := by omega
                                                                            refine W_seq ?_
                                                                            refine W_region rfl ?_
                                                                            refine WO_call Hvac.call19 (by rfl) (Ret.mono (nNum_spec (OmB.ext hO (by repeat (first | assumption | exact Ext.refl _ | refine Ext.alloc ?_ _ | refine Ext.drew ?_ | refine Ext.setB ?_ (by first | omega | (simp only [size_alloc, size_setB, size_drew]; omega)) _ | exact Ext.trans (by assumption) (by assumption) | refine Ext.trans ?_ (by assumption)))) ⟨by omega, by omega⟩) ?_)
                                                                            rintro _ w19_183 ⟨hE19_183, s19_183, rfl, hN19_183, hs19_183⟩
                                                                            have hz19_183 := hE19_183.1
                                                                            try simp only [size_alloc, size_setB, size_drew] at hz19_183
                                                                            try simp only [Int.toNat_natCast, toNat_lit] at hN19_183 hs19_183
                                                                            refine WO_p (PS_assign_slice rfl) ?_
                                                                            refine WO_nil ?_
                                                                            refine thn_normal ?_
                                                                            refine W_ret ?_
                                                                            refine inBlk_ret ?_
                                                                            refine thn_ret ?_
                                                                            refine bodyQ_ret1 Hvac.results197 rfl (.slice _ _ _) rfl ?_
                                                                            first
                                                                            | (subst ho5; exact ⟨(by repeat (first | assumption | exact Ext.refl _ | refine Ext.alloc ?_ _ | refine Ext.drew ?_ | refine Ext.setB ?_ (by first | omega | (simp only [size_alloc, size_setB, size_drew]; omega)) _ | refine Ext.trans ?_ (by assumption))), (_, _, _), rfl, (by first | exact NN.nil _ | assumption | exact NN.ext (by assumption) (by repeat (first | assumption | exact Ext.refl _ | refine Ext.alloc ?_ _ | refine Ext.drew ?_ | refine Ext.setB ?_ (by first | omega | (simp only [size_alloc, size_setB, size_drew]; omega)) _ | refine Ext.trans ?_ (by assumption))))⟩)
                                                                            | (refine ⟨(by repeat (first | assumption | exact Ext.refl _ | refine Ext.alloc ?_ _ | refine Ext.drew ?_ | refine Ext.setB ?_ (by first | omega | (simp only [size_alloc, size_setB, size_drew]; omega)) _ | refine Ext.trans ?_ (by assumption))), (_, _, _), rfl, ?_⟩
                                                                               refine NN.castY (by first | exact NN.nil _ | assumption | exact NN.ext (by assumption) (by repeat (first | assumption | exact Ext.refl _ | refine Ext.alloc ?_ _ | refine Ext.drew ?_ | refine Ext.setB ?_ (by first | omega | (simp only [size_alloc, size_setB, size_drew]; omega)) _ | refine Ext.trans ?_ (by assumption)))) ?_
                                                                               unfold ybare
                                                                               (repeat (first | rw [if_pos (by first | omega | assumption)] | rw [if_neg (by first | omega | assumption)]))
                                                                               all_goals rfl)
                                                                          · have hb183p := hb183.h; try simp only [al_ete, al_dfn, Bool.not_eq_true', Bool.not_eq_false', al_ne, Bool.not_not, al_nn] at hb183p
                                                                            refine W_seq ?_
                                                                            refine W_region rfl ?_
                                                                            refine WO_p (PS_move_int rfl) ?_
                                                                            refine WO_p (PS_eql rfl rfl) ?_
                                                                            refine WO_p (PS_assign_bool rfl) ?_
                                                                            refine WO_nil ?_
                                                                            refine thn_normal ?_
                                                                            refine W_if rfl (fun hb186 => ?_) (fun hb186 => ?_)
                                                                            · have hb186p := hb186.h; try simp only [al_ete, al_dfn, Bool.not_eq_true', Bool.not_eq_false', al_ne, Bool.not_not, al_nn] at hb186p
                                                                              exfalso; omega
                                                                            · have hb186p := hb186.h; try simp only [al_ete, al_dfn, Bool.not_eq_true', Bool.not_eq_false', al_ne, Bool.not_not, al_nn] at hb186p
                                                                              refine W_seq ?_
                                                                              refine W_region rfl ?_
                                                                              refine WO_p (PS_move_int rfl) ?_
                                                                              refine WO_call Hvac.call49 (by rfl) (Ret.mono (family_spec _ _ (by omega)) ?_)
                                                                              rintro _ w49_186 ⟨hE49_186, rfl⟩
                                                                              have hz49_186 := hE49_186.1
                                                                              try simp only [size_alloc, size_setB, size_drew] at hz49_186
                                                                              refine WO_p (PS_eql rfl rfl) ?_
                                                                              refine WO_p (PS_assign_bool rfl) ?_
                                                                              refine WO_nil ?_
                                                                              refine thn_normal ?_
                                                                              refine W_if rfl (fun hb189 => ?_) (fun hb189 => ?_)
                                                                              · have hb189p := hb189.h; try simp only [al_ete, al_dfn, Bool.not_eq_true', Bool.not_eq_false', al_ne, Bool.not_not, al_nn] at hb189p
                                                                                refine W_seq ?_
                                                                                refine W_region rfl ?_
                                                                                refine WO_p (PS_move_ptr rfl) ?_
                                                                                refine WO_p (PS_move_ptr rfl) ?_
                                                                                refine WO_p (PS_move_int rfl) ?_
                                                                                refine WO_call Hvac.call300 (by rfl) (Ret.mono (yEnterCost_spec _ (OmB.ext hO (by repeat (first | assumption | exact Ext.refl _ | refine Ext.alloc ?_ _ | refine Ext.drew ?_ | refine Ext.setB ?_ (by first | omega | (simp only [size_alloc, size_setB, size_drew]; omega)) _ | exact Ext.trans (by assumption) (by assumption) | refine Ext.trans ?_ (by assumption)))) _ _ _ _ (by first | assumption | exact YSS.ext (by assumption) (by repeat (first | assumption | exact Ext.refl _ | refine Ext.alloc ?_ _ | refine Ext.drew ?_ | refine Ext.setB ?_ (by first | omega | (simp only [size_alloc, size_setB, size_drew]; omega)) _ | exact Ext.trans (by assumption) (by assumption) | refine Ext.trans ?_ (by assumption)))) hB hN _ _ _ _ (by first | assumption | exact FrS.ext (by assumption) (by repeat (first | assumption | exact Ext.refl _ | refine Ext.alloc ?_ _ | refine Ext.drew ?_ | refine Ext.setB ?_ (by first | omega | (simp only [size_alloc, size_setB, size_drew]; omega)) _ | exact Ext.trans (by assumption) (by assumption) | refine Ext.trans ?_ (by assumption)))) hP _ (by omega)) ?_)
                                                                                rintro _ w300_189 ⟨hE300_189, s300_189, rfl, hN300_189⟩
                                                                                have hz300_189 := hE300_189.1
                                                                                try simp only [size_alloc, size_setB, size_drew] at hz300_189
                                                                                refine WO_p (PS_assign_slice rfl) ?_
                                                                                refine WO_nil ?_
                                                                                refine thn_normal ?_
                                                                                refine W_ret ?_
                                                                                refine inBlk_ret ?_
                                                                                refine thn_ret ?_
                                                                                refine bodyQ_ret1 Hvac.results197 rfl (.slice _ _ _) rfl ?_
                                                                                first
                                                                                | (subst ho5; exact ⟨(by repeat (first | assumption | exact Ext.refl _ | refine Ext.alloc ?_ _ | refine Ext.drew ?_ | refine Ext.setB ?_ (by first | omega | (simp only [size_alloc, size_setB, size_drew]; omega)) _ | refine Ext.trans ?_ (by assumption))), (_, _, _), rfl, (by first | exact NN.nil _ | assumption | exact NN.ext (by assumption) (by repeat (first | assumption | exact Ext.refl _ | refine Ext.alloc ?_ _ | refine Ext.drew ?_ | refine Ext.setB ?_ (by first | omega | (simp only [size_alloc, size_setB, size_drew]; omega)) _ | refine Ext.trans ?_ (by assumption))))⟩)
                                                                                | (refine ⟨(by repeat (first | assumption | exact Ext.refl _ | refine Ext.alloc ?_ _ | refine Ext.drew ?_ | refine Ext.setB ?_ (by first | omega | (simp only [size_alloc, size_setB, size_drew]; omega)) _ | refine Ext.trans ?_ (by assumption))), (_, _, _), rfl, ?_⟩
                                                                                   refine NN.castY (by first | exact NN.nil _ | assumption | exact NN.ext (by assumption) (by repeat (first | assumption | exact Ext.refl _ | refine Ext.alloc ?_ _ | refine Ext.drew ?_ | refine Ext.setB ?_ (by first | omega | (simp only [size_alloc, size_setB, size_drew]; omega)) _ | refine Ext.trans ?_ (by assumption)))) ?_
                                                                                   unfold ybare
                                                                                   (repeat (first | rw [if_pos (by first | omega | assumption)] | rw [if_neg (by first | omega | assumption)]))
                                                                                   all_goals rfl)
                                                                              · have hb189p := hb189.h; try simp only [al_ete, al_dfn, Bool.not_eq_true', Bool.not_eq_false', al_ne, Bool.not_not, al_nn] at hb189p
                                                                                refine W_skip ?_
                                                                                refine inBlk_normal ?_
                                                                                refine thn_normal ?_
                                                                                refine W_seq ?_
                                                                                refine W_region rfl ?_
                                                                                refine WO_call Hvac.call19 (by rfl) (Ret.mono (nNum_spec (OmB.ext hO (by repeat (first | assumption | exact Ext.refl _ | refine Ext.alloc ?_ _ | refine Ext.drew ?_ | refine Ext.setB ?_ (by first | omega | (simp only [size_alloc, size_setB, size_drew]; omega)) _ | exact Ext.trans (by assumption) (by assumption) | refine Ext.trans ?_ (by assumption)))) ⟨by omega, by omega⟩) ?_)
                                                                                rintro _ w19_190 ⟨hE19_190, s19_190, rfl, hN19_190, hs19_190⟩
                                                                                have hz19_190 := hE19_190.1
                                                                                try simp only [size_alloc, size_setB, size_drew] at hz19_190
                                                                                try simp only [Int.toNat_natCast, toNat_lit] at hN19_190 hs19_190
                                                                                refine WO_p (PS_assign_slice rfl) ?_
                                                                                refine WO_nil ?_
                                                                                refine thn_normal ?_
                                                                                refine W_ret ?_
                                                                                refine bodyQ_ret1 Hvac.results197 rfl (.slice _ _ _) rfl ?_
                                                                                first
                                                                                | (subst ho5; exact ⟨(by repeat (first | assumption | exact Ext.refl _ | refine Ext.alloc ?_ _ | refine Ext.drew ?_ | refine Ext.setB ?_ (by first | omega | (simp only [size_alloc, size_setB, size_drew]; omega)) _ | refine Ext.trans ?_ (by assumption))), (_, _, _), rfl, (by first | exact NN.nil _ | assumption | exact NN.ext (by assumption) (by repeat (first | assumption | exact Ext.refl _ | refine Ext.alloc ?_ _ | refine Ext.drew ?_ | refine Ext.setB ?_ (by first | omega | (simp only [size_alloc, size_setB, size_drew]; omega)) _ | refine Ext.trans ?_ (by assumption))))⟩)
                                                                                | (refine ⟨(by repeat (first | assumption | exact Ext.refl _ | refine Ext.alloc ?_ _ | refine Ext.drew ?_ | refine Ext.setB ?_ (by first | omega | (simp only [size_alloc, size_setB, size_drew]; omega)) _ | refine Ext.trans ?_ (by assumption))), (_, _, _), rfl, ?_⟩
                                                                                   refine NN.castY (by first | exact NN.nil _ | assumption | exact NN.ext (by assumption) (by repeat (first | assumption | exact Ext.refl _ | refine Ext.alloc ?_ _ | refine Ext.drew ?_ | refine Ext.setB ?_ (by first | omega | (simp only [size_alloc, size_setB, size_drew]; omega)) _ | refine Ext.trans ?_ (by assumption)))) ?_
                                                                                   unfold ybare
                                                                                   (repeat (first | rw [if_pos (by first | omega | assumption)] | rw [if_neg (by first | omega | assumption)]))
                                                                                   all_goals rfl)
                    · have hb115p := hb115.h; try simp only [al_ete, al_dfn, Bool.not_eq_true', Bool.not_eq_false', al_ne, Bool.not_not, al_nn] at hb115p
                      exfalso; omega
              · have hb108p := hb108.h; try simp only [al_ete, al_dfn, Bool.not_eq_true', Bool.not_eq_false', al_ne, Bool.not_not, al_nn] at hb108p
                refine WO_guardF rfl rfl hb108.h ?_
                refine WO_guardF rfl rfl hb108.h ?_
                refine WO_p (PS_pickF rfl hb108.h rfl) ?_
                refine WO_p (PS_assign_bool rfl) ?_
                refine WO_nil ?_
                refine thn_normal ?_
                refine W_condF rfl rfl ?_
                refine W_seq ?_
                refine W_seq ?_
                refine W_region rfl ?_
                refine WO_p (PS_move_int rfl) ?_
                refine WO_p (PS_eql rfl rfl) ?_
                refine WO_p (PS_assign_bool rfl) ?_
                refine WO_nil ?_
                refine thn_normal ?_
                refine W_if rfl (fun hb193 => ?_) (fun hb193 => ?_)
                · have hb193p := hb193.h; try simp only [al_ete, al_dfn, Bool.not_eq_true', Bool.not_eq_false', al_ne, Bool.not_not, al_nn] at hb193p
                  exfalso; omega
                · have hb193p := hb193.h; try simp only [al_ete, al_dfn, Bool.not_eq_true', Bool.not_eq_false', al_ne, Bool.not_not, al_nn] at hb193p
                  refine W_seq ?_
                  refine W_region rfl ?_
                  refine WO_p (PS_move_int rfl) ?_
                  refine WO_p (PS_geq rfl rfl) ?_
                  refine WO_p (PS_move_bool rfl) ?_
                  refine WO_if (t := 41) rfl (fun hb195 => ?_) (fun hb195 => ?_)
                  · have hb195p := hb195.h; try simp only [al_ete, al_dfn, Bool.not_eq_true', Bool.not_eq_false', al_ne, Bool.not_not, al_nn] at hb195p
                    refine WO_guardT rfl rfl hb195.h ?_
                    refine WO_p (PS_move_int rfl) ?_
                    refine WO_guardT rfl rfl hb195.h ?_
                    refine WO_p (PS_leq rfl rfl) ?_
                    refine WO_p (PS_pickT rfl hb195.h rfl) ?_
                    refine WO_p (PS_assign_bool rfl) ?_
                    refine WO_nil ?_
                    refine thn_normal ?_
                    refine W_if rfl (fun hb197 => ?_) (fun hb197 => ?_)
                    · have hb197p := hb197.h; try simp only [al_ete, al_dfn, Bool.not_eq_true', Bool.not_eq_false', al_ne, Bool.not_not, al_nn] at hb197p
                      exfalso; omega
                    · have hb197p := hb197.h; try simp only [al_ete, al_dfn, Bool.not_eq_true', Bool.not_eq_false', al_ne, Bool.not_not, al_nn] at hb197p
                      refine W_seq ?_
                      refine W_region rfl ?_
                      refine WO_p (PS_move_int rfl) ?_
                      refine WO_p (PS_eql rfl rfl) ?_
                      refine WO_p (PS_assign_bool rfl) ?_
                      refine WO_nil ?_
                      refine thn_normal ?_
                      refine W_if rfl (fun hb199 => ?_) (fun hb199 => ?_)
                      · have hb199p := hb199.h; try simp only [al_ete, al_dfn, Bool.not_eq_true', Bool.not_eq_false', al_ne, Bool.not_not, al_nn] at hb199p
                        exfalso; omega
                      · have hb199p := hb199.h; try simp only [al_ete, al_dfn, Bool.not_eq_true', Bool.not_eq_false', al_ne, Bool.not_not, al_nn] at hb199p
                        refine W_region rfl ?_
                        refine WO_p (PS_move_int rfl) ?_
                        refine WO_p (PS_eql rfl rfl) ?_
                        refine WO_p (PS_assign_bool rfl) ?_
                        refine WO_nil ?_
                        refine thn_normal ?_
                        refine W_if rfl (fun hb201 => ?_) (fun hb201 => ?_)
                        · have hb201p := hb201.h; try simp only [al_ete, al_dfn, Bool.not_eq_true', Bool.not_eq_false', al_ne, Bool.not_not, al_nn] at hb201p
                          have ho5 : o = 71 := by omega
                          refine W_seq ?_
                          refine W_region rfl ?_
                          refine WO_call Hvac.call19 (by rfl) (Ret.mono (nNum_spec (OmB.ext hO (by repeat (first | assumption | exact Ext.refl _ | refine Ext.alloc ?_ _ | refine Ext.drew ?_ | refine Ext.setB ?_ (by first | omega | (simp only [size_alloc, size_setB, size_drew]; omega)) _ | exact Ext.trans (by assumption) (by assumption) | refine Ext.trans ?_ (by assumption)))) ⟨by omega, by omega⟩) ?_)
                          rintro _ w19_201 ⟨hE19_201, s19_201, rfl, hN19_201, hs19_201⟩
                          have hz19_201 := hE19_201.1
                          try simp only [size_alloc, size_setB, size_drew] at hz19_201
                          try simp only [Int.toNat_natCast, toNat_lit] at hN19_201 hs19_201
                          refine WO_p (PS_assign_slice rfl) ?_
                          refine WO_nil ?_
                          refine thn_normal ?_
                          refine W_ret ?_
                          refine inBlk_ret ?_
                          refine thn_ret ?_
                          refine bodyQ_ret1 Hvac.results197 rfl (.slice _ _ _) rfl ?_
                          first
                          | (subst ho5; exact ⟨(by repeat (first | assumption | exact Ext.refl _ | refine Ext.alloc ?_ _ | refine Ext.drew ?_ | refine Ext.setB ?_ (by first | omega | (simp only [size_alloc, size_setB, size_drew]; omega)) _ | refine Ext.trans ?_ (by assumption))), (_, _, _), rfl, (by first | exact NN.nil _ | assumption | exact NN.ext (by assumption) (by repeat (first | assumption | exact Ext.refl _ | refine Ext.alloc ?_ _ | refine Ext.drew ?_ | refine Ext.setB ?_ (by first | omega | (simp only [size_alloc, size_setB, size_drew]; omega)) _ | refine Ext.trans ?_ (by assumption))))⟩)
                          | (refine ⟨(by repeat (first | assumption | exact Ext.refl _ | refine Ext.alloc ?_ _ | refine Ext.drew ?_ | refine Ext.setB ?_ (by first | omega | (simp only [size_alloc, size_setB, size_drew]; omega)) _ | refine Ext.trans ?_ (by assumption))), (_, _, _), rfl, ?_⟩
                             refine NN.castY (by first | exact NN.nil _ | assumption | exact NN.ext (by assumption) (by repeat (first | assumption | exact Ext.refl _ | refine Ext.alloc ?_ _ | refine Ext.drew ?_ | refine Ext.setB ?_ (by first | omega | (simp only [size_alloc, size_setB, size_drew]; omega)) _ | refine Ext.trans ?_ (by assumption)))) ?_
                             unfold ybare
                             (repeat (first | rw [if_pos (by first | omega | assumption)] | rw [if_neg (by first | omega | assumption)]))
                             all_goals rfl)
                        · have hb201p := hb201.h; try simp only [al_ete, al_dfn, Bool.not_eq_true', Bool.not_eq_false', al_ne, Bool.not_not, al_nn] at hb201p
                          refine W_seq ?_
                          refine W_seq ?_
                          refine W_region rfl ?_
                          refine WO_p (PS_move_int rfl) ?_
                          refine WO_p (PS_eql rfl rfl) ?_
                          refine WO_p (PS_assign_bool rfl) ?_
                          refine WO_nil ?_
                          refine thn_normal ?_
                          refine W_if rfl (fun hb204 => ?_) (fun hb204 => ?_)
                          · have hb204p := hb204.h; try simp only [al_ete, al_dfn, Bool.not_eq_true', Bool.not_eq_false', al_ne, Bool.not_not, al_nn] at hb204p
                            exfalso; omega
                          · have hb204p := hb204.h; try simp only [al_ete, al_dfn, Bool.not_eq_true', Bool.not_eq_false', al_ne, Bool.not_not, al_nn] at hb204p
                            refine W_seq ?_
                            refine W_region rfl ?_
                            refine WO_p (PS_move_int rfl) ?_
                            refine WO_p (PS_eql rfl rfl) ?_
                            refine WO_p (PS_assign_bool rfl) ?_
                            refine WO_nil ?_
                            refine thn_normal ?_
                            refine W_if rfl (fun hb206 => ?_) (fun hb206 => ?_)
                            · have hb206p := hb206.h; try simp only [al_ete, al_dfn, Bool.not_eq_true', Bool.not_eq_false', al_ne, Bool.not_not, al_nn] at hb206p
                              exfalso; omega
                            · have hb206p := hb206.h; try simp only [al_ete, al_dfn, Bool.not_eq_true', Bool.not_eq_false', al_ne, Bool.not_not, al_nn] at hb206p
                              refine W_region rfl ?_
                              refine WO_p (PS_move_int rfl) ?_
                              refine WO_p (PS_eql rfl rfl) ?_
                              refine WO_p (PS_assign_bool rfl) ?_
                              refine WO_nil ?_
                              refine thn_normal ?_
                              refine W_if rfl (fun hb208 => ?_) (fun hb208 => ?_)
                              · have hb208p := hb208.h; try simp only [al_ete, al_dfn, Bool.not_eq_true', Bool.not_eq_false', al_ne, Bool.not_not, al_nn] at hb208p
                                exfalso; omega
                              · have hb208p := hb208.h; try simp only [al_ete, al_dfn, Bool.not_eq_true', Bool.not_eq_false', al_ne, Bool.not_not, al_nn] at hb208p
                                refine W_seq ?_
                                refine W_region rfl ?_
                                refine WO_p (PS_move_int rfl) ?_
                                refine WO_p (PS_eql rfl rfl) ?_
                                refine WO_p (PS_assign_bool rfl) ?_
                                refine WO_nil ?_
                                refine thn_normal ?_
                                refine W_if rfl (fun hb210 => ?_) (fun hb210 => ?_)
                                · have hb210p := hb210.h; try simp only [al_ete, al_dfn, Bool.not_eq_true', Bool.not_eq_false', al_ne, Bool.not_not, al_nn] at hb210p
                                  exfalso; omega
                                · have hb210p := hb210.h; try simp only [al_ete, al_dfn, Bool.not_eq_true', Bool.not_eq_false', al_ne, Bool.not_not, al_nn] at hb210p
                                  refine W_seq ?_
                                  refine W_region rfl ?_
                                  refine WO_p (PS_move_int rfl) ?_
                                  refine WO_p (PS_eql rfl rfl) ?_
                                  refine WO_p (PS_assign_bool rfl) ?_
                                  refine WO_nil ?_
                                  refine thn_normal ?_
                                  refine W_if rfl (fun hb212 => ?_) (fun hb212 => ?_)
                                  · have hb212p := hb212.h; try simp only [al_ete, al_dfn, Bool.not_eq_true', Bool.not_eq_false', al_ne, Bool.not_not, al_nn] at hb212p
                                    exfalso; omega
                                  · have hb212p := hb212.h; try simp only [al_ete, al_dfn, Bool.not_eq_true', Bool.not_eq_false', al_ne, Bool.not_not, al_nn] at hb212p
                                    refine W_seq ?_
                                    refine W_region rfl ?_
                                    refine WO_p (PS_move_int rfl) ?_
                                    refine WO_p (PS_eql rfl rfl) ?_
                                    refine WO_p (PS_assign_bool rfl) ?_
                                    refine WO_nil ?_
                                    refine thn_normal ?_
                                    refine W_if rfl (fun hb214 => ?_) (fun hb214 => ?_)
                                    · have hb214p := hb214.h; try simp only [al_ete, al_dfn, Bool.not_eq_true', Bool.not_eq_false', al_ne, Bool.not_not, al_nn] at hb214p
                                      have ho5 : o = 64 := by omega
                                      refine W_seq ?_
                                      refine W_region rfl ?_
                                      refine WO_call Hvac.call19 (by rfl) (Ret.mono (nNum_spec (OmB.ext hO (by repeat (first | assumption | exact Ext.refl _ | refine Ext.alloc ?_ _ | refine Ext.drew ?_ | refine Ext.setB ?_ (by first | omega | (simp only [size_alloc, size_setB, size_drew]; omega)) _ | exact Ext.trans (by assumption) (by assumption) | refine Ext.trans ?_ (by assumption)))) ⟨by omega, by omega⟩) ?_)
                                      rintro _ w19_214 ⟨hE19_214, s19_214, rfl, hN19_214, hs19_214⟩
                                      have hz19_214 := hE19_214.1
                                      try simp only [size_alloc, size_setB, size_drew] at hz19_214
                                      try simp only [Int.toNat_natCast, toNat_lit] at hN19_214 hs19_214
                                      refine WO_p (PS_assign_slice rfl) ?_
                                      refine WO_nil ?_
                                      refine thn_normal ?_
                                      refine W_ret ?_
                                      refine inBlk_ret ?_
                                      refine thn_ret ?_
                                      refine bodyQ_ret1 Hvac.results197 rfl (.slice _ _ _) rfl ?_
                                      first
                                      | (subst ho5; exact ⟨(by repeat (first | assumption | exact Ext.refl _ | refine Ext.alloc ?_ _ | refine Ext.drew ?_ | refine Ext.setB ?_ (by first | omega | (simp only [size_alloc, size_setB, size_drew]; omega)) _ | refine Ext.trans ?_ (by assumption))), (_, _, _), rfl, (by first | exact NN.nil _ | assumption | exact NN.ext (by assumption) (by repeat (first | assumption | exact Ext.refl _ | refine Ext.alloc ?_ _ | refine Ext.drew ?_ | refine Ext.setB ?_ (by first | omega | (simp only [size_alloc, size_setB, size_drew]; omega)) _ | refine Ext.trans ?_ (by assumption))))⟩)
                                      | (refine ⟨(by repeat (first | assumption | exact Ext.refl _ | refine Ext.alloc ?_ _ | refine Ext.drew ?_ | refine Ext.setB ?_ (by first | omega | (simp only [size_alloc, size_setB, size_drew]; omega)) _ | refine Ext.trans ?_ (by assumption))), (_, _, _), rfl, ?_⟩
                                         refine NN.castY (by first | exact NN.nil _ | assumption | exact NN.ext (by assumption) (by repeat (first | assumption | exact Ext.refl _ | refine Ext.alloc ?_ _ | refine Ext.drew ?_ | refine Ext.setB ?_ (by first | omega | (simp only [size_alloc, size_setB, size_drew]; omega)) _ | refine Ext.trans ?_ (by assumption)))) ?_
                                         unfold ybare
                                         (repeat (first | rw [if_pos (by first | omega | assumption)] | rw [if_neg (by first | omega | assumption)]))
                                         all_goals rfl)
                                    · have hb214p := hb214.h; try simp only [al_ete, al_dfn, Bool.not_eq_true', Bool.not_eq_false', al_ne, Bool.not_not, al_nn] at hb214p
                                      refine W_seq ?_
                                      refine W_seq ?_
                                      refine W_region rfl ?_
                                      refine WO_p (PS_move_int rfl) ?_
                                      refine WO_p (PS_eql rfl rfl) ?_
                                      refine WO_p (PS_assign_bool rfl) ?_
                                      refine WO_nil ?_
                                      refine thn_normal ?_
                                      refine W_if rfl (fun hb217 => ?_) (fun hb217 => ?_)
                                      · have hb217p := hb217.h; try simp only [al_ete, al_dfn, Bool.not_eq_true', Bool.not_eq_false', al_ne, Bool.not_not, al_nn] at hb217p
                                        exfalso; omega
                                      · have hb217p := hb217.h; try simp only [al_ete, al_dfn, Bool.not_eq_true', Bool.not_eq_false', al_ne, Bool.not_not, al_nn] at hb217p
                                        refine W_seq ?_
                                        refine W_region rfl ?_
                                        refine WO_p (PS_move_int rfl) ?_
                                        refine WO_p (PS_eql rfl rfl) ?_
                                        refine WO_p (PS_assign_bool rfl) ?_
                                        refine WO_nil ?_
                                        refine thn_normal ?_
                                        refine W_if rfl (fun hb219 => ?_) (fun hb219 => ?_)
                                        · have hb219p := hb219.h; try simp only [al_ete, al_dfn, Bool.not_eq_true', Bool.not_eq_false', al_ne, Bool.not_not, al_nn] at hb219p
                                          exfalso; omega
                                        · have hb219p := hb219.h; try simp only [al_ete, al_dfn, Bool.not_eq_true', Bool.not_eq_false', al_ne, Bool.not_not, al_nn] at hb219p
                                          refine W_region rfl ?_
                                          refine WO_p (PS_move_int rfl) ?_
                                          refine WO_p (PS_eql rfl rfl) ?_
                                          refine WO_p (PS_assign_bool rfl) ?_
                                          refine WO_nil ?_
                                          refine thn_normal ?_
                                          refine W_if rfl (fun hb221 => ?_) (fun hb221 => ?_)
                                          · have hb221p := hb221.h; try simp only [al_ete, al_dfn, Bool.not_eq_true', Bool.not_eq_false', al_ne, Bool.not_not, al_nn] at hb221p
                                            exfalso; omega
                                          · have hb221p := hb221.h; try simp only [al_ete, al_dfn, Bool.not_eq_true', Bool.not_eq_false', al_ne, Bool.not_not, al_nn] at hb221p
                                            refine W_seq ?_
                                            refine W_region rfl ?_
                                            refine WO_p (PS_move_int rfl) ?_
                                            refine WO_p (PS_eql rfl rfl) ?_
                                            refine WO_p (PS_assign_bool rfl) ?_
                                            refine WO_nil ?_
                                            refine thn_normal ?_
                                            refine W_if rfl (fun hb223 => ?_) (fun hb223 => ?_)
                                            · have hb223p := hb223.h; try simp only [al_ete, al_dfn, Bool.not_eq_true', Bool.not_eq_false', al_ne, Bool.not_not, al_nn] at hb223p
                                              exfalso; omega
                                            · have hb223p := hb223.h; try simp only [al_ete, al_dfn, Bool.not_eq_true', Bool.not_eq_false', al_ne, Bool.not_not, al_nn] at hb223p
                                              refine W_seq ?_
                                              refine W_region rfl ?_
                                              refine WO_p (PS_move_int rfl) ?_
                                              refine WO_p (PS_eql rfl rfl) ?_
                                              refine WO_p (PS_assign_bool rfl) ?_
                                              refine WO_nil ?_
                                              refine thn_normal ?_
                                              refine W_if rfl (fun hb225 => ?_) (fun hb225 => ?_)
                                              · have hb225p := hb225.h; try simp only [al_ete, al_dfn, Bool.not_eq_true', Bool.not_eq_false', al_ne, Bool.not_not, al_nn] at hb225p
                                                have ho5 : o = 32 := by omega
                                                refine W_seq ?_
                                                refine W_region rfl ?_
                                                refine WO_call Hvac.call19 (by rfl) (Ret.mono (nNum_spec (OmB.ext hO (by repeat (first | assumption | exact Ext.refl _ | refine Ext.alloc ?_ _ | refine Ext.drew ?_ | refine Ext.setB ?_ (by first | omega | (simp only [size_alloc, size_setB, size_drew]; omega)) _ | exact Ext.trans (by assumption) (by assumption) | refine Ext.trans ?_ (by assumption)))) ⟨by omega, by omega⟩) ?_)
                                                rintro _ w19_225 ⟨hE19_225, s19_225, rfl, hN19_225, hs19_225⟩
                                                have hz19_225 := hE19_225.1
                                                try simp only [size_alloc, size_setB, size_drew] at hz19_225
                                                try simp only [Int.toNat_natCast, toNat_lit] at hN19_225 hs19_225
                                                refine WO_call Hvac.call19 (by rfl) (Ret.mono (nNum_spec (OmB.ext hO (by repeat (first | assumption | exact Ext.refl _ | refine Ext.alloc ?_ _ | refine Ext.drew ?_ | refine Ext.setB ?_ (by first | omega | (simp only [size_alloc, size_setB, size_drew]; omega)) _ | exact Ext.trans (by assumption) (by assumption) | refine Ext.trans ?_ (by assumption)))) ⟨by omega, by omega⟩) ?_)
                                                rintro _ w19_226 ⟨hE19_226, s19_226, rfl, hN19_226, hs19_226⟩
                                                have hz19_226 := hE19_226.1
                                                try simp only [size_alloc, size_setB, size_drew] at hz19_226
                                                try simp only [Int.toNat_natCast, toNat_lit] at hN19_226 hs19_226
                                                refine WO_p (PS_move_ptr rfl) ?_
                                                refine WO_call Hvac.call47 (by rfl) (Ret.mono (yArg_spec _ (OmB.ext hO (by repeat (first | assumption | exact Ext.refl _ | refine Ext.alloc ?_ _ | refine Ext.drew ?_ | refine Ext.setB ?_ (by first | omega | (simp only [size_alloc, size_setB, size_drew]; omega)) _ | exact Ext.trans (by assumption) (by assumption) | refine Ext.trans ?_ (by assumption)))) _ _ _ _ (by first | assumption | exact FrS.ext (by assumption) (by repeat (first | assumption | exact Ext.refl _ | refine Ext.alloc ?_ _ | refine Ext.drew ?_ | refine Ext.setB ?_ (by first | omega | (simp only [size_alloc, size_setB, size_drew]; omega)) _ | exact Ext.trans (by assumption) (by assumption) | refine Ext.trans ?_ (by assumption)))) hP _ (by decide)) ?_)
                                                rintro _ w47_227 ⟨hE47_227, s47_227, rfl, hN47_227, hs47_227⟩
                                                have hz47_227 := hE47_227.1
                                                try simp only [size_alloc, size_setB, size_drew] at hz47_227
                                                refine WO_call Hvac.call83 (by rfl) (Ret.mono (words_spec2 _ (OmB.ext hO (by repeat (first | assumption | exact Ext.refl _ | refine Ext.alloc ?_ _ | refine Ext.drew ?_ | refine Ext.setB ?_ (by first | omega | (simp only [size_alloc, size_setB, size_drew]; omega)) _ | exact Ext.trans (by assumption) (by assumption) | refine Ext.trans ?_ (by assumption)))) _ _ _ _ (by first | exact NN.nil _ | assumption | exact NN.ext (by assumption) (by repeat (first | assumption | exact Ext.refl _ | refine Ext.alloc ?_ _ | refine Ext.drew ?_ | refine Ext.setB ?_ (by first | omega | (simp only [size_alloc, size_setB, size_drew]; omega)) _ | exact Ext.trans (by assumption) (by assumption) | refine Ext.trans ?_ (by assumption)))) (by first | assumption | omega | (rw [sz_zero]; omega))) ?_)
                                                rintro _ w83_228 ⟨hE83_228, s83_228, rfl, hN83_228⟩
                                                have hz83_228 := hE83_228.1
                                                try simp only [size_alloc, size_setB, size_drew] at hz83_228
                                                have hs83_228 := sz_yw hN83_228
                                                refine WO_call Hvac.call26 (by rfl) (Ret.mono (nMul_spec (OmB.ext hO (by repeat (first | assumption | exact Ext.refl _ | refine Ext.alloc ?_ _ | refine Ext.drew ?_ | refine Ext.setB ?_ (by first | omega | (simp only [size_alloc, size_setB, size_drew]; omega)) _ | exact Ext.trans (by assumption) (by assumption) | refine Ext.trans ?_ (by assumption)))) (by first | exact NN.nil _ | assumption | exact NN.ext (by assumption) (by repeat (first | assumption | exact Ext.refl _ | refine Ext.alloc ?_ _ | refine Ext.drew ?_ | refine Ext.setB ?_ (by first | omega | (simp only [size_alloc, size_setB, size_drew]; omega)) _ | exact Ext.trans (by assumption) (by assumption) | refine Ext.trans ?_ (by assumption)))) (by first | exact NN.nil _ | assumption | exact NN.ext (by assumption) (by repeat (first | assumption | exact Ext.refl _ | refine Ext.alloc ?_ _ | refine Ext.drew ?_ | refine Ext.setB ?_ (by first | omega | (simp only [size_alloc, size_setB, size_drew]; omega)) _ | exact Ext.trans (by assumption) (by assumption) | refine Ext.trans ?_ (by assumption)))) (by first | assumption | omega | (rw [sz_zero]; omega)) (by first | assumption | omega | (rw [sz_zero]; omega))) ?_)
                                                rintro _ w26_229 ⟨hE26_229, s26_229, rfl, hN26_229⟩
                                                have hz26_229 := hE26_229.1
                                                try simp only [size_alloc, size_setB, size_drew] at hz26_229
                                                have hs26_229 := hN26_229.z_mul
                                                refine WO_call Hvac.call24 (by rfl) (Ret.mono (nAdd_spec (OmB.ext hO (by repeat (first | assumption | exact Ext.refl _ | refine Ext.alloc ?_ _ | refine Ext.drew ?_ | refine Ext.setB ?_ (by first | omega | (simp only [size_alloc, size_setB, size_drew]; omega)) _ | exact Ext.trans (by assumption) (by assumption) | refine Ext.trans ?_ (by assumption)))) (by first | exact NN.nil _ | assumption | exact NN.ext (by assumption) (by repeat (first | assumption | exact Ext.refl _ | refine Ext.alloc ?_ _ | refine Ext.drew ?_ | refine Ext.setB ?_ (by first | omega | (simp only [size_alloc, size_setB, size_drew]; omega)) _ | exact Ext.trans (by assumption) (by assumption) | refine Ext.trans ?_ (by assumption)))) (by first | exact NN.nil _ | assumption | exact NN.ext (by assumption) (by repeat (first | assumption | exact Ext.refl _ | refine Ext.alloc ?_ _ | refine Ext.drew ?_ | refine Ext.setB ?_ (by first | omega | (simp only [size_alloc, size_setB, size_drew]; omega)) _ | exact Ext.trans (by assumption) (by assumption) | refine Ext.trans ?_ (by assumption)))) (by first | assumption | omega | (rw [sz_zero]; omega)) (by first | assumption | omega | (rw [sz_zero]; omega))) ?_)
                                                rintro _ w24_230 ⟨hE24_230, s24_230, rfl, hN24_230⟩
                                                have hz24_230 := hE24_230.1
                                                try simp only [size_alloc, size_setB, size_drew] at hz24_230
                                                have hs24_230 := hN24_230.z_add
                                                refine WO_p (PS_assign_slice rfl) ?_
                                                refine WO_nil ?_
                                                refine thn_normal ?_
                                                refine W_ret ?_
                                                refine inBlk_ret ?_
                                                refine thn_ret ?_
                                                refine bodyQ_ret1 Hvac.results197 rfl (.slice _ _ _) rfl ?_
                                                first
                                                | (subst ho5; exact ⟨(by repeat (first | assumption | exact Ext.refl _ | refine Ext.alloc ?_ _ | refine Ext.drew ?_ | refine Ext.setB ?_ (by first | omega | (simp only [size_alloc, size_setB, size_drew]; omega)) _ | refine Ext.trans ?_ (by assumption))), (_, _, _), rfl, (by first | exact NN.nil _ | assumption | exact NN.ext (by assumption) (by repeat (first | assumption | exact Ext.refl _ | refine Ext.alloc ?_ _ | refine Ext.drew ?_ | refine Ext.setB ?_ (by first | omega | (simp only [size_alloc, size_setB, size_drew]; omega)) _ | refine Ext.trans ?_ (by assumption))))⟩)
                                                | (refine ⟨(by repeat (first | assumption | exact Ext.refl _ | refine Ext.alloc ?_ _ | refine Ext.drew ?_ | refine Ext.setB ?_ (by first | omega | (simp only [size_alloc, size_setB, size_drew]; omega)) _ | refine Ext.trans ?_ (by assumption))), (_, _, _), rfl, ?_⟩
                                                   refine NN.castY (by first | exact NN.nil _ | assumption | exact NN.ext (by assumption) (by repeat (first | assumption | exact Ext.refl _ | refine Ext.alloc ?_ _ | refine Ext.drew ?_ | refine Ext.setB ?_ (by first | omega | (simp only [size_alloc, size_setB, size_drew]; omega)) _ | refine Ext.trans ?_ (by assumption)))) ?_
                                                   unfold ybare
                                                   (repeat (first | rw [if_pos (by first | omega | assumption)] | rw [if_neg (by first | omega | assumption)]))
                                                   all_goals rfl)
                                              · have hb225p := hb225.h; try simp only [al_ete, al_dfn, Bool.not_eq_true', Bool.not_eq_false', al_ne, Bool.not_not, al_nn] at hb225p
                                                refine W_seq ?_
                                                refine W_seq ?_
                                                refine W_region rfl ?_
                                                refine WO_p (PS_move_int rfl) ?_
                                                refine WO_p (PS_eql rfl rfl) ?_
                                                refine WO_p (PS_assign_bool rfl) ?_
                                                refine WO_nil ?_
                                                refine thn_normal ?_
                                                refine W_if rfl (fun hb233 => ?_) (fun hb233 => ?_)
                                                · have hb233p := hb233.h; try simp only [al_ete, al_dfn, Bool.not_eq_true', Bool.not_eq_false', al_ne, Bool.not_not, al_nn] at hb233p
                                                  have ho5 : o = 55 := by omega
                                                  refine W_skip ?_
                                                  refine thn_normal ?_
                                                  refine W_condT rfl hb233.h ?_
                                                  refine W_seq ?_
                                                  refine W_region rfl ?_
                                                  refine WO_call Hvac.call19 (by rfl) (Ret.mono (nNum_spec (OmB.ext hO (by repeat (first | assumption | exact Ext.refl _ | refine Ext.alloc ?_ _ | refine Ext.drew ?_ | refine Ext.setB ?_ (by first | omega | (simp only [size_alloc, size_setB, size_drew]; omega)) _ | exact Ext.trans (by assumption) (by assumption) | refine Ext.trans ?_ (by assumption)))) ⟨by omega, by omega⟩) ?_)
                                                  rintro _ w19_233 ⟨hE19_233, s19_233, rfl, hN19_233, hs19_233⟩
                                                  have hz19_233 := hE19_233.1
                                                  try simp only [size_alloc, size_setB, size_drew] at hz19_233
                                                  try simp only [Int.toNat_natCast, toNat_lit] at hN19_233 hs19_233
                                                  refine WO_p (PS_move_ptr rfl) ?_
                                                  refine WO_call Hvac.call47 (by rfl) (Ret.mono (yArg_spec _ (OmB.ext hO (by repeat (first | assumption | exact Ext.refl _ | refine Ext.alloc ?_ _ | refine Ext.drew ?_ | refine Ext.setB ?_ (by first | omega | (simp only [size_alloc, size_setB, size_drew]; omega)) _ | exact Ext.trans (by assumption) (by assumption) | refine Ext.trans ?_ (by assumption)))) _ _ _ _ (by first | assumption | exact FrS.ext (by assumption) (by repeat (first | assumption | exact Ext.refl _ | refine Ext.alloc ?_ _ | refine Ext.drew ?_ | refine Ext.setB ?_ (by first | omega | (simp only [size_alloc, size_setB, size_drew]; omega)) _ | exact Ext.trans (by assumption) (by assumption) | refine Ext.trans ?_ (by assumption)))) hP _ (by decide)) ?_)
                                                  rintro _ w47_234 ⟨hE47_234, s47_234, rfl, hN47_234, hs47_234⟩
                                                  have hz47_234 := hE47_234.1
                                                  try simp only [size_alloc, size_setB, size_drew] at hz47_234
                                                  refine WO_call Hvac.call296 (by rfl) (Ret.mono (copyCost_spec2 _ (OmB.ext hO (by repeat (first | assumption | exact Ext.refl _ | refine Ext.alloc ?_ _ | refine Ext.drew ?_ | refine Ext.setB ?_ (by first | omega | (simp only [size_alloc, size_setB, size_drew]; omega)) _ | exact Ext.trans (by assumption) (by assumption) | refine Ext.trans ?_ (by assumption)))) _ _ _ _ (by first | exact NN.nil _ | assumption | exact NN.ext (by assumption) (by repeat (first | assumption | exact Ext.refl _ | refine Ext.alloc ?_ _ | refine Ext.drew ?_ | refine Ext.setB ?_ (by first | omega | (simp only [size_alloc, size_setB, size_drew]; omega)) _ | exact Ext.trans (by assumption) (by assumption) | refine Ext.trans ?_ (by assumption)))) (by first | assumption | omega | (rw [sz_zero]; omega))) ?_)
                                                  rintro _ w296_235 ⟨hE296_235, s296_235, rfl, hN296_235⟩
                                                  have hz296_235 := hE296_235.1
                                                  try simp only [size_alloc, size_setB, size_drew] at hz296_235
                                                  have hs296_235 := hN296_235.z_copy
                                                  refine WO_call Hvac.call24 (by rfl) (Ret.mono (nAdd_spec (OmB.ext hO (by repeat (first | assumption | exact Ext.refl _ | refine Ext.alloc ?_ _ | refine Ext.drew ?_ | refine Ext.setB ?_ (by first | omega | (simp only [size_alloc, size_setB, size_drew]; omega)) _ | exact Ext.trans (by assumption) (by assumption) | refine Ext.trans ?_ (by assumption)))) (by first | exact NN.nil _ | assumption | exact NN.ext (by assumption) (by repeat (first | assumption | exact Ext.refl _ | refine Ext.alloc ?_ _ | refine Ext.drew ?_ | refine Ext.setB ?_ (by first | omega | (simp only [size_alloc, size_setB, size_drew]; omega)) _ | exact Ext.trans (by assumption) (by assumption) | refine Ext.trans ?_ (by assumption)))) (by first | exact NN.nil _ | assumption | exact NN.ext (by assumption) (by repeat (first | assumption | exact Ext.refl _ | refine Ext.alloc ?_ _ | refine Ext.drew ?_ | refine Ext.setB ?_ (by first | omega | (simp only [size_alloc, size_setB, size_drew]; omega)) _ | exact Ext.trans (by assumption) (by assumption) | refine Ext.trans ?_ (by assumption)))) (by first | assumption | omega | (rw [sz_zero]; omega)) (by first | assumption | omega | (rw [sz_zero]; omega))) ?_)
                                                  rintro _ w24_236 ⟨hE24_236, s24_236, rfl, hN24_236⟩
                                                  have hz24_236 := hE24_236.1
                                                  try simp only [size_alloc, size_setB, size_drew] at hz24_236
                                                  have hs24_236 := hN24_236.z_add
                                                  refine WO_p (PS_assign_slice rfl) ?_
                                                  refine WO_nil ?_
                                                  refine thn_normal ?_
                                                  refine W_ret ?_
                                                  refine inBlk_ret ?_
                                                  refine thn_ret ?_
                                                  refine bodyQ_ret1 Hvac.results197 rfl (.slice _ _ _) rfl ?_
                                                  first
                                                  | (subst ho5; exact ⟨(by repeat (first | assumption | exact Ext.refl _ | refine Ext.alloc ?_ _ | refine Ext.drew ?_ | refine Ext.setB ?_ (by first | omega | (simp only [size_alloc, size_setB, size_drew]; omega)) _ | refine Ext.trans ?_ (by assumption))), (_, _, _), rfl, (by first | exact NN.nil _ | assumption | exact NN.ext (by assumption) (by repeat (first | assumption | exact Ext.refl _ | refine Ext.alloc ?_ _ | refine Ext.drew ?_ | refine Ext.setB ?_ (by first | omega | (simp only [size_alloc, size_setB, size_drew]; omega)) _ | refine Ext.trans ?_ (by assumption))))⟩)
                                                  | (refine ⟨(by repeat (first | assumption | exact Ext.refl _ | refine Ext.alloc ?_ _ | refine Ext.drew ?_ | refine Ext.setB ?_ (by first | omega | (simp only [size_alloc, size_setB, size_drew]; omega)) _ | refine Ext.trans ?_ (by assumption))), (_, _, _), rfl, ?_⟩
                                                     refine NN.castY (by first | exact NN.nil _ | assumption | exact NN.ext (by assumption) (by repeat (first | assumption | exact Ext.refl _ | refine Ext.alloc ?_ _ | refine Ext.drew ?_ | refine Ext.setB ?_ (by first | omega | (simp only [size_alloc, size_setB, size_drew]; omega)) _ | refine Ext.trans ?_ (by assumption)))) ?_
                                                     unfold ybare
                                                     (repeat (first | rw [if_pos (by first | omega | assumption)] | rw [if_neg (by first | omega | assumption)]))
                                                     all_goals rfl)
                                                · have hb233p := hb233.h; try simp only [al_ete, al_dfn, Bool.not_eq_true', Bool.not_eq_false', al_ne, Bool.not_not, al_nn] at hb233p
                                                  refine W_seq ?_
                                                  refine W_region rfl ?_
                                                  refine WO_p (PS_move_int rfl) ?_
                                                  refine WO_p (PS_eql rfl rfl) ?_
                                                  refine WO_p (PS_assign_bool rfl) ?_
                                                  refine WO_nil ?_
                                                  refine thn_normal ?_
                                                  refine W_if rfl (fun hb239 => ?_) (fun hb239 => ?_)
                                                  · have hb239p := hb239.h; try simp only [al_ete, al_dfn, Bool.not_eq_true', Bool.not_eq_false', al_ne, Bool.not_not, al_nn] at hb239p
                                                    have ho5 : o = 57 := by omega
                                                    refine W_skip ?_
                                                    refine thn_normal ?_
                                                    refine W_condT rfl hb239.h ?_
                                                    refine W_seq ?_
                                                    refine W_region rfl ?_
                                                    refine WO_call Hvac.call19 (by rfl) (Ret.mono (nNum_spec (OmB.ext hO (by repeat (first | assumption | exact Ext.refl _ | refine Ext.alloc ?_ _ | refine Ext.drew ?_ | refine Ext.setB ?_ (by first | omega | (simp only [size_alloc, size_setB, size_drew]; omega)) _ | exact Ext.trans (by assumption) (by assumption) | refine Ext.trans ?_ (by assumption)))) ⟨by omega, by omega⟩) ?_)
                                                    rintro _ w19_239 ⟨hE19_239, s19_239, rfl, hN19_239, hs19_239⟩
                                                    have hz19_239 := hE19_239.1
                                                    try simp only [size_alloc, size_setB, size_drew] at hz19_239
                                                    try simp only [Int.toNat_natCast, toNat_lit] at hN19_239 hs19_239
                                                    refine WO_p (PS_move_ptr rfl) ?_
                                                    refine WO_call Hvac.call47 (by rfl) (Ret.mono (yArg_spec _ (OmB.ext hO (by repeat (first | assumption | exact Ext.refl _ | refine Ext.alloc ?_ _ | refine Ext.drew ?_ | refine Ext.setB ?_ (by first | omega | (simp only [size_alloc, size_setB, size_drew]; omega)) _ | exact Ext.trans (by assumption) (by assumption) | refine Ext.trans ?_ (by assumption)))) _ _ _ _ (by first | assumption | exact FrS.ext (by assumption) (by repeat (first | assumption | exact Ext.refl _ | refine Ext.alloc ?_ _ | refine Ext.drew ?_ | refine Ext.setB ?_ (by first | omega | (simp only [size_alloc, size_setB, size_drew]; omega)) _ | exact Ext.trans (by assumption) (by assumption) | refine Ext.trans ?_ (by assumption)))) hP _ (by decide)) ?_)
                                                    rintro _ w47_240 ⟨hE47_240, s47_240, rfl, hN47_240, hs47_240⟩
                                                    have hz47_240 := hE47_240.1
                                                    try simp only [size_alloc, size_setB, size_drew] at hz47_240
                                                    refine WO_call Hvac.call296 (by rfl) (Ret.mono (copyCost_spec2 _ (OmB.ext hO (by repeat (first | assumption | exact Ext.refl _ | refine Ext.alloc ?_ _ | refine Ext.drew ?_ | refine Ext.setB ?_ (by first | omega | (simp only [size_alloc, size_setB, size_drew]; omega)) _ | exact Ext.trans (by assumption) (by assumption) | refine Ext.trans ?_ (by assumption)))) _ _ _ _ (by first | exact NN.nil _ | assumption | exact NN.ext (by assumption) (by repeat (first | assumption | exact Ext.refl _ | refine Ext.alloc ?_ _ | refine Ext.drew ?_ | refine Ext.setB ?_ (by first | omega | (simp only [size_alloc, size_setB, size_drew]; omega)) _ | exact Ext.trans (by assumption) (by assumption) | refine Ext.trans ?_ (by assumption)))) (by first | assumption | omega | (rw [sz_zero]; omega))) ?_)
                                                    rintro _ w296_241 ⟨hE296_241, s296_241, rfl, hN296_241⟩
                                                    have hz296_241 := hE296_241.1
                                                    try simp only [size_alloc, size_setB, size_drew] at hz296_241
                                                    have hs296_241 := hN296_241.z_copy
                                                    refine WO_call Hvac.call24 (by rfl) (Ret.mono (nAdd_spec (OmB.ext hO (by repeat (first | assumption | exact Ext.refl _ | refine Ext.alloc ?_ _ | refine Ext.drew ?_ | refine Ext.setB ?_ (by first | omega | (simp only [size_alloc, size_setB, size_drew]; omega)) _ | exact Ext.trans (by assumption) (by assumption) | refine Ext.trans ?_ (by assumption)))) (by first | exact NN.nil _ | assumption | exact NN.ext (by assumption) (by repeat (first | assumption | exact Ext.refl _ | refine Ext.alloc ?_ _ | refine Ext.drew ?_ | refine Ext.setB ?_ (by first | omega | (simp only [size_alloc, size_setB, size_drew]; omega)) _ | exact Ext.trans (by assumption) (by assumption) | refine Ext.trans ?_ (by assumption)))) (by first | exact NN.nil _ | assumption | exact NN.ext (by assumption) (by repeat (first | assumption | exact Ext.refl _ | refine Ext.alloc ?_ _ | refine Ext.drew ?_ | refine Ext.setB ?_ (by first | omega | (simp only [size_alloc, size_setB, size_drew]; omega)) _ | exact Ext.trans (by assumption) (by assumption) | refine Ext.trans ?_ (by assumption)))) (by first | assumption | omega | (rw [sz_zero]; omega)) (by first | assumption | omega | (rw [sz_zero]; omega))) ?_)
                                                    rintro _ w24_242 ⟨hE24_242, s24_242, rfl, hN24_242⟩
                                                    have hz24_242 := hE24_242.1
                                                    try simp only [size_alloc, size_setB, size_drew] at hz24_242
                                                    have hs24_242 := hN24_242.z_add
                                                    refine WO_p (PS_assign_slice rfl) ?_
                                                    refine WO_nil ?_
                                                    refine thn_normal ?_
                                                    refine W_ret ?_
                                                    refine inBlk_ret ?_
                                                    refine thn_ret ?_
                                                    refine bodyQ_ret1 Hvac.results197 rfl (.slice _ _ _) rfl ?_
                                                    first
                                                    | (subst ho5; exact ⟨(by repeat (first | assumption | exact Ext.refl _ | refine Ext.alloc ?_ _ | refine Ext.drew ?_ | refine Ext.setB ?_ (by first | omega | (simp only [size_alloc, size_setB, size_drew]; omega)) _ | refine Ext.trans ?_ (by assumption))), (_, _, _), rfl, (by first | exact NN.nil _ | assumption | exact NN.ext (by assumption) (by repeat (first | assumption | exact Ext.refl _ | refine Ext.alloc ?_ _ | refine Ext.drew ?_ | refine Ext.setB ?_ (by first | omega | (simp only [size_alloc, size_setB, size_drew]; omega)) _ | refine Ext.trans ?_ (by assumption))))⟩)
                                                    | (refine ⟨(by repeat (first | assumption | exact Ext.refl _ | refine Ext.alloc ?_ _ | refine Ext.drew ?_ | refine Ext.setB ?_ (by first | omega | (simp only [size_alloc, size_setB, size_drew]; omega)) _ | refine Ext.trans ?_ (by assumption))), (_, _, _), rfl, ?_⟩
                                                       refine NN.castY (by first | exact NN.nil _ | assumption | exact NN.ext (by assumption) (by repeat (first | assumption | exact Ext.refl _ | refine Ext.alloc ?_ _ | refine Ext.drew ?_ | refine Ext.setB ?_ (by first | omega | (simp only [size_alloc, size_setB, size_drew]; omega)) _ | refine Ext.trans ?_ (by assumption)))) ?_
                                                       unfold ybare
                                                       (repeat (first | rw [if_pos (by first | omega | assumption)] | rw [if_neg (by first | omega | assumption)]))
                                                       all_goals rfl)
                                                  · have hb239p := hb239.h; try simp only [al_ete, al_dfn, Bool.not_eq_true', Bool.not_eq_false', al_ne, Bool.not_not, al_nn] at hb239p
                                                    refine W_seq ?_
                                                    refine W_region rfl ?_
                                                    refine WO_p (PS_move_int rfl) ?_
                                                    refine WO_p (PS_eql rfl rfl) ?_
                                                    refine WO_p (PS_assign_bool rfl) ?_
                                                    refine WO_nil ?_
                                                    refine thn_normal ?_
                                                    refine W_if rfl (fun hb245 => ?_) (fun hb245 => ?_)
                                                    · have hb245p := hb245.h; try simp only [al_ete, al_dfn, Bool.not_eq_true', Bool.not_eq_false', al_ne, Bool.not_not, al_nn] at hb245p
                                                      have ho5 : o = 62 := by omega
                                                      refine W_skip ?_
                                                      refine thn_normal ?_
                                                      refine W_condT rfl hb245.h ?_
                                                      refine W_seq ?_
                                                      refine W_region rfl ?_
                                                      refine WO_call Hvac.call19 (by rfl) (Ret.mono (nNum_spec (OmB.ext hO (by repeat (first | assumption | exact Ext.refl _ | refine Ext.alloc ?_ _ | refine Ext.drew ?_ | refine Ext.setB ?_ (by first | omega | (simp only [size_alloc, size_setB, size_drew]; omega)) _ | exact Ext.trans (by assumption) (by assumption) | refine Ext.trans ?_ (by assumption)))) ⟨by omega, by omega⟩) ?_)
                                                      rintro _ w19_245 ⟨hE19_245, s19_245, rfl, hN19_245, hs19_245⟩
                                                      have hz19_245 := hE19_245.1
                                                      try simp only [size_alloc, size_setB, size_drew] at hz19_245
                                                      try simp only [Int.toNat_natCast, toNat_lit] at hN19_245 hs19_245
                                                      refine WO_p (PS_move_ptr rfl) ?_
                                                      refine WO_call Hvac.call47 (by rfl) (Ret.mono (yArg_spec _ (OmB.ext hO (by repeat (first | assumption | exact Ext.refl _ | refine Ext.alloc ?_ _ | refine Ext.drew ?_ | refine Ext.setB ?_ (by first | omega | (simp only [size_alloc, size_setB, size_drew]; omega)) _ | exact Ext.trans (by assumption) (by assumption) | refine Ext.trans ?_ (by assumption)))) _ _ _ _ (by first | assumption | exact FrS.ext (by assumption) (by repeat (first | assumption | exact Ext.refl _ | refine Ext.alloc ?_ _ | refine Ext.drew ?_ | refine Ext.setB ?_ (by first | omega | (simp only [size_alloc, size_setB, size_drew]; omega)) _ | exact Ext.trans (by assumption) (by assumption) | refine Ext.trans ?_ (by assumption)))) hP _ (by decide)) ?_)
                                                      rintro _ w47_246 ⟨hE47_246, s47_246, rfl, hN47_246, hs47_246⟩
                                                      have hz47_246 := hE47_246.1
                                                      try simp only [size_alloc, size_setB, size_drew] at hz47_246
                                                      refine WO_call Hvac.call296 (by rfl) (Ret.mono (copyCost_spec2 _ (OmB.ext hO (by repeat (first | assumption | exact Ext.refl _ | refine Ext.alloc ?_ _ | refine Ext.drew ?_ | refine Ext.setB ?_ (by first | omega | (simp only [size_alloc, size_setB, size_drew]; omega)) _ | exact Ext.trans (by assumption) (by assumption) | refine Ext.trans ?_ (by assumption)))) _ _ _ _ (by first | exact NN.nil _ | assumption | exact NN.ext (by assumption) (by repeat (first | assumption | exact Ext.refl _ | refine Ext.alloc ?_ _ | refine Ext.drew ?_ | refine Ext.setB ?_ (by first | omega | (simp only [size_alloc, size_setB, size_drew]; omega)) _ | exact Ext.trans (by assumption) (by assumption) | refine Ext.trans ?_ (by assumption)))) (by first | assumption | omega | (rw [sz_zero]; omega))) ?_)
                                                      rintro _ w296_247 ⟨hE296_247, s296_247, rfl, hN296_247⟩
                                                      have hz296_247 := hE296_247.1
                                                      try simp only [size_alloc, size_setB, size_drew] at hz296_247
                                                      have hs296_247 := hN296_247.z_copy
                                                      refine WO_call Hvac.call24 (by rfl) (Ret.mono (nAdd_spec (OmB.ext hO (by repeat (first | assumption | exact Ext.refl _ | refine Ext.alloc ?_ _ | refine Ext.drew ?_ | refine Ext.setB ?_ (by first | omega | (simp only [size_alloc, size_setB, size_drew]; omega)) _ | exact Ext.trans (by assumption) (by assumption) | refine Ext.trans ?_ (by assumption)))) (by first | exact NN.nil _ | assumption | exact NN.ext (by assumption) (by repeat (first | assumption | exact Ext.refl _ | refine Ext.alloc ?_ _ | refine Ext.drew ?_ | refine Ext.setB ?_ (by first | omega | (simp only [size_alloc, size_setB, size_drew]; omega)) _ | exact Ext.trans (by assumption) (by assumption) | refine Ext.trans ?_ (by assumption)))) (by first | exact NN.nil _ | assumption | exact NN.ext (by assumption) (by repeat (first | assumption | exact Ext.refl _ | refine Ext.alloc ?_ _ | refine Ext.drew ?_ | refine Ext.setB ?_ (by first | omega | (simp only [size_alloc, size_setB, size_drew]; omega)) _ | exact Ext.trans (by assumption) (by assumption) | refine Ext.trans ?_ (by assumption)))) (by first | assumption | omega | (rw [sz_zero]; omega)) (by first | assumption | omega | (rw [sz_zero]; omega))) ?_)
                                                      rintro _ w24_248 ⟨hE24_248, s24_248, rfl, hN24_248⟩
                                                      have hz24_248 := hE24_248.1
                                                      try simp only [size_alloc, size_setB, size_drew] at hz24_248
                                                      have hs24_248 := hN24_248.z_add
                                                      refine WO_p (PS_assign_slice rfl) ?_
                                                      refine WO_nil ?_
                                                      refine thn_normal ?_
                                                      refine W_ret ?_
                                                      refine inBlk_ret ?_
                                                      refine thn_ret ?_
                                                      refine bodyQ_ret1 Hvac.results197 rfl (.slice _ _ _) rfl ?_
                                                      first
                                                      | (subst ho5; exact ⟨(by repeat (first | assumption | exact Ext.refl _ | refine Ext.alloc ?_ _ | refine Ext.drew ?_ | refine Ext.setB ?_ (by first | omega | (simp only [size_alloc, size_setB, size_drew]; omega)) _ | refine Ext.trans ?_ (by assumption))), (_, _, _), rfl, (by first | exact NN.nil _ | assumption | exact NN.ext (by assumption) (by repeat (first | assumption | exact Ext.refl _ | refine Ext.alloc ?_ _ | refine Ext.drew ?_ | refine Ext.setB ?_ (by first | omega | (simp only [size_alloc, size_setB, size_drew]; omega)) _ | refine Ext.trans ?_ (by assumption))))⟩)
                                                      | (refine ⟨(by repeat (first | assumption | exact Ext.refl _ | refine Ext.alloc ?_ _ | refine Ext.drew ?_ | refine Ext.setB ?_ (by first | omega | (simp only [size_alloc, size_setB, size_drew]; omega)) _ | refine Ext.trans ?_ (by assumption))), (_, _, _), rfl, ?_⟩
                                                         refine NN.castY (by first | exact NN.nil _ | assumption | exact NN.ext (by assumption) (by repeat (first | assumption | exact Ext.refl _ | refine Ext.alloc ?_ _ | refine Ext.drew ?_ | refine Ext.setB ?_ (by first | omega | (simp only [size_alloc, size_setB, size_drew]; omega)) _ | refine Ext.trans ?_ (by assumption)))) ?_
                                                         unfold ybare
                                                         (repeat (first | rw [if_pos (by first | omega | assumption)] | rw [if_neg (by first | omega | assumption)]))
                                                         all_goals rfl)
                                                    · have hb245p := hb245.h; try simp only [al_ete, al_dfn, Bool.not_eq_true', Bool.not_eq_false', al_ne, Bool.not_not, al_nn] at hb245p
                                                      refine W_region rfl ?_
                                                      refine WO_p (PS_move_int rfl) ?_
                                                      refine WO_p (PS_eql rfl rfl) ?_
                                                      refine WO_p (PS_assign_bool rfl) ?_
                                                      refine WO_nil ?_
                                                      refine thn_normal ?_
                                                      refine W_if rfl (fun hb251 => ?_) (fun hb251 => ?_)
                                                      · have hb251p := hb251.h; try simp only [al_ete, al_dfn, Bool.not_eq_true', Bool.not_eq_false', al_ne, Bool.not_not, al_nn] at hb251p
                                                        exfalso; omega
                                                      · have hb251p := hb251.h; try simp only [al_ete, al_dfn, Bool.not_eq_true', Bool.not_eq_false', al_ne, Bool.not_not, al_nn] at hb251p
                                                        refine W_seq ?_
                                                        refine W_seq ?_
                                                        refine W_region rfl ?_
                                                        refine WO_p (PS_move_int rfl) ?_
                                                        refine WO_p (PS_eql rfl rfl) ?_
                                                        refine WO_p (PS_assign_bool rfl) ?_
                                                        refine WO_nil ?_
                                                        refine thn_normal ?_
                                                        refine W_if rfl (fun hb253 => ?_) (fun hb253 => ?_)
                                                        · have hb253p := hb253.h; try simp only [al_ete, al_dfn, Bool.not_eq_true', Bool.not_eq_false', al_ne, Bool.not_not, al_nn] at hb253p
                                                          have ho5 : o = 49 := by omega
                                                          refine W_skip ?_
                                                          refine thn_normal ?_
                                                          refine W_condT rfl hb253.h ?_
                                                          refine W_seq ?_
                                                          refine W_drawE [false, false, false, false, false, false, false, false] hmix (by kernel_rfl) rfl ?_
                                                          refine WH_p (PS_move_ptr rfl) rfl ?_
                                                          refine WH_p (PS_nilCheck rfl) rfl ?_
                                                          refine WH_p (PS_fieldAddr 0 Hvac.runUnderlying99 rfl Hvac.sizeOf95 rfl rfl) rfl ?_
                                                          refine WH_p (PS_move_ptr rfl) rfl ?_
                                                          refine WH_call Hvac.call47 (by rfl) (Ret.mono (yArg_spec _ (OmB.ext hO (by repeat (first | assumption | exact Ext.refl _ | refine Ext.alloc ?_ _ | refine Ext.drew ?_ | refine Ext.setB ?_ (by first | omega | (simp only [size_alloc, size_setB, size_drew]; omega)) _ | exact Ext.trans (by assumption) (by assumption) | refine Ext.trans ?_ (by assumption)))) _ _ _ _ (by first | assumption | exact FrS.ext (by assumption) (by repeat (first | assumption | exact Ext.refl _ | refine Ext.alloc ?_ _ | refine Ext.drew ?_ | refine Ext.setB ?_ (by first | omega | (simp only [size_alloc, size_setB, size_drew]; omega)) _ | exact Ext.trans (by assumption) (by assumption) | refine Ext.trans ?_ (by assumption)))) hP _ (by decide)) ?_)
                                                          rintro _ w47_253 ⟨hE47_253, s47_253, rfl, hN47_253, hs47_253⟩
                                                          refine ⟨(fun h => by cases h), ?_⟩
                                                          have hz47_253 := hE47_253.1
                                                          try simp only [size_alloc, size_setB, size_drew] at hz47_253
                                                          refine WH_call Hvac.call121 (by rfl) (Ret.mono (yAddrOf_spec _ (OmB.ext hO (by repeat (first | assumption | exact Ext.refl _ | refine Ext.alloc ?_ _ | refine Ext.drew ?_ | refine Ext.setB ?_ (by first | omega | (simp only [size_alloc, size_setB, size_drew]; omega)) _ | exact Ext.trans (by assumption) (by assumption) | refine Ext.trans ?_ (by assumption)))) _ _ _ _ (by first | exact NN.nil _ | assumption | exact NN.ext (by assumption) (by repeat (first | assumption | exact Ext.refl _ | refine Ext.alloc ?_ _ | refine Ext.drew ?_ | refine Ext.setB ?_ (by first | omega | (simp only [size_alloc, size_setB, size_drew]; omega)) _ | exact Ext.trans (by assumption) (by assumption) | refine Ext.trans ?_ (by assumption)))) (by first | assumption | omega | (rw [sz_zero]; omega))) ?_)
                                                          rintro _ w121_254 ⟨hE121_254, rfl⟩
                                                          refine ⟨(fun h => by cases h), ?_⟩
                                                          have hz121_254 := hE121_254.1
                                                          try simp only [size_alloc, size_setB, size_drew] at hz121_254
                                                          refine WH_call Hvac.call297 (by rfl) (Ret.mono (accessS (OmB.ext hO (by repeat (first | assumption | exact Ext.refl _ | refine Ext.alloc ?_ _ | refine Ext.drew ?_ | refine Ext.setB ?_ (by first | omega | (simp only [size_alloc, size_setB, size_drew]; omega)) _ | exact Ext.trans (by assumption) (by assumption) | refine Ext.trans ?_ (by assumption)))) (by first | assumption | exact YSS.ext (by assumption) (by repeat (first | assumption | exact Ext.refl _ | refine Ext.alloc ?_ _ | refine Ext.drew ?_ | refine Ext.setB ?_ (by first | omega | (simp only [size_alloc, size_setB, size_drew]; omega)) _ | exact Ext.trans (by assumption) (by assumption) | refine Ext.trans ?_ (by assumption)))) hB hN (by first | assumption | exact hFR.sb | exact yaddr_by _)) ?_)
                                                          rintro _ w297_255 ⟨hE297_255, s297_255, rfl, hN297_255⟩
                                                          refine ⟨(fun h => by cases h), ?_⟩
                                                          have hz297_255 := hE297_255.1
                                                          try simp only [size_alloc, size_setB, size_drew] at hz297_255
                                                          have hs297_255 := sz_yaccess y.now.warmA _ hN297_255
                                                          refine WH_p (PS_assign_slice rfl) rfl ?_
                                                          refine WH_nil ?_
                                                          refine thn_normal ?_
                                                          refine W_ret ?_
                                                          refine inBlk_ret ?_
                                                          refine thn_ret ?_
                                                          refine bodyQ_ret1 Hvac.results197 rfl (.slice _ _ _) rfl ?_
                                                          first
                                                          | (subst ho5; exact ⟨(by repeat (first | assumption | exact Ext.refl _ | refine Ext.alloc ?_ _ | refine Ext.drew ?_ | refine Ext.setB ?_ (by first | omega | (simp only [size_alloc, size_setB, size_drew]; omega)) _ | refine Ext.trans ?_ (by assumption))), (_, _, _), rfl, (by first | exact NN.nil _ | assumption | exact NN.ext (by assumption) (by repeat (first | assumption | exact Ext.refl _ | refine Ext.alloc ?_ _ | refine Ext.drew ?_ | refine Ext.setB ?_ (by first | omega | (simp only [size_alloc, size_setB, size_drew]; omega)) _ | refine Ext.trans ?_ (by assumption))))⟩)
                                                          | (refine ⟨(by repeat (first | assumption | exact Ext.refl _ | refine Ext.alloc ?_ _ | refine Ext.drew ?_ | refine Ext.setB ?_ (by first | omega | (simp only [size_alloc, size_setB, size_drew]; omega)) _ | refine Ext.trans ?_ (by assumption))), (_, _, _), rfl, ?_⟩
                                                             refine NN.castY (by first | exact NN.nil _ | assumption | exact NN.ext (by assumption) (by repeat (first | assumption | exact Ext.refl _ | refine Ext.alloc ?_ _ | refine Ext.drew ?_ | refine Ext.setB ?_ (by first | omega | (simp only [size_alloc, size_setB, size_drew]; omega)) _ | refine Ext.trans ?_ (by assumption)))) ?_
                                                             unfold ybare
                                                             (repeat (first | rw [if_pos (by first | omega | assumption)] | rw [if_neg (by first | omega | assumption)]))
                                                             all_goals rfl)
                                                        · have hb253p := hb253.h; try simp only [al_ete, al_dfn, Bool.not_eq_true', Bool.not_eq_false', al_ne, Bool.not_not, al_nn] at hb253p
                                                          refine W_seq ?_
                                                          refine W_region rfl ?_
                                                          refine WO_p (PS_move_int rfl) ?_
                                                          refine WO_p (PS_eql rfl rfl) ?_
                                                          refine WO_p (PS_assign_bool rfl) ?_
                                                          refine WO_nil ?_
                                                          refine thn_normal ?_
                                                          refine W_if rfl (fun hb258 => ?_) (fun hb258 => ?_)
                                                          · have hb258p := hb258.h; try simp only [al_ete, al_dfn, Bool.not_eq_true', Bool.not_eq_false', al_ne, Bool.not_not, al_nn] at hb258p
                                                            have ho5 : o = 59 := by omega
                                                            refine W_skip ?_
                                                            refine thn_normal ?_
                                                            refine W_condT rfl hb258.h ?_
                                                            refine W_seq ?_
                                                            refine W_drawE [false, false, false, false, false, false, false, false] hmix (by kernel_rfl) rfl ?_
                                                            refine WH_p (PS_move_ptr rfl) rfl ?_
                                                            refine WH_p (PS_nilCheck rfl) rfl ?_
                                                            refine WH_p (PS_fieldAddr 0 Hvac.runUnderlying99 rfl Hvac.sizeOf95 rfl rfl) rfl ?_
                                                            refine WH_p (PS_move_ptr rfl) rfl ?_
                                                            refine WH_call Hvac.call47 (by rfl) (Ret.mono (yArg_spec _ (OmB.ext hO (by repeat (first | assumption | exact Ext.refl _ | refine Ext.alloc ?_ _ | refine Ext.drew ?_ | refine Ext.setB ?_ (by first | omega | (simp only [size_alloc, size_setB, size_drew]; omega)) _ | exact Ext.trans (by assumption) (by assumption) | refine Ext.trans ?_ (by assumption)))) _ _ _ _ (by first | assumption | exact FrS.ext (by assumption) (by repeat (first | assumption | exact Ext.refl _ | refine Ext.alloc ?_ _ | refine Ext.drew ?_ | refine Ext.setB ?_ (by first | omega | (simp only [size_alloc, size_setB, size_drew]; omega)) _ | exact Ext.trans (by assumption) (by assumption) | refine Ext.trans ?_ (by assumption)))) hP _ (by decide)) ?_)
                                                            rintro _ w47_258 ⟨hE47_258, s47_258, rfl, hN47_258, hs47_258⟩
                                                            refine ⟨(fun h => by cases h), ?_⟩
                                                            have hz47_258 := hE47_258.1
                                                            try simp only [size_alloc, size_setB, size_drew] at hz47_258
                                                            refine WH_call Hvac.call121 (by rfl) (Ret.mono (yAddrOf_spec _ (OmB.ext hO (by repeat (first | assumption | exact Ext.refl _ | refine Ext.alloc ?_ _ | refine Ext.drew ?_ | refine Ext.setB ?_ (by first | omega | (simp only [size_alloc, size_setB, size_drew]; omega)) _ | exact Ext.trans (by assumption) (by assumption) | refine Ext.trans ?_ (by assumption)))) _ _ _ _ (by first | exact NN.nil _ | assumption | exact NN.ext (by assumption) (by repeat (first | assumption | exact Ext.refl _ | refine Ext.alloc ?_ _ | refine Ext.drew ?_ | refine Ext.setB ?_ (by first | omega | (simp only [size_alloc, size_setB, size_drew]; omega)) _ | exact Ext.trans (by assumption) (by assumption) | refine Ext.trans ?_ (by assumption)))) (by first | assumption | omega | (rw [sz_zero]; omega))) ?_)
                                                            rintro _ w121_259 ⟨hE121_259, rfl⟩
                                                            refine ⟨(fun h => by cases h), ?_⟩
                                                            have hz121_259 := hE121_259.1
                                                            try simp only [size_alloc, size_setB, size_drew] at hz121_259
                                                            refine WH_call Hvac.call297 (by rfl) (Ret.mono (accessS (OmB.ext hO (by repeat (first | assumption | exact Ext.refl _ | refine Ext.alloc ?_ _ | refine Ext.drew ?_ | refine Ext.setB ?_ (by first | omega | (simp only [size_alloc, size_setB, size_drew]; omega)) _ | exact Ext.trans (by assumption) (by assumption) | refine Ext.trans ?_ (by assumption)))) (by first | assumption | exact YSS.ext (by assumption) (by repeat (first | assumption | exact Ext.refl _ | refine Ext.alloc ?_ _ | refine Ext.drew ?_ | refine Ext.setB ?_ (by first | omega | (simp only [size_alloc, size_setB, size_drew]; omega)) _ | exact Ext.trans (by assumption) (by assumption) | refine Ext.trans ?_ (by assumption)))) hB hN (by first | assumption | exact hFR.sb | exact yaddr_by _)) ?_)
                                                            rintro _ w297_260 ⟨hE297_260, s297_260, rfl, hN297_260⟩
                                                            refine ⟨(fun h => by cases h), ?_⟩
                                                            have hz297_260 := hE297_260.1
                                                            try simp only [size_alloc, size_setB, size_drew] at hz297_260
                                                            have hs297_260 := sz_yaccess y.now.warmA _ hN297_260
                                                            refine WH_p (PS_assign_slice rfl) rfl ?_
                                                            refine WH_nil ?_
                                                            refine thn_normal ?_
                                                            refine W_ret ?_
                                                            refine inBlk_ret ?_
                                                            refine thn_ret ?_
                                                            refine bodyQ_ret1 Hvac.results197 rfl (.slice _ _ _) rfl ?_
                                                            first
                                                            | (subst ho5; exact ⟨(by repeat (first | assumption | exact Ext.refl _ | refine Ext.alloc ?_ _ | refine Ext.drew ?_ | refine Ext.setB ?_ (by first | omega | (simp only [size_alloc, size_setB, size_drew]; omega)) _ | refine Ext.trans ?_ (by assumption))), (_, _, _), rfl, (by first | exact NN.nil _ | assumption | exact NN.ext (by assumption) (by repeat (first | assumption | exact Ext.refl _ | refine Ext.alloc ?_ _ | refine Ext.drew ?_ | refine Ext.setB ?_ (by first | omega | (simp only [size_alloc, size_setB, size_drew]; omega)) _ | refine Ext.trans ?_ (by assumption))))⟩)
                                                            | (refine ⟨(by repeat (first | assumption | exact Ext.refl _ | refine Ext.alloc ?_ _ | refine Ext.drew ?_ | refine Ext.setB ?_ (by first | omega | (simp only [size_alloc, size_setB, size_drew]; omega)) _ | refine Ext.trans ?_ (by assumption))), (_, _, _), rfl, ?_⟩
                                                               refine NN.castY (by first | exact NN.nil _ | assumption | exact NN.ext (by assumption) (by repeat (first | assumption | exact Ext.refl _ | refine Ext.alloc ?_ _ | refine Ext.drew ?_ | refine Ext.setB ?_ (by first | omega | (simp only [size_alloc, size_setB, size_drew]; omega)) _ | refine Ext.trans ?_ (by assumption)))) ?_
                                                               unfold ybare
                                                               (repeat (first | rw [if_pos (by first | omega | assumption)] | rw [if_neg (by first | omega | assumption)]))
                                                               all_goals rfl)
                                                          · have hb258p := hb258.h; try simp only [al_ete, al_dfn, Bool.not_eq_true', Bool.not_eq_false', al_ne, Bool.not_not, al_nn] at hb258p
                                                            refine W_region rfl ?_
                                                            refine WO_p (PS_move_int rfl) ?_
                                                            refine WO_p (PS_eql rfl rfl) ?_
                                                            refine WO_p (PS_assign_bool rfl) ?_
                                                            refine WO_nil ?_
                                                            refine thn_normal ?_
                                                            refine W_if rfl (fun hb263 => ?_) (fun hb263 => ?_)
                                                            · have hb263p := hb263.h; try simp only [al_ete, al_dfn, Bool.not_eq_true', Bool.not_eq_false', al_ne, Bool.not_not, al_nn] at hb263p
                                                              have ho5 : o = 63 := by omega
                                                              refine W_seq ?_
                                                              refine W_drawE [false, false, false, false, false, false, false, false] hmix (by kernel_rfl) rfl ?_
                                                              refine WH_p (PS_move_ptr rfl) rfl ?_
                                                              refine WH_p (PS_nilCheck rfl) rfl ?_
                                                              refine WH_p (PS_fieldAddr 0 Hvac.runUnderlying99 rfl Hvac.sizeOf95 rfl rfl) rfl ?_
                                                              refine WH_p (PS_move_ptr rfl) rfl ?_
                                                              refine WH_call Hvac.call47 (by rfl) (Ret.mono (yArg_spec _ (OmB.ext hO (by repeat (first | assumption | exact Ext.refl _ | refine Ext.alloc ?_ _ | refine Ext.drew ?_ | refine Ext.setB ?_ (by first | omega | (simp only [size_alloc, size_setB, size_drew]; omega)) _ | exact Ext.trans (by assumption) (by assumption) | refine Ext.trans ?_ (by assumption)))) _ _ _ _ (by first | assumption | exact FrS.ext (by assumption) (by repeat (first | assumption | exact Ext.refl _ | refine Ext.alloc ?_ _ | refine Ext.drew ?_ | refine Ext.setB ?_ (by first | omega | (simp only [size_alloc, size_setB, size_drew]; omega)) _ | exact Ext.trans (by assumption) (by assumption) | refine Ext.trans ?_ (by assumption)))) hP _ (by decide)) ?_)
                                                              rintro _ w47_263 ⟨hE47_263, s47_263, rfl, hN47_263, hs47_263⟩
                                                              refine ⟨(fun h => by cases h), ?_⟩
                                                              have hz47_263 := hE47_263.1
                                                              try simp only [size_alloc, size_setB, size_drew] at hz47_263
                                                              refine WH_call Hvac.call121 (by rfl) (Ret.mono (yAddrOf_spec _ (OmB.ext hO (by repeat (first | assumption | exact Ext.refl _ | refine Ext.alloc ?_ _ | refine Ext.drew ?_ | refine Ext.setB ?_ (by first | omega | (simp only [size_alloc, size_setB, size_drew]; omega)) _ | exact Ext.trans (by assumption) (by assumption) | refine Ext.trans ?_ (by assumption)))) _ _ _ _ (by first | exact NN.nil _ | assumption | exact NN.ext (by assumption) (by repeat (first | assumption | exact Ext.refl _ | refine Ext.alloc ?_ _ | refine Ext.drew ?_ | refine Ext.setB ?_ (by first | omega | (simp only [size_alloc, size_setB, size_drew]; omega)) _ | exact Ext.trans (by assumption) (by assumption) | refine Ext.trans ?_ (by assumption)))) (by first | assumption | omega | (rw [sz_zero]; omega))) ?_)
                                                              rintro _ w121_264 ⟨hE121_264, rfl⟩
                                                              refine ⟨(fun h => by cases h), ?_⟩
                                                              have hz121_264 := hE121_264.1
                                                              try simp only [size_alloc, size_setB, size_drew] at hz121_264
                                                              refine WH_call Hvac.call297 (by rfl) (Ret.mono (accessS (OmB.ext hO (by repeat (first | assumption | exact Ext.refl _ | refine Ext.alloc ?_ _ | refine Ext.drew ?_ | refine Ext.setB ?_ (by first | omega | (simp only [size_alloc, size_setB, size_drew]; omega)) _ | exact Ext.trans (by assumption) (by assumption) | refine Ext.trans ?_ (by assumption)))) (by first | assumption | exact YSS.ext (by assumption) (by repeat (first | assumption | exact Ext.refl _ | refine Ext.alloc ?_ _ | refine Ext.drew ?_ | refine Ext.setB ?_ (by first | omega | (simp only [size_alloc, size_setB, size_drew]; omega)) _ | exact Ext.trans (by assumption) (by assumption) | refine Ext.trans ?_ (by assumption)))) hB hN (by first | assumption | exact hFR.sb | exact yaddr_by _)) ?_)
                                                              rintro _ w297_265 ⟨hE297_265, s297_265, rfl, hN297_265⟩
                                                              refine ⟨(fun h => by cases h), ?_⟩
                                                              have hz297_265 := hE297_265.1
                                                              try simp only [size_alloc, size_setB, size_drew] at hz297_265
                                                              have hs297_265 := sz_yaccess y.now.warmA _ hN297_265
                                                              refine WH_p (PS_assign_slice rfl) rfl ?_
                                                              refine WH_nil ?_
                                                              refine thn_normal ?_
                                                              refine W_ret ?_
                                                              refine inBlk_ret ?_
                                                              refine thn_ret ?_
                                                              refine bodyQ_ret1 Hvac.results197 rfl (.slice _ _ _) rfl ?_
                                                              first
                                                              | (subst ho5; exact ⟨(by repeat (first | assumption | exact Ext.refl _ | refine Ext.alloc ?_ _ | refine Ext.drew ?_ | refine Ext.setB ?_ (by first | omega | (simp only [size_alloc, size_setB, size_drew]; omega)) _ | refine Ext.trans ?_ (by assumption))), (_, _, _), rfl, (by first | exact NN.nil _ | assumption | exact NN.ext (by assumption) (by repeat (first | assumption | exact Ext.refl _ | refine Ext.alloc ?_ _ | refine Ext.drew ?_ | refine Ext.setB ?_ (by first | omega | (simp only [size_alloc, size_setB, size_drew]; omega)) _ | refine Ext.trans ?_ (by assumption))))⟩)
                                                              | (refine ⟨(by repeat (first | assumption | exact Ext.refl _ | refine Ext.alloc ?_ _ | refine Ext.drew ?_ | refine Ext.setB ?_ (by first | omega | (simp only [size_alloc, size_setB, size_drew]; omega)) _ | refine Ext.trans ?_ (by assumption))), (_, _, _), rfl, ?_⟩
                                                                 refine NN.castY (by first | exact NN.nil _ | assumption | exact NN.ext (by assumption) (by repeat (first | assumption | exact Ext.refl _ | refine Ext.alloc ?_ _ | refine Ext.drew ?_ | refine Ext.setB ?_ (by first | omega | (simp only [size_alloc, size_setB, size_drew]; omega)) _ | refine Ext.trans ?_ (by assumption)))) ?_
                                                                 unfold ybare
                                                                 (repeat (first | rw [if_pos (by first | omega | assumption)] | rw [if_neg (by first | omega | assumption)]))
                                                                 all_goals rfl)
                                                            · have hb263p := hb263.h; try simp only [al_ete, al_dfn, Bool.not_eq_true', Bool.not_eq_false', al_ne, Bool.not_not, al_nn] at hb263p
                                                              refine W_seq ?_
                                                              refine W_region rfl ?_
                                                              refine WO_p (PS_move_int rfl) ?_
                                                              refine WO_p (PS_eql rfl rfl) ?_
                                                              refine WO_p (PS_assign_bool rfl) ?_
                                                              refine WO_nil ?_
                                                              refine thn_normal ?_
                                                              refine W_if rfl (fun hb268 => ?_) (fun hb268 => ?_)
                                                              · have hb268p := hb268.h; try simp only [al_ete, al_dfn, Bool.not_eq_true', Bool.not_eq_false', al_ne, Bool.not_not, al_nn] at hb268p
                                                                have ho5 : o = 60 := by omega
                                                                refine W_seq ?_
                                                                refine W_drawE [false, false, false, false, false, false, false, false, false, false, false, false] hmix (by kernel_rfl) rfl ?_
                                                                refine WH_p (PS_move_ptr rfl) rfl ?_
                                                                refine WH_p (PS_nilCheck rfl) rfl ?_
                                                                refine WH_p (PS_fieldAddr 0 Hvac.runUnderlying99 rfl Hvac.sizeOf95 rfl rfl) rfl ?_
                                                                refine WH_p (PS_move_ptr rfl) rfl ?_
                                                                refine WH_call Hvac.call47 (by rfl) (Ret.mono (yArg_spec _ (OmB.ext hO (by repeat (first | assumption | exact Ext.refl _ | refine Ext.alloc ?_ _ | refine Ext.drew ?_ | refine Ext.setB ?_ (by first | omega | (simp only [size_alloc, size_setB, size_drew]; omega)) _ | exact Ext.trans (by assumption) (by assumption) | refine Ext.trans ?_ (by assumption)))) _ _ _ _ (by first | assumption | exact FrS.ext (by assumption) (by repeat (first | assumption | exact Ext.refl _ | refine Ext.alloc ?_ _ | refine Ext.drew ?_ | refine Ext.setB ?_ (by first | omega | (simp only [size_alloc, size_setB, size_drew]; omega)) _ | exact Ext.trans (by assumption) (by assumption) | refine Ext.trans ?_ (by assumption)))) hP _ (by decide)) ?_)
                                                                rintro _ w47_268 ⟨hE47_268, s47_268, rfl, hN47_268, hs47_268⟩
                                                                refine ⟨(fun h => by cases h), ?_⟩
                                                                have hz47_268 := hE47_268.1
                                                                try simp only [size_alloc, size_setB, size_drew] at hz47_268
                                                                refine WH_call Hvac.call121 (by rfl) (Ret.mono (yAddrOf_spec _ (OmB.ext hO (by repeat (first | assumption | exact Ext.refl _ | refine Ext.alloc ?_ _ | refine Ext.drew ?_ | refine Ext.setB ?_ (by first | omega | (simp only [size_alloc, size_setB, size_drew]; omega)) _ | exact Ext.trans (by assumption) (by assumption) | refine Ext.trans ?_ (by assumption)))) _ _ _ _ (by first | exact NN.nil _ | assumption | exact NN.ext (by assumption) (by repeat (first | assumption | exact Ext.refl _ | refine Ext.alloc ?_ _ | refine Ext.drew ?_ | refine Ext.setB ?_ (by first | omega | (simp only [size_alloc, size_setB, size_drew]; omega)) _ | exact Ext.trans (by assumption) (by assumption) | refine Ext.trans ?_ (by assumption)))) (by first | assumption | omega | (rw [sz_zero]; omega))) ?_)
                                                                rintro _ w121_269 ⟨hE121_269, rfl⟩
                                                                refine ⟨(fun h => by cases h), ?_⟩
                                                                have hz121_269 := hE121_269.1
                                                                try simp only [size_alloc, size_setB, size_drew] at hz121_269
                                                                refine WH_call Hvac.call297 (by rfl) (Ret.mono (accessS (OmB.ext hO (by repeat (first | assumption | exact Ext.refl _ | refine Ext.alloc ?_ _ | refine Ext.drew ?_ | refine Ext.setB ?_ (by first | omega | (simp only [size_alloc, size_setB, size_drew]; omega)) _ | exact Ext.trans (by assumption) (by assumption) | refine Ext.trans ?_ (by assumption)))) (by first | assumption | exact YSS.ext (by assumption) (by repeat (first | assumption | exact Ext.refl _ | refine Ext.alloc ?_ _ | refine Ext.drew ?_ | refine Ext.setB ?_ (by first | omega | (simp only [size_alloc, size_setB, size_drew]; omega)) _ | exact Ext.trans (by assumption) (by assumption) | refine Ext.trans ?_ (by assumption)))) hB hN (by first | assumption | exact hFR.sb | exact yaddr_by _)) ?_)
                                                                rintro _ w297_270 ⟨hE297_270, s297_270, rfl, hN297_270⟩
                                                                refine ⟨(fun h => by cases h), ?_⟩
                                                                have hz297_270 := hE297_270.1
                                                                try simp only [size_alloc, size_setB, size_drew] at hz297_270
                                                                have hs297_270 := sz_yaccess y.now.warmA _ hN297_270
                                                                refine WH_p (PS_move_ptr rfl) rfl ?_
                                                                refine WH_call Hvac.call47 (by rfl) (Ret.mono (yArg_spec _ (OmB.ext hO (by repeat (first | assumption | exact Ext.refl _ | refine Ext.alloc ?_ _ | refine Ext.drew ?_ | refine Ext.setB ?_ (by first | omega | (simp only [size_alloc, size_setB, size_drew]; omega)) _ | exact Ext.trans (by assumption) (by assumption) | refine Ext.trans ?_ (by assumption)))) _ _ _ _ (by first | assumption | exact FrS.ext (by assumption) (by repeat (first | assumption | exact Ext.refl _ | refine Ext.alloc ?_ _ | refine Ext.drew ?_ | refine Ext.setB ?_ (by first | omega | (simp only [size_alloc, size_setB, size_drew]; omega)) _ | exact Ext.trans (by assumption) (by assumption) | refine Ext.trans ?_ (by assumption)))) hP _ (by decide)) ?_)
                                                                rintro _ w47_271 ⟨hE47_271, s47_271, rfl, hN47_271, hs47_271⟩
                                                                refine ⟨(fun h => by cases h), ?_⟩
                                                                have hz47_271 := hE47_271.1
                                                                try simp only [size_alloc, size_setB, size_drew] at hz47_271
                                                                refine WH_call Hvac.call296 (by rfl) (Ret.mono (copyCost_spec2 _ (OmB.ext hO (by repeat (first | assumption | exact Ext.refl _ | refine Ext.alloc ?_ _ | refine Ext.drew ?_ | refine Ext.setB ?_ (by first | omega | (simp only [size_alloc, size_setB, size_drew]; omega)) _ | exact Ext.trans (by assumption) (by assumption) | refine Ext.trans ?_ (by assumption)))) _ _ _ _ (by first | exact NN.nil _ | assumption | exact NN.ext (by assumption) (by repeat (first | assumption | exact Ext.refl _ | refine Ext.alloc ?_ _ | refine Ext.drew ?_ | refine Ext.setB ?_ (by first | omega | (simp only [size_alloc, size_setB, size_drew]; omega)) _ | exact Ext.trans (by assumption) (by assumption) | refine Ext.trans ?_ (by assumption)))) (by first | assumption | omega | (rw [sz_zero]; omega))) ?_)
                                                                rintro _ w296_272 ⟨hE296_272, s296_272, rfl, hN296_272⟩
                                                                refine ⟨(fun h => by cases h), ?_⟩
                                                                have hz296_272 := hE296_272.1
                                                                try simp only [size_alloc, size_setB, size_drew] at hz296_272
                                                                have hs296_272 := hN296_272.z_copy
                                                                refine WH_call Hvac.call24 (by rfl) (Ret.mono (nAdd_spec (OmB.ext hO (by repeat (first | assumption | exact Ext.refl _ | refine Ext.alloc ?_ _ | refine Ext.drew ?_ | refine Ext.setB ?_ (by first | omega | (simp only [size_alloc, size_setB, size_drew]; omega)) _ | exact Ext.trans (by assumption) (by assumption) | refine Ext.trans ?_ (by assumption)))) (by first | exact NN.nil _ | assumption | exact NN.ext (by assumption) (by repeat (first | assumption | exact Ext.refl _ | refine Ext.alloc ?_ _ | refine Ext.drew ?_ | refine Ext.setB ?_ (by first | omega | (simp only [size_alloc, size_setB, size_drew]; omega)) _ | exact Ext.trans (by assumption) (by assumption) | refine Ext.trans ?_ (by assumption)))) (by first | exact NN.nil _ | assumption | exact NN.ext (by assumption) (by repeat (first | assumption | exact Ext.refl _ | refine Ext.alloc ?_ _ | refine Ext.drew ?_ | refine Ext.setB ?_ (by first | omega | (simp only [size_alloc, size_setB, size_drew]; omega)) _ | exact Ext.trans (by assumption) (by assumption) | refine Ext.trans ?_ (by assumption)))) (by first | assumption | omega | (rw [sz_zero]; omega)) (by first | assumption | omega | (rw [sz_zero]; omega))) ?_)
                                                                rintro _ w24_273 ⟨hE24_273, s24_273, rfl, hN24_273⟩
                                                                refine ⟨(fun h => by cases h), ?_⟩
                                                                have hz24_273 := hE24_273.1
                                                                try simp only [size_alloc, size_setB, size_drew] at hz24_273
                                                                have hs24_273 := hN24_273.z_add
                                                                refine WH_p (PS_assign_slice rfl) rfl ?_
                                                                refine WH_nil ?_
                                                                refine thn_normal ?_
                                                                refine W_ret ?_
                                                                refine inBlk_ret ?_
                                                                refine thn_ret ?_
                                                                refine bodyQ_ret1 Hvac.results197 rfl (.slice _ _ _) rfl ?_
                                                                first
                                                                | (subst ho5; exact ⟨(by repeat (first | assumption | exact Ext.refl _ | refine Ext.alloc ?_ _ | refine Ext.drew ?_ | refine Ext.setB ?_ (by first | omega | (simp only [size_alloc, size_setB, size_drew]; omega)) _ | refine Ext.trans ?_ (by assumption))), (_, _, _), rfl, (by first | exact NN.nil _ | assumption | exact NN.ext (by assumption) (by repeat (first | assumption | exact Ext.refl _ | refine Ext.alloc ?_ _ | refine Ext.drew ?_ | refine Ext.setB ?_ (by first | omega | (simp only [size_alloc, size_setB, size_drew]; omega)) _ | refine Ext.trans ?_ (by assumption))))⟩)
                                                                | (refine ⟨(by repeat (first | assumption | exact Ext.refl _ | refine Ext.alloc ?_ _ | refine Ext.drew ?_ | refine Ext.setB ?_ (by first | omega | (simp only [size_alloc, size_setB, size_drew]; omega)) _ | refine Ext.trans ?_ (by assumption))), (_, _, _), rfl, ?_⟩
                                                                   refine NN.castY (by first | exact NN.nil _ | assumption | exact NN.ext (by assumption) (by repeat (first | assumption | exact Ext.refl _ | refine Ext.alloc ?_ _ | refine Ext.drew ?_ | refine Ext.setB ?_ (by first | omega | (simp only [size_alloc, size_setB, size_drew]; omega)) _ | refine Ext.trans ?_ (by assumption)))) ?_
                                                                   unfold ybare
                                                                   (repeat (first | rw [if_pos (by first | omega | assumption)] | rw [if_neg (by first | omega | assumption)]))
                                                                   all_goals rfl)
                                                              · have hb268p := hb268.h; try simp only [al_ete, al_dfn, Bool.not_eq_true', Bool.not_eq_false', al_ne, Bool.not_not, al_nn] at hb268p
                                                                refine W_seq ?_
                                                                refine W_region rfl ?_
                                                                refine WO_p (PS_move_int rfl) ?_
                                                                refine WO_p (PS_geq rfl rfl) ?_
                                                                refine WO_p (PS_move_bool rfl) ?_
                                                                refine WO_if (t := 139) rfl (fun hb276 => ?_) (fun hb276 => ?_)
                                                                · have hb276p := hb276.h; try simp only [al_ete, al_dfn, Bool.not_eq_true', Bool.not_eq_false', al_ne, Bool.not_not, al_nn] at hb276p
                                                                  exfalso; omega
                                                                · have hb276p := hb276.h; try simp only [al_ete, al_dfn, Bool.not_eq_true', Bool.not_eq_false', al_ne, Bool.not_not, al_nn] at hb276p
                                                                  refine WO_guardF rfl rfl hb276.h ?_
                                                                  refine WO_guardF rfl rfl hb276.h ?_
                                                                  refine WO_p (PS_pickF rfl hb276.h rfl) ?_
                                                                  refine WO_p (PS_assign_bool rfl) ?_
                                                                  refine WO_nil ?_
                                                                  refine thn_normal ?_
                                                                  refine W_condF rfl rfl ?_
                                                                  refine W_seq ?_
                                                                  refine W_region rfl ?_
                                                                  refine WO_p (PS_move_int rfl) ?_
                                                                  refine WO_p (PS_eql rfl rfl) ?_
                                                                  refine WO_p (PS_assign_bool rfl) ?_
                                                                  refine WO_nil ?_
                                                                  refine thn_normal ?_
                                                                  refine W_if rfl (fun hb278 => ?_) (fun hb278 => ?_)
                                                                  · have hb278p := hb278.h; try simp only [al_ete, al_dfn, Bool.not_eq_true', Bool.not_eq_false', al_ne, Bool.not_not, al_nn] at hb278p
                                                                    exfalso; omega
                                                                  · have hb278p := hb278.h; try simp only [al_ete, al_dfn, Bool.not_eq_true', Bool.not_eq_false', al_ne, Bool.not_not, al_nn] at hb278p
                                                                    refine W_seq ?_
                                                                    refine W_region rfl ?_
                                                                    refine WO_p (PS_move_int rfl) ?_
                                                                    refine WO_p (PS_eql rfl rfl) ?_
                                                                    refine WO_p (PS_assign_bool rfl) ?_
                                                                    refine WO_nil ?_
                                                                    refine thn_normal ?_
                                                                    refine W_if rfl (fun hb280 => ?_) (fun hb280 => ?_)
                                                                    · have hb280p := hb280.h; try simp only [al_ete, al_dfn, Bool.not_eq_true', Bool.not_eq_false', al_ne, Bool.not_not, al_nn] at hb280p
                                                                      exfalso; omega
                                                                    · have hb280p := hb280.h; try simp only [al_ete, al_dfn, Bool.not_eq_true', Bool.not_eq_false', al_ne, Bool.not_not, al_nn] at hb280p
                                                                      refine W_seq ?_
                                                                      refine W_seq ?_
                                                                      refine W_region rfl ?_
                                                                      refine WO_p (PS_move_int rfl) ?_
                                                                      refine WO_p (PS_eql rfl rfl) ?_
                                                                      refine WO_p (PS_assign_bool rfl) ?_
                                                                      refine WO_nil ?_
                                                                      refine thn_normal ?_
                                                                      refine W_if rfl (fun hb282 => ?_) (fun hb282 => ?_)
                                                                      · have hb282p := hb282.h; try simp only [al_ete, al_dfn, Bool.not_eq_true', Bool.not_eq_false', al_ne, Bool.not_not, al_nn] at hb282p
                                                                        exfalso; omega
                                                                      · have hb282p := hb282.h; try simp only [al_ete, al_dfn, Bool.not_eq_true', Bool.not_eq_false', al_ne, Bool.not_not, al_nn] at hb282p
                                                                        refine W_region rfl ?_
                                                                        refine WO_p (PS_move_int rfl) ?_
                                                                        refine WO_p (PS_eql rfl rfl) ?_
                                                                        refine WO_p (PS_assign_bool rfl) ?_
                                                                        refine WO_nil ?_
                                                                        refine thn_normal ?_
                                                                        refine W_if rfl (fun hb284 => ?_) (fun hb284 => ?_)
                                                                        · have hb284p := hb284.h; try simp only [al_ete, al_dfn, Bool.not_eq_true', Bool.not_eq_false', al_ne, Bool.not_not, al_nn] at hb284p
                                                                          exfalso; omega
                                                                        · have hb284p := hb284.h; try simp only [al_ete, al_dfn, Bool.not_eq_true', Bool.not_eq_false', al_ne, Bool.not_not, al_nn] at hb284p
                                                                          refine W_seq ?_
                                                                          refine W_region rfl ?_
                                                                          refine WO_p (PS_move_int rfl) ?_
                                                                          refine WO_p (PS_eql rfl rfl) ?_
                                                                          refine WO_p (PS_assign_bool rfl) ?_
                                                                          refine WO_nil ?_
                                                                          refine thn_normal ?_
                                                                          refine W_if rfl (fun hb286 => ?_) (fun hb286 => ?_)
                                                                          · have hb286p := hb286.h; try simp only [al_ete, al_dfn, Bool.not_eq_true', Bool.not_eq_false', al_ne, Bool.not_not, al_nn] at hb286p
                                                                            exfalso; omega
                                                                          · have hb286p := hb286.h; try simp only [al_ete, al_dfn, Bool.not_eq_true', Bool.not_eq_false', al_ne, Bool.not_not, al_nn] at hb286p
                                                                            refine W_seq ?_
                                                                            refine W_region rfl ?_
                                                                            refine WO_p (PS_move_int rfl) ?_
                                                                            refine WO_call Hvac.call49 (by rfl) (Ret.mono (family_spec _ _ (by omega)) ?_)
                                                                            rintro _ w49_286 ⟨hE49_286, rfl⟩
                                                                            have hz49_286 := hE49_286.1
                                                                            try simp only [size_alloc, size_setB, size_drew] at hz49_286
                                                                            refine WO_p (PS_eql rfl rfl) ?_
                                                                            refine WO_p (PS_assign_bool rfl) ?_
                                                                            refine WO_nil ?_
                                                                            refine thn_normal ?_
                                                                            refine W_if rfl (fun hb289 => ?_) (fun hb289 => ?_)
                                                                            · have hb289p := hb289.h; try simp only [al_ete, al_dfn, Bool.not_eq_true', Bool.not_eq_false', al_ne, Bool.not_not, al_nn] at hb289p
                                                                              refine W_seq ?_
                                                                              refine W_region rfl ?_
                                                                              refine WO_p (PS_move_ptr rfl) ?_
                                                                              refine WO_p (PS_move_ptr rfl) ?_
                                                                              refine WO_p (PS_move_int rfl) ?_
                                                                              refine WO_call Hvac.call300 (by rfl) (Ret.mono (yEnterCost_spec _ (OmB.ext hO (by repeat (first | assumption | exact Ext.refl _ | refine Ext.alloc ?_ _ | refine Ext.drew ?_ | refine Ext.setB ?_ (by first | omega | (simp only [size_alloc, size_setB, size_drew]; omega)) _ | exact Ext.trans (by assumption) (by assumption) | refine Ext.trans ?_ (by assumption)))) _ _ _ _ (by first | assumption | exact YSS.ext (by assumption) (by repeat (first | assumption | exact Ext.refl _ | refine Ext.alloc ?_ _ | refine Ext.drew ?_ | refine Ext.setB ?_ (by first | omega | (simp only [size_alloc, size_setB, size_drew]; omega)) _ | exact Ext.trans (by assumption) (by assumption) | refine Ext.trans ?_ (by assumption)))) hB hN _ _ _ _ (by first | assumption | exact FrS.ext (by assumption) (by repeat (first | assumption | exact Ext.refl _ | refine Ext.alloc ?_ _ | refine Ext.drew ?_ | refine Ext.setB ?_ (by first | omega | (simp only [size_alloc, size_setB, size_drew]; omega)) _ | exact Ext.trans (by assumption) (by assumption) | refine Ext.trans ?_ (by assumption)))) hP _ (by omega)) ?_)
                                                                              rintro _ w300_289 ⟨hE300_289, s300_289, rfl, hN300_289⟩
                                                                              have hz300_289 := hE300_289.1
                                                                              try simp only [size_alloc, size_setB, size_drew] at hz300_289
                                                                              refine WO_p (PS_assign_slice rfl) ?_
                                                                              refine WO_nil ?_
                                                                              refine thn_normal ?_
                                                                              refine W_ret ?_
                                                                              refine inBlk_ret ?_
                                                                              refine thn_ret ?_
                                                                              refine bodyQ_ret1 Hvac.results197 rfl (.slice _ _ _) rfl ?_
                                                                              first
                                                                              | (subst ho5; exact ⟨(by repeat (first | assumption | exact Ext.refl _ | refine Ext.alloc ?_ _ | refine Ext.drew ?_ | refine Ext.setB ?_ (by first | omega | (simp only [size_alloc, size_setB, size_drew]; omega)) _ | refine Ext.trans ?_ (by assumption))), (_, _, _), rfl, (by first | exact NN.nil _ | assumption | exact NN.ext (by assumption) (by repeat (first | assumption | exact Ext.refl _ | refine Ext.alloc ?_ _ | refine Ext.drew ?_ | refine Ext.setB ?_ (by first | omega | (simp only [size_alloc, size_setB, size_drew]; omega)) _ | refine Ext.trans ?_ (by assumption))))⟩)
                                                                              | (refine ⟨(by repeat (first | assumption | exact Ext.refl _ | refine Ext.alloc ?_ _ | refine Ext.drew ?_ | refine Ext.setB ?_ (by first | omega | (simp only [size_alloc, size_setB, size_drew]; omega)) _ | refine Ext.trans ?_ (by assumption))), (_, _, _), rfl, ?_⟩
                                                                                 refine NN.castY (by first | exact NN.nil _ | assumption | exact NN.ext (by assumption) (by repeat (first | assumption | exact Ext.refl _ | refine Ext.alloc ?_ _ | refine Ext.drew ?_ | refine Ext.setB ?_ (by first | omega | (simp only [size_alloc, size_setB, size_drew]; omega)) _ | refine Ext.trans ?_ (by assumption)))) ?_
                                                                                 unfold ybare
                                                                                 (repeat (first | rw [if_pos (by first | omega | assumption)] | rw [if_neg (by first | omega | assumption)]))
                                                                                 all_goals rfl)
                                                                            · have hb289p := hb289.h; try simp only [al_ete, al_dfn, Bool.not_eq_true', Bool.not_eq_false', al_ne, Bool.not_not, al_nn] at hb289p
                                                                              refine W_skip ?_
                                                                              refine inBlk_normal ?_
                                                                              refine thn_normal ?_
                                                                              refine W_seq ?_
                                                                              refine W_region rfl ?_
                                                                              refine WO_call Hvac.call19 (by rfl) (Ret.mono (nNum_spec (OmB.ext hO (by repeat (first | assumption | exact Ext.refl _ | refine Ext.alloc ?_ _ | refine Ext.drew ?_ | refine Ext.setB ?_ (by first | omega | (simp only [size_alloc, size_setB, size_drew]; omega)) _ | exact Ext.trans (by assumption) (by assumption) | refine Ext.trans ?_ (by assumption)))) ⟨by omega, by omega⟩) ?_)
                                                                              rintro _ w19_290 ⟨hE19_290, s19_290, rfl, hN19_290, hs19_290⟩
                                                                              have hz19_290 := hE19_290.1
                                                                              try simp only [size_alloc, size_setB, size_drew] at hz19_290
                                                                              try simp only [Int.toNat_natCast, toNat_lit] at hN19_290 hs19_290
                                                                              refine WO_p (PS_assign_slice rfl) ?_
                                                                              refine WO_nil ?_
                                                                              refine thn_normal ?_
                                                                              refine W_ret ?_
                                                                              refine bodyQ_ret1 Hvac.results197 rfl (.slice _ _ _) rfl ?_
                                                                              first
                                                                              | (subst ho5; exact ⟨(by repeat (first | assumption | exact Ext.refl _ | refine Ext.alloc ?_ _ | refine Ext.drew ?_ | refine Ext.setB ?_ (by first | omega | (simp only [size_alloc, size_setB, size_drew]; omega)) _ | refine Ext.trans ?_ (by assumption))), (_, _, _), rfl, (by first | exact NN.nil _ | assumption | exact NN.ext (by assumption) (by repeat (first | assumption | exact Ext.refl _ | refine Ext.alloc ?_ _ | refine Ext.drew ?_ | refine Ext.setB ?_ (by first | omega | (simp only [size_alloc, size_setB, size_drew]; omega)) _ | refine Ext.trans ?_ (by assumption))))⟩)
                                                                              | (refine ⟨(by repeat (first | assumption | exact Ext.refl _ | refine Ext.alloc ?_ _ | refine Ext.drew ?_ | refine Ext.setB ?_ (by first | omega | (simp only [size_alloc, size_setB, size_drew]; omega)) _ | refine Ext.trans ?_ (by assumption))), (_, _, _), rfl, ?_⟩
                                                                                 refine NN.castY (by first | exact NN.nil _ | assumption | exact NN.ext (by assumption) (by repeat (first | assumption | exact Ext.refl _ | refine Ext.alloc ?_ _ | refine Ext.drew ?_ | refine Ext.setB ?_ (by first | omega | (simp only [size_alloc, size_setB, size_drew]; omega)) _ | refine Ext.trans ?_ (by assumption)))) ?_
                                                                                 unfold ybare
                                                                                 (repeat (first | rw [if_pos (by first | omega | assumption)] | rw [if_neg (by first | omega | assumption)]))
                                                                                 all_goals rfl)
                  · have hb195p := hb195.h; try simp only [al_ete, al_dfn, Bool.not_eq_true', Bool.not_eq_false', al_ne, Bool.not_not, al_nn] at hb195p
                    exfalso; omega
    · have hb96p := hb96.h; try simp only [al_ete, al_dfn, Bool.not_eq_true', Bool.not_eq_false', al_ne, Bool.not_not, al_nn] at hb96p
      refine WO_guardF rfl rfl hb96.h ?_
      refine WO_guardF rfl rfl hb96.h ?_
      refine WO_p (PS_pickF rfl hb96.h rfl) ?_
      refine WO_p (PS_assign_bool rfl) ?_
      refine WO_nil ?_
      refine thn_normal ?_
      refine W_condF rfl rfl ?_
      refine W_seq ?_
      refine W_region rfl ?_
      refine WO_p (PS_move_int rfl) ?_
      refine WO_p (PS_eql rfl rfl) ?_
      refine WO_p (PS_assign_bool rfl) ?_
      refine WO_nil ?_
      refine thn_normal ?_
      refine W_if rfl (fun hb293 => ?_) (fun hb293 => ?_)
      · have hb293p := hb293.h; try simp only [al_ete, al_dfn, Bool.not_eq_true', Bool.not_eq_false', al_ne, Bool.not_not, al_nn] at hb293p
        have ho5 : o = 1 := by omega
        refine W_skip ?_
        refine thn_normal ?_
        refine W_condT rfl hb293.h ?_
        refine W_seq ?_
        refine W_region rfl ?_
        refine WO_call Hvac.call19 (by rfl) (Ret.mono (nNum_spec (OmB.ext hO (by repeat (first | assumption | exact Ext.refl _ | refine Ext.alloc ?_ _ | refine Ext.drew ?_ | refine Ext.setB ?_ (by first | omega | (simp only [size_alloc, size_setB, size_drew]; omega)) _ | exact Ext.trans (by assumption) (by assumption) | refine Ext.trans ?_ (by assumption)))) ⟨by omega, by omega⟩) ?_)
        rintro _ w19_293 ⟨hE19_293, s19_293, rfl, hN19_293, hs19_293⟩
        have hz19_293 := hE19_293.1
        try simp only [size_alloc, size_setB, size_drew] at hz19_293
        try simp only [Int.toNat_natCast, toNat_lit] at hN19_293 hs19_293
        refine WO_p (PS_assign_slice rfl) ?_
        refine WO_nil ?_
        refine thn_normal ?_
        refine W_ret ?_
        refine inBlk_ret ?_
        refine thn_ret ?_
        refine bodyQ_ret1 Hvac.results197 rfl (.slice _ _ _) rfl ?_
        first
        | (subst ho5; exact ⟨(by repeat (first | assumption | exact Ext.refl _ | refine Ext.alloc ?_ _ | refine Ext.drew ?_ | refine Ext.setB ?_ (by first | omega | (simp only [size_alloc, size_setB, size_drew]; omega)) _ | refine Ext.trans ?_ (by assumption))), (_, _, _), rfl, (by first | exact NN.nil _ | assumption | exact NN.ext (by assumption) (by repeat (first | assumption | exact Ext.refl _ | refine Ext.alloc ?_ _ | refine Ext.drew ?_ | refine Ext.setB ?_ (by first | omega | (simp only [size_alloc, size_setB, size_drew]; omega)) _ | refine Ext.trans ?_ (by assumption))))⟩)
        | (refine ⟨(by repeat (first | assumption | exact Ext.refl _ | refine Ext.alloc ?_ _ | refine Ext.drew ?_ | refine Ext.setB ?_ (by first | omega | (simp only [size_alloc, size_setB, size_drew]; omega)) _ | refine Ext.trans ?_ (by assumption))), (_, _, _), rfl, ?_⟩
           refine NN.castY (by first | exact NN.nil _ | assumption | exact NN.ext (by assumption) (by repeat (first | assumption | exact Ext.refl _ | refine Ext.alloc ?_ _ | refine Ext.drew ?_ | refine Ext.setB ?_ (by first | omega | (simp only [size_alloc, size_setB, size_drew]; omega)) _ | refine Ext.trans ?_ (by assumption)))) ?_
           unfold ybare
           (repeat (first | rw [if_pos (by first | omega | assumption)] | rw [if_neg (by first | omega | assumption)]))
           all_goals rfl)
      · have hb293p := hb293.h; try simp only [al_ete, al_dfn, Bool.not_eq_true', Bool.not_eq_false', al_ne, Bool.not_not, al_nn] at hb293p
        refine W_seq ?_
        refine W_region rfl ?_
        refine WO_p (PS_move_int rfl) ?_
        refine WO_p (PS_eql rfl rfl) ?_
        refine WO_p (PS_assign_bool rfl) ?_
        refine WO_nil ?_
        refine thn_normal ?_
        refine W_if rfl (fun hb296 => ?_) (fun hb296 => ?_)
        · have hb296p := hb296.h; try simp only [al_ete, al_dfn, Bool.not_eq_true', Bool.not_eq_false', al_ne, Bool.not_not, al_nn] at hb296p
          have ho5 : o = 3 := by omega
          refine W_skip ?_
          refine thn_normal ?_
          refine W_condT rfl hb296.h ?_
          refine W_seq ?_
          refine W_region rfl ?_
          refine WO_call Hvac.call19 (by rfl) (Ret.mono (nNum_spec (OmB.ext hO (by repeat (first | assumption | exact Ext.refl _ | refine Ext.alloc ?_ _ | refine Ext.drew ?_ | refine Ext.setB ?_ (by first | omega | (simp only [size_alloc, size_setB, size_drew]; omega)) _ | exact Ext.trans (by assumption) (by assumption) | refine Ext.trans ?_ (by assumption)))) ⟨by omega, by omega⟩) ?_)
          rintro _ w19_296 ⟨hE19_296, s19_296, rfl, hN19_296, hs19_296⟩
          have hz19_296 := hE19_296.1
          try simp only [size_alloc, size_setB, size_drew] at hz19_296
          try simp only [Int.toNat_natCast, toNat_lit] at hN19_296 hs19_296
          refine WO_p (PS_assign_slice rfl) ?_
          refine WO_nil ?_
          refine thn_normal ?_
          refine W_ret ?_
          refine inBlk_ret ?_
          refine thn_ret ?_
          refine bodyQ_ret1 Hvac.results197 rfl (.slice _ _ _) rfl ?_
          first
          | (subst ho5; exact ⟨(by repeat (first | assumption | exact Ext.refl _ | refine Ext.alloc ?_ _ | refine Ext.drew ?_ | refine Ext.setB ?_ (by first | omega | (simp only [size_alloc, size_setB, size_drew]; omega)) _ | refine Ext.trans ?_ (by assumption))), (_, _, _), rfl, (by first | exact NN.nil _ | assumption | exact NN.ext (by assumption) (by repeat (first | assumption | exact Ext.refl _ | refine Ext.alloc ?_ _ | refine Ext.drew ?_ | refine Ext.setB ?_ (by first | omega | (simp only [size_alloc, size_setB, size_drew]; omega)) _ | refine Ext.trans ?_ (by assumption))))⟩)
          | (refine ⟨(by repeat (first | assumption | exact Ext.refl _ | refine Ext.alloc ?_ _ | refine Ext.drew ?_ | refine Ext.setB ?_ (by first | omega | (simp only [size_alloc, size_setB, size_drew]; omega)) _ | refine Ext.trans ?_ (by assumption))), (_, _, _), rfl, ?_⟩
             refine NN.castY (by first | exact NN.nil _ | assumption | exact NN.ext (by assumption) (by repeat (first | assumption | exact Ext.refl _ | refine Ext.alloc ?_ _ | refine Ext.drew ?_ | refine Ext.setB ?_ (by first | omega | (simp only [size_alloc, size_setB, size_drew]; omega)) _ | refine Ext.trans ?_ (by assumption)))) ?_
             unfold ybare
             (repeat (first | rw [if_pos (by first | omega | assumption)] | rw [if_neg (by first | omega | assumption)]))
             all_goals rfl)
        · have hb296p := hb296.h; try simp only [al_ete, al_dfn, Bool.not_eq_true', Bool.not_eq_false', al_ne, Bool.not_not, al_nn] at hb296p
          refine W_seq ?_
          refine W_region rfl ?_
          refine WO_p (PS_move_int rfl) ?_
          refine WO_p (PS_eql rfl rfl) ?_
          refine WO_p (PS_assign_bool rfl) ?_
          refine WO_nil ?_
          refine thn_normal ?_
          refine W_if rfl (fun hb299 => ?_) (fun hb299 => ?_)
          · have hb299p := hb299.h; try simp only [al_ete, al_dfn, Bool.not_eq_true', Bool.not_eq_false', al_ne, Bool.not_not, al_nn] at hb299p
            exfalso; omega
          · have hb299p := hb299.h; try simp only [al_ete, al_dfn, Bool.not_eq_true', Bool.not_eq_false', al_ne, Bool.not_not, al_nn] at hb299p
            refine W_region rfl ?_
            refine WO_p (PS_move_int rfl) ?_
            refine WO_p (PS_geq rfl rfl) ?_
            refine WO_p (PS_move_bool rfl) ?_
            refine WO_if (t := 31) rfl (fun hb301 => ?_) (fun hb301 => ?_)
            · have hb301p := hb301.h; try simp only [al_ete, al_dfn, Bool.not_eq_true', Bool.not_eq_false', al_ne, Bool.not_not, al_nn] at hb301p
              exfalso; omega
            · have hb301p := hb301.h; try simp only [al_ete, al_dfn, Bool.not_eq_true', Bool.not_eq_false', al_ne, Bool.not_not, al_nn] at hb301p
              refine WO_guardF rfl rfl hb301.h ?_
              refine WO_guardF rfl rfl hb301.h ?_
              refine WO_p (PS_pickF rfl hb301.h rfl) ?_
              refine WO_p (PS_assign_bool rfl) ?_
              refine WO_nil ?_
              refine thn_normal ?_
              refine W_condF rfl rfl ?_
              refine W_seq ?_
              refine W_seq ?_
              refine W_region rfl ?_
              refine WO_p (PS_move_int rfl) ?_
              refine WO_p (PS_eql rfl rfl) ?_
              refine WO_p (PS_assign_bool rfl) ?_
              refine WO_nil ?_
              refine thn_normal ?_
              refine W_if rfl (fun hb303 => ?_) (fun hb303 => ?_)
              · have hb303p := hb303.h; try simp only [al_ete, al_dfn, Bool.not_eq_true', Bool.not_eq_false', al_ne, Bool.not_not, al_nn] at hb303p
                have ho5 : o = 2 := by omega
                refine W_skip ?_
                refine thn_normal ?_
                refine W_condT rfl hb303.h ?_
                refine W_seq ?_
                refine W_region rfl ?_
                refine WO_call Hvac.call19 (by rfl) (Ret.mono (nNum_spec (OmB.ext hO (by repeat (first | assumption | exact Ext.refl _ | refine Ext.alloc ?_ _ | refine Ext.drew ?_ | refine Ext.setB ?_ (by first | omega | (simp only [size_alloc, size_setB, size_drew]; omega)) _ | exact Ext.trans (by assumption) (by assumption) | refine Ext.trans ?_ (by assumption)))) ⟨by omega, by omega⟩) ?_)
                rintro _ w19_303 ⟨hE19_303, s19_303, rfl, hN19_303, hs19_303⟩
                have hz19_303 := hE19_303.1
                try simp only [size_alloc, size_setB, size_drew] at hz19_303
                try simp only [Int.toNat_natCast, toNat_lit] at hN19_303 hs19_303
                refine WO_p (PS_assign_slice rfl) ?_
                refine WO_nil ?_
                refine thn_normal ?_
                refine W_ret ?_
                refine inBlk_ret ?_
                refine thn_ret ?_
                refine bodyQ_ret1 Hvac.results197 rfl (.slice _ _ _) rfl ?_
                first
                | (subst ho5; exact ⟨(by repeat (first | assumption | exact Ext.refl _ | refine Ext.alloc ?_ _ | refine Ext.drew ?_ | refine Ext.setB ?_ (by first | omega | (simp only [size_alloc, size_setB, size_drew]; omega)) _ | refine Ext.trans ?_ (by assumption))), (_, _, _), rfl, (by first | exact NN.nil _ | assumption | exact NN.ext (by assumption) (by repeat (first | assumption | exact Ext.refl _ | refine Ext.alloc ?_ _ | refine Ext.drew ?_ | refine Ext.setB ?_ (by first | omega | (simp only [size_alloc, size_setB, size_drew]; omega)) _ | refine Ext.trans ?_ (by assumption))))⟩)
                | (refine ⟨(by repeat (first | assumption | exact Ext.refl _ | refine Ext.alloc ?_ _ | refine Ext.drew ?_ | refine Ext.setB ?_ (by first | omega | (simp only [size_alloc, size_setB, size_drew]; omega)) _ | refine Ext.trans ?_ (by assumption))), (_, _, _), rfl, ?_⟩
                   refine NN.castY (by first | exact NN.nil _ | assumption | exact NN.ext (by assumption) (by repeat (first | assumption | exact Ext.refl _ | refine Ext.alloc ?_ _ | refine Ext.drew ?_ | refine Ext.setB ?_ (by first | omega | (simp only [size_alloc, size_setB, size_drew]; omega)) _ | refine Ext.trans ?_ (by assumption)))) ?_
                   unfold ybare
                   (repeat (first | rw [if_pos (by first | omega | assumption)] | rw [if_neg (by first | omega | assumption)]))
                   all_goals rfl)
              · have hb303p := hb303.h; try simp only [al_ete, al_dfn, Bool.not_eq_true', Bool.not_eq_false', al_ne, Bool.not_not, al_nn] at hb303p
                refine W_seq ?_
                refine W_region rfl ?_
                refine WO_p (PS_move_int rfl) ?_
                refine WO_p (PS_geq rfl rfl) ?_
                refine WO_p (PS_move_bool rfl) ?_
                refine WO_if (t := 41) rfl (fun hb306 => ?_) (fun hb306 => ?_)
                · have hb306p := hb306.h; try simp only [al_ete, al_dfn, Bool.not_eq_true', Bool.not_eq_false', al_ne, Bool.not_not, al_nn] at hb306p
                  refine WO_guardT rfl rfl hb306.h ?_
                  refine WO_p (PS_move_int rfl) ?_
                  refine WO_guardT rfl rfl hb306.h ?_
                  refine WO_p (PS_leq rfl rfl) ?_
                  refine WO_p (PS_pickT rfl hb306.h rfl) ?_
                  refine WO_p (PS_assign_bool rfl) ?_
                  refine WO_nil ?_
                  refine thn_normal ?_
                  refine W_if rfl (fun hb308 => ?_) (fun hb308 => ?_)
                  · have hb308p := hb308.h; try simp only [al_ete, al_dfn, Bool.not_eq_true', Bool.not_eq_false', al_ne, Bool.not_not, al_nn] at hb308p
                    refine W_skip ?_
                    refine thn_normal ?_
                    refine W_condT rfl hb308.h ?_
                    refine W_seq ?_
                    refine W_region rfl ?_
                    refine WO_call Hvac.call19 (by rfl) (Ret.mono (nNum_spec (OmB.ext hO (by repeat (first | assumption | exact Ext.refl _ | refine Ext.alloc ?_ _ | refine Ext.drew ?_ | refine Ext.setB ?_ (by first | omega | (simp only [size_alloc, size_setB, size_drew]; omega)) _ | exact Ext.trans (by assumption) (by assumption) | refine Ext.trans ?_ (by assumption)))) ⟨by omega, by omega⟩) ?_)
                    rintro _ w19_308 ⟨hE19_308, s19_308, rfl, hN19_308, hs19_308⟩
                    have hz19_308 := hE19_308.1
                    try simp only [size_alloc, size_setB, size_drew] at hz19_308
                    try simp only [Int.toNat_natCast, toNat_lit] at hN19_308 hs19_308
                    refine WO_p (PS_assign_slice rfl) ?_
                    refine WO_nil ?_
                    refine thn_normal ?_
                    refine W_ret ?_
                    refine inBlk_ret ?_
                    refine thn_ret ?_
                    refine bodyQ_ret1 Hvac.results197 rfl (.slice _ _ _) rfl ?_
                    first
                    | (subst ho5; exact ⟨(by repeat (first | assumption | exact Ext.refl _ | refine Ext.alloc ?_ _ | refine Ext.drew ?_ | refine Ext.setB ?_ (by first | omega | (simp only [size_alloc, size_setB, size_drew]; omega)) _ | refine Ext.trans ?_ (by assumption))), (_, _, _), rfl, (by first | exact NN.nil _ | assumption | exact NN.ext (by assumption) (by repeat (first | assumption | exact Ext.refl _ | refine Ext.alloc ?_ _ | refine Ext.drew ?_ | refine Ext.setB ?_ (by first | omega | (simp only [size_alloc, size_setB, size_drew]; omega)) _ | refine Ext.trans ?_ (by assumption))))⟩)
                    | (refine ⟨(by repeat (first | assumption | exact Ext.refl _ | refine Ext.alloc ?_ _ | refine Ext.drew ?_ | refine Ext.setB ?_ (by first | omega | (simp only [size_alloc, size_setB, size_drew]; omega)) _ | refine Ext.trans ?_ (by assumption))), (_, _, _), rfl, ?_⟩
                       refine NN.castY (by first | exact NN.nil _ | assumption | exact NN.ext (by assumption) (by repeat (first | assumption | exact Ext.refl _ | refine Ext.alloc ?_ _ | refine Ext.drew ?_ | refine Ext.setB ?_ (by first | omega | (simp only [size_alloc, size_setB, size_drew]; omega)) _ | refine Ext.trans ?_ (by assumption)))) ?_
                       unfold ybare
                       (repeat (first | rw [if_pos (by first | omega | assumption)] | rw [if_neg (by first | omega | assumption)]))
                       all_goals rfl)
                  · have hb308p := hb308.h; try simp only [al_ete, al_dfn, Bool.not_eq_true', Bool.not_eq_false', al_ne, Bool.not_not, al_nn] at hb308p
                    refine W_seq ?_
                    refine W_region rfl ?_
                    refine WO_p (PS_move_int rfl) ?_
                    refine WO_p (PS_eql rfl rfl) ?_
                    refine WO_p (PS_assign_bool rfl) ?_
                    refine WO_nil ?_
                    refine thn_normal ?_
                    refine W_if rfl (fun hb311 => ?_) (fun hb311 => ?_)
                    · have hb311p := hb311.h; try simp only [al_ete, al_dfn, Bool.not_eq_true', Bool.not_eq_false', al_ne, Bool.not_not, al_nn] at hb311p
                      have ho5 : o = 11 := by omega
                      refine W_skip ?_
                      refine thn_normal ?_
                      refine W_condT rfl hb311.h ?_
                      refine W_seq ?_
                      refine W_region rfl ?_
                      refine WO_call Hvac.call19 (by rfl) (Ret.mono (nNum_spec (OmB.ext hO (by repeat (first | assumption | exact Ext.refl _ | refine Ext.alloc ?_ _ | refine Ext.drew ?_ | refine Ext.setB ?_ (by first | omega | (simp only [size_alloc, size_setB, size_drew]; omega)) _ | exact Ext.trans (by assumption) (by assumption) | refine Ext.trans ?_ (by assumption)))) ⟨by omega, by omega⟩) ?_)
                      rintro _ w19_311 ⟨hE19_311, s19_311, rfl, hN19_311, hs19_311⟩
                      have hz19_311 := hE19_311.1
                      try simp only [size_alloc, size_setB, size_drew] at hz19_311
                      try simp only [Int.toNat_natCast, toNat_lit] at hN19_311 hs19_311
                      refine WO_p (PS_assign_slice rfl) ?_
                      refine WO_nil ?_
                      refine thn_normal ?_
                      refine W_ret ?_
                      refine inBlk_ret ?_
                      refine thn_ret ?_
                      refine bodyQ_ret1 Hvac.results197 rfl (.slice _ _ _) rfl ?_
                      first
                      | (subst ho5; exact ⟨(by repeat (first | assumption | exact Ext.refl _ | refine Ext.alloc ?_ _ | refine Ext.drew ?_ | refine Ext.setB ?_ (by first | omega | (simp only [size_alloc, size_setB, size_drew]; omega)) _ | refine Ext.trans ?_ (by assumption))), (_, _, _), rfl, (by first | exact NN.nil _ | assumption | exact NN.ext (by assumption) (by repeat (first | assumption | exact Ext.refl _ | refine Ext.alloc ?_ _ | refine Ext.drew ?_ | refine Ext.setB ?_ (by first | omega | (simp only [size_alloc, size_setB, size_drew]; omega)) _ | refine Ext.trans ?_ (by assumption))))⟩)
                      | (refine ⟨(by repeat (first | assumption | exact Ext.refl _ | refine Ext.alloc ?_ _ | refine Ext.drew ?_ | refine Ext.setB ?_ (by first | omega | (simp only [size_alloc, size_setB, size_drew]; omega)) _ | refine Ext.trans ?_ (by assumption))), (_, _, _), rfl, ?_⟩
                         refine NN.castY (by first | exact NN.nil _ | assumption | exact NN.ext (by assumption) (by repeat (first | assumption | exact Ext.refl _ | refine Ext.alloc ?_ _ | refine Ext.drew ?_ | refine Ext.setB ?_ (by first | omega | (simp only [size_alloc, size_setB, size_drew]; omega)) _ | refine Ext.trans ?_ (by assumption)))) ?_
                         unfold ybare
                         (repeat (first | rw [if_pos (by first | omega | assumption)] | rw [if_neg (by first | omega | assumption)]))
                         all_goals rfl)
                    · have hb311p := hb311.h; try simp only [al_ete, al_dfn, Bool.not_eq_true', Bool.not_eq_false', al_ne, Bool.not_not, al_nn] at hb311p
                      refine W_region rfl ?_
                      refine WO_p (PS_move_int rfl) ?_
                      refine WO_p (PS_eql rfl rfl) ?_
                      refine WO_p (PS_assign_bool rfl) ?_
                      refine WO_nil ?_
                      refine thn_normal ?_
                      refine W_if rfl (fun hb314 => ?_) (fun hb314 => ?_)
                      · have hb314p := hb314.h; try simp only [al_ete, al_dfn, Bool.not_eq_true', Bool.not_eq_false', al_ne, Bool.not_not, al_nn] at hb314p
                        exfalso; omega
                      · have hb314p := hb314.h; try simp only [al_ete, al_dfn, Bool.not_eq_true', Bool.not_eq_false', al_ne, Bool.not_not, al_nn] at hb314p
                        refine W_seq ?_
                        refine W_seq ?_
                        refine W_region rfl ?_
                        refine WO_p (PS_move_int rfl) ?_
                        refine WO_p (PS_eql rfl rfl) ?_
                        refine WO_p (PS_assign_bool rfl) ?_
                        refine WO_nil ?_
                        refine thn_normal ?_
                        refine W_if rfl (fun hb316 => ?_) (fun hb316 => ?_)
                        · have hb316p := hb316.h; try simp only [al_ete, al_dfn, Bool.not_eq_true', Bool.not_eq_false', al_ne, Bool.not_not, al_nn] at hb316p
                          have ho5 : o = 8 := by omega
                          refine W_skip ?_
                          refine thn_normal ?_
                          refine W_condT rfl hb316.h ?_
                          refine W_seq ?_
                          refine W_region rfl ?_
                          refine WO_call Hvac.call19 (by rfl) (Ret.mono (nNum_spec (OmB.ext hO (by repeat (first | assumption | exact Ext.refl _ | refine Ext.alloc ?_ _ | refine Ext.drew ?_ | refine Ext.setB ?_ (by first | omega | (simp only [size_alloc, size_setB, size_drew]; omega)) _ | exact Ext.trans (by assumption) (by assumption) | refine Ext.trans ?_ (by assumption)))) ⟨by omega, by omega⟩) ?_)
                          rintro _ w19_316 ⟨hE19_316, s19_316, rfl, hN19_316, hs19_316⟩
                          have hz19_316 := hE19_316.1
                          try simp only [size_alloc, size_setB, size_drew] at hz19_316
                          try simp only [Int.toNat_natCast, toNat_lit] at hN19_316 hs19_316
                          refine WO_p (PS_assign_slice rfl) ?_
                          refine WO_nil ?_
                          refine thn_normal ?_
                          refine W_ret ?_
                          refine inBlk_ret ?_
                          refine thn_ret ?_
                          refine bodyQ_ret1 Hvac.results197 rfl (.slice _ _ _) rfl ?_
                          first
                          | (subst ho5; exact ⟨(by repeat (first | assumption | exact Ext.refl _ | refine Ext.alloc ?_ _ | refine Ext.drew ?_ | refine Ext.setB ?_ (by first | omega | (simp only [size_alloc, size_setB, size_drew]; omega)) _ | refine Ext.trans ?_ (by assumption))), (_, _, _), rfl, (by first | exact NN.nil _ | assumption | exact NN.ext (by assumption) (by repeat (first | assumption | exact Ext.refl _ | refine Ext.alloc ?_ _ | refine Ext.drew ?_ | refine Ext.setB ?_ (by first | omega | (simp only [size_alloc, size_setB, size_drew]; omega)) _ | refine Ext.trans ?_ (by assumption))))⟩)
                          | (refine ⟨(by repeat (first | assumption | exact Ext.refl _ | refine Ext.alloc ?_ _ | refine Ext.drew ?_ | refine Ext.setB ?_ (by first | omega | (simp only [size_alloc, size_setB, size_drew]; omega)) _ | refine Ext.trans ?_ (by assumption))), (_, _, _), rfl, ?_⟩
                             refine NN.castY (by first | exact NN.nil _ | assumption | exact NN.ext (by assumption) (by repeat (first | assumption | exact Ext.refl _ | refine Ext.alloc ?_ _ | refine Ext.drew ?_ | refine Ext.setB ?_ (by first | omega | (simp only [size_alloc, size_setB, size_drew]; omega)) _ | refine Ext.trans ?_ (by assumption)))) ?_
                             unfold ybare
                             (repeat (first | rw [if_pos (by first | omega | assumption)] | rw [if_neg (by first | omega | assumption)]))
                             all_goals rfl)
                        · have hb316p := hb316.h; try simp only [al_ete, al_dfn, Bool.not_eq_true', Bool.not_eq_false', al_ne, Bool.not_not, al_nn] at hb316p
                          refine W_seq ?_
                          refine W_region rfl ?_
                          refine WO_p (PS_move_int rfl) ?_
                          refine WO_p (PS_eql rfl rfl) ?_
                          refine WO_p (PS_assign_bool rfl) ?_
                          refine WO_nil ?_
                          refine thn_normal ?_
                          refine W_if rfl (fun hb319 => ?_) (fun hb319 => ?_)
                          · have hb319p := hb319.h; try simp only [al_ete, al_dfn, Bool.not_eq_true', Bool.not_eq_false', al_ne, Bool.not_not, al_nn] at hb319p
                            have ho5 : o = 9 := by omega
                            refine W_skip ?_
                            refine thn_normal ?_
                            refine W_condT rfl hb319.h ?_
                            refine W_seq ?_
                            refine W_region rfl ?_
                            refine WO_call Hvac.call19 (by rfl) (Ret.mono (nNum_spec (OmB.ext hO (by repeat (first | assumption | exact Ext.refl _ | refine Ext.alloc ?_ _ | refine Ext.drew ?_ | refine Ext.setB ?_ (by first | omega | (simp only [size_alloc, size_setB, size_drew]; omega)) _ | exact Ext.trans (by assumption) (by assumption) | refine Ext.trans ?_ (by assumption)))) ⟨by omega, by omega⟩) ?_)
                            rintro _ w19_319 ⟨hE19_319, s19_319, rfl, hN19_319, hs19_319⟩
                            have hz19_319 := hE19_319.1
                            try simp only [size_alloc, size_setB, size_drew] at hz19_319
                            try simp only [Int.toNat_natCast, toNat_lit] at hN19_319 hs19_319
                            refine WO_p (PS_assign_slice rfl) ?_
                            refine WO_nil ?_
                            refine thn_normal ?_
                            refine W_ret ?_
                            refine inBlk_ret ?_
                            refine thn_ret ?_
                            refine bodyQ_ret1 Hvac.results197 rfl (.slice _ _ _) rfl ?_
                            first
                            | (subst ho5; exact ⟨(by repeat (first | assumption | exact Ext.refl _ | refine Ext.alloc ?_ _ | refine Ext.drew ?_ | refine Ext.setB ?_ (by first | omega | (simp only [size_alloc, size_setB, size_drew]; omega)) _ | refine Ext.trans ?_ (by assumption))), (_, _, _), rfl, (by first | exact NN.nil _ | assumption | exact NN.ext (by assumption) (by repeat (first | assumption | exact Ext.refl _ | refine Ext.alloc ?_ _ | refine Ext.drew ?_ | refine Ext.setB ?_ (by first | omega | (simp only [size_alloc, size_setB, size_drew]; omega)) _ | refine Ext.trans ?_ (by assumption))))⟩)
                            | (refine ⟨(by repeat (first | assumption | exact Ext.refl _ | refine Ext.alloc ?_ _ | refine Ext.drew ?_ | refine Ext.setB ?_ (by first | omega | (simp only [size_alloc, size_setB, size_drew]; omega)) _ | refine Ext.trans ?_ (by assumption))), (_, _, _), rfl, ?_⟩
                               refine NN.castY (by first | exact NN.nil _ | assumption | exact NN.ext (by assumption) (by repeat (first | assumption | exact Ext.refl _ | refine Ext.alloc ?_ _ | refine Ext.drew ?_ | refine Ext.setB ?_ (by first | omega | (simp only [size_alloc, size_setB, size_drew]; omega)) _ | refine Ext.trans ?_ (by assumption)))) ?_
                               unfold ybare
                               (repeat (first | rw [if_pos (by first | omega | assumption)] | rw [if_neg (by first | omega | assumption)]))
                               all_goals rfl)
                          · have hb319p := hb319.h; try simp only [al_ete, al_dfn, Bool.not_eq_true', Bool.not_eq_false', al_ne, Bool.not_not, al_nn] at hb319p
                            refine W_region rfl ?_
                            refine WO_p (PS_move_int rfl) ?_
                            refine WO_p (PS_eql rfl rfl) ?_
                            refine WO_p (PS_assign_bool rfl) ?_
                            refine WO_nil ?_
                            refine thn_normal ?_
                            refine W_if rfl (fun hb322 => ?_) (fun hb322 => ?_)
                            · have hb322p := hb322.h; try simp only [al_ete, al_dfn, Bool.not_eq_true', Bool.not_eq_false', al_ne, Bool.not_not, al_nn] at hb322p
                              exfalso; omega
                            · have hb322p := hb322.h; try simp only [al_ete, al_dfn, Bool.not_eq_true', Bool.not_eq_false', al_ne, Bool.not_not, al_nn] at hb322p
                              refine W_seq ?_
                              refine W_region rfl ?_
                              refine WO_p (PS_move_int rfl) ?_
                              refine WO_p (PS_eql rfl rfl) ?_
                              refine WO_p (PS_assign_bool rfl) ?_
                              refine WO_nil ?_
                              refine thn_normal ?_
                              refine W_if rfl (fun hb324 => ?_) (fun hb324 => ?_)
                              · have hb324p := hb324.h; try simp only [al_ete, al_dfn, Bool.not_eq_true', Bool.not_eq_false', al_ne, Bool.not_not, al_nn] at hb324p
                                exfalso; omega
                              · have hb324p := hb324.h; try simp only [al_ete, al_dfn, Bool.not_eq_true', Bool.not_eq_false', al_ne, Bool.not_not, al_nn] at hb324p
                                refine W_seq ?_
                                refine W_region rfl ?_
                                refine WO_p (PS_move_int rfl) ?_
                                refine WO_p (PS_eql rfl rfl) ?_
                                refine WO_p (PS_assign_bool rfl) ?_
                                refine WO_nil ?_
                                refine thn_normal ?_
                                refine W_if rfl (fun hb326 => ?_) (fun hb326 => ?_)
                                · have hb326p := hb326.h; try simp only [al_ete, al_dfn, Bool.not_eq_true', Bool.not_eq_false', al_ne, Bool.not_not, al_nn] at hb326p
                                  exfalso; omega
                                · have hb326p := hb326.h; try simp only [al_ete, al_dfn, Bool.not_eq_true', Bool.not_eq_false', al_ne, Bool.not_not, al_nn] at hb326p
                                  refine W_seq ?_
                                  refine W_region rfl ?_
                                  refine WO_p (PS_move_int rfl) ?_
                                  refine WO_p (PS_eql rfl rfl) ?_
                                  refine WO_p (PS_assign_bool rfl) ?_
                                  refine WO_nil ?_
                                  refine thn_normal ?_
                                  refine W_if rfl (fun hb328 => ?_) (fun hb328 => ?_)
                                  · have hb328p := hb328.h; try simp only [al_ete, al_dfn, Bool.not_eq_true', Bool.not_eq_false', al_ne, Bool.not_not, al_nn] at hb328p
                                    exfalso; omega
                                  · have hb328p := hb328.h; try simp only [al_ete, al_dfn, Bool.not_eq_true', Bool.not_eq_false', al_ne, Bool.not_not, al_nn] at hb328p
                                    refine W_seq ?_
                                    refine W_seq ?_
                                    refine W_region rfl ?_
                                    refine WO_p (PS_move_int rfl) ?_
                                    refine WO_p (PS_eql rfl rfl) ?_
                                    refine WO_p (PS_assign_bool rfl) ?_
                                    refine WO_nil ?_
                                    refine thn_normal ?_
                                    refine W_if rfl (fun hb330 => ?_) (fun hb330 => ?_)
                                    · have hb330p := hb330.h; try simp only [al_ete, al_dfn, Bool.not_eq_true', Bool.not_eq_false', al_ne, Bool.not_not, al_nn] at hb330p
                                      exfalso; omega
                                    · have hb330p := hb330.h; try simp only [al_ete, al_dfn, Bool.not_eq_true', Bool.not_eq_false', al_ne, Bool.not_not, al_nn] at hb330p
                                      refine W_seq ?_
                                      refine W_region rfl ?_
                                      refine WO_p (PS_move_int rfl) ?_
                                      refine WO_p (PS_eql rfl rfl) ?_
                                      refine WO_p (PS_assign_bool rfl) ?_
                                      refine WO_nil ?_
                                      refine thn_normal ?_
                                      refine W_if rfl (fun hb332 => ?_) (fun hb332 => ?_)
                                      · have hb332p := hb332.h; try simp only [al_ete, al_dfn, Bool.not_eq_true', Bool.not_eq_false', al_ne, Bool.not_not, al_nn] at hb332p
                                        exfalso; omega
                                      · have hb332p := hb332.h; try simp only [al_ete, al_dfn, Bool.not_eq_true', Bool.not_eq_false', al_ne, Bool.not_not, al_nn] at hb332p
                                        refine W_region rfl ?_
                                        refine WO_p (PS_move_int rfl) ?_
                                        refine WO_p (PS_eql rfl rfl) ?_
                                        refine WO_p (PS_assign_bool rfl) ?_
                                        refine WO_nil ?_
                                        refine thn_normal ?_
                                        refine W_if rfl (fun hb334 => ?_) (fun hb334 => ?_)
                                        · have hb334p := hb334.h; try simp only [al_ete, al_dfn, Bool.not_eq_true', Bool.not_eq_false', al_ne, Bool.not_not, al_nn] at hb334p
                                          exfalso; omega
                                        · have hb334p := hb334.h; try simp only [al_ete, al_dfn, Bool.not_eq_true', Bool.not_eq_false', al_ne, Bool.not_not, al_nn] at hb334p
                                          refine W_seq ?_
                                          refine W_region rfl ?_
                                          refine WO_p (PS_move_int rfl) ?_
                                          refine WO_p (PS_eql rfl rfl) ?_
                                          refine WO_p (PS_assign_bool rfl) ?_
                                          refine WO_nil ?_
                                          refine thn_normal ?_
                                          refine W_if rfl (fun hb336 => ?_) (fun hb336 => ?_)
                                          · have hb336p := hb336.h; try simp only [al_ete, al_dfn, Bool.not_eq_true', Bool.not_eq_false', al_ne, Bool.not_not, al_nn] at hb336p
                                            have ho5 : o = 10 := by omega
                                            refine W_seq ?_
                                            refine W_region rfl ?_
                                            refine WO_p (PS_move_ptr rfl) ?_
                                            refine WO_call Hvac.call47 (by rfl) (Ret.mono (yArg_spec _ (OmB.ext hO (by repeat (first | assumption | exact Ext.refl _ | refine Ext.alloc ?_ _ | refine Ext.drew ?_ | refine Ext.setB ?_ (by first | omega | (simp only [size_alloc, size_setB, size_drew]; omega)) _ | exact Ext.trans (by assumption) (by assumption) | refine Ext.trans ?_ (by assumption)))) _ _ _ _ (by first | assumption | exact FrS.ext (by assumption) (by repeat (first | assumption | exact Ext.refl _ | refine Ext.alloc ?_ _ | refine Ext.drew ?_ | refine Ext.setB ?_ (by first | omega | (simp only [size_alloc, size_setB, size_drew]; omega)) _ | exact Ext.trans (by assumption) (by assumption) | refine Ext.trans ?_ (by assumption)))) hP _ (by decide)) ?_)
                                            rintro _ w47_336 ⟨hE47_336, s47_336, rfl, hN47_336, hs47_336⟩
                                            have hz47_336 := hE47_336.1
                                            try simp only [size_alloc, size_setB, size_drew] at hz47_336
                                            refine WO_call Hvac.call295 (by rfl) (Ret.mono (expCost_spec2 _ (OmB.ext hO (by repeat (first | assumption | exact Ext.refl _ | refine Ext.alloc ?_ _ | refine Ext.drew ?_ | refine Ext.setB ?_ (by first | omega | (simp only [size_alloc, size_setB, size_drew]; omega)) _ | exact Ext.trans (by assumption) (by assumption) | refine Ext.trans ?_ (by assumption)))) _ _ _ _ (by first | exact NN.nil _ | assumption | exact NN.ext (by assumption) (by repeat (first | assumption | exact Ext.refl _ | refine Ext.alloc ?_ _ | refine Ext.drew ?_ | refine Ext.setB ?_ (by first | omega | (simp only [size_alloc, size_setB, size_drew]; omega)) _ | exact Ext.trans (by assumption) (by assumption) | refine Ext.trans ?_ (by assumption)))) (by first | assumption | omega | (rw [sz_zero]; omega))) ?_)
                                            rintro _ w295_337 ⟨hE295_337, s295_337, rfl, hN295_337⟩
                                            have hz295_337 := hE295_337.1
                                            try simp only [size_alloc, size_setB, size_drew] at hz295_337
                                            refine WO_p (PS_assign_slice rfl) ?_
                                            refine WO_nil ?_
                                            refine thn_normal ?_
                                            refine W_ret ?_
                                            refine inBlk_ret ?_
                                            refine thn_ret ?_
                                            refine bodyQ_ret1 Hvac.results197 rfl (.slice _ _ _) rfl ?_
                                            first
                                            | (subst ho5; exact ⟨(by repeat (first | assumption | exact Ext.refl _ | refine Ext.alloc ?_ _ | refine Ext.drew ?_ | refine Ext.setB ?_ (by first | omega | (simp only [size_alloc, size_setB, size_drew]; omega)) _ | refine Ext.trans ?_ (by assumption))), (_, _, _), rfl, (by first | exact NN.nil _ | assumption | exact NN.ext (by assumption) (by repeat (first | assumption | exact Ext.refl _ | refine Ext.alloc ?_ _ | refine Ext.drew ?_ | refine Ext.setB ?_ (by first | omega | (simp only [size_alloc, size_setB, size_drew]; omega)) _ | refine Ext.trans ?_ (by assumption))))⟩)
                                            | (refine ⟨(by repeat (first | assumption | exact Ext.refl _ | refine Ext.alloc ?_ _ | refine Ext.drew ?_ | refine Ext.setB ?_ (by first | omega | (simp only [size_alloc, size_setB, size_drew]; omega)) _ | refine Ext.trans ?_ (by assumption))), (_, _, _), rfl, ?_⟩
                                               refine NN.castY (by first | exact NN.nil _ | assumption | exact NN.ext (by assumption) (by repeat (first | assumption | exact Ext.refl _ | refine Ext.alloc ?_ _ | refine Ext.drew ?_ | refine Ext.setB ?_ (by first | omega | (simp only [size_alloc, size_setB, size_drew]; omega)) _ | refine Ext.trans ?_ (by assumption)))) ?_
                                               unfold ybare
                                               (repeat (first | rw [if_pos (by first | omega | assumption)] | rw [if_neg (by first | omega | assumption)]))
                                               all_goals rfl)
                                          · have hb336p := hb336.h; try simp only [al_ete, al_dfn, Bool.not_eq_true', Bool.not_eq_false', al_ne, Bool.not_not, al_nn] at hb336p
                                            refine W_seq ?_
                                            refine W_region rfl ?_
                                            refine WO_p (PS_move_int rfl) ?_
                                            refine WO_p (PS_eql rfl rfl) ?_
                                            refine WO_p (PS_assign_bool rfl) ?_
                                            refine WO_nil ?_
                                            refine thn_normal ?_
                                            refine W_if rfl (fun hb340 => ?_) (fun hb340 => ?_)
                                            · have hb340p := hb340.h; try simp only [al_ete, al_dfn, Bool.not_eq_true', Bool.not_eq_false', al_ne, Bool.not_not, al_nn] at hb340p
                                              exfalso; omega
                                            · have hb340p := hb340.h; try simp only [al_ete, al_dfn, Bool.not_eq_true', Bool.not_eq_false', al_ne, Bool.not_not, al_nn] at hb340p
                                              refine W_seq ?_
                                              refine W_seq ?_
                                              refine W_region rfl ?_
                                              refine WO_p (PS_move_int rfl) ?_
                                              refine WO_p (PS_eql rfl rfl) ?_
                                              refine WO_p (PS_assign_bool rfl) ?_
                                              refine WO_nil ?_
                                              refine thn_normal ?_
                                              refine W_if rfl (fun hb342 => ?_) (fun hb342 => ?_)
                                              · have hb342p := hb342.h; try simp only [al_ete, al_dfn, Bool.not_eq_true', Bool.not_eq_false', al_ne, Bool.not_not, al_nn] at hb342p
                                                exfalso; omega
                                              · have hb342p := hb342.h; try simp only [al_ete, al_dfn, Bool.not_eq_true', Bool.not_eq_false', al_ne, Bool.not_not, al_nn] at hb342p
                                                refine W_seq ?_
                                                refine W_region rfl ?_
                                                refine WO_p (PS_move_int rfl) ?_
                                                refine WO_p (PS_eql rfl rfl) ?_
                                                refine WO_p (PS_assign_bool rfl) ?_
                                                refine WO_nil ?_
                                                refine thn_normal ?_
                                                refine W_if rfl (fun hb344 => ?_) (fun hb344 => ?_)
                                                · have hb344p := hb344.h; try simp only [al_ete, al_dfn, Bool.not_eq_true', Bool.not_eq_false', al_ne, Bool.not_not, al_nn] at hb344p
                                                  exfalso; omega
                                                · have hb344p := hb344.h; try simp only [al_ete, al_dfn, Bool.not_eq_true', Bool.not_eq_false', al_ne, Bool.not_not, al_nn] at hb344p
                                                  refine W_seq ?_
                                                  refine W_region rfl ?_
                                                  refine WO_p (PS_move_int rfl) ?_
                                                  refine WO_p (PS_eql rfl rfl) ?_
                                                  refine WO_p (PS_assign_bool rfl) ?_
                                                  refine WO_nil ?_
                                                  refine thn_normal ?_
                                                  refine W_if rfl (fun hb346 => ?_) (fun hb346 => ?_)
                                                  · have hb346p := hb346.h; try simp only [al_ete, al_dfn, Bool.not_eq_true', Bool.not_eq_false', al_ne, Bool.not_not, al_nn] at hb346p
                                                    exfalso; omega
                                                  · have hb346p := hb346.h; try simp only [al_ete, al_dfn, Bool.not_eq_true', Bool.not_eq_false', al_ne, Bool.not_not, al_nn] at hb346p
                                                    refine W_region rfl ?_
                                                    refine WO_p (PS_move_int rfl) ?_
                                                    refine WO_p (PS_eql rfl rfl) ?_
                                                    refine WO_p (PS_assign_bool rfl) ?_
                                                    refine WO_nil ?_
                                                    refine thn_normal ?_
                                                    refine W_if rfl (fun hb348 => ?_) (fun hb348 => ?_)
                                                    · have hb348p := hb348.h; try simp only [al_ete, al_dfn, Bool.not_eq_true', Bool.not_eq_false', al_ne, Bool.not_not, al_nn] at hb348p
                                                      exfalso; omega
                                                    · have hb348p := hb348.h; try simp only [al_ete, al_dfn, Bool.not_eq_true', Bool.not_eq_false', al_ne, Bool.not_not, al_nn] at hb348p
                                                      refine W_seq ?_
                                                      refine W_seq ?_
                                                      refine W_region rfl ?_
                                                      refine WO_p (PS_move_int rfl) ?_
                                                      refine WO_p (PS_eql rfl rfl) ?_
                                                      refine WO_p (PS_assign_bool rfl) ?_
                                                      refine WO_nil ?_
                                                      refine thn_normal ?_
                                                      refine W_if rfl (fun hb350 => ?_) (fun hb350 => ?_)
                                                      · have hb350p := hb350.h; try simp only [al_ete, al_dfn, Bool.not_eq_true', Bool.not_eq_false', al_ne, Bool.not_not, al_nn] at hb350p
                                                        exfalso; omega
                                                      · have hb350p := hb350.h; try simp only [al_ete, al_dfn, Bool.not_eq_true', Bool.not_eq_false', al_ne, Bool.not_not, al_nn] at hb350p
                                                        refine W_seq ?_
                                                        refine W_region rfl ?_
                                                        refine WO_p (PS_move_int rfl) ?_
                                                        refine WO_p (PS_eql rfl rfl) ?_
                                                        refine WO_p (PS_assign_bool rfl) ?_
                                                        refine WO_nil ?_
                                                        refine thn_normal ?_
                                                        refine W_if rfl (fun hb352 => ?_) (fun hb352 => ?_)
                                                        · have hb352p := hb352.h; try simp only [al_ete, al_dfn, Bool.not_eq_true', Bool.not_eq_false', al_ne, Bool.not_not, al_nn] at hb352p
                                                          exfalso; omega
                                                        · have hb352p := hb352.h; try simp only [al_ete, al_dfn, Bool.not_eq_true', Bool.not_eq_false', al_ne, Bool.not_not, al_nn] at hb352p
                                                          refine W_region rfl ?_
                                                          refine WO_p (PS_move_int rfl) ?_
                                                          refine WO_p (PS_eql rfl rfl) ?_
                                                          refine WO_p (PS_assign_bool rfl) ?_
                                                          refine WO_nil ?_
                                                          refine thn_normal ?_
                                                          refine W_if rfl (fun hb354 => ?_) (fun hb354 => ?_)
                                                          · have hb354p := hb354.h; try simp only [al_ete, al_dfn, Bool.not_eq_true', Bool.not_eq_false', al_ne, Bool.not_not, al_nn] at hb354p
                                                            exfalso; omega
                                                          · have hb354p := hb354.h; try simp only [al_ete, al_dfn, Bool.not_eq_true', Bool.not_eq_false', al_ne, Bool.not_not, al_nn] at hb354p
                                                            refine W_seq ?_
                                                            refine W_region rfl ?_
                                                            refine WO_p (PS_move_int rfl) ?_
                                                            refine WO_p (PS_eql rfl rfl) ?_
                                                            refine WO_p (PS_assign_bool rfl) ?_
                                                            refine WO_nil ?_
                                                            refine thn_normal ?_
                                                            refine W_if rfl (fun hb356 => ?_) (fun hb356 => ?_)
                                                            · have hb356p := hb356.h; try simp only [al_ete, al_dfn, Bool.not_eq_true', Bool.not_eq_false', al_ne, Bool.not_not, al_nn] at hb356p
                                                              exfalso; omega
                                                            · have hb356p := hb356.h; try simp only [al_ete, al_dfn, Bool.not_eq_true', Bool.not_eq_false', al_ne, Bool.not_not, al_nn] at hb356p
                                                              refine W_seq ?_
                                                              refine W_region rfl ?_
                                                              refine WO_p (PS_move_int rfl) ?_
                                                              refine WO_p (PS_geq rfl rfl) ?_
                                                              refine WO_p (PS_move_bool rfl) ?_
                                                              refine WO_if (t := 139) rfl (fun hb358 => ?_) (fun hb358 => ?_)
                                                              · have hb358p := hb358.h; try simp only [al_ete, al_dfn, Bool.not_eq_true', Bool.not_eq_false', al_ne, Bool.not_not, al_nn] at hb358p
                                                                exfalso; omega
                                                              · have hb358p := hb358.h; try simp only [al_ete, al_dfn, Bool.not_eq_true', Bool.not_eq_false', al_ne, Bool.not_not, al_nn] at hb358p
                                                                refine WO_guardF rfl rfl hb358.h ?_
                                                                refine WO_guardF rfl rfl hb358.h ?_
                                                                refine WO_p (PS_pickF rfl hb358.h rfl) ?_
                                                                refine WO_p (PS_assign_bool rfl) ?_
                                                                refine WO_nil ?_
                                                                refine thn_normal ?_
                                                                refine W_condF rfl rfl ?_
                                                                refine W_seq ?_
                                                                refine W_region rfl ?_
                                                                refine WO_p (PS_move_int rfl) ?_
                                                                refine WO_p (PS_eql rfl rfl) ?_
                                                                refine WO_p (PS_assign_bool rfl) ?_
                                                                refine WO_nil ?_
                                                                refine thn_normal ?_
                                                                refine W_if rfl (fun hb360 => ?_) (fun hb360 => ?_)
                                                                · have hb360p := hb360.h; try simp only [al_ete, al_dfn, Bool.not_eq_true', Bool.not_eq_false', al_ne, Bool.not_not, al_nn] at hb360p
                                                                  exfalso; omega
                                                                · have hb360p := hb360.h; try simp only [al_ete, al_dfn, Bool.not_eq_true', Bool.not_eq_false', al_ne, Bool.not_not, al_nn] at hb360p
                                                                  refine W_seq ?_
                                                                  refine W_region rfl ?_
                                                                  refine WO_p (PS_move_int rfl) ?_
                                                                  refine WO_p (PS_eql rfl rfl) ?_
                                                                  refine WO_p (PS_assign_bool rfl) ?_
                                                                  refine WO_nil ?_
                                                                  refine thn_normal ?_
                                                                  refine W_if rfl (fun hb362 => ?_) (fun hb362 => ?_)
                                                                  · have hb362p := hb362.h; try simp only [al_ete, al_dfn, Bool.not_eq_true', Bool.not_eq_false', al_ne, Bool.not_not, al_nn] at hb362p
                                                                    exfalso; omega
                                                                  · have hb362p := hb362.h; try simp only [al_ete, al_dfn, Bool.not_eq_true', Bool.not_eq_false', al_ne, Bool.not_not, al_nn] at hb362p
                                                                    refine W_seq ?_
                                                                    refine W_seq ?_
                                                                    refine W_region rfl ?_
                                                                    refine WO_p (PS_move_int rfl) ?_
                                                                    refine WO_p (PS_eql rfl rfl) ?_
                                                                    refine WO_p (PS_assign_bool rfl) ?_
                                                                    refine WO_nil ?_
                                                                    refine thn_normal ?_
                                                                    refine W_if rfl (fun hb364 => ?_) (fun hb364 => ?_)
                                                                    · have hb364p := hb364.h; try simp only [al_ete, al_dfn, Bool.not_eq_true', Bool.not_eq_false', al_ne, Bool.not_not, al_nn] at hb364p
                                                                      exfalso; omega
                                                                    · have hb364p := hb364.h; try simp only [al_ete, al_dfn, Bool.not_eq_true', Bool.not_eq_false', al_ne, Bool.not_not, al_nn] at hb364p
                                                                      refine W_region rfl ?_
                                                                      refine WO_p (PS_move_int rfl) ?_
                                                                      refine WO_p (PS_eql rfl rfl) ?_
                                                                      refine WO_p (PS_assign_bool rfl) ?_
                                                                      refine WO_nil ?_
                                                                      refine thn_normal ?_
                                                                      refine W_if rfl (fun hb366 => ?_) (fun hb366 => ?_)
                                                                      · have hb366p := hb366.h; try simp only [al_ete, al_dfn, Bool.not_eq_true', Bool.not_eq_false', al_ne, Bool.not_not, al_nn] at hb366p
                                                                        exfalso; omega
                                                                      · have hb366p := hb366.h; try simp only [al_ete, al_dfn, Bool.not_eq_true', Bool.not_eq_false', al_ne, Bool.not_not, al_nn] at hb366p
                                                                        refine W_seq ?_
                                                                        refine W_region rfl ?_
                                                                        refine WO_p (PS_move_int rfl) ?_
                                                                        refine WO_p (PS_eql rfl rfl) ?_
                                                                        refine WO_p (PS_assign_bool rfl) ?_
                                                                        refine WO_nil ?_
                                                                        refine thn_normal ?_
                                                                        refine W_if rfl (fun hb368 => ?_) (fun hb368 => ?_)
                                                                        · have hb368p := hb368.h; try simp only [al_ete, al_dfn, Bool.not_eq_true', Bool.not_eq_false', al_ne, Bool.not_not, al_nn] at hb368p
                                                                          exfalso; omega
                                                                        · have hb368p := hb368.h; try simp only [al_ete, al_dfn, Bool.not_eq_true', Bool.not_eq_false', al_ne, Bool.not_not, al_nn] at hb368p
                                                                          refine W_seq ?_
                                                                          refine W_region rfl ?_
                                                                          refine WO_p (PS_move_int rfl) ?_
                                                                          refine WO_call Hvac.call49 (by rfl) (Ret.mono (family_spec _ _ (by omega)) ?_)
                                                                          rintro _ w49_368 ⟨hE49_368, rfl⟩
                                                                          have hz49_368 := hE49_368.1
                                                                          try simp only [size_alloc, size_setB, size_drew] at hz49_368
                                                                          refine WO_p (PS_eql rfl rfl) ?_
                                                                          refine WO_p (PS_assign_bool rfl) ?_
                                                                          refine WO_nil ?_
                                                                          refine thn_normal ?_
                                                                          refine W_if rfl (fun hb371 => ?_) (fun hb371 => ?_)
                                                                          · have hb371p := hb371.h; try simp only [al_ete, al_dfn, Bool.not_eq_true', Bool.not_eq_false', al_ne, Bool.not_not, al_nn] at hb371p
                                                                            refine W_seq ?_
                                                                            refine W_region rfl ?_
                                                                            refine WO_p (PS_move_ptr rfl) ?_
                                                                            refine WO_p (PS_move_ptr rfl) ?_
                                                                            refine WO_p (PS_move_int rfl) ?_
                                                                            refine WO_call Hvac.call300 (by rfl) (Ret.mono (yEnterCost_spec _ (OmB.ext hO (by repeat (first | assumption | exact Ext.refl _ | refine Ext.alloc ?_ _ | refine Ext.drew ?_ | refine Ext.setB ?_ (by first | omega | (simp only [size_alloc, size_setB, size_drew]; omega)) _ | exact Ext.trans (by assumption) (by assumption) | refine Ext.trans ?_ (by assumption)))) _ _ _ _ (by first | assumption | exact YSS.ext (by assumption) (by repeat (first | assumption | exact Ext.refl _ | refine Ext.alloc ?_ _ | refine Ext.drew ?_ | refine Ext.setB ?_ (by first | omega | (simp only [size_alloc, size_setB, size_drew]; omega)) _ | exact Ext.trans (by assumption) (by assumption) | refine Ext.trans ?_ (by assumption)))) hB hN _ _ _ _ (by first | assumption | exact FrS.ext (by assumption) (by repeat (first | assumption | exact Ext.refl _ | refine Ext.alloc ?_ _ | refine Ext.drew ?_ | refine Ext.setB ?_ (by first | omega | (simp only [size_alloc, size_setB, size_drew]; omega)) _ | exact Ext.trans (by assumption) (by assumption) | refine Ext.trans ?_ (by assumption)))) hP _ (by omega)) ?_)
                                                                            rintro _ w300_371 ⟨hE300_371, s300_371, rfl, hN300_371⟩
                                                                            have hz300_371 := hE300_371.1
                                                                            try simp only [size_alloc, size_setB, size_drew] at hz300_371
                                                                            refine WO_p (PS_assign_slice rfl) ?_
                                                                            refine WO_nil ?_
                                                                            refine thn_normal ?_
                                                                            refine W_ret ?_
                                                                            refine inBlk_ret ?_
                                                                            refine thn_ret ?_
                                                                            refine bodyQ_ret1 Hvac.results197 rfl (.slice _ _ _) rfl ?_
                                                                            first
                                                                            | (subst ho5; exact ⟨(by repeat (first | assumption | exact Ext.refl _ | refine Ext.alloc ?_ _ | refine Ext.drew ?_ | refine Ext.setB ?_ (by first | omega | (simp only [size_alloc, size_setB, size_drew]; omega)) _ | refine Ext.trans ?_ (by assumption))), (_, _, _), rfl, (by first | exact NN.nil _ | assumption | exact NN.ext (by assumption) (by repeat (first | assumption | exact Ext.refl _ | refine Ext.alloc ?_ _ | refine Ext.drew ?_ | refine Ext.setB ?_ (by first | omega | (simp only [size_alloc, size_setB, size_drew]; omega)) _ | refine Ext.trans ?_ (by assumption))))⟩)
                                                                            | (refine ⟨(by repeat (first | assumption | exact Ext.refl _ | refine Ext.alloc ?_ _ | refine Ext.drew ?_ | refine Ext.setB ?_ (by first | omega | (simp only [size_alloc, size_setB, size_drew]; omega)) _ | refine Ext.trans ?_ (by assumption))), (_, _, _), rfl, ?_⟩
                                                                               refine NN.castY (by first | exact NN.nil _ | assumption | exact NN.ext (by assumption) (by repeat (first | assumption | exact Ext.refl _ | refine Ext.alloc ?_ _ | refine Ext.drew ?_ | refine Ext.setB ?_ (by first | omega | (simp only [size_alloc, size_setB, size_drew]; omega)) _ | refine Ext.trans ?_ (by assumption)))) ?_
                                                                               unfold ybare
                                                                               (repeat (first | rw [if_pos (by first | omega | assumption)] | rw [if_neg (by first | omega | assumption)]))
                                                                               all_goals rfl)
                                                                          · have hb371p := hb371.h; try simp only [al_ete, al_dfn, Bool.not_eq_true', Bool.not_eq_false', al_ne, Bool.not_not, al_nn] at hb371p
                                                                            refine W_skip ?_
                                                                            refine inBlk_normal ?_
                                                                            refine thn_normal ?_
                                                                            refine W_seq ?_
                                                                            refine W_region rfl ?_
                                                                            refine WO_call Hvac.call19 (by rfl) (Ret.mono (nNum_spec (OmB.ext hO (by repeat (first | assumption | exact Ext.refl _ | refine Ext.alloc ?_ _ | refine Ext.drew ?_ | refine Ext.setB ?_ (by first | omega | (simp only [size_alloc, size_setB, size_drew]; omega)) _ | exact Ext.trans (by assumption) (by assumption) | refine Ext.trans ?_ (by assumption)))) ⟨by omega, by omega⟩) ?_)
                                                                            rintro _ w19_372 ⟨hE19_372, s19_372, rfl, hN19_372, hs19_372⟩
                                                                            have hz19_372 := hE19_372.1
                                                                            try simp only [size_alloc, size_setB, size_drew] at hz19_372
                                                                            try simp only [Int.toNat_natCast, toNat_lit] at hN19_372 hs19_372
                                                                            refine WO_p (PS_assign_slice rfl) ?_
                                                                            refine WO_nil ?_
                                                                            refine thn_normal ?_
                                                                            refine W_ret ?_
                                                                            refine bodyQ_ret1 Hvac.results197 rfl (.slice _ _ _) rfl ?_
                                                                            first
                                                                            | (subst ho5; exact ⟨(by repeat (first | assumption | exact Ext.refl _ | refine Ext.alloc ?_ _ | refine Ext.drew ?_ | refine Ext.setB ?_ (by first | omega | (simp only [size_alloc, size_setB, size_drew]; omega)) _ | refine Ext.trans ?_ (by assumption))), (_, _, _), rfl, (by first | exact NN.nil _ | assumption | exact NN.ext (by assumption) (by repeat (first | assumption | exact Ext.refl _ | refine Ext.alloc ?_ _ | refine Ext.drew ?_ | refine Ext.setB ?_ (by first | omega | (simp only [size_alloc, size_setB, size_drew]; omega)) _ | refine Ext.trans ?_ (by assumption))))⟩)
                                                                            | (refine ⟨(by repeat (first | assumption | exact Ext.refl _ | refine Ext.alloc ?_ _ | refine Ext.drew ?_ | refine Ext.setB ?_ (by first | omega | (simp only [size_alloc, size_setB, size_drew]; omega)) _ | refine Ext.trans ?_ (by assumption))), (_, _, _), rfl, ?_⟩
                                                                               refine NN.castY (by first | exact NN.nil _ | assumption | exact NN.ext (by assumption) (by repeat (first | assumption | exact Ext.refl _ | refine Ext.alloc ?_ _ | refine Ext.drew ?_ | refine Ext.setB ?_ (by first | omega | (simp only [size_alloc, size_setB, size_drew]; omega)) _ | refine Ext.trans ?_ (by assumption)))) ?_
                                                                               unfold ybare
                                                                               (repeat (first | rw [if_pos (by first | omega | assumption)] | rw [if_neg (by first | omega | assumption)]))
                                                                               all_goals rfl)
                · have hb306p := hb306.h; try simp only [al_ete, al_dfn, Bool.not_eq_true', Bool.not_eq_false', al_ne, Bool.not_not, al_nn] at hb306p
                  have ho5 : o = 0 := by omega
                  refine WO_guardF rfl rfl hb306.h ?_
                  refine WO_guardF rfl rfl hb306.h ?_
                  refine WO_p (PS_pickF rfl hb306.h rfl) ?_
                  refine WO_p (PS_assign_bool rfl) ?_
                  refine WO_nil ?_
                  refine thn_normal ?_
                  refine W_condF rfl rfl ?_
                  refine W_seq ?_
                  refine W_region rfl ?_
                  refine WO_p (PS_move_int rfl) ?_
                  refine WO_p (PS_eql rfl rfl) ?_
                  refine WO_p (PS_assign_bool rfl) ?_
                  refine WO_nil ?_
                  refine thn_normal ?_
                  refine W_if rfl (fun hb375 => ?_) (fun hb375 => ?_)
                  · have hb375p := hb375.h; try simp only [al_ete, al_dfn, Bool.not_eq_true', Bool.not_eq_false', al_ne, Bool.not_not, al_nn] at hb375p
                    exfalso; omega
                  · have hb375p := hb375.h; try simp only [al_ete, al_dfn, Bool.not_eq_true', Bool.not_eq_false', al_ne, Bool.not_not, al_nn] at hb375p
                    refine W_region rfl ?_
                    refine WO_p (PS_move_int rfl) ?_
                    refine WO_p (PS_eql rfl rfl) ?_
                    refine WO_p (PS_assign_bool rfl) ?_
                    refine WO_nil ?_
                    refine thn_normal ?_
                    refine W_if rfl (fun hb377 => ?_) (fun hb377 => ?_)
                    · have hb377p := hb377.h; try simp only [al_ete, al_dfn, Bool.not_eq_true', Bool.not_eq_false', al_ne, Bool.not_not, al_nn] at hb377p
                      exfalso; omega
                    · have hb377p := hb377.h; try simp only [al_ete, al_dfn, Bool.not_eq_true', Bool.not_eq_false', al_ne, Bool.not_not, al_nn] at hb377p
                      refine W_seq ?_
                      refine W_seq ?_
                      refine W_region rfl ?_
                      refine WO_p (PS_move_int rfl) ?_
                      refine WO_p (PS_eql rfl rfl) ?_
                      refine WO_p (PS_assign_bool rfl) ?_
                      refine WO_nil ?_
                      refine thn_normal ?_
                      refine W_if rfl (fun hb379 => ?_) (fun hb379 => ?_)
                      · have hb379p := hb379.h; try simp only [al_ete, al_dfn, Bool.not_eq_true', Bool.not_eq_false', al_ne, Bool.not_not, al_nn] at hb379p
                        exfalso; omega
                      · have hb379p := hb379.h; try simp only [al_ete, al_dfn, Bool.not_eq_true', Bool.not_eq_false', al_ne, Bool.not_not, al_nn] at hb379p
                        refine W_seq ?_
                        refine W_region rfl ?_
                        refine WO_p (PS_move_int rfl) ?_
                        refine WO_p (PS_eql rfl rfl) ?_
                        refine WO_p (PS_assign_bool rfl) ?_
                        refine WO_nil ?_
                        refine thn_normal ?_
                        refine W_if rfl (fun hb381 => ?_) (fun hb381 => ?_)
                        · have hb381p := hb381.h; try simp only [al_ete, al_dfn, Bool.not_eq_true', Bool.not_eq_false', al_ne, Bool.not_not, al_nn] at hb381p
                          exfalso; omega
                        · have hb381p := hb381.h; try simp only [al_ete, al_dfn, Bool.not_eq_true', Bool.not_eq_false', al_ne, Bool.not_not, al_nn] at hb381p
                          refine W_region rfl ?_
                          refine WO_p (PS_move_int rfl) ?_
                          refine WO_p (PS_eql rfl rfl) ?_
                          refine WO_p (PS_assign_bool rfl) ?_
                          refine WO_nil ?_
                          refine thn_normal ?_
                          refine W_if rfl (fun hb383 => ?_) (fun hb383 => ?_)
                          · have hb383p := hb383.h; try simp only [al_ete, al_dfn, Bool.not_eq_true', Bool.not_eq_false', al_ne, Bool.not_not, al_nn] at hb383p
                            exfalso; omega
                          · have hb383p := hb383.h; try simp only [al_ete, al_dfn, Bool.not_eq_true', Bool.not_eq_false', al_ne, Bool.not_not, al_nn] at hb383p
                            refine W_seq ?_
                            refine W_region rfl ?_
                            refine WO_p (PS_move_int rfl) ?_
                            refine WO_p (PS_eql rfl rfl) ?_
                            refine WO_p (PS_assign_bool rfl) ?_
                            refine WO_nil ?_
                            refine thn_normal ?_
                            refine W_if rfl (fun hb385 => ?_) (fun hb385 => ?_)
                            · have hb385p := hb385.h; try simp only [al_ete, al_dfn, Bool.not_eq_true', Bool.not_eq_false', al_ne, Bool.not_not, al_nn] at hb385p
                              exfalso; omega
                            · have hb385p := hb385.h; try simp only [al_ete, al_dfn, Bool.not_eq_true', Bool.not_eq_false', al_ne, Bool.not_not, al_nn] at hb385p
                              refine W_seq ?_
                              refine W_region rfl ?_
                              refine WO_p (PS_move_int rfl) ?_
                              refine WO_p (PS_eql rfl rfl) ?_
                              refine WO_p (PS_assign_bool rfl) ?_
                              refine WO_nil ?_
                              refine thn_normal ?_
                              refine W_if rfl (fun hb387 => ?_) (fun hb387 => ?_)
                              · have hb387p := hb387.h; try simp only [al_ete, al_dfn, Bool.not_eq_true', Bool.not_eq_false', al_ne, Bool.not_not, al_nn] at hb387p
                                exfalso; omega
                              · have hb387p := hb387.h; try simp only [al_ete, al_dfn, Bool.not_eq_true', Bool.not_eq_false', al_ne, Bool.not_not, al_nn] at hb387p
                                refine W_seq ?_
                                refine W_region rfl ?_
                                refine WO_p (PS_move_int rfl) ?_
                                refine WO_p (PS_eql rfl rfl) ?_
                                refine WO_p (PS_assign_bool rfl) ?_
                                refine WO_nil ?_
                                refine thn_normal ?_
                                refine W_if rfl (fun hb389 => ?_) (fun hb389 => ?_)
                                · have hb389p := hb389.h; try simp only [al_ete, al_dfn, Bool.not_eq_true', Bool.not_eq_false', al_ne, Bool.not_not, al_nn] at hb389p
                                  exfalso; omega
                                · have hb389p := hb389.h; try simp only [al_ete, al_dfn, Bool.not_eq_true', Bool.not_eq_false', al_ne, Bool.not_not, al_nn] at hb389p
                                  refine W_seq ?_
                                  refine W_seq ?_
                                  refine W_region rfl ?_
                                  refine WO_p (PS_move_int rfl) ?_
                                  refine WO_p (PS_eql rfl rfl) ?_
                                  refine WO_p (PS_assign_bool rfl) ?_
                                  refine WO_nil ?_
                                  refine thn_normal ?_
                                  refine W_if rfl (fun hb391 => ?_) (fun hb391 => ?_)
                                  · have hb391p := hb391.h; try simp only [al_ete, al_dfn, Bool.not_eq_true', Bool.not_eq_false', al_ne, Bool.not_not, al_nn] at hb391p
                                    refine W_skip ?_
                                    refine thn_normal ?_
                                    refine W_condT rfl hb391.h ?_
                                    refine W_seq ?_
                                    refine W_region rfl ?_
                                    refine WO_call Hvac.call19 (by rfl) (Ret.mono (nNum_spec (OmB.ext hO (by repeat (first | assumption | exact Ext.refl _ | refine Ext.alloc ?_ _ | refine Ext.drew ?_ | refine Ext.setB ?_ (by first | omega | (simp only [size_alloc, size_setB, size_drew]; omega)) _ | exact Ext.trans (by assumption) (by assumption) | refine Ext.trans ?_ (by assumption)))) ⟨by omega, by omega⟩) ?_)
                                    rintro _ w19_391 ⟨hE19_391, s19_391, rfl, hN19_391, hs19_391⟩
                                    have hz19_391 := hE19_391.1
                                    try simp only [size_alloc, size_setB, size_drew] at hz19_391
                                    try simp only [Int.toNat_natCast, toNat_lit] at hN19_391 hs19_391
                                    refine WO_p (PS_assign_slice rfl) ?_
                                    refine WO_nil ?_
                                    refine thn_normal ?_
                                    refine W_ret ?_
                                    refine inBlk_ret ?_
                                    refine thn_ret ?_
                                    refine bodyQ_ret1 Hvac.results197 rfl (.slice _ _ _) rfl ?_
                                    first
                                    | (subst ho5; exact ⟨(by repeat (first | assumption | exact Ext.refl _ | refine Ext.alloc ?_ _ | refine Ext.drew ?_ | refine Ext.setB ?_ (by first | omega | (simp only [size_alloc, size_setB, size_drew]; omega)) _ | refine Ext.trans ?_ (by assumption))), (_, _, _), rfl, (by first | exact NN.nil _ | assumption | exact NN.ext (by assumption) (by repeat (first | assumption | exact Ext.refl _ | refine Ext.alloc ?_ _ | refine Ext.drew ?_ | refine Ext.setB ?_ (by first | omega | (simp only [size_alloc, size_setB, size_drew]; omega)) _ | refine Ext.trans ?_ (by assumption))))⟩)
                                    | (refine ⟨(by repeat (first | assumption | exact Ext.refl _ | refine Ext.alloc ?_ _ | refine Ext.drew ?_ | refine Ext.setB ?_ (by first | omega | (simp only [size_alloc, size_setB, size_drew]; omega)) _ | refine Ext.trans ?_ (by assumption))), (_, _, _), rfl, ?_⟩
                                       refine NN.castY (by first | exact NN.nil _ | assumption | exact NN.ext (by assumption) (by repeat (first | assumption | exact Ext.refl _ | refine Ext.alloc ?_ _ | refine Ext.drew ?_ | refine Ext.setB ?_ (by first | omega | (simp only [size_alloc, size_setB, size_drew]; omega)) _ | refine Ext.trans ?_ (by assumption)))) ?_
                                       unfold ybare
                                       (repeat (first | rw [if_pos (by first | omega | assumption)] | rw [if_neg (by first | omega | assumption)]))
                                       all_goals rfl)
                                  · have hb391p := hb391.h; try simp only [al_ete, al_dfn, Bool.not_eq_true', Bool.not_eq_false', al_ne, Bool.not_not, al_nn] at hb391p
                                    exfalso; omega

theorem NN.z_mem [Om] {w : World} {s : SV} {a : Nat} (h : NN w s (ymem a)) : sz (ymem a) ≤ 2 * sz a + 10 := by
  unfold ymem
  have h1 := sz_mul 3 a
  have h2 := sz_mul a a
  have h3 := sz_div (a * a) 512
  have h4 := sz_add (3 * a) (a * a / 512)
  have h5 : sz 3 ≤ 1 := sz_le (by decide)
  omega
theorem sz_ite {p : Prop} [Decidable p] {a b n : Nat} (h1 : p → sz a ≤ n) (h2 : ¬ p → sz b ≤ n) : sz (if p then a else b) ≤ n := by split <;> simp_all
theorem sz_ysstA (y : PSt) (f : PF) : sz (ysstA y f).1 ≤ 8 := (sz_ysst _ _ _ _).1
theorem sz_ybare {y : PSt} {f : PF} (hP : PFB f) (o : Int) (ho : 0 ≤ o ∧ o ≤ 255) : sz (ybare y f o) ≤ 200 := by
  have hc : ∀ k : Nat, k ≤ 100000 → sz k ≤ 8 := fun k hk => sz_le (Nat.lt_of_le_of_lt hk (by decide))
  have ha := sz_yarg hP
  have hw : ∀ n, sz (ywords n) ≤ sz n + 1 := sz_ywords
  have hcp : ∀ n, sz (ycopy n) ≤ sz n + 4 := fun n => by
    unfold ycopy
    have h1 := sz_mul 3 (ywords n)
    have h2 := hw n
    have h3 := hc 3 (by decide)
    have h4 : sz 3 ≤ 1 := sz_le (by decide)
    omega
  have hac : ∀ l A, sz (yaccess l A) ≤ 8 := fun l A => by unfold yaccess; split <;> exact hc _ (by decide)
  have hst := sz_ysstA y f
  have hd : sz (ydestroy y f) ≤ 8 := by unfold ydestroy; (repeat' split) <;> exact hc _ (by decide)
  have hen : sz (yenterc y f o) ≤ 100 := by
    unfold yenterc
    have h1 := sz_add 32000 (2 * ywords (yarg f 2))
    have h2 := sz_add 32000 (8 * ywords (yarg f 2))
    have h3 := sz_mul 2 (ywords (yarg f 2))
    have h4 := sz_mul 8 (ywords (yarg f 2))
    have h5 := hw (yarg f 2)
    have h6 := ha 2
    have h7 := hc 32000 (by decide)
    have h8 := hc 2 (by decide)
    have h9 := hc 8 (by decide)
    split
    · omega
    · split
      · omega
      · have hk : yaccess y.now.warmA (yaddr (yarg f 1)) ≤ 2600 := by unfold yaccess; split <;> omega
        refine Nat.le_trans (hc _ ?_) (by decide)
        (repeat' split) <;> omega
  have hex : sz (yexp (yarg f 1)) ≤ 8 := hc _ (by unfold yexp; have := ha 1; omega)
  have l1 := sz_add 30 (6 * ywords (yarg f 1))
  have l2 := sz_mul 6 (ywords (yarg f 1))
  have l3 := hw (yarg f 1)
  have l4 := ha 1
  have l5 := hc 30 (by decide)
  have l6 := hc 6 (by decide)
  have l7 := sz_add 3 (ycopy (yarg f 2))
  have l8 := hcp (yarg f 2)
  have l9 := ha 2
  have m1 := sz_add (yaccess y.now.warmA (yaddr (yarg f 0))) (ycopy (yarg f 3))
  have m2 := hcp (yarg f 3)
  have m3 := ha 3
  have m4 := hac y.now.warmA (yaddr (yarg f 0))
  have m5 := hc 3 (by decide)
  unfold ybare
  have hlog : 160 ≤ o ∧ o ≤ 164 → sz ((375 + 375 * (o - 160)).toNat + 8 * yarg f 1) ≤ 200 := fun h => by
    have n1 := sz_add (375 + 375 * (o - 160)).toNat (8 * yarg f 1)
    have n2 := sz_mul 8 (yarg f 1)
    have n3 := hc 8 (by decide)
    have n4 := hc (375 + 375 * (o - 160)).toNat (by omega)
    omega
  have hcc : ∀ k : Nat, k ≤ 100000 → sz k ≤ 200 := fun k hk => Nat.le_trans (hc k hk) (by decide)
  repeat' (first | exact Nat.le_trans hen (by decide) | refine sz_ite (fun hi => ?_) (fun hi => ?_) | exact hlog hi | exact hcc _ (by decide) | omega)
set_option maxRecDepth 10000 in
set_option maxHeartbeats 4000000 in
theorem yCost_spec [Om] (w : World) (hO : OmB w) (C : Nat) (xs : YSt) (y : PSt) (N : Nat) (hS : YSS w C xs y) (hB : PSB N y) (hN : N ≤ 100000000) (F fo : Nat) (x : YFr) (f : PF) (hF : FrS w F fo x f) (hP : PFB f) (o : Int) (ho : 0 ≤ o ∧ o ≤ 255) : Ret Hvac.prog 113 #[.pointer (some ⟨C, 0, none⟩), .pointer (some ⟨F, fo, none⟩), .int .u8 o] w fun u w' => Ext w w' ∧ ∃ s' : SV, u = .slice s'.1 s'.2.1 s'.2.2 ∧ NN w' s' (ycost y f o) := by
  have hFR := hF.rel
  obtain ⟨r, TF, fzF, hFb, hFC⟩ := hF.blk
  have hFl := hFb.lt
  have hFsz := hFC.size
  have hk12 := hFC.self
  rw [hFR.self] at hk12
  have hSl := hS.blk.lt
  have hsbl := hFR.sb.1
  have hSb := hS.blk
  have hk9 := hFC.mem
  have hml := hP.ml
  have hmem := hFR.mem.len
  have hzb := sz_ybare (y := y) hP o ho
  have hmm : ((x.mem.2.1 : Int) / 32).toNat = f.mem.length / 32 := by omega
  refine Ret_of_W Hvac.func113 rfl rfl ?_
  refine W_seq ?_
  refine W_region rfl ?_
  refine WO_p (PS_assign_slice rfl) ?_
  refine WO_nil ?_
  refine thn_normal ?_
  refine W_seq ?_
  refine W_region rfl ?_
  refine WO_p (PS_move_ptr rfl) ?_
  refine WO_p (PS_move_ptr rfl) ?_
  refine WO_p (PS_move_int rfl) ?_
  refine WO_call Hvac.call197 (by rfl) (Ret.mono (yBareCost_spec _ (OmB.ext hO (by repeat (first | assumption | exact Ext.refl _ | refine Ext.alloc ?_ _ | refine Ext.drew ?_ | refine Ext.setB ?_ (by first | omega | (simp only [size_alloc, size_setB, size_drew]; omega)) _ | exact Ext.trans (by assumption) (by assumption) | refine Ext.trans ?_ (by assumption)))) _ _ _ _ (by first | assumption | exact YSS.ext (by assumption) (by repeat (first | assumption | exact Ext.refl _ | refine Ext.alloc ?_ _ | refine Ext.drew ?_ | refine Ext.setB ?_ (by first | omega | (simp only [size_alloc, size_setB, size_drew]; omega)) _ | exact Ext.trans (by assumption) (by assumption) | refine Ext.trans ?_ (by assumption)))) hB hN _ _ _ _ (by first | assumption | exact FrS.ext (by assumption) (by repeat (first | assumption | exact Ext.refl _ | refine Ext.alloc ?_ _ | refine Ext.drew ?_ | refine Ext.setB ?_ (by first | omega | (simp only [size_alloc, size_setB, size_drew]; omega)) _ | exact Ext.trans (by assumption) (by assumption) | refine Ext.trans ?_ (by assumption)))) hP _ (by omega)) ?_)
  rintro _ w197_0 ⟨hE197_0, s197_0, rfl, hN197_0⟩
  have hz197_0 := hE197_0.1
  try simp only [size_alloc, size_setB, size_drew] at hz197_0
  refine WO_p (PS_assign_slice rfl) ?_
  refine WO_nil ?_
  refine thn_normal ?_
  refine W_seq ?_
  refine W_region rfl ?_
  refine WO_p (PS_move_ptr rfl) ?_
  refine WO_p (PS_nilCheck rfl) ?_
  refine WO_p (PS_fieldAddr 9 Hvac.runUnderlying121 rfl Hvac.sizeOf32 rfl rfl) ?_
  refine WO_load (.slice _ _ _) Hvac.isAgg32 rfl (Hb.h (by repeat (first | assumption | exact Hb.newY _ _ | refine Hb.alloc ?_ | refine Hb.drew ?_ | refine Hb.ext (by assumption) ?_ | exact Hb.setSameL (by first | omega | (simp only [size_alloc, size_setB, size_drew]; omega)) | exact Hb.setSame (by assumption) | refine Hb.set (by first | omega | (simp only [size_alloc, size_setB, size_drew]; omega)) ?_ ))) (Ce.h (by first | assumption | exact ⟨rfl⟩)) ?_
  refine WO_p (PS_lenS Hvac.runUnderlying32 rfl) ?_
  refine WO_p (PS_quo_i64 rfl rfl (by omega) (by omega) (by omega)) ?_
  refine WO_p (PS_conv_u64n Hvac.runUnderlying3 Hvac.runUnderlying26 rfl (by omega) (by omega)) ?_
  refine WO_call Hvac.call19 (by rfl) (Ret.mono (nNum_spec (OmB.ext hO (by repeat (first | assumption | exact Ext.refl _ | refine Ext.alloc ?_ _ | refine Ext.drew ?_ | refine Ext.setB ?_ (by first | omega | (simp only [size_alloc, size_setB, size_drew]; omega)) _ | exact Ext.trans (by assumption) (by assumption) | refine Ext.trans ?_ (by assumption)))) ⟨by omega, by omega⟩) ?_)
  rintro _ w19_1 ⟨hE19_1, s19_1, rfl, hN19_1, hs19_1⟩
  have hz19_1 := hE19_1.1
  try simp only [size_alloc, size_setB, size_drew] at hz19_1
  try simp only [Int.toNat_natCast, toNat_lit] at hN19_1 hs19_1
  refine WO_p (PS_assign_slice rfl) ?_
  refine WO_nil ?_
  refine thn_normal ?_
  refine W_seq ?_
  refine W_region rfl ?_
  refine WO_p (PS_move_ptr rfl) ?_
  refine WO_p (PS_move_int rfl) ?_
  refine WO_call Hvac.call45 (by rfl) (Ret.mono (yReach_spec _ (OmB.ext hO (by repeat (first | assumption | exact Ext.refl _ | refine Ext.alloc ?_ _ | refine Ext.drew ?_ | refine Ext.setB ?_ (by first | omega | (simp only [size_alloc, size_setB, size_drew]; omega)) _ | exact Ext.trans (by assumption) (by assumption) | refine Ext.trans ?_ (by assumption)))) _ _ _ _ (by first | assumption | exact FrS.ext (by assumption) (by repeat (first | assumption | exact Ext.refl _ | refine Ext.alloc ?_ _ | refine Ext.drew ?_ | refine Ext.setB ?_ (by first | omega | (simp only [size_alloc, size_setB, size_drew]; omega)) _ | exact Ext.trans (by assumption) (by assumption) | refine Ext.trans ?_ (by assumption)))) hP _ (by omega)) ?_)
  rintro _ w45_2 ⟨hE45_2, s45_2, rfl, hN45_2⟩
  have hz45_2 := hE45_2.1
  try simp only [size_alloc, size_setB, size_drew] at hz45_2
  have hs45_2 := sz_yreach hP o
  refine WO_call Hvac.call83 (by rfl) (Ret.mono (words_spec2 _ (OmB.ext hO (by repeat (first | assumption | exact Ext.refl _ | refine Ext.alloc ?_ _ | refine Ext.drew ?_ | refine Ext.setB ?_ (by first | omega | (simp only [size_alloc, size_setB, size_drew]; omega)) _ | exact Ext.trans (by assumption) (by assumption) | refine Ext.trans ?_ (by assumption)))) _ _ _ _ (by first | exact NN.nil _ | assumption | exact NN.ext (by assumption) (by repeat (first | assumption | exact Ext.refl _ | refine Ext.alloc ?_ _ | refine Ext.drew ?_ | refine Ext.setB ?_ (by first | omega | (simp only [size_alloc, size_setB, size_drew]; omega)) _ | exact Ext.trans (by assumption) (by assumption) | refine Ext.trans ?_ (by assumption)))) (by first | assumption | omega | (rw [sz_zero]; omega))) ?_)
  rintro _ w83_3 ⟨hE83_3, s83_3, rfl, hN83_3⟩
  have hz83_3 := hE83_3.1
  try simp only [size_alloc, size_setB, size_drew] at hz83_3
  have hs83_3 := sz_ywords (yreach f o)
  refine WO_p (PS_assign_slice rfl) ?_
  refine WO_nil ?_
  refine thn_normal ?_
  refine W_seq ?_
  refine W_seq ?_
  refine W_region rfl ?_
  refine WO_p (PS_move_slice rfl) ?_
  refine WO_p (PS_move_slice rfl) ?_
  refine WO_call Hvac.call76 (by rfl) (Ret.mono (nCmp_spec (by first | exact NN.nil _ | assumption | exact NN.ext (by assumption) (by repeat (first | assumption | exact Ext.refl _ | refine Ext.alloc ?_ _ | refine Ext.drew ?_ | refine Ext.setB ?_ (by first | omega | (simp only [size_alloc, size_setB, size_drew]; omega)) _ | exact Ext.trans (by assumption) (by assumption) | refine Ext.trans ?_ (by assumption)))) (by first | exact NN.nil _ | assumption | exact NN.ext (by assumption) (by repeat (first | assumption | exact Ext.refl _ | refine Ext.alloc ?_ _ | refine Ext.drew ?_ | refine Ext.setB ?_ (by first | omega | (simp only [size_alloc, size_setB, size_drew]; omega)) _ | exact Ext.trans (by assumption) (by assumption) | refine Ext.trans ?_ (by assumption)))) (by first | assumption | omega | (rw [sz_zero]; omega)) (by first | assumption | omega | (rw [sz_zero]; omega))) ?_)
  rintro _ w76_4 ⟨hE76_4, rfl⟩
  have hz76_4 := hE76_4.1
  try simp only [size_alloc, size_setB, size_drew] at hz76_4
  refine WO_p (PS_leq rfl rfl) ?_
  refine WO_nil ?_
  refine thn_normal ?_
  refine W_if rfl (fun hb7 => ?_) (fun hb7 => ?_)
  · have hb7p := hb7.h; try simp only [al_ete, al_dfn, Bool.not_eq_true', Bool.not_eq_false', al_ne, Bool.not_not, al_nn] at hb7p
    rw [cmpI_le2] at hb7p
    refine W_seq ?_
    refine W_region rfl ?_
    refine WO_p (PS_move_slice rfl) ?_
    refine WO_p (PS_assign_slice rfl) ?_
    refine WO_nil ?_
    refine thn_normal ?_
    refine W_ret ?_
    refine thn_ret ?_
    refine bodyQ_ret1 Hvac.results113 rfl (.slice _ _ _) rfl ?_
    first
    | (have e : ycost y f o = ybare y f o := by unfold ycost; rw [if_pos (by omega)]
       rw [e]; exact ⟨(by repeat (first | assumption | exact Ext.refl _ | refine Ext.alloc ?_ _ | refine Ext.drew ?_ | refine Ext.setB ?_ (by first | omega | (simp only [size_alloc, size_setB, size_drew]; omega)) _ | refine Ext.trans ?_ (by assumption))), (_, _, _), rfl, (by first | exact NN.nil _ | assumption | exact NN.ext (by assumption) (by repeat (first | assumption | exact Ext.refl _ | refine Ext.alloc ?_ _ | refine Ext.drew ?_ | refine Ext.setB ?_ (by first | omega | (simp only [size_alloc, size_setB, size_drew]; omega)) _ | refine Ext.trans ?_ (by assumption))))⟩)
    | (have e : ycost y f o = ybare y f o + (ymem (ywords (yreach f o)) - ymem ((x.mem.2.1 : Int) / 32).toNat) := by unfold ycost; rw [if_neg (by omega), hmm]
       rw [e]; exact ⟨(by repeat (first | assumption | exact Ext.refl _ | refine Ext.alloc ?_ _ | refine Ext.drew ?_ | refine Ext.setB ?_ (by first | omega | (simp only [size_alloc, size_setB, size_drew]; omega)) _ | refine Ext.trans ?_ (by assumption))), (_, _, _), rfl, (by first | exact NN.nil _ | assumption | exact NN.ext (by assumption) (by repeat (first | assumption | exact Ext.refl _ | refine Ext.alloc ?_ _ | refine Ext.drew ?_ | refine Ext.setB ?_ (by first | omega | (simp only [size_alloc, size_setB, size_drew]; omega)) _ | refine Ext.trans ?_ (by assumption))))⟩)
  · have hb7p := hb7.h; try simp only [al_ete, al_dfn, Bool.not_eq_true', Bool.not_eq_false', al_ne, Bool.not_not, al_nn] at hb7p
    rw [cmpI_le2] at hb7p
    refine W_skip ?_
    refine thn_normal ?_
    refine W_seq ?_
    refine W_region rfl ?_
    refine WO_p (PS_move_slice rfl) ?_
    refine WO_p (PS_move_slice rfl) ?_
    refine WO_call Hvac.call198 (by rfl) (Ret.mono (memCost_spec2 _ (OmB.ext hO (by repeat (first | assumption | exact Ext.refl _ | refine Ext.alloc ?_ _ | refine Ext.drew ?_ | refine Ext.setB ?_ (by first | omega | (simp only [size_alloc, size_setB, size_drew]; omega)) _ | exact Ext.trans (by assumption) (by assumption) | refine Ext.trans ?_ (by assumption)))) _ _ _ _ (by first | exact NN.nil _ | assumption | exact NN.ext (by assumption) (by repeat (first | assumption | exact Ext.refl _ | refine Ext.alloc ?_ _ | refine Ext.drew ?_ | refine Ext.setB ?_ (by first | omega | (simp only [size_alloc, size_setB, size_drew]; omega)) _ | exact Ext.trans (by assumption) (by assumption) | refine Ext.trans ?_ (by assumption)))) (by first | assumption | omega | (rw [sz_zero]; omega))) ?_)
    rintro _ w198_7 ⟨hE198_7, s198_7, rfl, hN198_7⟩
    have hz198_7 := hE198_7.1
    try simp only [size_alloc, size_setB, size_drew] at hz198_7
    have hs198_7 := hN198_7.z_mem
    refine WO_p (PS_move_slice rfl) ?_
    refine WO_call Hvac.call198 (by rfl) (Ret.mono (memCost_spec2 _ (OmB.ext hO (by repeat (first | assumption | exact Ext.refl _ | refine Ext.alloc ?_ _ | refine Ext.drew ?_ | refine Ext.setB ?_ (by first | omega | (simp only [size_alloc, size_setB, size_drew]; omega)) _ | exact Ext.trans (by assumption) (by assumption) | refine Ext.trans ?_ (by assumption)))) _ _ _ _ (by first | exact NN.nil _ | assumption | exact NN.ext (by assumption) (by repeat (first | assumption | exact Ext.refl _ | refine Ext.alloc ?_ _ | refine Ext.drew ?_ | refine Ext.setB ?_ (by first | omega | (simp only [size_alloc, size_setB, size_drew]; omega)) _ | exact Ext.trans (by assumption) (by assumption) | refine Ext.trans ?_ (by assumption)))) (by first | assumption | omega | (rw [sz_zero]; omega))) ?_)
    rintro _ w198_8 ⟨hE198_8, s198_8, rfl, hN198_8⟩
    have hz198_8 := hE198_8.1
    try simp only [size_alloc, size_setB, size_drew] at hz198_8
    have hs198_8 := hN198_8.z_mem
    refine WO_call Hvac.call20 (by rfl) (Ret.mono (less_spec _ (OmB.ext hO (by repeat (first | assumption | exact Ext.refl _ | refine Ext.alloc ?_ _ | refine Ext.drew ?_ | refine Ext.setB ?_ (by first | omega | (simp only [size_alloc, size_setB, size_drew]; omega)) _ | exact Ext.trans (by assumption) (by assumption) | refine Ext.trans ?_ (by assumption)))) _ _ _ _ (by first | exact NN.nil _ | assumption | exact NN.ext (by assumption) (by repeat (first | assumption | exact Ext.refl _ | refine Ext.alloc ?_ _ | refine Ext.drew ?_ | refine Ext.setB ?_ (by first | omega | (simp only [size_alloc, size_setB, size_drew]; omega)) _ | exact Ext.trans (by assumption) (by assumption) | refine Ext.trans ?_ (by assumption)))) (by first | assumption | omega | (rw [sz_zero]; omega)) _ _ _ _ (by first | exact NN.nil _ | assumption | exact NN.ext (by assumption) (by repeat (first | assumption | exact Ext.refl _ | refine Ext.alloc ?_ _ | refine Ext.drew ?_ | refine Ext.setB ?_ (by first | omega | (simp only [size_alloc, size_setB, size_drew]; omega)) _ | exact Ext.trans (by assumption) (by assumption) | refine Ext.trans ?_ (by assumption)))) (by first | assumption | omega | (rw [sz_zero]; omega))) ?_)
    rintro _ w20_9 ⟨hE20_9, s20_9, rfl, hN20_9⟩
    have hz20_9 := hE20_9.1
    try simp only [size_alloc, size_setB, size_drew] at hz20_9
    have hs20_9 := hN20_9.z_sub
    refine WO_call Hvac.call24 (by rfl) (Ret.mono (nAdd_spec (OmB.ext hO (by repeat (first | assumption | exact Ext.refl _ | refine Ext.alloc ?_ _ | refine Ext.drew ?_ | refine Ext.setB ?_ (by first | omega | (simp only [size_alloc, size_setB, size_drew]; omega)) _ | exact Ext.trans (by assumption) (by assumption) | refine Ext.trans ?_ (by assumption)))) (by first | exact NN.nil _ | assumption | exact NN.ext (by assumption) (by repeat (first | assumption | exact Ext.refl _ | refine Ext.alloc ?_ _ | refine Ext.drew ?_ | refine Ext.setB ?_ (by first | omega | (simp only [size_alloc, size_setB, size_drew]; omega)) _ | exact Ext.trans (by assumption) (by assumption) | refine Ext.trans ?_ (by assumption)))) (by first | exact NN.nil _ | assumption | exact NN.ext (by assumption) (by repeat (first | assumption | exact Ext.refl _ | refine Ext.alloc ?_ _ | refine Ext.drew ?_ | refine Ext.setB ?_ (by first | omega | (simp only [size_alloc, size_setB, size_drew]; omega)) _ | exact Ext.trans (by assumption) (by assumption) | refine Ext.trans ?_ (by assumption)))) (by first | assumption | omega | (rw [sz_zero]; omega)) (by first | assumption | omega | (rw [sz_zero]; omega))) ?_)
    rintro _ w24_10 ⟨hE24_10, s24_10, rfl, hN24_10⟩
    have hz24_10 := hE24_10.1
    try simp only [size_alloc, size_setB, size_drew] at hz24_10
    have hs24_10 := hN24_10.z_add
    refine WO_p (PS_assign_slice rfl) ?_
    refine WO_nil ?_
    refine thn_normal ?_
    refine W_ret ?_
    refine bodyQ_ret1 Hvac.results113 rfl (.slice _ _ _) rfl ?_
    first
    | (have e : ycost y f o = ybare y f o := by unfold ycost; rw [if_pos (by omega)]
       rw [e]; exact ⟨(by repeat (first | assumption | exact Ext.refl _ | refine Ext.alloc ?_ _ | refine Ext.drew ?_ | refine Ext.setB ?_ (by first | omega | (simp only [size_alloc, size_setB, size_drew]; omega)) _ | refine Ext.trans ?_ (by assumption))), (_, _, _), rfl, (by first | exact NN.nil _ | assumption | exact NN.ext (by assumption) (by repeat (first | assumption | exact Ext.refl _ | refine Ext.alloc ?_ _ | refine Ext.drew ?_ | refine Ext.setB ?_ (by first | omega | (simp only [size_alloc, size_setB, size_drew]; omega)) _ | refine Ext.trans ?_ (by assumption))))⟩)
    | (have e : ycost y f o = ybare y f o + (ymem (ywords (yreach f o)) - ymem ((x.mem.2.1 : Int) / 32).toNat) := by unfold ycost; rw [if_neg (by omega), hmm]
       rw [e]; exact ⟨(by repeat (first | assumption | exact Ext.refl _ | refine Ext.alloc ?_ _ | refine Ext.drew ?_ | refine Ext.setB ?_ (by first | omega | (simp only [size_alloc, size_setB, size_drew]; omega)) _ | refine Ext.trans ?_ (by assumption))), (_, _, _), rfl, (by first | exact NN.nil _ | assumption | exact NN.ext (by assumption) (by repeat (first | assumption | exact Ext.refl _ | refine Ext.alloc ?_ _ | refine Ext.drew ?_ | refine Ext.setB ?_ (by first | omega | (simp only [size_alloc, size_setB, size_drew]; omega)) _ | refine Ext.trans ?_ (by assumption))))⟩)

end Go.Proofs.YgvacwGreat
