import Derived.Test.YgvadwGreatTp
import Derived.Test.YgvadwGreatTh
namespace Go.Proofs.YgvadwGreat
set_option linter.unusedSimpArgs false
set_option linter.unusedVariables false
theorem run_eql_ptr_same {P : Program} (w : World) (t e : TypeId) (a : Addr) (n : Nat) (h : P.underlying t = some (.pointer e)) (hS : ∀ w, (Go.sizeOf e).run P w = .ok n w) (hk : n ≠ 0) : (binOp .eql t (.pointer (some a)) (.pointer (some a))).run P w = .ok (.bool true) w := by
  have e0 : ∀ d, (Op.equalIn (d + 1) t (.pointer (some a)) (.pointer (some a))).run P w = .ok true w := by
    intro d
    simp [Op.equalIn, run_underlying h, hS, hk, sameAddr]
  simp only [binOp]
  simp only [Op.equal, Sem.run_bind]
  rw [show (Op.equalIn Op.maxDepth t (.pointer (some a)) (.pointer (some a))).run P w = .ok true w from e0 9999]
  rfl
theorem PS_eqlsame {P : Program} {ρ : Nat → Value} {t yt e : TypeId} {x y : Operand} {a : Addr} {n : Nat} (hU : P.underlying t = some (.pointer e)) (hS : ∀ w, (Go.sizeOf e).run P w = .ok n w) (hk : n ≠ 0) (hx : ev ρ x = .pointer (some a)) (hy : ev ρ y = .pointer (some a)) : PS P (.binOp .eql t x y yt) ρ (.bool true) :=
  PS_binG hx hy (fun _ => rfl) (fun w => run_eql_ptr_same w t e a n hU hS hk)

set_option maxRecDepth 10000 in
set_option maxHeartbeats 4000000 in
theorem clause_spec (C : Nat) (c : Array Value) (v : V) (B : VB) (m : Mc) (j : Int) (n : Nat) (S : Int) (w : World) (hM : MS w C c v B m) (hk : Ck v m n S) (hj : 1 ≤ j ∧ j ≤ 8) : Ret Hvad.prog 89 #[.pointer (some ⟨C, 0, none⟩), .int .u8 j] w fun u w' => u = .bool true ∧ Ext w w' := by
  have hblk := hM.vs.blk
  have hCl := hblk.lt
  have hcs := hM.sz
  have hc_s := hM.rep.s
  have hc_top := hM.rep.top
  rw [hk.top] at hc_top
  have hc_phase := hM.rep.phase
  have hn7 := hk.n7
  have hph := hk.ph
  have hpt := hM.ty.phase
  
  refine Ret_of_W Hvad.func89 rfl rfl ?_
  refine W_seq ?_
  refine W_region rfl ?_
  refine WO_p (PS_assign_bool rfl) ?_
  refine WO_nil ?_
  refine thn_normal ?_
  refine W_seq ?_
  refine W_seq ?_
  refine W_region rfl ?_
  refine WO_p (PS_move_int rfl) ?_
  refine WO_p (PS_lss rfl rfl) ?_
  refine WO_p (PS_move_bool rfl) ?_
  refine WO_if (t := 7) rfl (fun hb2 => ?_) (fun hb2 => ?_)
  · have hb2p := hb2.h; try simp only [al_ete, al_dfn, Bool.not_eq_true', Bool.not_eq_false', al_ne, Bool.not_not, al_nn] at hb2p
    (exfalso; omega) --END
  · have hb2p := hb2.h; try simp only [al_ete, al_dfn, Bool.not_eq_true', Bool.not_eq_false', al_ne, Bool.not_not, al_nn] at hb2p
    refine WO_guardT rfl rfl hb2.h ?_
    refine WO_p (PS_move_int rfl) ?_
    refine WO_guardT rfl rfl hb2.h ?_
    refine WO_p (PS_gtr rfl rfl) ?_
    refine WO_p (PS_pickF rfl hb2.h rfl) ?_
    refine WO_nil ?_
    refine thn_normal ?_
    refine W_if rfl (fun hb4 => ?_) (fun hb4 => ?_)
    · have hb4p := hb4.h; try simp only [al_ete, al_dfn, Bool.not_eq_true', Bool.not_eq_false', al_ne, Bool.not_not, al_nn] at hb4p
      (exfalso; omega) --END
    · have hb4p := hb4.h; try simp only [al_ete, al_dfn, Bool.not_eq_true', Bool.not_eq_false', al_ne, Bool.not_not, al_nn] at hb4p
      refine W_skip ?_
      refine thn_normal ?_
      refine W_seq ?_
      refine W_seq ?_
      refine W_region rfl ?_
      refine WO_p (PS_move_ptr rfl) ?_
      refine WO_p (PS_nilCheck rfl) ?_
      refine WO_p (PS_fieldAddr 0 Hvad.runUnderlying69 rfl Hvad.sizeOf53 rfl rfl) ?_
      refine WO_load (.pointer _) Hvad.isAgg53 rfl (Hb.h (by repeat (first | assumption | exact Hb.newY _ _ | refine Hb.alloc ?_ | refine Hb.drew ?_ | refine Hb.ext (by assumption) ?_ | exact Hb.setSameL (by first | omega | (simp only [size_alloc, size_setB, size_drew]; omega)) | exact Hb.setSame (by assumption) | refine Hb.set (by first | omega | (simp only [size_alloc, size_setB, size_drew]; omega)) ?_ ))) (Ce.h (by first | assumption | exact ⟨rfl⟩)) ?_
      refine WO_p (PS_eqlnil Hvad.underlying53 rfl) ?_
      refine WO_p (PS_move_bool rfl) ?_
      refine WO_if (t := 16) rfl (fun hb6 => ?_) (fun hb6 => ?_)
      · have hb6p := hb6.h; try simp only [al_ete, al_dfn, Bool.not_eq_true', Bool.not_eq_false', al_ne, Bool.not_not, al_nn] at hb6p
        (exfalso; first | omega | (simp at hb6p; done) | cases hb6p) --END
      · have hb6p := hb6.h; try simp only [al_ete, al_dfn, Bool.not_eq_true', Bool.not_eq_false', al_ne, Bool.not_not, al_nn] at hb6p
        refine WO_guardT rfl rfl hb6.h ?_
        refine WO_p (PS_move_ptr rfl) ?_
        refine WO_guardT rfl rfl hb6.h ?_
        refine WO_p (PS_nilCheck rfl) ?_
        refine WO_guardT rfl rfl hb6.h ?_
        refine WO_p (PS_fieldAddr 2258 Hvad.runUnderlying69 rfl Hvad.sizeOf67 rfl rfl) ?_
        refine WO_guardT rfl rfl hb6.h ?_
        refine WO_load (.int _ _) Hvad.isAgg67 rfl (Hb.h (by repeat (first | assumption | exact Hb.newY _ _ | refine Hb.alloc ?_ | refine Hb.drew ?_ | refine Hb.ext (by assumption) ?_ | exact Hb.setSameL (by first | omega | (simp only [size_alloc, size_setB, size_drew]; omega)) | exact Hb.setSame (by assumption) | refine Hb.set (by first | omega | (simp only [size_alloc, size_setB, size_drew]; omega)) ?_ ))) (Ce.h (by first | assumption | exact ⟨rfl⟩)) ?_
        refine WO_guardT rfl rfl hb6.h ?_
        refine WO_p (PS_lss rfl rfl) ?_
        refine WO_p (PS_pickF rfl hb6.h rfl) ?_
        refine WO_p (PS_move_bool rfl) ?_
        refine WO_if (t := 23) rfl (fun hb8 => ?_) (fun hb8 => ?_)
        · have hb8p := hb8.h; try simp only [al_ete, al_dfn, Bool.not_eq_true', Bool.not_eq_false', al_ne, Bool.not_not, al_nn] at hb8p
          (exfalso; omega) --END
        · have hb8p := hb8.h; try simp only [al_ete, al_dfn, Bool.not_eq_true', Bool.not_eq_false', al_ne, Bool.not_not, al_nn] at hb8p
          refine WO_guardT rfl rfl hb8.h ?_
          refine WO_p (PS_move_ptr rfl) ?_
          refine WO_guardT rfl rfl hb8.h ?_
          refine WO_p (PS_nilCheck rfl) ?_
          refine WO_guardT rfl rfl hb8.h ?_
          refine WO_p (PS_fieldAddr 2258 Hvad.runUnderlying69 rfl Hvad.sizeOf67 rfl rfl) ?_
          refine WO_guardT rfl rfl hb8.h ?_
          refine WO_load (.int _ _) Hvad.isAgg67 rfl (Hb.h (by repeat (first | assumption | exact Hb.newY _ _ | refine Hb.alloc ?_ | refine Hb.drew ?_ | refine Hb.ext (by assumption) ?_ | exact Hb.setSameL (by first | omega | (simp only [size_alloc, size_setB, size_drew]; omega)) | exact Hb.setSame (by assumption) | refine Hb.set (by first | omega | (simp only [size_alloc, size_setB, size_drew]; omega)) ?_ ))) (Ce.h (by first | assumption | exact ⟨rfl⟩)) ?_
          refine WO_guardT rfl rfl hb8.h ?_
          refine WO_p (PS_gtr rfl rfl) ?_
          refine WO_p (PS_pickF rfl hb8.h rfl) ?_
          refine WO_nil ?_
          refine thn_normal ?_
          refine W_if rfl (fun hb10 => ?_) (fun hb10 => ?_)
          · have hb10p := hb10.h; try simp only [al_ete, al_dfn, Bool.not_eq_true', Bool.not_eq_false', al_ne, Bool.not_not, al_nn] at hb10p
            (exfalso; omega) --END
          · have hb10p := hb10.h; try simp only [al_ete, al_dfn, Bool.not_eq_true', Bool.not_eq_false', al_ne, Bool.not_not, al_nn] at hb10p
            refine W_skip ?_
            refine thn_normal ?_
            refine W_seq ?_
            refine W_seq ?_
            refine W_region rfl ?_
            refine WO_p (PS_move_int rfl) ?_
            refine WO_nil ?_
            refine thn_normal ?_
            refine W_block ?_
            refine W_seq ?_
            refine W_region rfl ?_
            refine WO_p (PS_eql rfl rfl) ?_
            refine WO_p (PS_assign_bool rfl) ?_
            refine WO_nil ?_
            refine thn_normal ?_
            refine W_if rfl (fun hb12 => ?_) (fun hb12 => ?_)
            · have hb12p := hb12.h; try simp only [al_ete, al_dfn, Bool.not_eq_true', Bool.not_eq_false', al_ne, Bool.not_not, al_nn] at hb12p
              refine W_seq ?_
              refine W_region rfl ?_
              refine WO_p (PS_move_ptr rfl) ?_
              refine WO_p (PS_nilCheck rfl) ?_
              refine WO_p (PS_fieldAddr 0 Hvad.runUnderlying69 rfl Hvad.sizeOf53 rfl rfl) ?_
              refine WO_load (.pointer _) Hvad.isAgg53 rfl (Hb.h (by repeat (first | assumption | exact Hb.newY _ _ | refine Hb.alloc ?_ | refine Hb.drew ?_ | refine Hb.ext (by assumption) ?_ | exact Hb.setSameL (by first | omega | (simp only [size_alloc, size_setB, size_drew]; omega)) | exact Hb.setSame (by assumption) | refine Hb.set (by first | omega | (simp only [size_alloc, size_setB, size_drew]; omega)) ?_ ))) (Ce.h (by first | assumption | exact ⟨rfl⟩)) ?_
              refine WO_call Hvad.call133 (by rfl) (Ret.mono (vCheck_spec C c v B (bb m) _ (VS.ext hM.vs (by repeat (first | assumption | exact Ext.refl _ | refine Ext.alloc ?_ _ | refine Ext.drew ?_ | refine Ext.setB ?_ (by first | omega | (simp only [size_alloc, size_setB, size_drew]; omega)) _ | exact Ext.trans (by assumption) (by assumption) | refine Ext.trans ?_ (by assumption)))) hk.vi hM.vs.ty.ll) ?_)
              rintro _ w133_12 ⟨rfl, hE133_12⟩
              have hz133_12 := hE133_12.1
              try simp only [size_alloc, size_setB, size_drew] at hz133_12
              refine WO_p (PS_move_bool rfl) ?_
              refine WO_if (t := 38) rfl (fun hb15 => ?_) (fun hb15 => ?_)
              · have hb15p := hb15.h; try simp only [al_ete, al_dfn, Bool.not_eq_true', Bool.not_eq_false', al_ne, Bool.not_not, al_nn] at hb15p
                refine WO_guardT rfl rfl hb15.h ?_
                refine WO_p (PS_move_ptr rfl) ?_
                refine WO_guardT rfl rfl hb15.h ?_
                refine WO_p (PS_nilCheck rfl) ?_
                refine WO_guardT rfl rfl hb15.h ?_
                refine WO_p (PS_fieldAddr 1 Hvad.runUnderlying69 rfl Hvad.sizeOf57 rfl rfl) ?_
                refine WO_guardT rfl rfl hb15.h ?_
                refine WO_call Hvad.call134 (by rfl) (Ret.mono (memCheck_spec C c v B m n S _ (MS.ext hM (by repeat (first | assumption | exact Ext.refl _ | refine Ext.alloc ?_ _ | refine Ext.drew ?_ | refine Ext.setB ?_ (by first | omega | (simp only [size_alloc, size_setB, size_drew]; omega)) _ | exact Ext.trans (by assumption) (by assumption) | refine Ext.trans ?_ (by assumption)))) hk) ?_)
                rintro _ w134_15 ⟨rfl, hE134_15⟩
                have hz134_15 := hE134_15.1
                try simp only [size_alloc, size_setB, size_drew] at hz134_15
                refine WO_p (PS_pickT rfl hb15.h rfl) ?_
                refine WO_p (PS_assign_bool rfl) ?_
                refine WO_nil ?_
                refine thn_normal ?_
                refine W_ret ?_
                refine inBlk_ret ?_
                refine thn_ret ?_
                refine bodyQ_ret1 Hvad.results89 rfl (.bool _) rfl ?_
                exact ⟨rfl, (by repeat (first | assumption | exact Ext.refl _ | refine Ext.alloc ?_ _ | refine Ext.drew ?_ | refine Ext.setB ?_ (by first | omega | (simp only [size_alloc, size_setB, size_drew]; omega)) _ | refine Ext.trans ?_ (by assumption)))⟩
              · have hb15p := hb15.h; try simp only [al_ete, al_dfn, Bool.not_eq_true', Bool.not_eq_false', al_ne, Bool.not_not, al_nn] at hb15p
                (exfalso; first | omega | (simp at hb15p; done) | cases hb15p) --END
            · have hb12p := hb12.h; try simp only [al_ete, al_dfn, Bool.not_eq_true', Bool.not_eq_false', al_ne, Bool.not_not, al_nn] at hb12p
              refine W_seq ?_
              refine W_region rfl ?_
              refine WO_p (PS_eql rfl rfl) ?_
              refine WO_p (PS_assign_bool rfl) ?_
              refine WO_nil ?_
              refine thn_normal ?_
              refine W_if rfl (fun hb19 => ?_) (fun hb19 => ?_)
              · have hb19p := hb19.h; try simp only [al_ete, al_dfn, Bool.not_eq_true', Bool.not_eq_false', al_ne, Bool.not_not, al_nn] at hb19p
                refine W_seq ?_
                refine W_region rfl ?_
                refine WO_p (PS_move_ptr rfl) ?_
                refine WO_call Hvad.call135 (by rfl) (Ret.mono (phaseOK_spec C c v B m n S _ (MS.ext hM (by repeat (first | assumption | exact Ext.refl _ | refine Ext.alloc ?_ _ | refine Ext.drew ?_ | refine Ext.setB ?_ (by first | omega | (simp only [size_alloc, size_setB, size_drew]; omega)) _ | exact Ext.trans (by assumption) (by assumption) | refine Ext.trans ?_ (by assumption)))) hk) ?_)
                rintro _ w135_19 ⟨rfl, hE135_19⟩
                have hz135_19 := hE135_19.1
                try simp only [size_alloc, size_setB, size_drew] at hz135_19
                refine WO_p (PS_move_bool rfl) ?_
                refine WO_if (t := 48) rfl (fun hb22 => ?_) (fun hb22 => ?_)
                · have hb22p := hb22.h; try simp only [al_ete, al_dfn, Bool.not_eq_true', Bool.not_eq_false', al_ne, Bool.not_not, al_nn] at hb22p
                  refine WO_guardT rfl rfl hb22.h ?_
                  refine WO_p (PS_move_ptr rfl) ?_
                  refine WO_guardT rfl rfl hb22.h ?_
                  refine WO_p (PS_nilCheck rfl) ?_
                  refine WO_guardT rfl rfl hb22.h ?_
                  refine WO_p (PS_fieldAddr 2404 Hvad.runUnderlying69 rfl Hvad.sizeOf5 rfl rfl) ?_
                  refine WO_guardT rfl rfl hb22.h ?_
                  refine WO_load (.int _ _) Hvad.isAgg5 rfl (Hb.h (by repeat (first | assumption | exact Hb.newY _ _ | refine Hb.alloc ?_ | refine Hb.drew ?_ | refine Hb.ext (by assumption) ?_ | exact Hb.setSameL (by first | omega | (simp only [size_alloc, size_setB, size_drew]; omega)) | exact Hb.setSame (by assumption) | refine Hb.set (by first | omega | (simp only [size_alloc, size_setB, size_drew]; omega)) ?_ ))) (Ce.h (by first | assumption | exact ⟨rfl⟩)) ?_
                  refine WO_guardT rfl rfl hb22.h ?_
                  refine WO_p (PS_neq rfl rfl) ?_
                  refine WO_guardT rfl rfl hb22.h ?_
                  refine WO_p (PS_move_bool rfl) ?_
                  refine WO_if (t := 54) rfl (fun hb24 => ?_) (fun hb24 => ?_)
                  · have hb24p := hb24.h; try simp only [al_ete, al_dfn, Bool.not_eq_true', Bool.not_eq_false', al_ne, Bool.not_not, al_nn] at hb24p
                    refine WO_guardF rfl rfl hb24.h ?_
                    refine WO_guardF rfl rfl hb24.h ?_
                    refine WO_guardT rfl rfl hb22.h ?_
                    refine WO_p (PS_pickT rfl hb24.h rfl) ?_
                    refine WO_p (PS_pickT rfl hb22.h rfl) ?_
                    refine WO_p (PS_assign_bool rfl) ?_
                    refine WO_nil ?_
                    refine thn_normal ?_
                    refine W_ret ?_
                    refine inBlk_ret ?_
                    refine thn_ret ?_
                    refine bodyQ_ret1 Hvad.results89 rfl (.bool _) rfl ?_
                    exact ⟨rfl, (by repeat (first | assumption | exact Ext.refl _ | refine Ext.alloc ?_ _ | refine Ext.drew ?_ | refine Ext.setB ?_ (by first | omega | (simp only [size_alloc, size_setB, size_drew]; omega)) _ | refine Ext.trans ?_ (by assumption)))⟩
                  · have hb24p := hb24.h; try simp only [al_ete, al_dfn, Bool.not_eq_true', Bool.not_eq_false', al_ne, Bool.not_not, al_nn] at hb24p
                    have hp0 : m.phase = 0 := by omega
                    refine WO_guardT rfl rfl hb24.h ?_
                    refine WO_p (PS_move_ptr rfl) ?_
                    refine WO_guardT rfl rfl hb24.h ?_
                    refine WO_call Hvad.call136 (by rfl) (Ret.mono (idleOK_spec C c v B m n S _ (MS.ext hM (by repeat (first | assumption | exact Ext.refl _ | refine Ext.alloc ?_ _ | refine Ext.drew ?_ | refine Ext.setB ?_ (by first | omega | (simp only [size_alloc, size_setB, size_drew]; omega)) _ | exact Ext.trans (by assumption) (by assumption) | refine Ext.trans ?_ (by assumption)))) hk hp0) ?_)
                    rintro _ w136_24 ⟨rfl, hE136_24⟩
                    have hz136_24 := hE136_24.1
                    try simp only [size_alloc, size_setB, size_drew] at hz136_24
                    refine WO_guardT rfl rfl hb22.h ?_
                    refine WO_p (PS_pickF rfl hb24.h rfl) ?_
                    refine WO_p (PS_pickT rfl hb22.h rfl) ?_
                    refine WO_p (PS_assign_bool rfl) ?_
                    refine WO_nil ?_
                    refine thn_normal ?_
                    refine W_ret ?_
                    refine inBlk_ret ?_
                    refine thn_ret ?_
                    refine bodyQ_ret1 Hvad.results89 rfl (.bool _) rfl ?_
                    exact ⟨rfl, (by repeat (first | assumption | exact Ext.refl _ | refine Ext.alloc ?_ _ | refine Ext.drew ?_ | refine Ext.setB ?_ (by first | omega | (simp only [size_alloc, size_setB, size_drew]; omega)) _ | refine Ext.trans ?_ (by assumption)))⟩
                · have hb22p := hb22.h; try simp only [al_ete, al_dfn, Bool.not_eq_true', Bool.not_eq_false', al_ne, Bool.not_not, al_nn] at hb22p
                  (exfalso; first | omega | (simp at hb22p; done) | cases hb22p) --END
              · have hb19p := hb19.h; try simp only [al_ete, al_dfn, Bool.not_eq_true', Bool.not_eq_false', al_ne, Bool.not_not, al_nn] at hb19p
                refine W_seq ?_
                refine W_region rfl ?_
                refine WO_p (PS_eql rfl rfl) ?_
                refine WO_p (PS_assign_bool rfl) ?_
                refine WO_nil ?_
                refine thn_normal ?_
                refine W_if rfl (fun hb28 => ?_) (fun hb28 => ?_)
                · have hb28p := hb28.h; try simp only [al_ete, al_dfn, Bool.not_eq_true', Bool.not_eq_false', al_ne, Bool.not_not, al_nn] at hb28p
                  refine W_seq ?_
                  refine W_region rfl ?_
                  refine WO_p (PS_move_ptr rfl) ?_
                  refine WO_call Hvad.call137 (by rfl) (Ret.mono (framesOK_spec C c v B m n S _ (MS.ext hM (by repeat (first | assumption | exact Ext.refl _ | refine Ext.alloc ?_ _ | refine Ext.drew ?_ | refine Ext.setB ?_ (by first | omega | (simp only [size_alloc, size_setB, size_drew]; omega)) _ | exact Ext.trans (by assumption) (by assumption) | refine Ext.trans ?_ (by assumption)))) hk) ?_)
                  rintro _ w137_28 ⟨rfl, hE137_28⟩
                  have hz137_28 := hE137_28.1
                  try simp only [size_alloc, size_setB, size_drew] at hz137_28
                  refine WO_p (PS_assign_bool rfl) ?_
                  refine WO_nil ?_
                  refine thn_normal ?_
                  refine W_ret ?_
                  refine inBlk_ret ?_
                  refine thn_ret ?_
                  refine bodyQ_ret1 Hvad.results89 rfl (.bool _) rfl ?_
                  exact ⟨rfl, (by repeat (first | assumption | exact Ext.refl _ | refine Ext.alloc ?_ _ | refine Ext.drew ?_ | refine Ext.setB ?_ (by first | omega | (simp only [size_alloc, size_setB, size_drew]; omega)) _ | refine Ext.trans ?_ (by assumption)))⟩
                · have hb28p := hb28.h; try simp only [al_ete, al_dfn, Bool.not_eq_true', Bool.not_eq_false', al_ne, Bool.not_not, al_nn] at hb28p
                  refine W_seq ?_
                  refine W_region rfl ?_
                  refine WO_p (PS_eql rfl rfl) ?_
                  refine WO_p (PS_assign_bool rfl) ?_
                  refine WO_nil ?_
                  refine thn_normal ?_
                  refine W_if rfl (fun hb32 => ?_) (fun hb32 => ?_)
                  · have hb32p := hb32.h; try simp only [al_ete, al_dfn, Bool.not_eq_true', Bool.not_eq_false', al_ne, Bool.not_not, al_nn] at hb32p
                    refine W_seq ?_
                    refine W_region rfl ?_
                    refine WO_p (PS_move_ptr rfl) ?_
                    refine WO_call Hvad.call138 (by rfl) (Ret.mono (waitingOK_spec C c v B m n S _ (MS.ext hM (by repeat (first | assumption | exact Ext.refl _ | refine Ext.alloc ?_ _ | refine Ext.drew ?_ | refine Ext.setB ?_ (by first | omega | (simp only [size_alloc, size_setB, size_drew]; omega)) _ | exact Ext.trans (by assumption) (by assumption) | refine Ext.trans ?_ (by assumption)))) hk) ?_)
                    rintro _ w138_32 ⟨rfl, hE138_32⟩
                    have hz138_32 := hE138_32.1
                    try simp only [size_alloc, size_setB, size_drew] at hz138_32
                    refine WO_p (PS_assign_bool rfl) ?_
                    refine WO_nil ?_
                    refine thn_normal ?_
                    refine W_ret ?_
                    refine inBlk_ret ?_
                    refine thn_ret ?_
                    refine bodyQ_ret1 Hvad.results89 rfl (.bool _) rfl ?_
                    exact ⟨rfl, (by repeat (first | assumption | exact Ext.refl _ | refine Ext.alloc ?_ _ | refine Ext.drew ?_ | refine Ext.setB ?_ (by first | omega | (simp only [size_alloc, size_setB, size_drew]; omega)) _ | refine Ext.trans ?_ (by assumption)))⟩
                  · have hb32p := hb32.h; try simp only [al_ete, al_dfn, Bool.not_eq_true', Bool.not_eq_false', al_ne, Bool.not_not, al_nn] at hb32p
                    refine W_seq ?_
                    refine W_region rfl ?_
                    refine WO_p (PS_eql rfl rfl) ?_
                    refine WO_p (PS_assign_bool rfl) ?_
                    refine WO_nil ?_
                    refine thn_normal ?_
                    refine W_if rfl (fun hb36 => ?_) (fun hb36 => ?_)
                    · have hb36p := hb36.h; try simp only [al_ete, al_dfn, Bool.not_eq_true', Bool.not_eq_false', al_ne, Bool.not_not, al_nn] at hb36p
                      refine W_seq ?_
                      refine W_region rfl ?_
                      refine WO_p (PS_move_ptr rfl) ?_
                      refine WO_call Hvad.call139 (by rfl) (Ret.mono (snapsOK_spec C c v B m n S _ (MS.ext hM (by repeat (first | assumption | exact Ext.refl _ | refine Ext.alloc ?_ _ | refine Ext.drew ?_ | refine Ext.setB ?_ (by first | omega | (simp only [size_alloc, size_setB, size_drew]; omega)) _ | exact Ext.trans (by assumption) (by assumption) | refine Ext.trans ?_ (by assumption)))) hk) ?_)
                      rintro _ w139_36 ⟨rfl, hE139_36⟩
                      have hz139_36 := hE139_36.1
                      try simp only [size_alloc, size_setB, size_drew] at hz139_36
                      refine WO_p (PS_assign_bool rfl) ?_
                      refine WO_nil ?_
                      refine thn_normal ?_
                      refine W_ret ?_
                      refine inBlk_ret ?_
                      refine thn_ret ?_
                      refine bodyQ_ret1 Hvad.results89 rfl (.bool _) rfl ?_
                      exact ⟨rfl, (by repeat (first | assumption | exact Ext.refl _ | refine Ext.alloc ?_ _ | refine Ext.drew ?_ | refine Ext.setB ?_ (by first | omega | (simp only [size_alloc, size_setB, size_drew]; omega)) _ | refine Ext.trans ?_ (by assumption)))⟩
                    · have hb36p := hb36.h; try simp only [al_ete, al_dfn, Bool.not_eq_true', Bool.not_eq_false', al_ne, Bool.not_not, al_nn] at hb36p
                      refine W_seq ?_
                      refine W_region rfl ?_
                      refine WO_p (PS_eql rfl rfl) ?_
                      refine WO_p (PS_assign_bool rfl) ?_
                      refine WO_nil ?_
                      refine thn_normal ?_
                      refine W_if rfl (fun hb40 => ?_) (fun hb40 => ?_)
                      · have hb40p := hb40.h; try simp only [al_ete, al_dfn, Bool.not_eq_true', Bool.not_eq_false', al_ne, Bool.not_not, al_nn] at hb40p
                        refine W_seq ?_
                        refine W_region rfl ?_
                        refine WO_p (PS_move_ptr rfl) ?_
                        refine WO_call Hvad.call140 (by rfl) (Ret.mono (gasOK_spec C c v B m n S _ (MS.ext hM (by repeat (first | assumption | exact Ext.refl _ | refine Ext.alloc ?_ _ | refine Ext.drew ?_ | refine Ext.setB ?_ (by first | omega | (simp only [size_alloc, size_setB, size_drew]; omega)) _ | exact Ext.trans (by assumption) (by assumption) | refine Ext.trans ?_ (by assumption)))) hk) ?_)
                        rintro _ w140_40 ⟨rfl, hE140_40⟩
                        have hz140_40 := hE140_40.1
                        try simp only [size_alloc, size_setB, size_drew] at hz140_40
                        refine WO_p (PS_assign_bool rfl) ?_
                        refine WO_nil ?_
                        refine thn_normal ?_
                        refine W_ret ?_
                        refine inBlk_ret ?_
                        refine thn_ret ?_
                        refine bodyQ_ret1 Hvad.results89 rfl (.bool _) rfl ?_
                        exact ⟨rfl, (by repeat (first | assumption | exact Ext.refl _ | refine Ext.alloc ?_ _ | refine Ext.drew ?_ | refine Ext.setB ?_ (by first | omega | (simp only [size_alloc, size_setB, size_drew]; omega)) _ | refine Ext.trans ?_ (by assumption)))⟩
                      · have hb40p := hb40.h; try simp only [al_ete, al_dfn, Bool.not_eq_true', Bool.not_eq_false', al_ne, Bool.not_not, al_nn] at hb40p
                        refine W_seq ?_
                        refine W_region rfl ?_
                        refine WO_p (PS_eql rfl rfl) ?_
                        refine WO_p (PS_assign_bool rfl) ?_
                        refine WO_nil ?_
                        refine thn_normal ?_
                        refine W_if rfl (fun hb44 => ?_) (fun hb44 => ?_)
                        · have hb44p := hb44.h; try simp only [al_ete, al_dfn, Bool.not_eq_true', Bool.not_eq_false', al_ne, Bool.not_not, al_nn] at hb44p
                          refine W_seq ?_
                          refine W_region rfl ?_
                          refine WO_p (PS_move_ptr rfl) ?_
                          refine WO_call Hvad.call141 (by rfl) (Ret.mono (roomOK_spec C c v B m n S _ (MS.ext hM (by repeat (first | assumption | exact Ext.refl _ | refine Ext.alloc ?_ _ | refine Ext.drew ?_ | refine Ext.setB ?_ (by first | omega | (simp only [size_alloc, size_setB, size_drew]; omega)) _ | exact Ext.trans (by assumption) (by assumption) | refine Ext.trans ?_ (by assumption)))) hk) ?_)
                          rintro _ w141_44 ⟨rfl, hE141_44⟩
                          have hz141_44 := hE141_44.1
                          try simp only [size_alloc, size_setB, size_drew] at hz141_44
                          refine WO_p (PS_assign_bool rfl) ?_
                          refine WO_nil ?_
                          refine thn_normal ?_
                          refine W_ret ?_
                          refine inBlk_ret ?_
                          refine thn_ret ?_
                          refine bodyQ_ret1 Hvad.results89 rfl (.bool _) rfl ?_
                          exact ⟨rfl, (by repeat (first | assumption | exact Ext.refl _ | refine Ext.alloc ?_ _ | refine Ext.drew ?_ | refine Ext.setB ?_ (by first | omega | (simp only [size_alloc, size_setB, size_drew]; omega)) _ | refine Ext.trans ?_ (by assumption)))⟩
                        · have hb44p := hb44.h; try simp only [al_ete, al_dfn, Bool.not_eq_true', Bool.not_eq_false', al_ne, Bool.not_not, al_nn] at hb44p
                          refine W_seq ?_
                          refine W_region rfl ?_
                          refine WO_p (PS_eql rfl rfl) ?_
                          refine WO_p (PS_assign_bool rfl) ?_
                          refine WO_nil ?_
                          refine thn_normal ?_
                          refine W_if rfl (fun hb48 => ?_) (fun hb48 => ?_)
                          · have hb48p := hb48.h; try simp only [al_ete, al_dfn, Bool.not_eq_true', Bool.not_eq_false', al_ne, Bool.not_not, al_nn] at hb48p
                            refine W_seq ?_
                            refine W_region rfl ?_
                            refine WO_p (PS_move_ptr rfl) ?_
                            refine WO_call Hvad.call142 (by rfl) (Ret.mono (weightsOK_spec C c v B m n S _ (MS.ext hM (by repeat (first | assumption | exact Ext.refl _ | refine Ext.alloc ?_ _ | refine Ext.drew ?_ | refine Ext.setB ?_ (by first | omega | (simp only [size_alloc, size_setB, size_drew]; omega)) _ | exact Ext.trans (by assumption) (by assumption) | refine Ext.trans ?_ (by assumption)))) hk) ?_)
                            rintro _ w142_48 ⟨rfl, hE142_48⟩
                            have hz142_48 := hE142_48.1
                            try simp only [size_alloc, size_setB, size_drew] at hz142_48
                            refine WO_p (PS_assign_bool rfl) ?_
                            refine WO_nil ?_
                            refine thn_normal ?_
                            refine W_ret ?_
                            refine inBlk_ret ?_
                            refine thn_ret ?_
                            refine bodyQ_ret1 Hvad.results89 rfl (.bool _) rfl ?_
                            exact ⟨rfl, (by repeat (first | assumption | exact Ext.refl _ | refine Ext.alloc ?_ _ | refine Ext.drew ?_ | refine Ext.setB ?_ (by first | omega | (simp only [size_alloc, size_setB, size_drew]; omega)) _ | refine Ext.trans ?_ (by assumption)))⟩
                          · have hb48p := hb48.h; try simp only [al_ete, al_dfn, Bool.not_eq_true', Bool.not_eq_false', al_ne, Bool.not_not, al_nn] at hb48p
                            refine W_skip ?_
                            refine inBlk_normal ?_
                            refine thn_normal ?_
                            refine W_seq ?_
                            refine W_region rfl ?_
                            refine WO_p (PS_assign_bool rfl) ?_
                            refine WO_nil ?_
                            refine thn_normal ?_
                            refine W_ret ?_
                            refine bodyQ_ret1 Hvad.results89 rfl (.bool _) rfl ?_
                            exact ⟨rfl, (by repeat (first | assumption | exact Ext.refl _ | refine Ext.alloc ?_ _ | refine Ext.drew ?_ | refine Ext.setB ?_ (by first | omega | (simp only [size_alloc, size_setB, size_drew]; omega)) _ | refine Ext.trans ?_ (by assumption)))⟩

set_option maxRecDepth 10000 in
set_option maxHeartbeats 4000000 in
theorem mCheck1_spec (C : Nat) (c : Array Value) (v : V) (B : VB) (m : Mc) (n : Nat) (S : Int) (w : World) (hM : MS w C c v B m) (hk : Ck v m n S) : Ret Hvad.prog 303 #[.pointer (some ⟨C, 0, none⟩)] w fun u w' => u = .bool true ∧ Ext w w' := by
  refine Ret_of_W Hvad.func303 rfl rfl ?_
  refine W_seq ?_
  refine W_region rfl ?_
  refine WO_p (PS_assign_bool rfl) ?_
  refine WO_nil ?_
  refine thn_normal ?_
  refine W_seq ?_
  refine W_region rfl ?_
  refine WO_p (PS_move_ptr rfl) ?_
  refine WO_call Hvad.call89 (by rfl) (Ret.mono (clause_spec C c v B m 1 n S _ (MS.ext hM (by repeat (first | assumption | exact Ext.refl _ | refine Ext.alloc ?_ _ | refine Ext.drew ?_ | refine Ext.setB ?_ (by first | omega | (simp only [size_alloc, size_setB, size_drew]; omega)) _ | exact Ext.trans (by assumption) (by assumption) | refine Ext.trans ?_ (by assumption)))) hk (by omega)) ?_)
  rintro _ w89_0 ⟨rfl, hE89_0⟩
  have hz89_0 := hE89_0.1
  try simp only [size_alloc, size_setB, size_drew] at hz89_0
  refine WO_p (PS_assign_bool rfl) ?_
  refine WO_nil ?_
  refine thn_normal ?_
  refine W_ret ?_
  refine bodyQ_ret1 Hvad.results303 rfl (.bool _) rfl ?_
  exact ⟨rfl, (by repeat (first | assumption | exact Ext.refl _ | refine Ext.alloc ?_ _ | refine Ext.drew ?_ | refine Ext.setB ?_ (by first | omega | (simp only [size_alloc, size_setB, size_drew]; omega)) _ | refine Ext.trans ?_ (by assumption)))⟩

set_option maxRecDepth 10000 in
set_option maxHeartbeats 4000000 in
theorem mCheck2_spec (C : Nat) (c : Array Value) (v : V) (B : VB) (m : Mc) (n : Nat) (S : Int) (w : World) (hM : MS w C c v B m) (hk : Ck v m n S) : Ret Hvad.prog 295 #[.pointer (some ⟨C, 0, none⟩)] w fun u w' => u = .bool true ∧ Ext w w' := by
  refine Ret_of_W Hvad.func295 rfl rfl ?_
  refine W_seq ?_
  refine W_region rfl ?_
  refine WO_p (PS_assign_bool rfl) ?_
  refine WO_nil ?_
  refine thn_normal ?_
  refine W_seq ?_
  refine W_region rfl ?_
  refine WO_p (PS_move_ptr rfl) ?_
  refine WO_call Hvad.call303 (by rfl) (Ret.mono (mCheck1_spec C c v B m n S _ (MS.ext hM (by repeat (first | assumption | exact Ext.refl _ | refine Ext.alloc ?_ _ | refine Ext.drew ?_ | refine Ext.setB ?_ (by first | omega | (simp only [size_alloc, size_setB, size_drew]; omega)) _ | exact Ext.trans (by assumption) (by assumption) | refine Ext.trans ?_ (by assumption)))) hk) ?_)
  rintro _ w303_0 ⟨rfl, hE303_0⟩
  have hz303_0 := hE303_0.1
  try simp only [size_alloc, size_setB, size_drew] at hz303_0
  refine WO_p (PS_move_bool rfl) ?_
  refine WO_if (t := 5) rfl (fun hb3 => ?_) (fun hb3 => ?_)
  · have hb3p := hb3.h; try simp only [al_ete, al_dfn, Bool.not_eq_true', Bool.not_eq_false', al_ne, Bool.not_not, al_nn] at hb3p
    refine WO_guardT rfl rfl hb3.h ?_
    refine WO_p (PS_move_ptr rfl) ?_
    refine WO_guardT rfl rfl hb3.h ?_
    refine WO_call Hvad.call89 (by rfl) (Ret.mono (clause_spec C c v B m 2 n S _ (MS.ext hM (by repeat (first | assumption | exact Ext.refl _ | refine Ext.alloc ?_ _ | refine Ext.drew ?_ | refine Ext.setB ?_ (by first | omega | (simp only [size_alloc, size_setB, size_drew]; omega)) _ | exact Ext.trans (by assumption) (by assumption) | refine Ext.trans ?_ (by assumption)))) hk (by omega)) ?_)
    rintro _ w89_3 ⟨rfl, hE89_3⟩
    have hz89_3 := hE89_3.1
    try simp only [size_alloc, size_setB, size_drew] at hz89_3
    refine WO_p (PS_pickT rfl hb3.h rfl) ?_
    refine WO_p (PS_assign_bool rfl) ?_
    refine WO_nil ?_
    refine thn_normal ?_
    refine W_ret ?_
    refine bodyQ_ret1 Hvad.results295 rfl (.bool _) rfl ?_
    exact ⟨rfl, (by repeat (first | assumption | exact Ext.refl _ | refine Ext.alloc ?_ _ | refine Ext.drew ?_ | refine Ext.setB ?_ (by first | omega | (simp only [size_alloc, size_setB, size_drew]; omega)) _ | refine Ext.trans ?_ (by assumption)))⟩
  · have hb3p := hb3.h; try simp only [al_ete, al_dfn, Bool.not_eq_true', Bool.not_eq_false', al_ne, Bool.not_not, al_nn] at hb3p
    (exfalso; first | omega | (simp at hb3p; done) | cases hb3p) --END

set_option maxRecDepth 10000 in
set_option maxHeartbeats 4000000 in
theorem mCheck3_spec (C : Nat) (c : Array Value) (v : V) (B : VB) (m : Mc) (n : Nat) (S : Int) (w : World) (hM : MS w C c v B m) (hk : Ck v m n S) : Ret Hvad.prog 285 #[.pointer (some ⟨C, 0, none⟩)] w fun u w' => u = .bool true ∧ Ext w w' := by
  refine Ret_of_W Hvad.func285 rfl rfl ?_
  refine W_seq ?_
  refine W_region rfl ?_
  refine WO_p (PS_assign_bool rfl) ?_
  refine WO_nil ?_
  refine thn_normal ?_
  refine W_seq ?_
  refine W_region rfl ?_
  refine WO_p (PS_move_ptr rfl) ?_
  refine WO_call Hvad.call295 (by rfl) (Ret.mono (mCheck2_spec C c v B m n S _ (MS.ext hM (by repeat (first | assumption | exact Ext.refl _ | refine Ext.alloc ?_ _ | refine Ext.drew ?_ | refine Ext.setB ?_ (by first | omega | (simp only [size_alloc, size_setB, size_drew]; omega)) _ | exact Ext.trans (by assumption) (by assumption) | refine Ext.trans ?_ (by assumption)))) hk) ?_)
  rintro _ w295_0 ⟨rfl, hE295_0⟩
  have hz295_0 := hE295_0.1
  try simp only [size_alloc, size_setB, size_drew] at hz295_0
  refine WO_p (PS_move_bool rfl) ?_
  refine WO_if (t := 5) rfl (fun hb3 => ?_) (fun hb3 => ?_)
  · have hb3p := hb3.h; try simp only [al_ete, al_dfn, Bool.not_eq_true', Bool.not_eq_false', al_ne, Bool.not_not, al_nn] at hb3p
    refine WO_guardT rfl rfl hb3.h ?_
    refine WO_p (PS_move_ptr rfl) ?_
    refine WO_guardT rfl rfl hb3.h ?_
    refine WO_call Hvad.call89 (by rfl) (Ret.mono (clause_spec C c v B m 3 n S _ (MS.ext hM (by repeat (first | assumption | exact Ext.refl _ | refine Ext.alloc ?_ _ | refine Ext.drew ?_ | refine Ext.setB ?_ (by first | omega | (simp only [size_alloc, size_setB, size_drew]; omega)) _ | exact Ext.trans (by assumption) (by assumption) | refine Ext.trans ?_ (by assumption)))) hk (by omega)) ?_)
    rintro _ w89_3 ⟨rfl, hE89_3⟩
    have hz89_3 := hE89_3.1
    try simp only [size_alloc, size_setB, size_drew] at hz89_3
    refine WO_p (PS_pickT rfl hb3.h rfl) ?_
    refine WO_p (PS_assign_bool rfl) ?_
    refine WO_nil ?_
    refine thn_normal ?_
    refine W_ret ?_
    refine bodyQ_ret1 Hvad.results285 rfl (.bool _) rfl ?_
    exact ⟨rfl, (by repeat (first | assumption | exact Ext.refl _ | refine Ext.alloc ?_ _ | refine Ext.drew ?_ | refine Ext.setB ?_ (by first | omega | (simp only [size_alloc, size_setB, size_drew]; omega)) _ | refine Ext.trans ?_ (by assumption)))⟩
  · have hb3p := hb3.h; try simp only [al_ete, al_dfn, Bool.not_eq_true', Bool.not_eq_false', al_ne, Bool.not_not, al_nn] at hb3p
    (exfalso; first | omega | (simp at hb3p; done) | cases hb3p) --END

set_option maxRecDepth 10000 in
set_option maxHeartbeats 4000000 in
theorem mCheck4_spec (C : Nat) (c : Array Value) (v : V) (B : VB) (m : Mc) (n : Nat) (S : Int) (w : World) (hM : MS w C c v B m) (hk : Ck v m n S) : Ret Hvad.prog 269 #[.pointer (some ⟨C, 0, none⟩)] w fun u w' => u = .bool true ∧ Ext w w' := by
  refine Ret_of_W Hvad.func269 rfl rfl ?_
  refine W_seq ?_
  refine W_region rfl ?_
  refine WO_p (PS_assign_bool rfl) ?_
  refine WO_nil ?_
  refine thn_normal ?_
  refine W_seq ?_
  refine W_region rfl ?_
  refine WO_p (PS_move_ptr rfl) ?_
  refine WO_call Hvad.call285 (by rfl) (Ret.mono (mCheck3_spec C c v B m n S _ (MS.ext hM (by repeat (first | assumption | exact Ext.refl _ | refine Ext.alloc ?_ _ | refine Ext.drew ?_ | refine Ext.setB ?_ (by first | omega | (simp only [size_alloc, size_setB, size_drew]; omega)) _ | exact Ext.trans (by assumption) (by assumption) | refine Ext.trans ?_ (by assumption)))) hk) ?_)
  rintro _ w285_0 ⟨rfl, hE285_0⟩
  have hz285_0 := hE285_0.1
  try simp only [size_alloc, size_setB, size_drew] at hz285_0
  refine WO_p (PS_move_bool rfl) ?_
  refine WO_if (t := 5) rfl (fun hb3 => ?_) (fun hb3 => ?_)
  · have hb3p := hb3.h; try simp only [al_ete, al_dfn, Bool.not_eq_true', Bool.not_eq_false', al_ne, Bool.not_not, al_nn] at hb3p
    refine WO_guardT rfl rfl hb3.h ?_
    refine WO_p (PS_move_ptr rfl) ?_
    refine WO_guardT rfl rfl hb3.h ?_
    refine WO_call Hvad.call89 (by rfl) (Ret.mono (clause_spec C c v B m 4 n S _ (MS.ext hM (by repeat (first | assumption | exact Ext.refl _ | refine Ext.alloc ?_ _ | refine Ext.drew ?_ | refine Ext.setB ?_ (by first | omega | (simp only [size_alloc, size_setB, size_drew]; omega)) _ | exact Ext.trans (by assumption) (by assumption) | refine Ext.trans ?_ (by assumption)))) hk (by omega)) ?_)
    rintro _ w89_3 ⟨rfl, hE89_3⟩
    have hz89_3 := hE89_3.1
    try simp only [size_alloc, size_setB, size_drew] at hz89_3
    refine WO_p (PS_pickT rfl hb3.h rfl) ?_
    refine WO_p (PS_assign_bool rfl) ?_
    refine WO_nil ?_
    refine thn_normal ?_
    refine W_ret ?_
    refine bodyQ_ret1 Hvad.results269 rfl (.bool _) rfl ?_
    exact ⟨rfl, (by repeat (first | assumption | exact Ext.refl _ | refine Ext.alloc ?_ _ | refine Ext.drew ?_ | refine Ext.setB ?_ (by first | omega | (simp only [size_alloc, size_setB, size_drew]; omega)) _ | refine Ext.trans ?_ (by assumption)))⟩
  · have hb3p := hb3.h; try simp only [al_ete, al_dfn, Bool.not_eq_true', Bool.not_eq_false', al_ne, Bool.not_not, al_nn] at hb3p
    (exfalso; first | omega | (simp at hb3p; done) | cases hb3p) --END

set_option maxRecDepth 10000 in
set_option maxHeartbeats 4000000 in
theorem mCheck5_spec (C : Nat) (c : Array Value) (v : V) (B : VB) (m : Mc) (n : Nat) (S : Int) (w : World) (hM : MS w C c v B m) (hk : Ck v m n S) : Ret Hvad.prog 224 #[.pointer (some ⟨C, 0, none⟩)] w fun u w' => u = .bool true ∧ Ext w w' := by
  refine Ret_of_W Hvad.func224 rfl rfl ?_
  refine W_seq ?_
  refine W_region rfl ?_
  refine WO_p (PS_assign_bool rfl) ?_
  refine WO_nil ?_
  refine thn_normal ?_
  refine W_seq ?_
  refine W_region rfl ?_
  refine WO_p (PS_move_ptr rfl) ?_
  refine WO_call Hvad.call269 (by rfl) (Ret.mono (mCheck4_spec C c v B m n S _ (MS.ext hM (by repeat (first | assumption | exact Ext.refl _ | refine Ext.alloc ?_ _ | refine Ext.drew ?_ | refine Ext.setB ?_ (by first | omega | (simp only [size_alloc, size_setB, size_drew]; omega)) _ | exact Ext.trans (by assumption) (by assumption) | refine Ext.trans ?_ (by assumption)))) hk) ?_)
  rintro _ w269_0 ⟨rfl, hE269_0⟩
  have hz269_0 := hE269_0.1
  try simp only [size_alloc, size_setB, size_drew] at hz269_0
  refine WO_p (PS_move_bool rfl) ?_
  refine WO_if (t := 5) rfl (fun hb3 => ?_) (fun hb3 => ?_)
  · have hb3p := hb3.h; try simp only [al_ete, al_dfn, Bool.not_eq_true', Bool.not_eq_false', al_ne, Bool.not_not, al_nn] at hb3p
    refine WO_guardT rfl rfl hb3.h ?_
    refine WO_p (PS_move_ptr rfl) ?_
    refine WO_guardT rfl rfl hb3.h ?_
    refine WO_call Hvad.call89 (by rfl) (Ret.mono (clause_spec C c v B m 5 n S _ (MS.ext hM (by repeat (first | assumption | exact Ext.refl _ | refine Ext.alloc ?_ _ | refine Ext.drew ?_ | refine Ext.setB ?_ (by first | omega | (simp only [size_alloc, size_setB, size_drew]; omega)) _ | exact Ext.trans (by assumption) (by assumption) | refine Ext.trans ?_ (by assumption)))) hk (by omega)) ?_)
    rintro _ w89_3 ⟨rfl, hE89_3⟩
    have hz89_3 := hE89_3.1
    try simp only [size_alloc, size_setB, size_drew] at hz89_3
    refine WO_p (PS_pickT rfl hb3.h rfl) ?_
    refine WO_p (PS_assign_bool rfl) ?_
    refine WO_nil ?_
    refine thn_normal ?_
    refine W_ret ?_
    refine bodyQ_ret1 Hvad.results224 rfl (.bool _) rfl ?_
    exact ⟨rfl, (by repeat (first | assumption | exact Ext.refl _ | refine Ext.alloc ?_ _ | refine Ext.drew ?_ | refine Ext.setB ?_ (by first | omega | (simp only [size_alloc, size_setB, size_drew]; omega)) _ | refine Ext.trans ?_ (by assumption)))⟩
  · have hb3p := hb3.h; try simp only [al_ete, al_dfn, Bool.not_eq_true', Bool.not_eq_false', al_ne, Bool.not_not, al_nn] at hb3p
    (exfalso; first | omega | (simp at hb3p; done) | cases hb3p) --END

set_option maxRecDepth 10000 in
set_option maxHeartbeats 4000000 in
theorem mCheck6_spec (C : Nat) (c : Array Value) (v : V) (B : VB) (m : Mc) (n : Nat) (S : Int) (w : World) (hM : MS w C c v B m) (hk : Ck v m n S) : Ret Hvad.prog 132 #[.pointer (some ⟨C, 0, none⟩)] w fun u w' => u = .bool true ∧ Ext w w' := by
  refine Ret_of_W Hvad.func132 rfl rfl ?_
  refine W_seq ?_
  refine W_region rfl ?_
  refine WO_p (PS_assign_bool rfl) ?_
  refine WO_nil ?_
  refine thn_normal ?_
  refine W_seq ?_
  refine W_region rfl ?_
  refine WO_p (PS_move_ptr rfl) ?_
  refine WO_call Hvad.call224 (by rfl) (Ret.mono (mCheck5_spec C c v B m n S _ (MS.ext hM (by repeat (first | assumption | exact Ext.refl _ | refine Ext.alloc ?_ _ | refine Ext.drew ?_ | refine Ext.setB ?_ (by first | omega | (simp only [size_alloc, size_setB, size_drew]; omega)) _ | exact Ext.trans (by assumption) (by assumption) | refine Ext.trans ?_ (by assumption)))) hk) ?_)
  rintro _ w224_0 ⟨rfl, hE224_0⟩
  have hz224_0 := hE224_0.1
  try simp only [size_alloc, size_setB, size_drew] at hz224_0
  refine WO_p (PS_move_bool rfl) ?_
  refine WO_if (t := 5) rfl (fun hb3 => ?_) (fun hb3 => ?_)
  · have hb3p := hb3.h; try simp only [al_ete, al_dfn, Bool.not_eq_true', Bool.not_eq_false', al_ne, Bool.not_not, al_nn] at hb3p
    refine WO_guardT rfl rfl hb3.h ?_
    refine WO_p (PS_move_ptr rfl) ?_
    refine WO_guardT rfl rfl hb3.h ?_
    refine WO_call Hvad.call89 (by rfl) (Ret.mono (clause_spec C c v B m 6 n S _ (MS.ext hM (by repeat (first | assumption | exact Ext.refl _ | refine Ext.alloc ?_ _ | refine Ext.drew ?_ | refine Ext.setB ?_ (by first | omega | (simp only [size_alloc, size_setB, size_drew]; omega)) _ | exact Ext.trans (by assumption) (by assumption) | refine Ext.trans ?_ (by assumption)))) hk (by omega)) ?_)
    rintro _ w89_3 ⟨rfl, hE89_3⟩
    have hz89_3 := hE89_3.1
    try simp only [size_alloc, size_setB, size_drew] at hz89_3
    refine WO_p (PS_pickT rfl hb3.h rfl) ?_
    refine WO_p (PS_assign_bool rfl) ?_
    refine WO_nil ?_
    refine thn_normal ?_
    refine W_ret ?_
    refine bodyQ_ret1 Hvad.results132 rfl (.bool _) rfl ?_
    exact ⟨rfl, (by repeat (first | assumption | exact Ext.refl _ | refine Ext.alloc ?_ _ | refine Ext.drew ?_ | refine Ext.setB ?_ (by first | omega | (simp only [size_alloc, size_setB, size_drew]; omega)) _ | refine Ext.trans ?_ (by assumption)))⟩
  · have hb3p := hb3.h; try simp only [al_ete, al_dfn, Bool.not_eq_true', Bool.not_eq_false', al_ne, Bool.not_not, al_nn] at hb3p
    (exfalso; first | omega | (simp at hb3p; done) | cases hb3p) --END

set_option maxRecDepth 10000 in
set_option maxHeartbeats 4000000 in
theorem mCheck7_spec (C : Nat) (c : Array Value) (v : V) (B : VB) (m : Mc) (n : Nat) (S : Int) (w : World) (hM : MS w C c v B m) (hk : Ck v m n S) : Ret Hvad.prog 88 #[.pointer (some ⟨C, 0, none⟩)] w fun u w' => u = .bool true ∧ Ext w w' := by
  refine Ret_of_W Hvad.func88 rfl rfl ?_
  refine W_seq ?_
  refine W_region rfl ?_
  refine WO_p (PS_assign_bool rfl) ?_
  refine WO_nil ?_
  refine thn_normal ?_
  refine W_seq ?_
  refine W_region rfl ?_
  refine WO_p (PS_move_ptr rfl) ?_
  refine WO_call Hvad.call132 (by rfl) (Ret.mono (mCheck6_spec C c v B m n S _ (MS.ext hM (by repeat (first | assumption | exact Ext.refl _ | refine Ext.alloc ?_ _ | refine Ext.drew ?_ | refine Ext.setB ?_ (by first | omega | (simp only [size_alloc, size_setB, size_drew]; omega)) _ | exact Ext.trans (by assumption) (by assumption) | refine Ext.trans ?_ (by assumption)))) hk) ?_)
  rintro _ w132_0 ⟨rfl, hE132_0⟩
  have hz132_0 := hE132_0.1
  try simp only [size_alloc, size_setB, size_drew] at hz132_0
  refine WO_p (PS_move_bool rfl) ?_
  refine WO_if (t := 5) rfl (fun hb3 => ?_) (fun hb3 => ?_)
  · have hb3p := hb3.h; try simp only [al_ete, al_dfn, Bool.not_eq_true', Bool.not_eq_false', al_ne, Bool.not_not, al_nn] at hb3p
    refine WO_guardT rfl rfl hb3.h ?_
    refine WO_p (PS_move_ptr rfl) ?_
    refine WO_guardT rfl rfl hb3.h ?_
    refine WO_call Hvad.call89 (by rfl) (Ret.mono (clause_spec C c v B m 7 n S _ (MS.ext hM (by repeat (first | assumption | exact Ext.refl _ | refine Ext.alloc ?_ _ | refine Ext.drew ?_ | refine Ext.setB ?_ (by first | omega | (simp only [size_alloc, size_setB, size_drew]; omega)) _ | exact Ext.trans (by assumption) (by assumption) | refine Ext.trans ?_ (by assumption)))) hk (by omega)) ?_)
    rintro _ w89_3 ⟨rfl, hE89_3⟩
    have hz89_3 := hE89_3.1
    try simp only [size_alloc, size_setB, size_drew] at hz89_3
    refine WO_p (PS_pickT rfl hb3.h rfl) ?_
    refine WO_p (PS_assign_bool rfl) ?_
    refine WO_nil ?_
    refine thn_normal ?_
    refine W_ret ?_
    refine bodyQ_ret1 Hvad.results88 rfl (.bool _) rfl ?_
    exact ⟨rfl, (by repeat (first | assumption | exact Ext.refl _ | refine Ext.alloc ?_ _ | refine Ext.drew ?_ | refine Ext.setB ?_ (by first | omega | (simp only [size_alloc, size_setB, size_drew]; omega)) _ | refine Ext.trans ?_ (by assumption)))⟩
  · have hb3p := hb3.h; try simp only [al_ete, al_dfn, Bool.not_eq_true', Bool.not_eq_false', al_ne, Bool.not_not, al_nn] at hb3p
    (exfalso; first | omega | (simp at hb3p; done) | cases hb3p) --END

set_option maxRecDepth 10000 in
set_option maxHeartbeats 4000000 in
theorem mCheck8_spec (C : Nat) (c : Array Value) (v : V) (B : VB) (m : Mc) (n : Nat) (S : Int) (w : World) (hM : MS w C c v B m) (hk : Ck v m n S) : Ret Hvad.prog 45 #[.pointer (some ⟨C, 0, none⟩)] w fun u w' => u = .bool true ∧ Ext w w' := by
  refine Ret_of_W Hvad.func45 rfl rfl ?_
  refine W_seq ?_
  refine W_region rfl ?_
  refine WO_p (PS_assign_bool rfl) ?_
  refine WO_nil ?_
  refine thn_normal ?_
  refine W_seq ?_
  refine W_region rfl ?_
  refine WO_p (PS_move_ptr rfl) ?_
  refine WO_call Hvad.call88 (by rfl) (Ret.mono (mCheck7_spec C c v B m n S _ (MS.ext hM (by repeat (first | assumption | exact Ext.refl _ | refine Ext.alloc ?_ _ | refine Ext.drew ?_ | refine Ext.setB ?_ (by first | omega | (simp only [size_alloc, size_setB, size_drew]; omega)) _ | exact Ext.trans (by assumption) (by assumption) | refine Ext.trans ?_ (by assumption)))) hk) ?_)
  rintro _ w88_0 ⟨rfl, hE88_0⟩
  have hz88_0 := hE88_0.1
  try simp only [size_alloc, size_setB, size_drew] at hz88_0
  refine WO_p (PS_move_bool rfl) ?_
  refine WO_if (t := 5) rfl (fun hb3 => ?_) (fun hb3 => ?_)
  · have hb3p := hb3.h; try simp only [al_ete, al_dfn, Bool.not_eq_true', Bool.not_eq_false', al_ne, Bool.not_not, al_nn] at hb3p
    refine WO_guardT rfl rfl hb3.h ?_
    refine WO_p (PS_move_ptr rfl) ?_
    refine WO_guardT rfl rfl hb3.h ?_
    refine WO_call Hvad.call89 (by rfl) (Ret.mono (clause_spec C c v B m 8 n S _ (MS.ext hM (by repeat (first | assumption | exact Ext.refl _ | refine Ext.alloc ?_ _ | refine Ext.drew ?_ | refine Ext.setB ?_ (by first | omega | (simp only [size_alloc, size_setB, size_drew]; omega)) _ | exact Ext.trans (by assumption) (by assumption) | refine Ext.trans ?_ (by assumption)))) hk (by omega)) ?_)
    rintro _ w89_3 ⟨rfl, hE89_3⟩
    have hz89_3 := hE89_3.1
    try simp only [size_alloc, size_setB, size_drew] at hz89_3
    refine WO_p (PS_pickT rfl hb3.h rfl) ?_
    refine WO_p (PS_assign_bool rfl) ?_
    refine WO_nil ?_
    refine thn_normal ?_
    refine W_ret ?_
    refine bodyQ_ret1 Hvad.results45 rfl (.bool _) rfl ?_
    exact ⟨rfl, (by repeat (first | assumption | exact Ext.refl _ | refine Ext.alloc ?_ _ | refine Ext.drew ?_ | refine Ext.setB ?_ (by first | omega | (simp only [size_alloc, size_setB, size_drew]; omega)) _ | refine Ext.trans ?_ (by assumption)))⟩
  · have hb3p := hb3.h; try simp only [al_ete, al_dfn, Bool.not_eq_true', Bool.not_eq_false', al_ne, Bool.not_not, al_nn] at hb3p
    (exfalso; first | omega | (simp at hb3p; done) | cases hb3p) --END

set_option maxRecDepth 10000 in
set_option maxHeartbeats 4000000 in
theorem mCheck_spec (C : Nat) (c : Array Value) (v : V) (B : VB) (m : Mc) (n : Nat) (S : Int) (w : World) (hM : MS w C c v B m) (hk : Ck v m n S) : Ret Hvad.prog 14 #[.pointer (some ⟨C, 0, none⟩)] w fun u w' => u = .bool true ∧ Ext w w' := by
  refine Ret_of_W Hvad.func14 rfl rfl ?_
  refine W_seq ?_
  refine W_region rfl ?_
  refine WO_p (PS_assign_bool rfl) ?_
  refine WO_nil ?_
  refine thn_normal ?_
  refine W_seq ?_
  refine W_region rfl ?_
  refine WO_p (PS_move_ptr rfl) ?_
  refine WO_call Hvad.call45 (by rfl) (Ret.mono (mCheck8_spec C c v B m n S _ (MS.ext hM (by repeat (first | assumption | exact Ext.refl _ | refine Ext.alloc ?_ _ | refine Ext.drew ?_ | refine Ext.setB ?_ (by first | omega | (simp only [size_alloc, size_setB, size_drew]; omega)) _ | exact Ext.trans (by assumption) (by assumption) | refine Ext.trans ?_ (by assumption)))) hk) ?_)
  rintro _ w45_0 ⟨rfl, hE45_0⟩
  have hz45_0 := hE45_0.1
  try simp only [size_alloc, size_setB, size_drew] at hz45_0
  refine WO_p (PS_assign_bool rfl) ?_
  refine WO_nil ?_
  refine thn_normal ?_
  refine W_ret ?_
  refine bodyQ_ret1 Hvad.results14 rfl (.bool _) rfl ?_
  exact ⟨rfl, (by repeat (first | assumption | exact Ext.refl _ | refine Ext.alloc ?_ _ | refine Ext.drew ?_ | refine Ext.setB ?_ (by first | omega | (simp only [size_alloc, size_setB, size_drew]; omega)) _ | refine Ext.trans ?_ (by assumption)))⟩

set_option maxRecDepth 10000 in
set_option maxHeartbeats 4000000 in
theorem treeCheck_spec (C : Nat) (c : Array Value) (v : V) (B : VB) (m : Mc) (w : World) (hM : MS w C c v B m) : Ret Hvad.prog 15 #[.pointer (some ⟨C, 27019, none⟩)] w fun u w' => u = .bool true ∧ Ext w w' := by
  have hblk := hM.vs.blk
  have hcs := hM.sz
  have ht := hM.rep.tree
  have ht0 : Ce c (27019 + 0 + 0) (.slice none 0 0) := ⟨ht 27019 (by decide) (by decide)⟩
  have ht2 : Ce c (27019 + 2) (.int .i32 0) := ⟨ht 27021 (by decide) (by decide)⟩
  have ht3 : Ce c (27019 + 3) (.slice none 0 0) := ⟨ht 27022 (by decide) (by decide)⟩
  have ht4 : Ce c (27019 + 4) (.bool false) := ⟨ht 27023 (by decide) (by decide)⟩
  refine Ret_of_W Hvad.func15 rfl rfl ?_
  refine W_seq ?_
  refine W_region rfl ?_
  refine WO_p (PS_assign_bool rfl) ?_
  refine WO_nil ?_
  refine thn_normal ?_
  refine W_seq ?_
  refine W_seq ?_
  refine W_region rfl ?_
  refine WO_p (PS_move_ptr rfl) ?_
  refine WO_p (PS_nilCheck rfl) ?_
  refine WO_p (PS_fieldAddr 4 Hvad.runUnderlying84 rfl Hvad.sizeOf4 rfl rfl) ?_
  refine WO_load (.bool _) Hvad.isAgg4 rfl (Hb.h (by repeat (first | assumption | exact Hb.newY _ _ | refine Hb.alloc ?_ | refine Hb.drew ?_ | refine Hb.ext (by assumption) ?_ | exact Hb.setSameL (by first | omega | (simp only [size_alloc, size_setB, size_drew]; omega)) | exact Hb.setSame (by assumption) | refine Hb.set (by first | omega | (simp only [size_alloc, size_setB, size_drew]; omega)) ?_ ))) (Ce.h (by first | assumption | exact ⟨rfl⟩)) ?_
  refine WO_p (PS_not rfl) ?_
  refine WO_nil ?_
  refine thn_normal ?_
  refine W_if rfl (fun hb3 => ?_) (fun hb3 => ?_)
  · have hb3p := hb3.h; try simp only [al_ete, al_dfn, Bool.not_eq_true', Bool.not_eq_false', al_ne, Bool.not_not, al_nn] at hb3p
    refine W_seq ?_
    refine W_region rfl ?_
    refine WO_p (PS_move_ptr rfl) ?_
    refine WO_p (PS_nilCheck rfl) ?_
    refine WO_p (PS_fieldAddr 0 Hvad.runUnderlying84 rfl Hvad.sizeOf82 rfl rfl) ?_
    refine WO_p (PS_fieldAddr 0 Hvad.runUnderlying82 rfl Hvad.sizeOf80 rfl rfl) ?_
    refine WO_load (.slice _ _ _) Hvad.isAgg80 rfl (Hb.h (by repeat (first | assumption | exact Hb.newY _ _ | refine Hb.alloc ?_ | refine Hb.drew ?_ | refine Hb.ext (by assumption) ?_ | exact Hb.setSameL (by first | omega | (simp only [size_alloc, size_setB, size_drew]; omega)) | exact Hb.setSame (by assumption) | refine Hb.set (by first | omega | (simp only [size_alloc, size_setB, size_drew]; omega)) ?_ ))) (Ce.h (by first | assumption | exact ⟨rfl⟩)) ?_
    refine WO_p (PS_lenS Hvad.runUnderlying80 rfl) ?_
    refine WO_p (PS_eql rfl rfl) ?_
    refine WO_p (PS_move_bool rfl) ?_
    refine WO_if (t := 15) rfl (fun hb5 => ?_) (fun hb5 => ?_)
    · have hb5p := hb5.h; try simp only [al_ete, al_dfn, Bool.not_eq_true', Bool.not_eq_false', al_ne, Bool.not_not, al_nn] at hb5p
      refine WO_guardT rfl rfl hb5.h ?_
      refine WO_p (PS_move_ptr rfl) ?_
      refine WO_guardT rfl rfl hb5.h ?_
      refine WO_p (PS_nilCheck rfl) ?_
      refine WO_guardT rfl rfl hb5.h ?_
      refine WO_p (PS_fieldAddr 2 Hvad.runUnderlying84 rfl Hvad.sizeOf21 rfl rfl) ?_
      refine WO_guardT rfl rfl hb5.h ?_
      refine WO_load (.int _ _) Hvad.isAgg21 rfl (Hb.h (by repeat (first | assumption | exact Hb.newY _ _ | refine Hb.alloc ?_ | refine Hb.drew ?_ | refine Hb.ext (by assumption) ?_ | exact Hb.setSameL (by first | omega | (simp only [size_alloc, size_setB, size_drew]; omega)) | exact Hb.setSame (by assumption) | refine Hb.set (by first | omega | (simp only [size_alloc, size_setB, size_drew]; omega)) ?_ ))) (Ce.h (by first | assumption | exact ⟨rfl⟩)) ?_
      refine WO_guardT rfl rfl hb5.h ?_
      refine WO_p (PS_eql rfl rfl) ?_
      refine WO_p (PS_pickT rfl hb5.h rfl) ?_
      refine WO_p (PS_move_bool rfl) ?_
      refine WO_if (t := 22) rfl (fun hb7 => ?_) (fun hb7 => ?_)
      · have hb7p := hb7.h; try simp only [al_ete, al_dfn, Bool.not_eq_true', Bool.not_eq_false', al_ne, Bool.not_not, al_nn] at hb7p
        refine WO_guardT rfl rfl hb7.h ?_
        refine WO_p (PS_move_ptr rfl) ?_
        refine WO_guardT rfl rfl hb7.h ?_
        refine WO_p (PS_nilCheck rfl) ?_
        refine WO_guardT rfl rfl hb7.h ?_
        refine WO_p (PS_fieldAddr 3 Hvad.runUnderlying84 rfl Hvad.sizeOf77 rfl rfl) ?_
        refine WO_guardT rfl rfl hb7.h ?_
        refine WO_load (.slice _ _ _) Hvad.isAgg77 rfl (Hb.h (by repeat (first | assumption | exact Hb.newY _ _ | refine Hb.alloc ?_ | refine Hb.drew ?_ | refine Hb.ext (by assumption) ?_ | exact Hb.setSameL (by first | omega | (simp only [size_alloc, size_setB, size_drew]; omega)) | exact Hb.setSame (by assumption) | refine Hb.set (by first | omega | (simp only [size_alloc, size_setB, size_drew]; omega)) ?_ ))) (Ce.h (by first | assumption | exact ⟨rfl⟩)) ?_
        refine WO_guardT rfl rfl hb7.h ?_
        refine WO_p (PS_lenS Hvad.runUnderlying77 rfl) ?_
        refine WO_guardT rfl rfl hb7.h ?_
        refine WO_p (PS_eql rfl rfl) ?_
        refine WO_p (PS_pickT rfl hb7.h rfl) ?_
        refine WO_p (PS_assign_bool rfl) ?_
        refine WO_nil ?_
        refine thn_normal ?_
        refine W_ret ?_
        refine thn_ret ?_
        refine bodyQ_ret1 Hvad.results15 rfl (.bool _) rfl ?_
        exact ⟨rfl, (by repeat (first | assumption | exact Ext.refl _ | refine Ext.alloc ?_ _ | refine Ext.drew ?_ | refine Ext.setB ?_ (by first | omega | (simp only [size_alloc, size_setB, size_drew]; omega)) _ | refine Ext.trans ?_ (by assumption)))⟩
      · have hb7p := hb7.h; try simp only [al_ete, al_dfn, Bool.not_eq_true', Bool.not_eq_false', al_ne, Bool.not_not, al_nn] at hb7p
        (exfalso; first | omega | (simp at hb7p; done) | cases hb7p) --END
    · have hb5p := hb5.h; try simp only [al_ete, al_dfn, Bool.not_eq_true', Bool.not_eq_false', al_ne, Bool.not_not, al_nn] at hb5p
      (exfalso; first | omega | (simp at hb5p; done) | cases hb5p) --END
  · have hb3p := hb3.h; try simp only [al_ete, al_dfn, Bool.not_eq_true', Bool.not_eq_false', al_ne, Bool.not_not, al_nn] at hb3p
    (exfalso; first | omega | (simp at hb3p; done) | cases hb3p) --END

set_option maxRecDepth 10000 in
set_option maxHeartbeats 4000000 in
theorem chainCheck_spec (C : Nat) (c : Array Value) (v : V) (B : VB) (m : Mc) (n : Nat) (S : Int) (w : World) (hM : MS w C c v B m) (hk : Ck v m n S) : Ret Hvad.prog 6 #[.pointer (some ⟨C, 0, none⟩)] w fun u w' => u = .bool true ∧ Ext w w' := by
  have hblk := hM.vs.blk
  have hCl := hblk.lt
  have hcs := hM.sz
  have hc_s := hM.rep.s
  have hc_top := hM.rep.top
  rw [hk.top] at hc_top
  have hc_phase := hM.rep.phase
  have hn7 := hk.n7
  have hph := hk.ph
  have hpt := hM.ty.phase
  
  refine Ret_of_W Hvad.func6 rfl rfl ?_
  refine W_seq ?_
  refine W_region rfl ?_
  refine WO_p (PS_assign_bool rfl) ?_
  refine WO_nil ?_
  refine thn_normal ?_
  refine W_seq ?_
  refine W_drawE [false, false, false, false, false, false, false, false, false, false, false, false, false, false, false, false, false, false, false, false, false, false] hmix (by kernel_rfl) rfl ?_
  refine WH_p (PS_move_ptr rfl) rfl ?_
  refine WH_p (PS_nilCheck rfl) rfl ?_
  refine WH_p (PS_fieldAddr 0 Hvad.runUnderlying86 rfl Hvad.sizeOf69 rfl rfl) rfl ?_
  refine WH_p (PS_fieldAddr 0 Hvad.runUnderlying69 rfl Hvad.sizeOf53 rfl rfl) rfl ?_
  refine WH_load (.pointer _) Hvad.isAgg53 rfl (Hb.h (by repeat (first | assumption | exact Hb.newY _ _ | refine Hb.alloc ?_ | refine Hb.drew ?_ | refine Hb.ext (by assumption) ?_ | exact Hb.setSameL (by first | omega | (simp only [size_alloc, size_setB, size_drew]; omega)) | exact Hb.setSame (by assumption) | refine Hb.set (by first | omega | (simp only [size_alloc, size_setB, size_drew]; omega)) ?_ ))) (Ce.h (by first | assumption | exact ⟨rfl⟩)) ?_
  refine WH_p (PS_move_ptr rfl) rfl ?_
  refine WH_p (PS_nilCheck rfl) rfl ?_
  refine WH_p (PS_fieldAddr 2435 Hvad.runUnderlying86 rfl Hvad.sizeOf79 rfl rfl) rfl ?_
  refine WH_p (PS_eqlsame Hvad.underlying53 Hvad.sizeOf79 (by decide) rfl rfl) rfl ?_
  refine WH_p (PS_move_bool rfl) rfl ?_
  refine WH_if (t := 12) rfl (fun hb2 => ?_) (fun hb2 => ?_)
  · have hb2p := hb2.h; try simp only [al_ete, al_dfn, Bool.not_eq_true', Bool.not_eq_false', al_ne, Bool.not_not, al_nn] at hb2p
    refine WH_guardT rfl rfl hb2.h ?_
    refine WH_p (PS_move_ptr rfl) rfl ?_
    refine WH_guardT rfl rfl hb2.h ?_
    refine WH_p (PS_nilCheck rfl) rfl ?_
    refine WH_guardT rfl rfl hb2.h ?_
    refine WH_p (PS_fieldAddr 0 Hvad.runUnderlying86 rfl Hvad.sizeOf69 rfl rfl) rfl ?_
    refine WH_guardT rfl rfl hb2.h ?_
    refine WH_call Hvad.call14 (by rfl) (Ret.mono (mCheck_spec C c v B m n S _ (MS.ext hM (by repeat (first | assumption | exact Ext.refl _ | refine Ext.alloc ?_ _ | refine Ext.drew ?_ | refine Ext.setB ?_ (by first | omega | (simp only [size_alloc, size_setB, size_drew]; omega)) _ | exact Ext.trans (by assumption) (by assumption) | refine Ext.trans ?_ (by assumption)))) hk) ?_)
    rintro _ w14_2 ⟨rfl, hE14_2⟩
    refine ⟨(fun h => by cases h), ?_⟩
    have hz14_2 := hE14_2.1
    try simp only [size_alloc, size_setB, size_drew] at hz14_2
    refine WH_p (PS_pickT rfl hb2.h rfl) rfl ?_
    refine WH_p (PS_move_bool rfl) rfl ?_
    refine WH_if (t := 18) rfl (fun hb5 => ?_) (fun hb5 => ?_)
    · have hb5p := hb5.h; try simp only [al_ete, al_dfn, Bool.not_eq_true', Bool.not_eq_false', al_ne, Bool.not_not, al_nn] at hb5p
      refine WH_guardT rfl rfl hb5.h ?_
      refine WH_p (PS_move_ptr rfl) rfl ?_
      refine WH_guardT rfl rfl hb5.h ?_
      refine WH_p (PS_nilCheck rfl) rfl ?_
      refine WH_guardT rfl rfl hb5.h ?_
      refine WH_p (PS_fieldAddr 27019 Hvad.runUnderlying86 rfl Hvad.sizeOf84 rfl rfl) rfl ?_
      refine WH_guardT rfl rfl hb5.h ?_
      refine WH_call Hvad.call15 (by rfl) (Ret.mono (treeCheck_spec C c v B m _ (MS.ext hM (by repeat (first | assumption | exact Ext.refl _ | refine Ext.alloc ?_ _ | refine Ext.drew ?_ | refine Ext.setB ?_ (by first | omega | (simp only [size_alloc, size_setB, size_drew]; omega)) _ | exact Ext.trans (by assumption) (by assumption) | refine Ext.trans ?_ (by assumption))))) ?_)
      rintro _ w15_5 ⟨rfl, hE15_5⟩
      refine ⟨(fun h => by cases h), ?_⟩
      have hz15_5 := hE15_5.1
      try simp only [size_alloc, size_setB, size_drew] at hz15_5
      refine WH_p (PS_pickT rfl hb5.h rfl) rfl ?_
      refine WH_p (PS_assign_bool rfl) rfl ?_
      refine WH_nil ?_
      refine thn_normal ?_
      refine W_ret ?_
      refine bodyQ_ret1 Hvad.results6 rfl (.bool _) rfl ?_
      exact ⟨rfl, (by repeat (first | assumption | exact Ext.refl _ | refine Ext.alloc ?_ _ | refine Ext.drew ?_ | refine Ext.setB ?_ (by first | omega | (simp only [size_alloc, size_setB, size_drew]; omega)) _ | refine Ext.trans ?_ (by assumption)))⟩
    · have hb5p := hb5.h; try simp only [al_ete, al_dfn, Bool.not_eq_true', Bool.not_eq_false', al_ne, Bool.not_not, al_nn] at hb5p
      (exfalso; first | omega | (simp at hb5p; done) | cases hb5p) --END
  · have hb2p := hb2.h; try simp only [al_ete, al_dfn, Bool.not_eq_true', Bool.not_eq_false', al_ne, Bool.not_not, al_nn] at hb2p
    (exfalso; first | omega | (simp at hb2p; done) | cases hb2p) --END

end Go.Proofs.YgvadwGreat
