import Derived.Test.YgvadwGreatUo
namespace Go.Proofs.YgvadwGreat
set_option linter.unusedSimpArgs false
set_option linter.unusedVariables false
structure RetW (b4 b5 : Nat) (R p : List Int) (w : World) : Prop where
  h4 : Hb w b4 (.cells (ic .u64 R) 224 (0, 0))
  h5 : Hb w b5 (.cells (ic .u8 p) 281 (0, 0))
theorem UT.ext1 {b : Nat} {T : TypeId} {L L' : List Int} {w0 w w' : World} (h : UT b T L w w' L') (he : Ext w0 w) (hb : w0.heap.size ≤ b) : Ext w0 w' := UT.ext0 he h hb

set_option maxRecDepth 10000 in
theorem wideLimbs_spec (b : Nat) (T : TypeId) (Y : List Int) (fz : Nat × Nat) (w : World) (hY : Hb w b (.cells (ic .u64 Y) T fz)) (hl : Y.length = 8) (hU : UL Y) : Ret Hvad.prog 274 #[.pointer (some ⟨b, 0, none⟩)] w fun u w' => w' = w ∧ ∃ n : Nat, u = .int .u8 n ∧ n ≤ 8 := by
  refine Ret_of_W Hvad.func274 rfl rfl ?_
  refine W_seq ?_
  refine W_region rfl ?_
  refine WO_p (PS_assign_int rfl) ?_
  refine WO_nil ?_
  refine thn_normal ?_
  refine W_seq ?_
  refine W_region rfl ?_
  refine WO_p (PS_assign_int rfl) ?_
  refine WO_nil ?_
  refine thn_normal ?_
  refine W_seq ?_
  refine W_block ?_
  refine W_loopN (fun m ρ w' => ∃ (q : Nat), q = m ∧ q ≤ 8 ∧ Fr [(0, .pointer (some ⟨b, 0, none⟩)), (3, .int .u8 q)] ρ ∧ w' = w) 8 ?_ ?_
  · exact ⟨8, rfl, by omega, ⟨rfl, rfl, trivial⟩, rfl⟩
  intro m ρ w2 hI
  obtain ⟨q, hqm, hq8, hF, rfl⟩ := hI
  refine W_env _ hF ?_
  refine W_seq ?_
  refine W_seq ?_
  refine W_region rfl ?_
  refine WO_p (PS_move_int rfl) ?_
  refine WO_p (PS_gtr rfl rfl) ?_
  refine WO_p (PS_move_bool rfl) ?_
  refine WO_if (t := 6) rfl (fun hb2 => ?_) (fun hb2 => ?_)
  · have hb2p := hb2.h; try simp only [al_ete, al_dfn, Bool.not_eq_true', Bool.not_eq_false', al_ne, Bool.not_not, al_nn] at hb2p
    have hce : Ce (ic .u64 Y) (0 + ((q:Int) - 1).toNat * 1) (.int .u64 (Y.getD (q - 1) 0)) := by rw [show ((q:Int) - 1).toNat = q - 1 by omega]; exact ce_ic (by omega)
    refine WO_guardT rfl rfl hb2.h ?_
    refine WO_p (PS_move_ptr rfl) ?_
    refine WO_guardT rfl rfl hb2.h ?_
    refine WO_p (PS_move_int rfl) ?_
    refine WO_guardT rfl rfl hb2.h ?_
    refine WO_p (PS_sub_u8n rfl rfl (by omega) (by omega)) ?_
    refine WO_guardT rfl rfl hb2.h ?_
    refine WO_p (PS_nilCheck rfl) ?_
    refine WO_guardT rfl rfl hb2.h ?_
    refine WO_p (PS_indexA Hvad.runUnderlying224 Hvad.sizeOf26 rfl rfl (by omega) (by omega)) ?_
    refine WO_guardT rfl rfl hb2.h ?_
    refine WO_load (.int _ _) Hvad.isAgg26 rfl (Hb.h (by repeat (first | assumption | exact Hb.newY _ _ | refine Hb.alloc ?_ | refine Hb.drew ?_ | refine Hb.ext (by assumption) ?_ | exact Hb.setSameL (by first | omega | (simp only [size_alloc, size_setB, size_drew]; omega)) | exact Hb.setSame (by assumption) | refine Hb.set (by first | omega | (simp only [size_alloc, size_setB, size_drew]; omega)) ?_ ))) (Ce.h (by first | assumption | exact ⟨rfl⟩)) ?_
    refine WO_guardT rfl rfl hb2.h ?_
    refine WO_p (PS_eql rfl rfl) ?_
    refine WO_p (PS_pickT rfl hb2.h rfl) ?_
    refine WO_nil ?_
    refine thn_normal ?_
    refine W_if rfl (fun hb4 => ?_) (fun hb4 => ?_)
    · have hb4p := hb4.h; try simp only [al_ete, al_dfn, Bool.not_eq_true', Bool.not_eq_false', al_ne, Bool.not_not, al_nn] at hb4p
      refine W_skip ?_
      refine thn_normal ?_
      refine W_block ?_
      refine W_region rfl ?_
      refine WO_p (PS_move_int rfl) ?_
      refine WO_p (PS_sub_u8n rfl rfl (by omega) (by omega)) ?_
      refine WO_p (PS_assign_int rfl) ?_
      refine WO_nil ?_
      refine inBlk_normal ?_
      refine thn_normal ?_
      exact ⟨m - 1, by omega, q - 1, by omega, by omega, ⟨rfl, congrArg (Value.int .u8) (by omega), trivial⟩, rfl⟩
    · have hb4p := hb4.h; try simp only [al_ete, al_dfn, Bool.not_eq_true', Bool.not_eq_false', al_ne, Bool.not_not, al_nn] at hb4p
      refine W_exit ?_
      refine thn_exit ?_
      refine thn_exit ?_
      refine inBlk_exit ?_
      refine thn_normal ?_
      refine W_seq ?_
      refine W_region rfl ?_
      refine WO_p (PS_move_int rfl) ?_
      refine WO_p (PS_assign_int rfl) ?_
      refine WO_nil ?_
      refine thn_normal ?_
      refine W_ret ?_
      refine bodyQ_ret1 Hvad.results274 rfl (.int _ _) rfl ?_
      exact ⟨rfl, q, rfl, hq8⟩
  · have hb2p := hb2.h; try simp only [al_ete, al_dfn, Bool.not_eq_true', Bool.not_eq_false', al_ne, Bool.not_not, al_nn] at hb2p
    refine WO_guardF rfl rfl hb2.h ?_
    refine WO_guardF rfl rfl hb2.h ?_
    refine WO_guardF rfl rfl hb2.h ?_
    refine WO_guardF rfl rfl hb2.h ?_
    refine WO_guardF rfl rfl hb2.h ?_
    refine WO_guardF rfl rfl hb2.h ?_
    refine WO_guardF rfl rfl hb2.h ?_
    refine WO_p (PS_pickF rfl hb2.h rfl) ?_
    refine WO_nil ?_
    refine thn_normal ?_
    refine W_condF rfl rfl ?_
    refine W_exit ?_
    refine thn_exit ?_
    refine thn_exit ?_
    refine inBlk_exit ?_
    refine thn_normal ?_
    refine W_seq ?_
    refine W_region rfl ?_
    refine WO_p (PS_move_int rfl) ?_
    refine WO_p (PS_assign_int rfl) ?_
    refine WO_nil ?_
    refine thn_normal ?_
    refine W_ret ?_
    refine bodyQ_ret1 Hvad.results274 rfl (.int _ _) rfl ?_
    exact ⟨rfl, q, rfl, hq8⟩

set_option maxRecDepth 10000 in
theorem wideMid_spec (bu bvY n j : Nat) (Tu Tv : TypeId) (U Y : List Int) (w : World) (hU : Hb w bu (.cells (ic .u64 U) Tu (0, 0))) (hV : Hb w bvY (.cells (ic .u64 Y) Tv (0, 0))) (hul : U.length = 17) (hUL : UL U) (hyl : Y.length = 8) (hYL : UL Y) (hn : n ≤ 255) (hj : j ≤ 255) : Ret Hvad.prog 290 #[.pointer (some ⟨bu, 0, none⟩), .pointer (some ⟨bvY, 0, none⟩), .int .u8 n, .int .u8 j] w fun u w' => Ext w w' ∧ ∃ z, u = .bool z ∧ (z = true → 2 ≤ n ∧ n ≤ 8 ∧ j + n ≤ 16 ∧ 9223372036854775808 ≤ Y.getD (n - 1) 0) := by
  refine Ret_of_W Hvad.func290 rfl rfl ?_
  refine W_seq ?_
  refine W_region rfl ?_
  refine WO_p (PS_assign_bool rfl) ?_
  refine WO_nil ?_
  refine thn_normal ?_
  refine W_seq ?_
  refine W_seq ?_
  refine W_region rfl ?_
  refine WO_p (PS_move_ptr rfl) ?_
  refine WO_p (PS_eqlnil Hvad.underlying317 rfl) ?_
  refine WO_p (PS_move_bool rfl) ?_
  refine WO_if (t := 11) rfl (fun hb2 => ?_) (fun hb2 => ?_)
  · have hb2p := hb2.h; try simp only [al_ete, al_dfn, Bool.not_eq_true', Bool.not_eq_false', al_ne, Bool.not_not, al_nn] at hb2p
    refine WO_guardF rfl rfl hb2.h ?_
    refine WO_guardF rfl rfl hb2.h ?_
    refine WO_p (PS_pickT rfl hb2.h rfl) ?_
    refine WO_p (PS_move_bool rfl) ?_
    refine WO_guardF rfl rfl rfl ?_
    refine WO_guardF rfl rfl rfl ?_
    refine WO_p (PS_pickT rfl rfl rfl) ?_
    refine WO_p (PS_move_bool rfl) ?_
    refine WO_guardF rfl rfl rfl ?_
    refine WO_guardF rfl rfl rfl ?_
    refine WO_p (PS_pickT rfl rfl rfl) ?_
    refine WO_p (PS_move_bool rfl) ?_
    refine WO_guardF rfl rfl rfl ?_
    refine WO_guardF rfl rfl rfl ?_
    refine WO_guardF rfl rfl rfl ?_
    refine WO_guardF rfl rfl rfl ?_
    refine WO_p (PS_pickT rfl rfl rfl) ?_
    refine WO_p (PS_move_bool rfl) ?_
    refine WO_guardF rfl rfl rfl ?_
    refine WO_guardF rfl rfl rfl ?_
    refine WO_guardF rfl rfl rfl ?_
    refine WO_guardF rfl rfl rfl ?_
    refine WO_p (PS_pickT rfl rfl rfl) ?_
    refine WO_nil ?_
    refine thn_normal ?_
    refine W_condT rfl rfl ?_
    refine W_seq ?_
    refine W_region rfl ?_
    refine WO_p (PS_assign_bool rfl) ?_
    refine WO_nil ?_
    refine thn_normal ?_
    refine W_ret ?_
    refine thn_ret ?_
    refine bodyQ_ret1 Hvad.results290 rfl (.bool _) rfl ?_
    first
    | exact ⟨(by repeat (first | assumption | exact Ext.refl _ | refine Ext.alloc ?_ _ | refine Ext.drew ?_ | refine Ext.setB ?_ (by first | omega | (simp only [size_alloc, size_setB, size_drew]; omega)) _ | refine Ext.trans ?_ (by assumption))), _, rfl, fun h => ⟨by omega, by omega, by omega, hz h⟩⟩
    | exact ⟨(by repeat (first | assumption | exact Ext.refl _ | refine Ext.alloc ?_ _ | refine Ext.drew ?_ | refine Ext.setB ?_ (by first | omega | (simp only [size_alloc, size_setB, size_drew]; omega)) _ | refine Ext.trans ?_ (by assumption))), _, rfl, fun h => by cases h⟩
  · have hb2p := hb2.h; try simp only [al_ete, al_dfn, Bool.not_eq_true', Bool.not_eq_false', al_ne, Bool.not_not, al_nn] at hb2p
    refine WO_guardT rfl rfl hb2.h ?_
    refine WO_p (PS_move_ptr rfl) ?_
    refine WO_guardT rfl rfl hb2.h ?_
    refine WO_p (PS_eqlnil Hvad.underlying227 rfl) ?_
    refine WO_p (PS_pickF rfl hb2.h rfl) ?_
    refine WO_p (PS_move_bool rfl) ?_
    refine WO_if (t := 15) rfl (fun hb4 => ?_) (fun hb4 => ?_)
    · have hb4p := hb4.h; try simp only [al_ete, al_dfn, Bool.not_eq_true', Bool.not_eq_false', al_ne, Bool.not_not, al_nn] at hb4p
      refine WO_guardF rfl rfl hb4.h ?_
      refine WO_guardF rfl rfl hb4.h ?_
      refine WO_p (PS_pickT rfl hb4.h rfl) ?_
      refine WO_p (PS_move_bool rfl) ?_
      refine WO_guardF rfl rfl rfl ?_
      refine WO_guardF rfl rfl rfl ?_
      refine WO_p (PS_pickT rfl rfl rfl) ?_
      refine WO_p (PS_move_bool rfl) ?_
      refine WO_guardF rfl rfl rfl ?_
      refine WO_guardF rfl rfl rfl ?_
      refine WO_guardF rfl rfl rfl ?_
      refine WO_guardF rfl rfl rfl ?_
      refine WO_p (PS_pickT rfl rfl rfl) ?_
      refine WO_p (PS_move_bool rfl) ?_
      refine WO_guardF rfl rfl rfl ?_
      refine WO_guardF rfl rfl rfl ?_
      refine WO_guardF rfl rfl rfl ?_
      refine WO_guardF rfl rfl rfl ?_
      refine WO_p (PS_pickT rfl rfl rfl) ?_
      refine WO_nil ?_
      refine thn_normal ?_
      refine W_condT rfl rfl ?_
      refine W_seq ?_
      refine W_region rfl ?_
      refine WO_p (PS_assign_bool rfl) ?_
      refine WO_nil ?_
      refine thn_normal ?_
      refine W_ret ?_
      refine thn_ret ?_
      refine bodyQ_ret1 Hvad.results290 rfl (.bool _) rfl ?_
      first
      | exact ⟨(by repeat (first | assumption | exact Ext.refl _ | refine Ext.alloc ?_ _ | refine Ext.drew ?_ | refine Ext.setB ?_ (by first | omega | (simp only [size_alloc, size_setB, size_drew]; omega)) _ | refine Ext.trans ?_ (by assumption))), _, rfl, fun h => ⟨by omega, by omega, by omega, hz h⟩⟩
      | exact ⟨(by repeat (first | assumption | exact Ext.refl _ | refine Ext.alloc ?_ _ | refine Ext.drew ?_ | refine Ext.setB ?_ (by first | omega | (simp only [size_alloc, size_setB, size_drew]; omega)) _ | refine Ext.trans ?_ (by assumption))), _, rfl, fun h => by cases h⟩
    · have hb4p := hb4.h; try simp only [al_ete, al_dfn, Bool.not_eq_true', Bool.not_eq_false', al_ne, Bool.not_not, al_nn] at hb4p
      refine WO_guardT rfl rfl hb4.h ?_
      refine WO_p (PS_move_int rfl) ?_
      refine WO_guardT rfl rfl hb4.h ?_
      refine WO_p (PS_lss rfl rfl) ?_
      refine WO_p (PS_pickF rfl hb4.h rfl) ?_
      refine WO_p (PS_move_bool rfl) ?_
      refine WO_if (t := 19) rfl (fun hb6 => ?_) (fun hb6 => ?_)
      · have hb6p := hb6.h; try simp only [al_ete, al_dfn, Bool.not_eq_true', Bool.not_eq_false', al_ne, Bool.not_not, al_nn] at hb6p
        refine WO_guardF rfl rfl hb6.h ?_
        refine WO_guardF rfl rfl hb6.h ?_
        refine WO_p (PS_pickT rfl hb6.h rfl) ?_
        refine WO_p (PS_move_bool rfl) ?_
        refine WO_guardF rfl rfl rfl ?_
        refine WO_guardF rfl rfl rfl ?_
        refine WO_guardF rfl rfl rfl ?_
        refine WO_guardF rfl rfl rfl ?_
        refine WO_p (PS_pickT rfl rfl rfl) ?_
        refine WO_p (PS_move_bool rfl) ?_
        refine WO_guardF rfl rfl rfl ?_
        refine WO_guardF rfl rfl rfl ?_
        refine WO_guardF rfl rfl rfl ?_
        refine WO_guardF rfl rfl rfl ?_
        refine WO_p (PS_pickT rfl rfl rfl) ?_
        refine WO_nil ?_
        refine thn_normal ?_
        refine W_condT rfl rfl ?_
        refine W_seq ?_
        refine W_region rfl ?_
        refine WO_p (PS_assign_bool rfl) ?_
        refine WO_nil ?_
        refine thn_normal ?_
        refine W_ret ?_
        refine thn_ret ?_
        refine bodyQ_ret1 Hvad.results290 rfl (.bool _) rfl ?_
        first
        | exact ⟨(by repeat (first | assumption | exact Ext.refl _ | refine Ext.alloc ?_ _ | refine Ext.drew ?_ | refine Ext.setB ?_ (by first | omega | (simp only [size_alloc, size_setB, size_drew]; omega)) _ | refine Ext.trans ?_ (by assumption))), _, rfl, fun h => ⟨by omega, by omega, by omega, hz h⟩⟩
        | exact ⟨(by repeat (first | assumption | exact Ext.refl _ | refine Ext.alloc ?_ _ | refine Ext.drew ?_ | refine Ext.setB ?_ (by first | omega | (simp only [size_alloc, size_setB, size_drew]; omega)) _ | refine Ext.trans ?_ (by assumption))), _, rfl, fun h => by cases h⟩
      · have hb6p := hb6.h; try simp only [al_ete, al_dfn, Bool.not_eq_true', Bool.not_eq_false', al_ne, Bool.not_not, al_nn] at hb6p
        refine WO_guardT rfl rfl hb6.h ?_
        refine WO_p (PS_move_int rfl) ?_
        refine WO_guardT rfl rfl hb6.h ?_
        refine WO_p (PS_gtr rfl rfl) ?_
        refine WO_p (PS_pickF rfl hb6.h rfl) ?_
        refine WO_p (PS_move_bool rfl) ?_
        refine WO_if (t := 23) rfl (fun hb8 => ?_) (fun hb8 => ?_)
        · have hb8p := hb8.h; try simp only [al_ete, al_dfn, Bool.not_eq_true', Bool.not_eq_false', al_ne, Bool.not_not, al_nn] at hb8p
          refine WO_guardF rfl rfl hb8.h ?_
          refine WO_guardF rfl rfl hb8.h ?_
          refine WO_guardF rfl rfl hb8.h ?_
          refine WO_guardF rfl rfl hb8.h ?_
          refine WO_p (PS_pickT rfl hb8.h rfl) ?_
          refine WO_p (PS_move_bool rfl) ?_
          refine WO_guardF rfl rfl rfl ?_
          refine WO_guardF rfl rfl rfl ?_
          refine WO_guardF rfl rfl rfl ?_
          refine WO_guardF rfl rfl rfl ?_
          refine WO_p (PS_pickT rfl rfl rfl) ?_
          refine WO_nil ?_
          refine thn_normal ?_
          refine W_condT rfl rfl ?_
          refine W_seq ?_
          refine W_region rfl ?_
          refine WO_p (PS_assign_bool rfl) ?_
          refine WO_nil ?_
          refine thn_normal ?_
          refine W_ret ?_
          refine thn_ret ?_
          refine bodyQ_ret1 Hvad.results290 rfl (.bool _) rfl ?_
          first
          | exact ⟨(by repeat (first | assumption | exact Ext.refl _ | refine Ext.alloc ?_ _ | refine Ext.drew ?_ | refine Ext.setB ?_ (by first | omega | (simp only [size_alloc, size_setB, size_drew]; omega)) _ | refine Ext.trans ?_ (by assumption))), _, rfl, fun h => ⟨by omega, by omega, by omega, hz h⟩⟩
          | exact ⟨(by repeat (first | assumption | exact Ext.refl _ | refine Ext.alloc ?_ _ | refine Ext.drew ?_ | refine Ext.setB ?_ (by first | omega | (simp only [size_alloc, size_setB, size_drew]; omega)) _ | refine Ext.trans ?_ (by assumption))), _, rfl, fun h => by cases h⟩
        · have hb8p := hb8.h; try simp only [al_ete, al_dfn, Bool.not_eq_true', Bool.not_eq_false', al_ne, Bool.not_not, al_nn] at hb8p
          refine WO_guardT rfl rfl hb8.h ?_
          refine WO_p (PS_move_int rfl) ?_
          refine WO_guardT rfl rfl hb8.h ?_
          refine WO_p (PS_move_int rfl) ?_
          refine WO_guardT rfl rfl hb8.h ?_
          refine WO_p (PS_sub_u8n rfl rfl (by omega) (by omega)) ?_
          refine WO_guardT rfl rfl hb8.h ?_
          refine WO_p (PS_gtr rfl rfl) ?_
          refine WO_p (PS_pickF rfl hb8.h rfl) ?_
          refine WO_p (PS_move_bool rfl) ?_
          refine WO_if (t := 29) rfl (fun hb10 => ?_) (fun hb10 => ?_)
          · have hb10p := hb10.h; try simp only [al_ete, al_dfn, Bool.not_eq_true', Bool.not_eq_false', al_ne, Bool.not_not, al_nn] at hb10p
            refine WO_guardF rfl rfl hb10.h ?_
            refine WO_guardF rfl rfl hb10.h ?_
            refine WO_guardF rfl rfl hb10.h ?_
            refine WO_guardF rfl rfl hb10.h ?_
            refine WO_p (PS_pickT rfl hb10.h rfl) ?_
            refine WO_nil ?_
            refine thn_normal ?_
            refine W_condT rfl rfl ?_
            refine W_seq ?_
            refine W_region rfl ?_
            refine WO_p (PS_assign_bool rfl) ?_
            refine WO_nil ?_
            refine thn_normal ?_
            refine W_ret ?_
            refine thn_ret ?_
            refine bodyQ_ret1 Hvad.results290 rfl (.bool _) rfl ?_
            first
            | exact ⟨(by repeat (first | assumption | exact Ext.refl _ | refine Ext.alloc ?_ _ | refine Ext.drew ?_ | refine Ext.setB ?_ (by first | omega | (simp only [size_alloc, size_setB, size_drew]; omega)) _ | refine Ext.trans ?_ (by assumption))), _, rfl, fun h => ⟨by omega, by omega, by omega, hz h⟩⟩
            | exact ⟨(by repeat (first | assumption | exact Ext.refl _ | refine Ext.alloc ?_ _ | refine Ext.drew ?_ | refine Ext.setB ?_ (by first | omega | (simp only [size_alloc, size_setB, size_drew]; omega)) _ | refine Ext.trans ?_ (by assumption))), _, rfl, fun h => by cases h⟩
          · have hb10p := hb10.h; try simp only [al_ete, al_dfn, Bool.not_eq_true', Bool.not_eq_false', al_ne, Bool.not_not, al_nn] at hb10p
            refine WO_guardT rfl rfl hb10.h ?_
            refine WO_p (PS_move_ptr rfl) ?_
            refine WO_guardT rfl rfl hb10.h ?_
            refine WO_call Hvad.call274 (by rfl) (Ret.mono (wideLimbs_spec bvY Tv Y (0, 0) _ hV hyl hYL) ?_)
            rintro _ _ ⟨rfl, k, rfl, hk⟩
            refine WO_guardT rfl rfl hb10.h ?_
            refine WO_p (PS_move_int rfl) ?_
            refine WO_guardT rfl rfl hb10.h ?_
            refine WO_p (PS_neq rfl rfl) ?_
            refine WO_p (PS_pickF rfl hb10.h rfl) ?_
            refine WO_nil ?_
            refine thn_normal ?_
            refine W_if rfl (fun hb13 => ?_) (fun hb13 => ?_)
            · have hb13p := hb13.h; try simp only [al_ete, al_dfn, Bool.not_eq_true', Bool.not_eq_false', al_ne, Bool.not_not, al_nn] at hb13p
              refine W_seq ?_
              refine W_region rfl ?_
              refine WO_p (PS_assign_bool rfl) ?_
              refine WO_nil ?_
              refine thn_normal ?_
              refine W_ret ?_
              refine thn_ret ?_
              refine bodyQ_ret1 Hvad.results290 rfl (.bool _) rfl ?_
              first
              | exact ⟨(by repeat (first | assumption | exact Ext.refl _ | refine Ext.alloc ?_ _ | refine Ext.drew ?_ | refine Ext.setB ?_ (by first | omega | (simp only [size_alloc, size_setB, size_drew]; omega)) _ | refine Ext.trans ?_ (by assumption))), _, rfl, fun h => ⟨by omega, by omega, by omega, hz h⟩⟩
              | exact ⟨(by repeat (first | assumption | exact Ext.refl _ | refine Ext.alloc ?_ _ | refine Ext.drew ?_ | refine Ext.setB ?_ (by first | omega | (simp only [size_alloc, size_setB, size_drew]; omega)) _ | refine Ext.trans ?_ (by assumption))), _, rfl, fun h => by cases h⟩
            · have hb13p := hb13.h; try simp only [al_ete, al_dfn, Bool.not_eq_true', Bool.not_eq_false', al_ne, Bool.not_not, al_nn] at hb13p
              refine W_skip ?_
              refine thn_normal ?_
              refine W_seq ?_
              refine W_drawE [false, false, false, false, false, false, false, false, false, false] hmix (by kernel_rfl) rfl ?_
              refine WH_p (PS_move_ptr rfl) rfl ?_
              refine WH_p (PS_nilCheck rfl) rfl ?_
              refine WH_p (PS_slA Hvad.runUnderlying313 Hvad.sizeOf26 rfl (by omega)) rfl ?_
              refine WH_p (PS_move_ptr rfl) rfl ?_
              refine WH_p (PS_nilCheck rfl) rfl ?_
              refine WH_p (PS_slA Hvad.runUnderlying224 Hvad.sizeOf26 rfl (by omega)) rfl ?_
              refine WH_p (PS_move_int rfl) rfl ?_
              refine WH_p (PS_move_int rfl) rfl ?_
              refine WH_call Hvad.call298 (by rfl) (Ret.mono (midHolds_spec bu bvY 17 8 17 8 n j Tu Tv U Y _ (Hb.mk (Hb.h (by repeat (first | assumption | exact Hb.newY _ _ | refine Hb.alloc ?_ | refine Hb.drew ?_ | refine Hb.ext (by assumption) ?_ | exact Hb.setSameL (by first | omega | (simp only [size_alloc, size_setB, size_drew]; omega)) | exact Hb.setSame (by assumption) | refine Hb.set (by first | omega | (simp only [size_alloc, size_setB, size_drew]; omega)) ?_ )))) (Hb.mk (Hb.h (by repeat (first | assumption | exact Hb.newY _ _ | refine Hb.alloc ?_ | refine Hb.drew ?_ | refine Hb.ext (by assumption) ?_ | exact Hb.setSameL (by first | omega | (simp only [size_alloc, size_setB, size_drew]; omega)) | exact Hb.setSame (by assumption) | refine Hb.set (by first | omega | (simp only [size_alloc, size_setB, size_drew]; omega)) ?_ )))) hul hyl (by omega) (by omega) (by omega) (by decide) hUL hYL) ?_)
              rintro _ w2 ⟨hE2, z, rfl, hz⟩
              refine ⟨(fun h => by cases h), ?_⟩
              refine WH_p (PS_assign_bool rfl) rfl ?_
              refine WH_nil ?_
              refine thn_normal ?_
              refine W_ret ?_
              refine bodyQ_ret1 Hvad.results290 rfl (.bool _) rfl ?_
              first
              | exact ⟨(by repeat (first | assumption | exact Ext.refl _ | refine Ext.alloc ?_ _ | refine Ext.drew ?_ | refine Ext.setB ?_ (by first | omega | (simp only [size_alloc, size_setB, size_drew]; omega)) _ | refine Ext.trans ?_ (by assumption))), _, rfl, fun h => ⟨by omega, by omega, by omega, hz h⟩⟩
              | exact ⟨(by repeat (first | assumption | exact Ext.refl _ | refine Ext.alloc ?_ _ | refine Ext.drew ?_ | refine Ext.setB ?_ (by first | omega | (simp only [size_alloc, size_setB, size_drew]; omega)) _ | refine Ext.trans ?_ (by assumption))), _, rfl, fun h => by cases h⟩

set_option maxRecDepth 10000 in
theorem roundWide_spec (bu bvY n j : Nat) (Tu Tv : TypeId) (U Y : List Int) (w : World) (hU : Hb w bu (.cells (ic .u64 U) Tu (0, 0))) (hV : Hb w bvY (.cells (ic .u64 Y) Tv (0, 0))) (hne : bu ≠ bvY) (hul : U.length = 17) (hUL : UL U) (hyl : Y.length = 8) (hYL : UL Y) (hn : n ≤ 255) (hj : j ≤ 255) : Ret Hvad.prog 277 #[.pointer (some ⟨bu, 0, none⟩), .pointer (some ⟨bvY, 0, none⟩), .int .u8 n, .int .u8 j] w fun u w' => Turned bu Tu U w w' ∧ ∃ (q f : Int) (z : Bool), u = .tuple #[.int .u64 q, .int .u8 f, .bool z] ∧ (0 ≤ q ∧ q ≤ 18446744073709551615) ∧ (0 ≤ f ∧ f ≤ 255) := by
  refine Ret_of_W Hvad.func277 rfl rfl ?_
  refine W_seq ?_
  refine W_region rfl ?_
  refine WO_p (PS_assign_int rfl) ?_
  refine WO_p (PS_assign_int rfl) ?_
  refine WO_p (PS_assign_bool rfl) ?_
  refine WO_nil ?_
  refine thn_normal ?_
  refine W_seq ?_
  refine W_seq ?_
  refine W_region rfl ?_
  refine WO_p (PS_move_ptr rfl) ?_
  refine WO_p (PS_move_ptr rfl) ?_
  refine WO_p (PS_move_int rfl) ?_
  refine WO_p (PS_move_int rfl) ?_
  refine WO_call Hvad.call290 (by rfl) (Ret.mono (wideMid_spec bu bvY n j Tu Tv U Y _ hU hV hul hUL hyl hYL hn hj) ?_)
  rintro _ w1 ⟨hE1, z1, rfl, hz1⟩
  have hzz1 := hE1.1
  have hU1 := Hb.ext hE1 hU
  have hV1 := Hb.ext hE1 hV
  refine WO_p (PS_not rfl) ?_
  refine WO_nil ?_
  refine thn_normal ?_
  refine W_if rfl (fun hb4 => ?_) (fun hb4 => ?_)
  · have hb4p := hb4.h; try simp only [al_ete, al_dfn, Bool.not_eq_true', Bool.not_eq_false', al_ne, Bool.not_not, al_nn] at hb4p
    skip
    refine W_seq ?_
    refine W_region rfl ?_
    refine WO_p (PS_assign_int rfl) ?_
    refine WO_p (PS_assign_int rfl) ?_
    refine WO_p (PS_assign_bool rfl) ?_
    refine WO_nil ?_
    refine thn_normal ?_
    refine W_ret ?_
    refine thn_ret ?_
    refine bodyQ_ret3 Hvad.results277 rfl rfl rfl (.int _ _) (.int _ _) (.bool _) rfl rfl rfl ?_
    first
    | exact ⟨⟨U, rfl, hUL, Hb.ext hE1 hU, hE1.keepO _⟩, 0, 0, false, rfl, by decide, by decide⟩
    | (obtain ⟨L2, k1, k2, k3, k4⟩ := hT2
       exact ⟨⟨L2, k1, k2, k3, ((Ext.drew hE1).keepO _).trans k4 fun _ _ e => e⟩, q2, f2, z2, rfl, hq2, hf2⟩)
  · have hb4p := hb4.h; try simp only [al_ete, al_dfn, Bool.not_eq_true', Bool.not_eq_false', al_ne, Bool.not_not, al_nn] at hb4p
    have hm := hz1 (by simpa using hb4p)
    refine W_skip ?_
    refine thn_normal ?_
    refine W_seq ?_
    refine W_drawE [false, false, false, false, false, false, false, false, false, false, false, false, false, false, false, false, false, false, false, false, false, false, false, false] hmix (by kernel_rfl) rfl ?_
    refine WH_p (PS_move_ptr rfl) rfl ?_
    refine WH_p (PS_nilCheck rfl) rfl ?_
    refine WH_p (PS_move_int rfl) rfl ?_
    refine WH_p (PS_move_int rfl) rfl ?_
    refine WH_p (PS_move_int rfl) rfl ?_
    refine WH_p (PS_add_u8n rfl rfl (by omega) (by omega)) rfl ?_
    refine WH_p (PS_add_u8n rfl rfl (by omega) (by omega)) rfl ?_
    refine WH_p (PS_move_int rfl) rfl ?_
    refine WH_p (PS_move_int rfl) rfl ?_
    refine WH_p (PS_add_u8n rfl rfl (by omega) (by omega)) rfl ?_
    refine WH_p (PS_add_u8n rfl rfl (by omega) (by omega)) rfl ?_
    refine WH_p (PS_slA_lhm Hvad.runUnderlying313 Hvad.sizeOf26 rfl rfl rfl rfl (by omega) (by omega) (by omega) (by omega) (by omega) (by omega) (by omega)) rfl ?_
    rw [show ((j : Int) + n + 1).toNat - (j : Int).toNat = n + 1 by omega, show (j : Int).toNat = j by omega]
    refine WH_p (PS_move_ptr rfl) rfl ?_
    refine WH_p (PS_nilCheck rfl) rfl ?_
    refine WH_p (PS_move_int rfl) rfl ?_
    refine WH_p (PS_move_int rfl) rfl ?_
    refine WH_p (PS_slA_hm Hvad.runUnderlying224 Hvad.sizeOf26 rfl rfl rfl (by omega) (by omega) (by omega) (by omega) (by omega)) rfl ?_
    rw [show (n : Int).toNat = n by omega]
    refine WH_call Hvad.call291 (by rfl) (Ret.mono (roundD_spec bu bvY n _ _ (0 + j * 1) 0 Tu Tv U Y _ (Hb.drew hU1) (Hb.drew hV1) hne hUL hYL (by omega) (by omega) hm.1 (by omega) (by rw [show 0 + (n - 1) = n - 1 by omega]; omega)) ?_)
    rintro _ w2 ⟨hT2, q2, f2, z2, rfl, hq2, hf2⟩
    refine ⟨(fun h => by cases h), ?_⟩
    refine WH_p (PS_extract_int rfl rfl) rfl ?_
    refine WH_p (PS_extract_int rfl rfl) rfl ?_
    refine WH_p (PS_extract_bool rfl rfl) rfl ?_
    refine WH_p (PS_assign_int rfl) rfl ?_
    refine WH_p (PS_assign_int rfl) rfl ?_
    refine WH_p (PS_assign_bool rfl) rfl ?_
    refine WH_nil ?_
    refine thn_normal ?_
    refine W_ret ?_
    refine bodyQ_ret3 Hvad.results277 rfl rfl rfl (.int _ _) (.int _ _) (.bool _) rfl rfl rfl ?_
    first
    | exact ⟨⟨U, rfl, hUL, Hb.ext hE1 hU, hE1.keepO _⟩, 0, 0, false, rfl, by decide, by decide⟩
    | (obtain ⟨L2, k1, k2, k3, k4⟩ := hT2
       exact ⟨⟨L2, k1, k2, k3, ((Ext.drew hE1).keepO _).trans k4 fun _ _ e => e⟩, q2, f2, z2, rfl, hq2, hf2⟩)

set_option maxRecDepth 10000 in
set_option maxHeartbeats 4000000 in
theorem mul1024_spec (ba bb2 : Nat) (Ta Tb : TypeId) (A B : List Int) (w : World) (hA : Hb w ba (.cells (ic .u64 A) Ta (0, 0))) (hB : Hb w bb2 (.cells (ic .u64 B) Tb (0, 0))) (hal : A.length = 8) (hbl : B.length = 8) (hAL : UL A) (hBL : UL B) : Ret Hvad.prog 239 #[.pointer (some ⟨ba, 0, none⟩), .pointer (some ⟨bb2, 0, none⟩)] w fun u w' => Ext w w' ∧ ∃ R, u = .agg (ic .u64 R) ∧ R.length = 16 ∧ UL R := by
  have hal0 := hA.lt
  have hbl0 := hB.lt
  have hr16 : (List.replicate 16 (0 : Int)).length = 16 := by simp
  refine Ret_of_W Hvad.func239 rfl rfl ?_
  refine W_seq ?_
  refine W_region rfl ?_
  refine WO_allocG Hvad.zeroValue279 ?_
  intro b4 v4 hg4 hE4 hH4 hl4
  try simp only [size_alloc, size_setB, size_drew] at hg4
  have hzz4 := hE4.1
  try simp only [size_alloc, size_setB, size_drew] at hzz4
  replace hH4 : Hb v4 b4 (.cells (ic .u64 (List.replicate 16 0)) 279 (0, 0)) := hH4
  refine WO_nil ?_
  refine thn_normal ?_
  refine W_seq ?_
  refine W_region rfl ?_
  refine WO_allocG Hvad.zeroValue279 ?_
  intro b5 v5 hg5 hE5 hH5 hl5
  try simp only [size_alloc, size_setB, size_drew] at hg5
  have hzz5 := hE5.1
  try simp only [size_alloc, size_setB, size_drew] at hzz5
  replace hH5 : Hb v5 b5 (.cells (ic .u64 (List.replicate 16 0)) 279 (0, 0)) := hH5
  refine WO_nil ?_
  refine thn_normal ?_
  refine W_seq ?_
  refine W_seq ?_
  refine W_region rfl ?_
  refine WO_p (PS_move_ptr rfl) ?_
  refine WO_p (PS_move_int rfl) ?_
  refine WO_nil ?_
  refine thn_normal ?_
  refine W_block ?_
  refine W_loopN (fun m ρ w' => ∃ (i : Nat) (P5 : List Int), i + m = 8 ∧ P5.length = 16 ∧ UL P5 ∧ Fr [(0, .pointer (some ⟨ba, 0, none⟩)), (1, .pointer (some ⟨bb2, 0, none⟩)), (4, .pointer (some ⟨b4, 0, none⟩)), (5, .pointer (some ⟨b5, 0, none⟩)), (13, .pointer (some ⟨ba, 0, none⟩)), (14, .int .i64 i)] ρ ∧ Ext w w' ∧ v5.heap.size ≤ w'.heap.size ∧ Hb w' b4 (.cells (ic .u64 (List.replicate 16 0)) 279 (0, 0)) ∧ Hb w' b5 (.cells (ic .u64 P5) 279 (0, 0))) 8 ?_ ?_
  · exact ⟨0, List.replicate 16 0, rfl, hr16, ULr 16, ⟨rfl, rfl, rfl, rfl, rfl, rfl, trivial⟩, (by repeat (first | assumption | exact Ext.refl _ | refine Ext.alloc ?_ _ | refine Ext.drew ?_ | refine Ext.setB ?_ (by first | omega | (simp only [size_alloc, size_setB, size_drew]; omega)) _ | refine Ext.trans ?_ (by assumption))), Nat.le_refl _, Hb.mk (Hb.h (by repeat (first | assumption | exact Hb.newY _ _ | refine Hb.alloc ?_ | refine Hb.drew ?_ | refine Hb.ext (by assumption) ?_ | exact Hb.setSameL (by first | omega | (simp only [size_alloc, size_setB, size_drew]; omega)) | exact Hb.setSame (by assumption) | refine Hb.set (by first | omega | (simp only [size_alloc, size_setB, size_drew]; omega)) ?_ ))), Hb.mk (Hb.h (by repeat (first | assumption | exact Hb.newY _ _ | refine Hb.alloc ?_ | refine Hb.drew ?_ | refine Hb.ext (by assumption) ?_ | exact Hb.setSameL (by first | omega | (simp only [size_alloc, size_setB, size_drew]; omega)) | exact Hb.setSame (by assumption) | refine Hb.set (by first | omega | (simp only [size_alloc, size_setB, size_drew]; omega)) ?_ )))⟩
  intro m ρ w5 hI
  obtain ⟨i, P5, him, hp5, hP5, hF5, hE5', hz5, hb45, hb55⟩ := hI
  refine W_env _ hF5 ?_
  have hz5' := hE5'.1
  have hx5 := hAL.get i
  refine W_seq ?_
  refine W_region rfl ?_
  refine WO_p (PS_lss rfl rfl) ?_
  refine WO_nil ?_
  refine thn_normal ?_
  refine W_seq ?_
  refine W_if rfl (fun hb2 => ?_) (fun hb2 => ?_)
  · have hb2p := hb2.h; try simp only [al_ete, al_dfn, Bool.not_eq_true', Bool.not_eq_false', al_ne, Bool.not_not, al_nn] at hb2p
    have hce : Ce (ic .u64 A) (0 + (i : Int).toNat * 1) (.int .u64 (A.getD i 0)) := by rw [Int.toNat_natCast]; exact ce_ic (by omega)
    refine W_skip ?_
    refine thn_normal ?_
    refine W_seq ?_
    refine W_block ?_
    refine W_seq ?_
    refine W_drawE [false, false, false, false, false, false] hmix (by kernel_rfl) rfl ?_
    refine WH_p (PS_move_int rfl) rfl ?_
    refine WH_p (PS_nilCheck rfl) rfl ?_
    refine WH_p (PS_indexA Hvad.runUnderlying224 Hvad.sizeOf26 rfl rfl (by omega) (by omega)) rfl ?_
    refine WH_load (.int _ _) Hvad.isAgg26 rfl (Hb.h (by repeat (first | assumption | exact Hb.newY _ _ | refine Hb.alloc ?_ | refine Hb.drew ?_ | refine Hb.ext (by assumption) ?_ | exact Hb.setSameL (by first | omega | (simp only [size_alloc, size_setB, size_drew]; omega)) | exact Hb.setSame (by assumption) | refine Hb.set (by first | omega | (simp only [size_alloc, size_setB, size_drew]; omega)) ?_ ))) (Ce.h (by first | assumption | exact ⟨rfl⟩)) ?_
    refine WH_p (PS_assign_int rfl) rfl ?_
    refine WH_p (PS_assign_int rfl) rfl ?_
    refine WH_nil ?_
    refine thn_normal ?_
    refine W_seq ?_
    refine W_region rfl ?_
    refine WO_p (PS_assign_int rfl) ?_
    refine WO_nil ?_
    refine thn_normal ?_
    refine W_seq ?_
    refine W_seq ?_
    refine W_region rfl ?_
    refine WO_p (PS_move_ptr rfl) ?_
    refine WO_p (PS_move_int rfl) ?_
    refine WO_nil ?_
    refine thn_normal ?_
    refine W_block ?_
    refine W_loopN (fun m ρ w' => ∃ (k : Nat) (P7 : List Int) (cy : Int), k + m = 8 ∧ P7.length = 16 ∧ UL P7 ∧ (0 ≤ cy ∧ cy ≤ 18446744073709551615) ∧ Fr [(0, .pointer (some ⟨ba, 0, none⟩)), (1, .pointer (some ⟨bb2, 0, none⟩)), (4, .pointer (some ⟨b4, 0, none⟩)), (5, .pointer (some ⟨b5, 0, none⟩)), (6, .int .i64 i), (7, .int .u64 (A.getD i 0)), (8, .int .u64 cy), (13, .pointer (some ⟨ba, 0, none⟩)), (14, .int .i64 i), (20, .pointer (some ⟨bb2, 0, none⟩)), (21, .int .i64 k)] ρ ∧ Ext w w' ∧ v5.heap.size ≤ w'.heap.size ∧ Hb w' b4 (.cells (ic .u64 (List.replicate 16 0)) 279 (0, 0)) ∧ Hb w' b5 (.cells (ic .u64 P7) 279 (0, 0))) 8 ?_ ?_
    · exact ⟨0, P5, 0, rfl, hp5, hP5, by decide, ⟨rfl, rfl, rfl, rfl, rfl, rfl, rfl, rfl, rfl, rfl, rfl, trivial⟩, (by repeat (first | assumption | exact Ext.refl _ | refine Ext.alloc ?_ _ | refine Ext.drew ?_ | refine Ext.setB ?_ (by first | omega | (simp only [size_alloc, size_setB, size_drew]; omega)) _ | refine Ext.trans ?_ (by assumption))), by first | omega | (simp only [size_drew]; omega), Hb.mk (Hb.h (by repeat (first | assumption | exact Hb.newY _ _ | refine Hb.alloc ?_ | refine Hb.drew ?_ | refine Hb.ext (by assumption) ?_ | exact Hb.setSameL (by first | omega | (simp only [size_alloc, size_setB, size_drew]; omega)) | exact Hb.setSame (by assumption) | refine Hb.set (by first | omega | (simp only [size_alloc, size_setB, size_drew]; omega)) ?_ ))), Hb.mk (Hb.h (by repeat (first | assumption | exact Hb.newY _ _ | refine Hb.alloc ?_ | refine Hb.drew ?_ | refine Hb.ext (by assumption) ?_ | exact Hb.setSameL (by first | omega | (simp only [size_alloc, size_setB, size_drew]; omega)) | exact Hb.setSame (by assumption) | refine Hb.set (by first | omega | (simp only [size_alloc, size_setB, size_drew]; omega)) ?_ )))⟩
    intro m7 ρ w7 hI
    obtain ⟨k, P7, cy, hkm, hp7, hP7, hcy, hF7, hE7', hz7, hb47, hb57⟩ := hI
    refine W_env _ hF7 ?_
    have hz7' := hE7'.1
    have hy7 := hBL.get k
    have hp7k := hP7.get (i + k)
    refine W_seq ?_
    refine W_region rfl ?_
    refine WO_p (PS_lss rfl rfl) ?_
    refine WO_nil ?_
    refine thn_normal ?_
    refine W_seq ?_
    refine W_if rfl (fun hb4 => ?_) (fun hb4 => ?_)
    · have hb4p := hb4.h; try simp only [al_ete, al_dfn, Bool.not_eq_true', Bool.not_eq_false', al_ne, Bool.not_not, al_nn] at hb4p
      have hce2 : Ce (ic .u64 B) (0 + (k : Int).toNat * 1) (.int .u64 (B.getD k 0)) := by rw [Int.toNat_natCast]; exact ce_ic (by omega)
      have hce3 : Ce (ic .u64 P7) (0 + ((i : Int) + k).toNat * 1) (.int .u64 (P7.getD (i + k) 0)) := by rw [show ((i : Int) + k).toNat = i + k by omega]; exact ce_ic (by omega)
      refine W_skip ?_
      refine thn_normal ?_
      refine W_seq ?_
      refine W_block ?_
      refine W_seq ?_
      refine W_drawE [false, false, false, false, false, false] hmix (by kernel_rfl) rfl ?_
      refine WH_p (PS_move_int rfl) rfl ?_
      refine WH_p (PS_nilCheck rfl) rfl ?_
      refine WH_p (PS_indexA Hvad.runUnderlying224 Hvad.sizeOf26 rfl rfl (by omega) (by omega)) rfl ?_
      refine WH_load (.int _ _) Hvad.isAgg26 rfl (Hb.h (by repeat (first | assumption | exact Hb.newY _ _ | refine Hb.alloc ?_ | refine Hb.drew ?_ | refine Hb.ext (by assumption) ?_ | exact Hb.setSameL (by first | omega | (simp only [size_alloc, size_setB, size_drew]; omega)) | exact Hb.setSame (by assumption) | refine Hb.set (by first | omega | (simp only [size_alloc, size_setB, size_drew]; omega)) ?_ ))) (Ce.h (by first | assumption | exact ⟨rfl⟩)) ?_
      refine WH_p (PS_assign_int rfl) rfl ?_
      refine WH_p (PS_assign_int rfl) rfl ?_
      refine WH_nil ?_
      refine thn_normal ?_
      refine W_seq ?_
      refine W_region rfl ?_
      refine WO_p (PS_move_int rfl) ?_
      refine WO_p (PS_move_int rfl) ?_
      refine WO_p (PS_move_int rfl) ?_
      refine WO_p (PS_move_int rfl) ?_
      refine WO_p (PS_add_i64n rfl rfl (by omega) (by omega)) ?_
      refine WO_p (PS_indexA Hvad.runUnderlying279 Hvad.sizeOf26 rfl rfl (by omega) (by omega)) ?_
      refine WO_load (.int _ _) Hvad.isAgg26 rfl (Hb.h (by repeat (first | assumption | exact Hb.newY _ _ | refine Hb.alloc ?_ | refine Hb.drew ?_ | refine Hb.ext (by assumption) ?_ | exact Hb.setSameL (by first | omega | (simp only [size_alloc, size_setB, size_drew]; omega)) | exact Hb.setSame (by assumption) | refine Hb.set (by first | omega | (simp only [size_alloc, size_setB, size_drew]; omega)) ?_ ))) (Ce.h (by first | assumption | exact ⟨rfl⟩)) ?_
      refine WO_p (PS_move_int rfl) ?_
      refine WO_call Hvad.call279 (by rfl) (Ret.mono (mulAdd_spec _ _ _ _ _ (by omega) (by omega) (by omega) (by omega)) ?_)
      rintro _ w279_4 ⟨hE279_4, lo9, hi9, rfl, hlo9, hhi9⟩
      have hz279_4 := hE279_4.1
      try simp only [size_alloc, size_setB, size_drew] at hz279_4
      refine WO_p (PS_move_tuple rfl) ?_
      refine WO_p (PS_extract_int rfl rfl) ?_
      refine WO_p (PS_extract_int rfl rfl) ?_
      refine WO_p (PS_assign_int rfl) ?_
      refine WO_p (PS_assign_int rfl) ?_
      refine WO_nil ?_
      refine thn_normal ?_
      refine W_seq ?_
      refine W_region rfl ?_
      refine WO_p (PS_move_int rfl) ?_
      refine WO_p (PS_move_int rfl) ?_
      refine WO_p (PS_add_i64n rfl rfl (by omega) (by omega)) ?_
      refine WO_p (PS_move_int rfl) ?_
      refine WO_p (PS_indexA Hvad.runUnderlying279 Hvad.sizeOf26 rfl rfl (by omega) (by omega)) ?_
      refine WO_storeU (b := b5) (T := 279) (L := P7) Hvad.sizeOf26 rfl rfl (Hb.mk (Hb.h (by repeat (first | assumption | exact Hb.newY _ _ | refine Hb.alloc ?_ | refine Hb.drew ?_ | refine Hb.ext (by assumption) ?_ | exact Hb.setSameL (by first | omega | (simp only [size_alloc, size_setB, size_drew]; omega)) | exact Hb.setSame (by assumption) | refine Hb.set (by first | omega | (simp only [size_alloc, size_setB, size_drew]; omega)) ?_ )))) (by omega) hlo9 ?_
      intro w10 P10 hU10
      have hz10 := hU10.keep.sz
      refine WO_nil ?_
      refine thn_normal ?_
      refine W_region rfl ?_
      refine WO_p (PS_move_int rfl) ?_
      refine WO_p (PS_assign_int rfl) ?_
      refine WO_nil ?_
      refine inBlk_normal ?_
      refine thn_normal ?_
      refine W_region rfl ?_
      refine WO_p (PS_add_i64n rfl rfl (by omega) (by omega)) ?_
      refine WO_p (PS_move_int rfl) ?_
      refine WO_nil ?_
      refine thn_normal ?_
      exact ⟨m7 - 1, by omega, k + 1, P10, hi9, by omega, hU10.len.trans hp7, hU10.ty hP7, hhi9, ⟨rfl, rfl, rfl, rfl, rfl, rfl, rfl, rfl, rfl, rfl, congrArg (Value.int .i64) (by omega), trivial⟩, hU10.ext1 (by repeat (first | assumption | exact Ext.refl _ | refine Ext.alloc ?_ _ | refine Ext.drew ?_ | refine Ext.setB ?_ (by first | omega | (simp only [size_alloc, size_setB, size_drew]; omega)) _ | exact Ext.trans (by assumption) (by assumption) | refine Ext.trans ?_ (by assumption))) (by omega), by omega, hU10.other (Hb.mk (Hb.h (by repeat (first | assumption | exact Hb.newY _ _ | refine Hb.alloc ?_ | refine Hb.drew ?_ | refine Hb.ext (by assumption) ?_ | exact Hb.setSameL (by first | omega | (simp only [size_alloc, size_setB, size_drew]; omega)) | exact Hb.setSame (by assumption) | refine Hb.set (by first | omega | (simp only [size_alloc, size_setB, size_drew]; omega)) ?_ )))) (by omega), hU10.hb⟩
    · have hb4p := hb4.h; try simp only [al_ete, al_dfn, Bool.not_eq_true', Bool.not_eq_false', al_ne, Bool.not_not, al_nn] at hb4p
      refine W_exit ?_
      refine thn_exit ?_
      refine thn_exit ?_
      refine inBlk_exit ?_
      refine thn_normal ?_
      refine W_region rfl ?_
      refine WO_p (PS_move_int rfl) ?_
      refine WO_p (PS_add_i64n rfl rfl (by omega) (by omega)) ?_
      refine WO_p (PS_move_int rfl) ?_
      refine WO_p (PS_indexA Hvad.runUnderlying279 Hvad.sizeOf26 rfl rfl (by omega) (by omega)) ?_
      refine WO_storeU (b := b5) (T := 279) (L := P7) Hvad.sizeOf26 rfl rfl (Hb.mk (Hb.h (by repeat (first | assumption | exact Hb.newY _ _ | refine Hb.alloc ?_ | refine Hb.drew ?_ | refine Hb.ext (by assumption) ?_ | exact Hb.setSameL (by first | omega | (simp only [size_alloc, size_setB, size_drew]; omega)) | exact Hb.setSame (by assumption) | refine Hb.set (by first | omega | (simp only [size_alloc, size_setB, size_drew]; omega)) ?_ )))) (by omega) hcy ?_
      intro w13 P13 hU13
      have hz13 := hU13.keep.sz
      refine WO_nil ?_
      refine inBlk_normal ?_
      refine thn_normal ?_
      refine W_region rfl ?_
      refine WO_p (PS_add_i64n rfl rfl (by omega) (by omega)) ?_
      refine WO_p (PS_move_int rfl) ?_
      refine WO_nil ?_
      refine thn_normal ?_
      exact ⟨m - 1, by omega, i + 1, P13, by omega, hU13.len.trans hp7, hU13.ty hP7, ⟨rfl, rfl, rfl, rfl, rfl, congrArg (Value.int .i64) (by omega), trivial⟩, hU13.ext1 (by repeat (first | assumption | exact Ext.refl _ | refine Ext.alloc ?_ _ | refine Ext.drew ?_ | refine Ext.setB ?_ (by first | omega | (simp only [size_alloc, size_setB, size_drew]; omega)) _ | exact Ext.trans (by assumption) (by assumption) | refine Ext.trans ?_ (by assumption))) (by omega), by omega, hU13.other (Hb.mk (Hb.h (by repeat (first | assumption | exact Hb.newY _ _ | refine Hb.alloc ?_ | refine Hb.drew ?_ | refine Hb.ext (by assumption) ?_ | exact Hb.setSameL (by first | omega | (simp only [size_alloc, size_setB, size_drew]; omega)) | exact Hb.setSame (by assumption) | refine Hb.set (by first | omega | (simp only [size_alloc, size_setB, size_drew]; omega)) ?_ )))) (by omega), hU13.hb⟩
  · have hb2p := hb2.h; try simp only [al_ete, al_dfn, Bool.not_eq_true', Bool.not_eq_false', al_ne, Bool.not_not, al_nn] at hb2p
    refine W_exit ?_
    refine thn_exit ?_
    refine thn_exit ?_
    refine inBlk_exit ?_
    refine thn_normal ?_
    refine W_seq ?_
    have hpx : Xt (ic .u64 P5) 0 (0 + 16) (ic .u64 P5) := Xt.whole rfl (by rw [size_ic]; omega)
    have hps5 : (Value.agg (ic .u64 P5)).cells.size = 16 := by simp only [Value.cells, size_ic]; omega
    refine W_region rfl ?_
    refine WO_loadA _ Hvad.isAgg279 Hvad.sizeOf279 rfl (Hb.h (by repeat (first | assumption | exact Hb.newY _ _ | refine Hb.alloc ?_ | refine Hb.drew ?_ | refine Hb.ext (by assumption) ?_ | exact Hb.setSameL (by first | omega | (simp only [size_alloc, size_setB, size_drew]; omega)) | exact Hb.setSame (by assumption) | refine Hb.set (by first | omega | (simp only [size_alloc, size_setB, size_drew]; omega)) ?_ ))) (by first | omega | assumption | rfl | decide | exact Nat.le_refl _ | (simp only [size_ic, Value.cells]; omega) | simp) (Xt.h (by first | assumption | exact Xt.whole rfl rfl | exact Xt.whole rfl (by simp only [size_ic, Value.cells]; omega) | exact ⟨rfl⟩)) ?_
    refine WO_storeW Hvad.sizeOf279 rfl (v := .agg _) rfl (Hb.h (by repeat (first | assumption | exact Hb.newY _ _ | refine Hb.alloc ?_ | refine Hb.drew ?_ | refine Hb.ext (by assumption) ?_ | exact Hb.setSameL (by first | omega | (simp only [size_alloc, size_setB, size_drew]; omega)) | exact Hb.setSame (by assumption) | refine Hb.set (by first | omega | (simp only [size_alloc, size_setB, size_drew]; omega)) ?_ ))) rfl (by simp only [size_ic, Value.cells]; omega) (by simp only [size_ic]; omega) oneCell_ic ?_
    refine WO_nil ?_
    refine thn_normal ?_
    refine W_ret ?_
    refine bodyQ_cell1 Hvad.results239 rfl Hvad.isAgg279 Hvad.sizeOf279 rfl (Hb.h (by repeat (first | assumption | exact Hb.newY _ _ | refine Hb.alloc ?_ | refine Hb.drew ?_ | refine Hb.ext (by assumption) ?_ | exact Hb.setSameL (by first | omega | (simp only [size_alloc, size_setB, size_drew]; omega)) | exact Hb.setSame (by assumption) | refine Hb.set (by first | omega | (simp only [size_alloc, size_setB, size_drew]; omega)) ?_ ))) (by first | omega | assumption | rfl | decide | exact Nat.le_refl _ | (simp only [size_ic, Value.cells]; omega) | simp) ?_
    exact ⟨(by repeat (first | assumption | exact Ext.refl _ | refine Ext.alloc ?_ _ | refine Ext.drew ?_ | refine Ext.setB ?_ (by first | omega | (simp only [size_alloc, size_setB, size_drew]; omega)) _ | refine Ext.trans ?_ (by assumption))), P5, rfl, hp5, hP5⟩

end Go.Proofs.YgvadwGreat
