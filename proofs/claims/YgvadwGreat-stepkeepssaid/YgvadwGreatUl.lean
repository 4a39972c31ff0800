import Derived.Test.YgvadwGreatUk
namespace Go.Proofs.YgvadwGreat
set_option linter.unusedSimpArgs false
set_option linter.unusedVariables false

set_option maxRecDepth 10000 in
theorem roundD_spec (bu bvY n cu cv : Nat) (ou ov : Nat) (Tu Tv : TypeId) (U Y : List Int) (w : World) (hU : Hb w bu (.cells (ic .u64 U) Tu (0, 0))) (hV : Hb w bvY (.cells (ic .u64 Y) Tv (0, 0))) (hne : bu ≠ bvY) (hUL : UL U) (hYL : UL Y) (hun : ou + n + 1 ≤ U.length) (hvn : ov + n ≤ Y.length) (hn2 : 2 ≤ n) (hn : n ≤ 1000) (htop : 0 < Y.getD (ov + (n - 1)) 0) : Ret Hvad.prog 291 #[.slice (some ⟨bu, ou, none⟩) (n + 1) cu, .slice (some ⟨bvY, ov, none⟩) n cv] w fun u w' => Turned bu Tu U w w' ∧ ∃ (q f : Int) (z : Bool), u = .tuple #[.int .u64 q, .int .u8 f, .bool z] ∧ (0 ≤ q ∧ q ≤ 18446744073709551615) ∧ (0 ≤ f ∧ f ≤ 255) := by
  have c0 : Ce (ic .u64 U) (ou + ((n:Int)).toNat * 1) (.int .u64 (U.getD (ou + n) 0)) := by rw [show ((n:Int)).toNat = n by omega]; exact ce_icO (by omega)
  have c0b := hUL.get (ou + n)
  have c1 : Ce (ic .u64 U) (ou + ((n:Int) - 1).toNat * 1) (.int .u64 (U.getD (ou + (n - 1)) 0)) := by rw [show ((n:Int) - 1).toNat = (n - 1) by omega]; exact ce_icO (by omega)
  have c1b := hUL.get (ou + (n - 1))
  have c2 : Ce (ic .u64 U) (ou + ((n:Int) - 2).toNat * 1) (.int .u64 (U.getD (ou + (n - 2)) 0)) := by rw [show ((n:Int) - 2).toNat = (n - 2) by omega]; exact ce_icO (by omega)
  have c2b := hUL.get (ou + (n - 2))
  have c3 : Ce (ic .u64 Y) (ov + ((n:Int) - 1).toNat * 1) (.int .u64 (Y.getD (ov + (n - 1)) 0)) := by rw [show ((n:Int) - 1).toNat = (n - 1) by omega]; exact ce_icO (by omega)
  have c3b := hYL.get (ov + (n - 1))
  have c4 : Ce (ic .u64 Y) (ov + ((n:Int) - 2).toNat * 1) (.int .u64 (Y.getD (ov + (n - 2)) 0)) := by rw [show ((n:Int) - 2).toNat = (n - 2) by omega]; exact ce_icO (by omega)
  have c4b := hYL.get (ov + (n - 2))
  refine Ret_of_W Hvad.func291 rfl rfl ?_
  refine W_seq ?_
  refine W_region rfl ?_
  refine WO_p (PS_assign_int rfl) ?_
  refine WO_p (PS_assign_int rfl) ?_
  refine WO_p (PS_assign_bool rfl) ?_
  refine WO_nil ?_
  refine thn_normal ?_
  refine W_seq ?_
  refine W_region rfl ?_
  refine WO_p (PS_move_slice rfl) ?_
  refine WO_p (PS_lenS Hvad.runUnderlying194 rfl) ?_
  refine WO_p (PS_assign_int rfl) ?_
  refine WO_nil ?_
  refine thn_normal ?_
  refine W_seq ?_
  refine W_drawE [false, false, false, false, false, false, false, false, false, false, false, false, false, false, false, false, false, false, false, false, false, false, false, false, false, false, false, false, false, false] hmix (by kernel_rfl) rfl ?_
  refine WH_p (PS_move_slice rfl) rfl ?_
  refine WH_p (PS_move_int rfl) rfl ?_
  refine WH_p (PS_indexS Hvad.runUnderlying194 Hvad.sizeOf26 rfl rfl (by omega) (by omega)) rfl ?_
  refine WH_load (.int _ _) Hvad.isAgg26 rfl (Hb.h (by repeat (first | assumption | exact Hb.newY _ _ | refine Hb.alloc ?_ | refine Hb.drew ?_ | refine Hb.ext (by assumption) ?_ | exact Hb.setSameL (by first | omega | (simp only [size_alloc, size_setB, size_drew]; omega)) | exact Hb.setSame (by assumption) | refine Hb.set (by first | omega | (simp only [size_alloc, size_setB, size_drew]; omega)) ?_ ))) (Ce.h (by first | assumption | exact ⟨rfl⟩)) ?_
  refine WH_p (PS_move_slice rfl) rfl ?_
  refine WH_p (PS_move_int rfl) rfl ?_
  refine WH_p (PS_sub_i64n rfl rfl (by omega) (by omega)) rfl ?_
  refine WH_p (PS_indexS Hvad.runUnderlying194 Hvad.sizeOf26 rfl rfl (by omega) (by omega)) rfl ?_
  refine WH_load (.int _ _) Hvad.isAgg26 rfl (Hb.h (by repeat (first | assumption | exact Hb.newY _ _ | refine Hb.alloc ?_ | refine Hb.drew ?_ | refine Hb.ext (by assumption) ?_ | exact Hb.setSameL (by first | omega | (simp only [size_alloc, size_setB, size_drew]; omega)) | exact Hb.setSame (by assumption) | refine Hb.set (by first | omega | (simp only [size_alloc, size_setB, size_drew]; omega)) ?_ ))) (Ce.h (by first | assumption | exact ⟨rfl⟩)) ?_
  refine WH_p (PS_move_slice rfl) rfl ?_
  refine WH_p (PS_move_int rfl) rfl ?_
  refine WH_p (PS_sub_i64n rfl rfl (by omega) (by omega)) rfl ?_
  refine WH_p (PS_indexS Hvad.runUnderlying194 Hvad.sizeOf26 rfl rfl (by omega) (by omega)) rfl ?_
  refine WH_load (.int _ _) Hvad.isAgg26 rfl (Hb.h (by repeat (first | assumption | exact Hb.newY _ _ | refine Hb.alloc ?_ | refine Hb.drew ?_ | refine Hb.ext (by assumption) ?_ | exact Hb.setSameL (by first | omega | (simp only [size_alloc, size_setB, size_drew]; omega)) | exact Hb.setSame (by assumption) | refine Hb.set (by first | omega | (simp only [size_alloc, size_setB, size_drew]; omega)) ?_ ))) (Ce.h (by first | assumption | exact ⟨rfl⟩)) ?_
  refine WH_p (PS_move_slice rfl) rfl ?_
  refine WH_p (PS_move_int rfl) rfl ?_
  refine WH_p (PS_sub_i64n rfl rfl (by omega) (by omega)) rfl ?_
  refine WH_p (PS_indexS Hvad.runUnderlying194 Hvad.sizeOf26 rfl rfl (by omega) (by omega)) rfl ?_
  refine WH_load (.int _ _) Hvad.isAgg26 rfl (Hb.h (by repeat (first | assumption | exact Hb.newY _ _ | refine Hb.alloc ?_ | refine Hb.drew ?_ | refine Hb.ext (by assumption) ?_ | exact Hb.setSameL (by first | omega | (simp only [size_alloc, size_setB, size_drew]; omega)) | exact Hb.setSame (by assumption) | refine Hb.set (by first | omega | (simp only [size_alloc, size_setB, size_drew]; omega)) ?_ ))) (Ce.h (by first | assumption | exact ⟨rfl⟩)) ?_
  refine WH_p (PS_move_slice rfl) rfl ?_
  refine WH_p (PS_move_int rfl) rfl ?_
  refine WH_p (PS_sub_i64n rfl rfl (by omega) (by omega)) rfl ?_
  refine WH_p (PS_indexS Hvad.runUnderlying194 Hvad.sizeOf26 rfl rfl (by omega) (by omega)) rfl ?_
  refine WH_load (.int _ _) Hvad.isAgg26 rfl (Hb.h (by repeat (first | assumption | exact Hb.newY _ _ | refine Hb.alloc ?_ | refine Hb.drew ?_ | refine Hb.ext (by assumption) ?_ | exact Hb.setSameL (by first | omega | (simp only [size_alloc, size_setB, size_drew]; omega)) | exact Hb.setSame (by assumption) | refine Hb.set (by first | omega | (simp only [size_alloc, size_setB, size_drew]; omega)) ?_ ))) (Ce.h (by first | assumption | exact ⟨rfl⟩)) ?_
  refine WH_call Hvad.call299 (by rfl) (Ret.mono (trial_spec _ _ _ _ _ _ (by omega) (by omega) (by omega) (by omega) (by omega)) ?_)
  rintro _ w1 ⟨hE1, q, f, rfl, hq, hf⟩
  refine ⟨(fun h => by cases h), ?_⟩
  have hU1 := Hb.ext hE1 hU.drew
  have hV1 := Hb.ext hE1 hV.drew
  refine WH_p (PS_move_tuple rfl) rfl ?_
  refine WH_p (PS_extract_int rfl rfl) rfl ?_
  refine WH_p (PS_extract_int rfl rfl) rfl ?_
  refine WH_p (PS_assign_int rfl) rfl ?_
  refine WH_p (PS_assign_int rfl) rfl ?_
  refine WH_nil ?_
  refine thn_normal ?_
  refine W_seq ?_
  refine W_seq ?_
  refine W_region rfl ?_
  refine WO_p (PS_move_slice rfl) ?_
  refine WO_p (PS_move_slice rfl) ?_
  refine WO_p (PS_move_int rfl) ?_
  refine WO_call Hvad.call300 (by rfl) (Ret.mono (takeTimes_spec bu bvY n cu cv ou ov Tu Tv U Y q _ hU1 hV1 hne hUL hYL hun hvn hn hq) ?_)
  rintro _ w3 ⟨⟨L3, hl3, hL3, hB3, hk3⟩, z, rfl⟩
  have hV3 := Hb.keepO hk3 (fun h => hne h.symm) hV1
  refine WO_nil ?_
  refine thn_normal ?_
  refine W_if rfl (fun hb3 => ?_) (fun hb3 => ?_)
  · have hb3p := hb3.h; try simp only [al_ete, al_dfn, Bool.not_eq_true', Bool.not_eq_false', al_ne, Bool.not_not, al_nn] at hb3p
    refine W_seq ?_
    refine W_region rfl ?_
    refine WO_p (PS_move_slice rfl) ?_
    refine WO_p (PS_move_slice rfl) ?_
    refine WO_call Hvad.call301 (by rfl) (Ret.mono (putBack_spec bu bvY n cu cv ou ov Tu Tv L3 Y _ hB3 hV3 hne hL3 hYL (by omega) hvn hn) ?_)
    rintro _ w4 ⟨rfl, L4, hl4, hL4, hB4, hk4⟩
    refine WO_nil ?_
    refine thn_normal ?_
    refine W_seq ?_
    refine W_region rfl ?_
    refine WO_p (PS_move_int rfl) ?_
    refine WO_p (PS_sub_u64w rfl rfl) ?_
    refine WO_p (PS_move_int rfl) ?_
    refine WO_p (PS_assign_int rfl) ?_
    refine WO_p (PS_assign_int rfl) ?_
    refine WO_p (PS_assign_bool rfl) ?_
    refine WO_nil ?_
    refine thn_normal ?_
    refine W_ret ?_
    refine thn_ret ?_
    refine bodyQ_ret3 Hvad.results291 rfl rfl rfl (.int _ _) (.int _ _) (.bool _) rfl rfl rfl ?_
    first
    | exact ⟨⟨L4, hl4.trans hl3, hL4, hB4, ((((Ext.drew (Ext.refl w)).trans hE1).keepO _).trans hk3 (fun _ _ h => h)).trans hk4 (fun _ _ h => h)⟩, _, _, _, rfl, by omega, hf⟩
    | exact ⟨⟨L3, hl3, hL3, hB3, (((Ext.drew (Ext.refl w)).trans hE1).keepO _).trans hk3 (fun _ _ h => h)⟩, _, _, _, rfl, hq, hf⟩
  · have hb3p := hb3.h; try simp only [al_ete, al_dfn, Bool.not_eq_true', Bool.not_eq_false', al_ne, Bool.not_not, al_nn] at hb3p
    refine W_skip ?_
    refine thn_normal ?_
    refine W_seq ?_
    refine W_region rfl ?_
    refine WO_p (PS_move_int rfl) ?_
    refine WO_p (PS_move_int rfl) ?_
    refine WO_p (PS_assign_int rfl) ?_
    refine WO_p (PS_assign_int rfl) ?_
    refine WO_p (PS_assign_bool rfl) ?_
    refine WO_nil ?_
    refine thn_normal ?_
    refine W_ret ?_
    refine bodyQ_ret3 Hvad.results291 rfl rfl rfl (.int _ _) (.int _ _) (.bool _) rfl rfl rfl ?_
    first
    | exact ⟨⟨L4, hl4.trans hl3, hL4, hB4, ((((Ext.drew (Ext.refl w)).trans hE1).keepO _).trans hk3 (fun _ _ h => h)).trans hk4 (fun _ _ h => h)⟩, _, _, _, rfl, by omega, hf⟩
    | exact ⟨⟨L3, hl3, hL3, hB3, (((Ext.drew (Ext.refl w)).trans hE1).keepO _).trans hk3 (fun _ _ h => h)⟩, _, _, _, rfl, hq, hf⟩

end Go.Proofs.YgvadwGreat
