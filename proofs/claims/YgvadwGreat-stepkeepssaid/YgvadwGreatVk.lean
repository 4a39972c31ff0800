import Derived.Test.YgvadwGreatVj
namespace Go.Proofs.YgvadwGreat
set_option linter.unusedSimpArgs false
set_option linter.unusedVariables false
theorem made_rep (z : Value) (m n : Nat) (hm : 0 < m) (v : Value) (hz : z.cells = (List.replicate m v).toArray) : madeCells z.cells n = (List.replicate n v).toArray := by
  unfold madeCells
  refine Array.ext (by simp) ?_
  intro i h1 h2
  have : i % m < m := Nat.mod_lt _ hm
  simp [hz, getElem!_pos, this]
theorem made_W (n : Nat) : madeCells (Value.agg (List.replicate 32 (Value.int .u8 0)).toArray).cells (n * 32) = ic .u8 (List.replicate (n * 32) 0) := by
  rw [made_rep _ 32 (n * 32) (by decide) (.int .u8 0) rfl]; simp [ic]

set_option maxRecDepth 10000 in
set_option maxHeartbeats 4000000 in
theorem copiedLog_spec (A : List Int) (t d : SV) (Lt Ld : List Int) (w : World) (hA : By A 20) (ht : SC w .u8 32 t Lt) (hd : SC w .u8 1 d Ld) (ht4 : t.2.1 ≤ 4) (hd7 : d.2.1 ≤ 717280) : Ret Hvad.prog 283 #[.agg (encL ⟨A, t, d⟩).toArray] w fun u w' => Ext w w' ∧ ∃ t' d' : SV, t'.2.1 = t.2.1 ∧ d'.2.1 = d.2.1 ∧ u = .agg (encL ⟨A, t', d'⟩).toArray := by
  have hAl := hA.1
  have hLd : Ld.length = d.2.1 := by have := hd.1; omega
  have hsz : ∀ t d : SV, (encL ⟨A, t, d⟩).toArray.size = 22 := fun t d => by simp [encL, hAl]
  have hs0 := hsz t d
  have hc1 : Ce (encL ⟨A, t, d⟩).toArray (0 + 21) (.slice d.1 d.2.1 d.2.2) := ⟨by simp [encL, hAl, sv, List.getElem?_append]⟩
  refine Ret_of_W Hvad.func283 rfl rfl ?_
  refine W_seq ?_
  refine W_region rfl ?_
  refine WO_box (.agg _) rfl ?_
  refine WO_alloc Hvad.zeroValue307 ?_
  refine WO_nil ?_
  refine thn_normal ?_
  refine W_seq ?_
  refine W_region rfl ?_
  refine WO_p (PS_fieldAddr 21 Hvad.runUnderlying307 rfl Hvad.sizeOf32 rfl rfl) ?_
  refine WO_load (.slice _ _ _) Hvad.isAgg32 rfl (Hb.h (by repeat (first | assumption | exact Hb.newY _ _ | refine Hb.alloc ?_ | refine Hb.drew ?_ | refine Hb.ext (by assumption) ?_ | exact Hb.setSameL (by first | omega | (simp only [size_alloc, size_setB, size_drew]; omega)) | exact Hb.setSame (by assumption) | refine Hb.set (by first | omega | (simp only [size_alloc, size_setB, size_drew]; omega)) ?_ ))) (Ce.h (by first | assumption | exact ⟨rfl⟩)) ?_
  refine WO_call Hvad.call54 (by rfl) (Ret.mono (copied_spec d Ld _ (hd.ext (by repeat (first | assumption | exact Ext.refl _ | refine Ext.alloc ?_ _ | refine Ext.drew ?_ | refine Ext.setB ?_ (by first | omega | (simp only [size_alloc, size_setB, size_drew]; omega)) _ | exact Ext.trans (by assumption) (by assumption) | refine Ext.trans ?_ (by assumption)))) (by omega)) ?_)
  rintro _ w1 ⟨hE1, d1, rfl, hn1⟩
  have hB1 : Hb w1 w.heap.size (.cells (encL ⟨A, t, d⟩).toArray 307 (0, 0)) := Hb.ext hE1 (Hb.alloc (Hb.newY _ _))
  have hR1 := Hb.ext hE1 (Hb.newY _ _)
  have hsz1 := hE1.1
  simp only [size_alloc] at hsz1
  replace hE1 : Ext w w1 := Ext.trans (by repeat (first | assumption | exact Ext.refl _ | refine Ext.alloc ?_ _ | refine Ext.drew ?_ | refine Ext.setB ?_ (by first | omega | (simp only [size_alloc, size_setB, size_drew]; omega)) _ | exact Ext.trans (by assumption) (by assumption) | refine Ext.trans ?_ (by assumption))) hE1
  have hd1l := hn1.len
  have hs1 := hsz t d1
  have ho1 : ∀ u ∈ (Value.agg (encL ⟨A, t, d1⟩).toArray).cells.toList, u.oneCell' = true := one_encL _
  have hc3 : Ce (encL ⟨A, t, d1⟩).toArray (0 + 20) (.slice t.1 t.2.1 t.2.2) := ⟨by simp [encL, hAl, sv, List.getElem?_append]⟩
  clear hc1
  refine WO_p (PS_fieldAddr 21 Hvad.runUnderlying307 rfl Hvad.sizeOf32 rfl rfl) ?_
  refine WO_store1 Hvad.sizeOf32 rfl (v := .slice d1.1 d1.2.1 d1.2.2) rfl hB1.h rfl (by rw [hs0]; decide) rfl ?_
  rw [encL_data hA.1]
  refine WO_nil ?_
  refine thn_normal ?_
  refine W_seq ?_
  refine W_seq ?_
  refine W_region rfl ?_
  refine WO_p (PS_fieldAddr 20 Hvad.runUnderlying307 rfl Hvad.sizeOf29 rfl rfl) ?_
  refine WO_load (.slice _ _ _) Hvad.isAgg29 rfl (Hb.h (by repeat (first | assumption | exact Hb.newY _ _ | refine Hb.alloc ?_ | refine Hb.drew ?_ | refine Hb.ext (by assumption) ?_ | exact Hb.setSameL (by first | omega | (simp only [size_alloc, size_setB, size_drew]; omega)) | exact Hb.setSame (by assumption) | refine Hb.set (by first | omega | (simp only [size_alloc, size_setB, size_drew]; omega)) ?_ ))) (Ce.h (by first | assumption | exact ⟨rfl⟩)) ?_
  refine WO_p (PS_lenS Hvad.runUnderlying29 rfl) ?_
  refine WO_p (PS_eql rfl rfl) ?_
  refine WO_nil ?_
  refine thn_normal ?_
  refine W_if rfl (fun hb3 => ?_) (fun hb3 => ?_)
  · have hb3p := hb3.h; try simp only [al_ete, al_dfn, Bool.not_eq_true', Bool.not_eq_false', al_ne, Bool.not_not, al_nn] at hb3p
    have h11 : t.2.1 = 0 := by omega
    have hs2 := hsz (none, 0, 0) d1
    have hx2 : Xt (encL ⟨A, (none, 0, 0), d1⟩).toArray 0 (0 + 22) (encL ⟨A, (none, 0, 0), d1⟩).toArray := Xt.whole rfl hs2
    have ho2 : ∀ u ∈ (Value.agg (encL ⟨A, (none, 0, 0), d1⟩).toArray).cells.toList, u.oneCell' = true := one_encL _
    refine W_seq ?_
    refine W_region rfl ?_
    refine WO_p (PS_fieldAddr 20 Hvad.runUnderlying307 rfl Hvad.sizeOf29 rfl rfl) ?_
    refine WO_store1 Hvad.sizeOf29 rfl (v := .slice _ _ _) rfl (Hb.h (by repeat (first | assumption | exact Hb.newY _ _ | refine Hb.alloc ?_ | refine Hb.drew ?_ | refine Hb.ext (by assumption) ?_ | exact Hb.setSameL (by first | omega | (simp only [size_alloc, size_setB, size_drew]; omega)) | exact Hb.setSame (by assumption) | refine Hb.set (by first | omega | (simp only [size_alloc, size_setB, size_drew]; omega)) ?_ ))) rfl (by first | omega | assumption | rfl | decide | (simp only [size_ic, Value.cells]; omega) | simp) rfl ?_
    rw [encL_topics hA.1 t (none, 0, 0) d1]
    refine WO_nil ?_
    refine thn_normal ?_
    refine W_seq ?_
    refine W_region rfl ?_
    refine WO_loadA _ Hvad.isAgg307 Hvad.sizeOf307 rfl (Hb.h (by repeat (first | assumption | exact Hb.newY _ _ | refine Hb.alloc ?_ | refine Hb.drew ?_ | refine Hb.ext (by assumption) ?_ | exact Hb.setSameL (by first | omega | (simp only [size_alloc, size_setB, size_drew]; omega)) | exact Hb.setSame (by assumption) | refine Hb.set (by first | omega | (simp only [size_alloc, size_setB, size_drew]; omega)) ?_ ))) (by first | omega | assumption | rfl | decide | (simp only [size_ic, Value.cells]; omega) | simp) (Xt.h (by first | assumption | exact Xt.whole rfl rfl | exact Xt.whole rfl (by simp only [size_ic, Value.cells]; omega) | exact ⟨rfl⟩)) ?_
    first | refine WO_storeW Hvad.sizeOf307 rfl (v := .agg _) rfl (Hb.h (by repeat (first | assumption | exact Hb.newY _ _ | refine Hb.alloc ?_ | refine Hb.drew ?_ | refine Hb.ext (by assumption) ?_ | exact Hb.setSameL (by first | omega | (simp only [size_alloc, size_setB, size_drew]; omega)) | exact Hb.setSame (by assumption) | refine Hb.set (by first | omega | (simp only [size_alloc, size_setB, size_drew]; omega)) ?_ ))) rfl (by first | omega | assumption | rfl | decide | (simp only [size_ic, Value.cells]; omega) | simp) (by first | omega | assumption | rfl | decide | (simp only [size_ic, Value.cells]; omega) | simp) (by first | exact oneCell_ic | assumption) ?_ | refine WO_store Hvad.sizeOf307 rfl (v := .agg _) rfl (Hb.h (by repeat (first | assumption | exact Hb.newY _ _ | refine Hb.alloc ?_ | refine Hb.drew ?_ | refine Hb.ext (by assumption) ?_ | exact Hb.setSameL (by first | omega | (simp only [size_alloc, size_setB, size_drew]; omega)) | exact Hb.setSame (by assumption) | refine Hb.set (by first | omega | (simp only [size_alloc, size_setB, size_drew]; omega)) ?_ ))) (by first | omega | assumption | rfl | decide | (simp only [size_ic, Value.cells]; omega) | simp) (by first | omega | assumption | rfl | decide | (simp only [size_ic, Value.cells]; omega) | simp) (by first | exact oneCell_ic | assumption) ?_
    refine WO_nil ?_
    refine thn_normal ?_
    refine W_ret ?_
    refine thn_ret ?_
    refine bodyQ_cell1 Hvad.results283 rfl Hvad.isAgg307 Hvad.sizeOf307 rfl (Hb.h (Hb.setSameL (by first | omega | (simp only [size_alloc, size_setB, size_drew]; omega)))) hs2 ?_
    first
    | exact ⟨(by repeat (first | assumption | exact Ext.refl _ | refine Ext.alloc ?_ _ | refine Ext.drew ?_ | refine Ext.setB ?_ (by first | omega | (simp only [size_alloc, size_setB, size_drew]; omega)) _ | refine Ext.trans ?_ (by assumption))), (none, 0, 0), d1, h11.symm, by omega, rfl⟩
    | exact ⟨(by repeat (first | assumption | exact Ext.refl _ | refine Ext.alloc ?_ _ | refine Ext.drew ?_ | refine Ext.setB ?_ (by first | omega | (simp only [size_alloc, size_setB, size_drew]; omega)) _ | refine Ext.trans ?_ (by assumption))), (some ⟨_, 0, none⟩, n, n), d1, rfl, by omega, rfl⟩
  · have hb3p := hb3.h; try simp only [al_ete, al_dfn, Bool.not_eq_true', Bool.not_eq_false', al_ne, Bool.not_not, al_nn] at hb3p
    obtain ⟨p, n, cp⟩ := t
    obtain ⟨bt, ot, rt, Tt, fzt, hp1, hbt, hot, hxt⟩ := ht.2.resolve_left (fun h => by omega)
    dsimp only at hp1 hot hxt ht4 hc3 hb3p hs1 ho1 ⊢
    subst hp1
    have hLt : Lt.length = n * 32 := ht.1
    have hbtl := hbt.lt
    have hbt1 := Hb.ext hE1 hbt
    refine W_skip ?_
    refine thn_normal ?_
    refine W_seq ?_
    refine W_region rfl ?_
    refine WO_p (PS_fieldAddr 20 Hvad.runUnderlying307 rfl Hvad.sizeOf29 rfl rfl) ?_
    refine WO_load (.slice _ _ _) Hvad.isAgg29 rfl (Hb.h (by repeat (first | assumption | exact Hb.newY _ _ | refine Hb.alloc ?_ | refine Hb.drew ?_ | refine Hb.ext (by assumption) ?_ | exact Hb.setSameL (by first | omega | (simp only [size_alloc, size_setB, size_drew]; omega)) | exact Hb.setSame (by assumption) | refine Hb.set (by first | omega | (simp only [size_alloc, size_setB, size_drew]; omega)) ?_ ))) (Ce.h (by first | assumption | exact ⟨rfl⟩)) ?_
    refine WO_p (PS_lenS Hvad.runUnderlying29 rfl) ?_
    refine WO_make (z := .agg (List.replicate 32 (Value.int .u8 0)).toArray) Hvad.underlying29 info28 rfl rfl rfl (by omega) (by omega) (by show (32:Int) * _ ≤ _; omega) (by omega) ?_
    rw [show ((n:Int)).toNat = n from Int.toNat_natCast n, show Hvad.t28.size = 32 from rfl, made_W]
    refine WO_p (PS_assign_slice rfl) ?_
    refine WO_nil ?_
    refine thn_normal ?_
    refine W_seq ?_
    refine W_region rfl ?_
    refine WO_p (PS_move_slice rfl) ?_
    refine WO_p (PS_fieldAddr 20 Hvad.runUnderlying307 rfl Hvad.sizeOf29 rfl rfl) ?_
    refine WO_load (.slice _ _ _) Hvad.isAgg29 rfl (Hb.h (by repeat (first | assumption | exact Hb.newY _ _ | refine Hb.alloc ?_ | refine Hb.drew ?_ | refine Hb.ext (by assumption) ?_ | exact Hb.setSameL (by first | omega | (simp only [size_alloc, size_setB, size_drew]; omega)) | exact Hb.setSame (by assumption) | refine Hb.set (by first | omega | (simp only [size_alloc, size_setB, size_drew]; omega)) ?_ ))) (Ce.h (by first | assumption | exact ⟨rfl⟩)) ?_
    refine WO_copy n Hvad.runUnderlying29 Hvad.sizeOf28 rfl rfl (Hb.h (Hb.newY _ _)) (Hb.h (Hb.alloc (Hb.set (by omega) hbt1))) (Nat.min_self n) (by rw [size_ic, List.length_replicate]; omega) hot hxt.h oneCell_ic ?_
    rw [splice_whole rfl (by simp [ic, hLt])]
    refine WO_nil ?_
    refine thn_normal ?_
    refine W_seq ?_
    refine W_region rfl ?_
    refine WO_p (PS_move_slice rfl) ?_
    refine WO_p (PS_fieldAddr 20 Hvad.runUnderlying307 rfl Hvad.sizeOf29 rfl rfl) ?_
    refine WO_store1 Hvad.sizeOf29 rfl (v := .slice _ _ _) rfl (Hb.h (Hb.set (by simp only [size_setB]; omega) (Hb.alloc (Hb.setSame hB1)))) rfl (by first | omega | assumption | rfl | decide | (simp only [size_ic, Value.cells]; omega) | simp) rfl ?_
    rw [encL_topics hA.1 (some ⟨bt, ot, none⟩, n, cp) (some ⟨(setB w1 w.heap.size (.cells (encL ⟨A, (some ⟨bt, ot, none⟩, n, cp), d1⟩).toArray 307 (0, 0))).heap.size, 0, none⟩, n, n) d1]
    have hs2 := hsz (some ⟨(setB w1 w.heap.size (.cells (encL ⟨A, (some ⟨bt, ot, none⟩, n, cp), d1⟩).toArray 307 (0, 0))).heap.size, 0, none⟩, n, n) d1
    have hx2 : Xt (encL ⟨A, (some ⟨(setB w1 w.heap.size (.cells (encL ⟨A, (some ⟨bt, ot, none⟩, n, cp), d1⟩).toArray 307 (0, 0))).heap.size, 0, none⟩, n, n), d1⟩).toArray 0 (0 + 22) (encL ⟨A, (some ⟨(setB w1 w.heap.size (.cells (encL ⟨A, (some ⟨bt, ot, none⟩, n, cp), d1⟩).toArray 307 (0, 0))).heap.size, 0, none⟩, n, n), d1⟩).toArray := Xt.whole rfl hs2
    have ho2 : ∀ u ∈ (Value.agg (encL ⟨A, (some ⟨(setB w1 w.heap.size (.cells (encL ⟨A, (some ⟨bt, ot, none⟩, n, cp), d1⟩).toArray 307 (0, 0))).heap.size, 0, none⟩, n, n), d1⟩).toArray).cells.toList, u.oneCell' = true := one_encL _
    refine WO_nil ?_
    refine thn_normal ?_
    refine W_seq ?_
    refine W_region rfl ?_
    refine WO_loadA _ Hvad.isAgg307 Hvad.sizeOf307 rfl (Hb.h (by repeat (first | assumption | exact Hb.newY _ _ | refine Hb.alloc ?_ | refine Hb.drew ?_ | refine Hb.ext (by assumption) ?_ | exact Hb.setSameL (by first | omega | (simp only [size_alloc, size_setB, size_drew]; omega)) | exact Hb.setSame (by assumption) | refine Hb.set (by first | omega | (simp only [size_alloc, size_setB, size_drew]; omega)) ?_ ))) (by first | omega | assumption | rfl | decide | (simp only [size_ic, Value.cells]; omega) | simp) (Xt.h (by first | assumption | exact Xt.whole rfl rfl | exact Xt.whole rfl (by simp only [size_ic, Value.cells]; omega) | exact ⟨rfl⟩)) ?_
    first | refine WO_storeW Hvad.sizeOf307 rfl (v := .agg _) rfl (Hb.h (by repeat (first | assumption | exact Hb.newY _ _ | refine Hb.alloc ?_ | refine Hb.drew ?_ | refine Hb.ext (by assumption) ?_ | exact Hb.setSameL (by first | omega | (simp only [size_alloc, size_setB, size_drew]; omega)) | exact Hb.setSame (by assumption) | refine Hb.set (by first | omega | (simp only [size_alloc, size_setB, size_drew]; omega)) ?_ ))) rfl (by first | omega | assumption | rfl | decide | (simp only [size_ic, Value.cells]; omega) | simp) (by first | omega | assumption | rfl | decide | (simp only [size_ic, Value.cells]; omega) | simp) (by first | exact oneCell_ic | assumption) ?_ | refine WO_store Hvad.sizeOf307 rfl (v := .agg _) rfl (Hb.h (by repeat (first | assumption | exact Hb.newY _ _ | refine Hb.alloc ?_ | refine Hb.drew ?_ | refine Hb.ext (by assumption) ?_ | exact Hb.setSameL (by first | omega | (simp only [size_alloc, size_setB, size_drew]; omega)) | exact Hb.setSame (by assumption) | refine Hb.set (by first | omega | (simp only [size_alloc, size_setB, size_drew]; omega)) ?_ ))) (by first | omega | assumption | rfl | decide | (simp only [size_ic, Value.cells]; omega) | simp) (by first | omega | assumption | rfl | decide | (simp only [size_ic, Value.cells]; omega) | simp) (by first | exact oneCell_ic | assumption) ?_
    refine WO_nil ?_
    refine thn_normal ?_
    refine W_ret ?_
    refine bodyQ_cell1 Hvad.results283 rfl Hvad.isAgg307 Hvad.sizeOf307 rfl (Hb.h (Hb.setSameL (by first | omega | (simp only [size_alloc, size_setB, size_drew]; omega)))) hs2 ?_
    first
    | exact ⟨(by repeat (first | assumption | exact Ext.refl _ | refine Ext.alloc ?_ _ | refine Ext.drew ?_ | refine Ext.setB ?_ (by first | omega | (simp only [size_alloc, size_setB, size_drew]; omega)) _ | refine Ext.trans ?_ (by assumption))), (none, 0, 0), d1, h11.symm, by omega, rfl⟩
    | exact ⟨(by repeat (first | assumption | exact Ext.refl _ | refine Ext.alloc ?_ _ | refine Ext.drew ?_ | refine Ext.setB ?_ (by first | omega | (simp only [size_alloc, size_setB, size_drew]; omega)) _ | refine Ext.trans ?_ (by assumption))), (some ⟨_, 0, none⟩, n, n), d1, rfl, by omega, rfl⟩

end Go.Proofs.YgvadwGreat
