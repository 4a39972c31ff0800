import Derived.Test.YgvadwGreatOl
namespace Go.Proofs.YgvadwGreat
set_option linter.unusedSimpArgs false
set_option linter.unusedVariables false
section
variable {P : Program} {ρ : Nat → Value} {w : World} {ops : Array Oper} {Q : Post} {os : List Oper} {x y : Operand} {ty t e : TypeId}
theorem WH_storeBA {S : World → Prop} {os' : List (Oper × Bool)} {tg : Bool} {b o k : Nat} {T : TypeId} {L M : List Int} {pos : _} {af : _} (hS : ∀ w, (Go.sizeOf t).run P w = .ok k w) (hx : ev ρ x = .pointer (some ⟨b, o, none⟩)) (hy : ev ρ y = .agg (ic .u8 M))
    (hb : Hb w b (.cells (ic .u8 L) T (0, 0))) (hk : M.length = k) (ho : o + k ≤ L.length) (hM : By8 M)
    (h : ∀ w' L', BufT b T L w w' L' → (tg = true → S w') ∧ WH P ops S Q os' ρ w') : WH P ops S Q ((⟨none, .store t x y, ty, pos, af, none⟩, tg) :: os') ρ w :=
  WH_store hS hx hy hb.h (by simp only [size_ic, Value.cells]; exact hk) (by rw [size_ic]; omega) oneCell_ic (h _ _ (BufT.set hb (by omega) hM)).1 (h _ _ (BufT.set hb (by omega) hM)).2
end

set_option maxRecDepth 10000 in
set_option maxHeartbeats 4000000 in
theorem create2_spec (A W : List Int) (s : SV) (L : List Int) (w : World) (hA : By A 20) (hW : Wd W) (hs : SC w .u8 1 s L) (hL : By8 L) (hc : s.2.1 ≤ s.2.2) (hl : s.2.1 ≤ 1000000) : Ret Hvad.prog 206 #[.agg (ic .u8 A), .agg (ic .u64 W), .slice s.1 s.2.1 s.2.2] w fun u w' => Ext w w' ∧ ∃ R, u = .agg (ic .u8 R) ∧ By R 20 := by
  have hAl := hA.1
  have hWl := hW.1
  have hbl := (be32_by W).1
  have hr85 : (List.replicate 85 (0 : Int)).length = 85 := by simp
  refine Ret_of_W Hvad.func206 rfl rfl ?_
  refine W_seq ?_
  refine W_region rfl ?_
  refine WO_boxG (.agg _) rfl ?_
  intro b3 v3 hg3 hE3 hH3 hl3
  try simp only [size_alloc, size_setB, size_drew] at hg3
  have hzz3 := hE3.1
  try simp only [size_alloc, size_setB, size_drew] at hzz3
  refine WO_boxG (.agg _) rfl ?_
  intro b4 v4 hg4 hE4 hH4 hl4
  try simp only [size_alloc, size_setB, size_drew] at hg4
  have hzz4 := hE4.1
  try simp only [size_alloc, size_setB, size_drew] at hzz4
  refine WO_allocG Hvad.zeroValue25 ?_
  intro b6 v6 hg6 hE6 hH6 hl6
  try simp only [size_alloc, size_setB, size_drew] at hg6
  have hzz6 := hE6.1
  try simp only [size_alloc, size_setB, size_drew] at hzz6
  replace hH6 : Hb v6 b6 (.cells (ic .u8 (List.replicate 20 0)) 25 (0, 0)) := hH6
  refine WO_nil ?_
  refine thn_normal ?_
  refine W_seq ?_
  refine W_region rfl ?_
  refine WO_allocG Hvad.zeroValue303 ?_
  intro b7 v7 hg7 hE7 hH7 hl7
  try simp only [size_alloc, size_setB, size_drew] at hg7
  have hzz7 := hE7.1
  try simp only [size_alloc, size_setB, size_drew] at hzz7
  replace hH7 : Hb v7 b7 (.cells (ic .u8 (List.replicate 85 0)) 303 (0, 0)) := hH7
  refine WO_nil ?_
  refine thn_normal ?_
  refine W_seq ?_
  refine W_region rfl ?_
  refine WO_p (PS_indexA Hvad.runUnderlying303 Hvad.sizeOf5 rfl rfl (by omega) (by omega)) ?_
  refine WO_storeB Hvad.sizeOf5 rfl rfl hH7 (by omega) (by decide) ?_
  intro w2 L2 hT2
  have hE2 : Ext w w2 := hT2.ext (by repeat (first | assumption | exact Ext.refl _ | refine Ext.alloc ?_ _ | refine Ext.drew ?_ | refine Ext.setB ?_ (by first | omega | (simp only [size_alloc, size_setB, size_drew]; omega)) _ | exact Ext.trans (by assumption) (by assumption) | refine Ext.trans ?_ (by assumption))) (by omega)
  have hb37 := hT2.other (Hb.ext hE7 (Hb.ext hE6 (Hb.ext hE4 hH3))) (by omega)
  have hb47 := hT2.other (Hb.ext hE7 (Hb.ext hE6 hH4)) (by omega)
  have hb67 := hT2.other (Hb.ext hE7 hH6) (by omega)
  have hC2 := hT2.hb
  have hl2 := hT2.len
  have hz2 := hT2.keep.sz
  refine WO_nil ?_
  refine thn_normal ?_
  refine W_seq ?_
  refine W_drawE [false, false, false] hmix (by kernel_rfl) rfl ?_
  refine WH_p (PS_slA_lh Hvad.runUnderlying303 Hvad.sizeOf5 rfl rfl rfl (by omega) (by omega) (by omega) (by omega) (by omega)) rfl ?_
  refine WH_p (PS_slA Hvad.runUnderlying25 Hvad.sizeOf5 rfl (by omega)) rfl ?_
  refine WH_copyT (b2 := 0) (b := b7) (o := 0 + 1 * 1) Hvad.runUnderlying32 Hvad.sizeOf5 rfl rfl (fun _ => rfl) (Hb.drew hC2) (by omega) (SC.of (o := 0) (n := 20) (cp := 20) (Hb.drew (Hb.mk (Hb.h (by repeat (first | assumption | exact Hb.newY _ _ | refine Hb.alloc ?_ | refine Hb.drew ?_ | refine Hb.ext (by assumption) ?_ | exact Hb.setSameL (by first | omega | (simp only [size_alloc, size_setB, size_drew]; omega)) | exact Hb.setSame (by assumption) | refine Hb.set (by first | omega | (simp only [size_alloc, size_setB, size_drew]; omega)) ?_ ))))) (by omega)) (fun z hz => hA.2 z (List.mem_of_mem_drop (List.mem_of_mem_take hz))) (by omega) ?_
  intro w3 L3 hT3
  have hE3 : Ext w w3 := hT3.ext (by repeat (first | assumption | exact Ext.refl _ | refine Ext.alloc ?_ _ | refine Ext.drew ?_ | refine Ext.setB ?_ (by first | omega | (simp only [size_alloc, size_setB, size_drew]; omega)) _ | exact Ext.trans (by assumption) (by assumption) | refine Ext.trans ?_ (by assumption))) (by omega)
  have hz3 := hT3.keep.sz
  try simp only [size_alloc, size_setB, size_drew] at hz3
  refine ⟨(fun h => by cases h), ?_⟩
  have hC3 := hT3.hb
  have hl3 := hT3.len
  have hb43 := hT3.other (Hb.drew hb47) (by omega)
  have hb63 := hT3.other (Hb.drew hb67) (by omega)
  refine WH_nil ?_
  refine thn_normal ?_
  refine W_seq ?_
  refine W_drawE [false, false, false, false, false, false] hmix (by kernel_rfl) rfl ?_
  refine WH_p (PS_slA_lh Hvad.runUnderlying303 Hvad.sizeOf5 rfl rfl rfl (by omega) (by omega) (by omega) (by omega) (by omega)) rfl ?_
  refine WH_p (PS_arrayAt Hvad.runUnderlying27 rfl (by omega)) rfl ?_
  refine WH_loadA _ Hvad.isAgg59 Hvad.sizeOf59 rfl (Hb.h (by repeat (first | assumption | exact Hb.newY _ _ | refine Hb.alloc ?_ | refine Hb.drew ?_ | refine Hb.ext (by assumption) ?_ | exact Hb.setSameL (by first | omega | (simp only [size_alloc, size_setB, size_drew]; omega)) | exact Hb.setSame (by assumption) | refine Hb.set (by first | omega | (simp only [size_alloc, size_setB, size_drew]; omega)) ?_ ))) (by first | omega | assumption | rfl | decide | exact Nat.le_refl _ | (simp only [size_ic, Value.cells]; omega) | simp) (Xt.h (by first | assumption | exact Xt.whole rfl rfl | exact Xt.whole rfl (by simp only [size_ic, Value.cells]; omega) | exact ⟨rfl⟩)) ?_
  refine WH_call Hvad.call199 (by rfl) (Ret.mono (be32_spec _ _ hW) ?_)
  rintro _ w199_0 ⟨hE199_0, rfl⟩
  refine ⟨(fun h => by cases h), ?_⟩
  have hz199_0 := hE199_0.1
  try simp only [size_alloc, size_setB, size_drew] at hz199_0
  refine WH_p (PS_nilCheck rfl) rfl ?_
  refine WH_storeBA Hvad.sizeOf27 rfl rfl (Hb.mk (Hb.h (by repeat (first | assumption | exact Hb.newY _ _ | refine Hb.alloc ?_ | refine Hb.drew ?_ | refine Hb.ext (by assumption) ?_ | exact Hb.setSameL (by first | omega | (simp only [size_alloc, size_setB, size_drew]; omega)) | exact Hb.setSame (by assumption) | refine Hb.set (by first | omega | (simp only [size_alloc, size_setB, size_drew]; omega)) ?_ ))) : Hb _ b7 (.cells (ic .u8 L3) 303 (0, 0))) (by omega) (by show _ + 32 ≤ _; omega) (be32_by W).2 ?_
  intro w4 L4 hT4
  have hE4' : Ext w w4 := hT4.ext (by repeat (first | assumption | exact Ext.refl _ | refine Ext.alloc ?_ _ | refine Ext.drew ?_ | refine Ext.setB ?_ (by first | omega | (simp only [size_alloc, size_setB, size_drew]; omega)) _ | exact Ext.trans (by assumption) (by assumption) | refine Ext.trans ?_ (by assumption))) (by omega)
  have hC4 := hT4.hb
  have hl4 := hT4.len
  have hz4 := hT4.keep.sz
  have hb64 := hT4.other (Hb.mk (Hb.h (by repeat (first | assumption | exact Hb.newY _ _ | refine Hb.alloc ?_ | refine Hb.drew ?_ | refine Hb.ext (by assumption) ?_ | exact Hb.setSameL (by first | omega | (simp only [size_alloc, size_setB, size_drew]; omega)) | exact Hb.setSame (by assumption) | refine Hb.set (by first | omega | (simp only [size_alloc, size_setB, size_drew]; omega)) ?_ ))) : Hb _ b6 (.cells (ic .u8 (List.replicate 20 0)) 25 (0, 0))) (by omega)
  refine ⟨(fun h => by cases h), ?_⟩
  refine WH_nil ?_
  refine thn_normal ?_
  refine W_seq ?_
  refine W_drawE [false, false, false, false, false, false] hmix (by kernel_rfl) rfl ?_
  refine WH_p (PS_slA_lh Hvad.runUnderlying303 Hvad.sizeOf5 rfl rfl rfl (by omega) (by omega) (by omega) (by omega) (by omega)) rfl ?_
  refine WH_p (PS_arrayAt Hvad.runUnderlying27 rfl (by omega)) rfl ?_
  refine WH_p (PS_move_slice rfl) rfl ?_
  refine WH_call Hvad.call69 (by rfl) (Ret.mono (sum_spec s L _ (SC.ext hs (by repeat (first | assumption | exact Ext.refl _ | refine Ext.alloc ?_ _ | refine Ext.drew ?_ | refine Ext.setB ?_ (by first | omega | (simp only [size_alloc, size_setB, size_drew]; omega)) _ | exact Ext.trans (by assumption) (by assumption) | refine Ext.trans ?_ (by assumption)))) hL hc hl) ?_)
  rintro _ w69_1 ⟨hE69_1, R5, rfl, hR5⟩
  refine ⟨(fun h => by cases h), ?_⟩
  have hz69_1 := hE69_1.1
  try simp only [size_alloc, size_setB, size_drew] at hz69_1
  have hR5l := hR5.1
  refine WH_p (PS_nilCheck rfl) rfl ?_
  refine WH_storeBA Hvad.sizeOf27 rfl rfl (Hb.mk (Hb.h (by repeat (first | assumption | exact Hb.newY _ _ | refine Hb.alloc ?_ | refine Hb.drew ?_ | refine Hb.ext (by assumption) ?_ | exact Hb.setSameL (by first | omega | (simp only [size_alloc, size_setB, size_drew]; omega)) | exact Hb.setSame (by assumption) | refine Hb.set (by first | omega | (simp only [size_alloc, size_setB, size_drew]; omega)) ?_ ))) : Hb _ b7 (.cells (ic .u8 L4) 303 (0, 0))) (by omega) (by show _ + 32 ≤ _; omega) hR5.2 ?_
  intro w6 L6 hT5
  have hE6' : Ext w w6 := hT5.ext (by repeat (first | assumption | exact Ext.refl _ | refine Ext.alloc ?_ _ | refine Ext.drew ?_ | refine Ext.setB ?_ (by first | omega | (simp only [size_alloc, size_setB, size_drew]; omega)) _ | exact Ext.trans (by assumption) (by assumption) | refine Ext.trans ?_ (by assumption))) (by omega)
  have hC6 := hT5.hb
  have hl6 := hT5.len
  have hL6 : By8 L6 := hT5.ty (hT4.ty (hT3.ty (hT2.ty (by_zero 85))))
  have hz6' := hT5.keep.sz
  have hb66 := hT5.other (Hb.mk (Hb.h (by repeat (first | assumption | exact Hb.newY _ _ | refine Hb.alloc ?_ | refine Hb.drew ?_ | refine Hb.ext (by assumption) ?_ | exact Hb.setSameL (by first | omega | (simp only [size_alloc, size_setB, size_drew]; omega)) | exact Hb.setSame (by assumption) | refine Hb.set (by first | omega | (simp only [size_alloc, size_setB, size_drew]; omega)) ?_ ))) : Hb _ b6 (.cells (ic .u8 (List.replicate 20 0)) 25 (0, 0))) (by omega)
  refine ⟨(fun h => by cases h), ?_⟩
  refine WH_nil ?_
  refine thn_normal ?_
  refine W_seq ?_
  refine W_region rfl ?_
  refine WO_p (PS_slA Hvad.runUnderlying303 Hvad.sizeOf5 rfl (by omega)) ?_
  refine WO_call Hvad.call69 (by rfl) (Ret.mono (sum_spec (some ⟨b7, 0, none⟩, 85, 85) ((L6.drop 0).take 85) _ (SC.of (Hb.mk (Hb.h (by repeat (first | assumption | exact Hb.newY _ _ | refine Hb.alloc ?_ | refine Hb.drew ?_ | refine Hb.ext (by assumption) ?_ | exact Hb.setSameL (by first | omega | (simp only [size_alloc, size_setB, size_drew]; omega)) | exact Hb.setSame (by assumption) | refine Hb.set (by first | omega | (simp only [size_alloc, size_setB, size_drew]; omega)) ?_ )))) (by omega)) (fun z hz => (hL6 z (List.mem_of_mem_drop (List.mem_of_mem_take hz)))) (Nat.le_refl _) (by show 85 ≤ 1000000; decide)) ?_)
  rintro _ w7 ⟨hE7, R, rfl, hR⟩
  have hz7 := hE7.1
  try simp only [size_alloc, size_setB, size_drew] at hz7
  have hRl := hR.1
  have hxt := Xt.ic .u8 R 12 20 (by omega)
  have hdl2 : ((R.drop 12).take 20).length = 20 := by simp [hRl]
  have hby : By ((R.drop 12).take 20) 20 := ⟨hdl2, fun z hz => hR.2 z (List.mem_of_mem_drop (List.mem_of_mem_take hz))⟩
  generalize (R.drop 12).take 20 = AD at *
  refine WO_allocG Hvad.zeroValue27 ?_
  intro b8 v8 hg8 hE8 hH8 hl8
  try simp only [size_alloc, size_setB, size_drew] at hg8
  have hzz8 := hE8.1
  try simp only [size_alloc, size_setB, size_drew] at hzz8
  replace hH8 : Hb v8 b8 (.cells (ic .u8 (List.replicate 32 0)) 27 (0, 0)) := hH8
  first | refine WO_storeW Hvad.sizeOf27 rfl (v := .agg _) rfl (Hb.h (by repeat (first | assumption | exact Hb.newY _ _ | refine Hb.alloc ?_ | refine Hb.drew ?_ | refine Hb.ext (by assumption) ?_ | exact Hb.setSameL (by first | omega | (simp only [size_alloc, size_setB, size_drew]; omega)) | exact Hb.setSame (by assumption) | refine Hb.set (by first | omega | (simp only [size_alloc, size_setB, size_drew]; omega)) ?_ ))) rfl (by first | omega | assumption | rfl | decide | exact Nat.le_refl _ | (simp only [size_ic, Value.cells]; omega) | simp) (by first | omega | assumption | rfl | decide | exact Nat.le_refl _ | (simp only [size_ic, Value.cells]; omega) | simp) (by first | exact oneCell_ic | assumption) ?_ | refine WO_store Hvad.sizeOf27 rfl (v := .agg _) rfl (Hb.h (by repeat (first | assumption | exact Hb.newY _ _ | refine Hb.alloc ?_ | refine Hb.drew ?_ | refine Hb.ext (by assumption) ?_ | exact Hb.setSameL (by first | omega | (simp only [size_alloc, size_setB, size_drew]; omega)) | exact Hb.setSame (by assumption) | refine Hb.set (by first | omega | (simp only [size_alloc, size_setB, size_drew]; omega)) ?_ ))) (by first | omega | assumption | rfl | decide | exact Nat.le_refl _ | (simp only [size_ic, Value.cells]; omega) | simp) (by first | omega | assumption | rfl | decide | exact Nat.le_refl _ | (simp only [size_ic, Value.cells]; omega) | simp) (by first | exact oneCell_ic | assumption) ?_
  refine WO_nil ?_
  refine thn_normal ?_
  refine W_seq ?_
  refine W_region rfl ?_
  refine WO_p (PS_slA_lh Hvad.runUnderlying27 Hvad.sizeOf5 rfl rfl rfl (by omega) (by omega) (by omega) (by omega) (by omega)) ?_
  refine WO_p (PS_arrayAt Hvad.runUnderlying25 rfl (by omega)) ?_
  refine WO_loadA _ Hvad.isAgg25 Hvad.sizeOf25 rfl (Hb.h (by repeat (first | assumption | exact Hb.newY _ _ | refine Hb.alloc ?_ | refine Hb.drew ?_ | refine Hb.ext (by assumption) ?_ | exact Hb.setSameL (by first | omega | (simp only [size_alloc, size_setB, size_drew]; omega)) | exact Hb.setSame (by assumption) | refine Hb.set (by first | omega | (simp only [size_alloc, size_setB, size_drew]; omega)) ?_ ))) (by first | omega | assumption | rfl | decide | exact Nat.le_refl _ | (simp only [size_ic, Value.cells]; omega) | simp) (Xt.h (by first | assumption | exact Xt.whole rfl rfl | exact Xt.whole rfl (by simp only [size_ic, Value.cells]; omega) | exact ⟨rfl⟩)) ?_
  first | refine WO_storeW Hvad.sizeOf25 rfl (v := .agg _) rfl (Hb.h (by repeat (first | assumption | exact Hb.newY _ _ | refine Hb.alloc ?_ | refine Hb.drew ?_ | refine Hb.ext (by assumption) ?_ | exact Hb.setSameL (by first | omega | (simp only [size_alloc, size_setB, size_drew]; omega)) | exact Hb.setSame (by assumption) | refine Hb.set (by first | omega | (simp only [size_alloc, size_setB, size_drew]; omega)) ?_ ))) rfl (by first | omega | assumption | rfl | decide | exact Nat.le_refl _ | (simp only [size_ic, Value.cells]; omega) | simp) (by first | omega | assumption | rfl | decide | exact Nat.le_refl _ | (simp only [size_ic, Value.cells]; omega) | simp) (by first | exact oneCell_ic | assumption) ?_ | refine WO_store Hvad.sizeOf25 rfl (v := .agg _) rfl (Hb.h (by repeat (first | assumption | exact Hb.newY _ _ | refine Hb.alloc ?_ | refine Hb.drew ?_ | refine Hb.ext (by assumption) ?_ | exact Hb.setSameL (by first | omega | (simp only [size_alloc, size_setB, size_drew]; omega)) | exact Hb.setSame (by assumption) | refine Hb.set (by first | omega | (simp only [size_alloc, size_setB, size_drew]; omega)) ?_ ))) (by first | omega | assumption | rfl | decide | exact Nat.le_refl _ | (simp only [size_ic, Value.cells]; omega) | simp) (by first | omega | assumption | rfl | decide | exact Nat.le_refl _ | (simp only [size_ic, Value.cells]; omega) | simp) (by first | exact oneCell_ic | assumption) ?_
  refine WO_nil ?_
  refine thn_normal ?_
  refine W_ret ?_
  refine bodyQ_cell1 Hvad.results206 rfl Hvad.isAgg25 Hvad.sizeOf25 rfl (Hb.h (by repeat (first | assumption | exact Hb.newY _ _ | refine Hb.alloc ?_ | refine Hb.drew ?_ | refine Hb.ext (by assumption) ?_ | exact Hb.setSameL (by first | omega | (simp only [size_alloc, size_setB, size_drew]; omega)) | exact Hb.setSame (by assumption) | refine Hb.set (by first | omega | (simp only [size_alloc, size_setB, size_drew]; omega)) ?_ ))) (by first | omega | assumption | rfl | decide | exact Nat.le_refl _ | (simp only [size_ic, Value.cells]; omega) | simp) ?_
  exact ⟨(by repeat (first | assumption | exact Ext.refl _ | refine Ext.alloc ?_ _ | refine Ext.drew ?_ | refine Ext.setB ?_ (by first | omega | (simp only [size_alloc, size_setB, size_drew]; omega)) _ | refine Ext.trans ?_ (by assumption))), AD, rfl, hby⟩

theorem pow_step {x : Int} {k : Nat} (h0 : 0 < x) (h : x < 256 ^ k) : ∃ j, k = j + 1 ∧ x / 2 ^ 8 < 256 ^ j := by
  cases k with
  | zero => simp at h; omega
  | succ j => exact ⟨j, rfl, by rw [Int.pow_succ] at h; exact Int.ediv_lt_of_lt_mul (by decide) h⟩

set_option maxRecDepth 10000 in
set_option maxHeartbeats 4000000 in
theorem createAddr_spec (A : List Int) (n : Int) (w : World) (hA : By A 20) (hn : 0 ≤ n ∧ n ≤ 18446744073709551615) : Ret Hvad.prog 30 #[.agg (ic .u8 A), .int .u64 n] w fun u w' => Ext w w' ∧ ∃ R, u = .agg (ic .u8 R) ∧ By R 20 := by
  have hAl := hA.1
  have hr32 : (List.replicate 32 (0 : Int)).length = 32 := by simp
  refine Ret_of_W Hvad.func30 rfl rfl ?_
  refine W_seq ?_
  refine W_region rfl ?_
  refine WO_boxG (.agg _) rfl ?_
  intro b2 v2 hg2 hE2 hH2 hl2
  try simp only [size_alloc, size_setB, size_drew] at hg2
  have hzz2 := hE2.1
  try simp only [size_alloc, size_setB, size_drew] at hzz2
  refine WO_allocG Hvad.zeroValue25 ?_
  intro b4 v4 hg4 hE4 hH4 hl4
  try simp only [size_alloc, size_setB, size_drew] at hg4
  have hzz4 := hE4.1
  try simp only [size_alloc, size_setB, size_drew] at hzz4
  replace hH4 : Hb v4 b4 (.cells (ic .u8 (List.replicate 20 0)) 25 (0, 0)) := hH4
  refine WO_nil ?_
  refine thn_normal ?_
  refine W_seq ?_
  refine W_region rfl ?_
  refine WO_allocG Hvad.zeroValue27 ?_
  intro b5 v5 hg5 hE5 hH5 hl5
  try simp only [size_alloc, size_setB, size_drew] at hg5
  have hzz5 := hE5.1
  try simp only [size_alloc, size_setB, size_drew] at hzz5
  replace hH5 : Hb v5 b5 (.cells (ic .u8 (List.replicate 32 0)) 27 (0, 0)) := hH5
  refine WO_nil ?_
  refine thn_normal ?_
  refine W_seq ?_
  refine W_region rfl ?_
  refine WO_p (PS_indexA Hvad.runUnderlying27 Hvad.sizeOf5 rfl rfl (by omega) (by omega)) ?_
  refine WO_storeB Hvad.sizeOf5 rfl rfl (Hb.mk (Hb.h (by repeat (first | assumption | exact Hb.newY _ _ | refine Hb.alloc ?_ | refine Hb.drew ?_ | refine Hb.ext (by assumption) ?_ | exact Hb.setSameL (by first | omega | (simp only [size_alloc, size_setB, size_drew]; omega)) | exact Hb.setSame (by assumption) | refine Hb.set (by first | omega | (simp only [size_alloc, size_setB, size_drew]; omega)) ?_ ))) : Hb _ b5 (.cells (ic .u8 (List.replicate 32 0)) 27 (0, 0))) (by omega) (by decide) ?_
  intro w2 L2 hT2
  have hE2 : Ext w w2 := hT2.ext (by repeat (first | assumption | exact Ext.refl _ | refine Ext.alloc ?_ _ | refine Ext.drew ?_ | refine Ext.setB ?_ (by first | omega | (simp only [size_alloc, size_setB, size_drew]; omega)) _ | exact Ext.trans (by assumption) (by assumption) | refine Ext.trans ?_ (by assumption))) (by omega)
  have hC2 := hT2.hb
  have hl2 := hT2.len
  have hz2 := hT2.keep.sz
  have hb42 := hT2.other (Hb.mk (Hb.h (by repeat (first | assumption | exact Hb.newY _ _ | refine Hb.alloc ?_ | refine Hb.drew ?_ | refine Hb.ext (by assumption) ?_ | exact Hb.setSameL (by first | omega | (simp only [size_alloc, size_setB, size_drew]; omega)) | exact Hb.setSame (by assumption) | refine Hb.set (by first | omega | (simp only [size_alloc, size_setB, size_drew]; omega)) ?_ ))) : Hb _ b4 (.cells (ic .u8 (List.replicate 20 0)) 25 (0, 0))) (by omega)
  have hb22 := hT2.other (Hb.mk (Hb.h (by repeat (first | assumption | exact Hb.newY _ _ | refine Hb.alloc ?_ | refine Hb.drew ?_ | refine Hb.ext (by assumption) ?_ | exact Hb.setSameL (by first | omega | (simp only [size_alloc, size_setB, size_drew]; omega)) | exact Hb.setSame (by assumption) | refine Hb.set (by first | omega | (simp only [size_alloc, size_setB, size_drew]; omega)) ?_ ))) : Hb _ b2 (.cells (ic .u8 A) 25 (0, 0))) (by omega)
  refine WO_nil ?_
  refine thn_normal ?_
  refine W_seq ?_
  refine W_drawE [false, false, false] hmix (by kernel_rfl) rfl ?_
  refine WH_p (PS_slA_lh Hvad.runUnderlying27 Hvad.sizeOf5 rfl rfl rfl (by omega) (by omega) (by omega) (by omega) (by omega)) rfl ?_
  refine WH_p (PS_slA Hvad.runUnderlying25 Hvad.sizeOf5 rfl (by omega)) rfl ?_
  refine WH_copyT (b2 := 0) (b := b5) (o := 0 + (2 : Int).toNat * 1) Hvad.runUnderlying32 Hvad.sizeOf5 rfl rfl (fun _ => rfl) (Hb.drew hC2) (by omega) (SC.of (o := 0) (n := 20) (cp := 20) (Hb.drew (Hb.mk (Hb.h (by repeat (first | assumption | exact Hb.newY _ _ | refine Hb.alloc ?_ | refine Hb.drew ?_ | refine Hb.ext (by assumption) ?_ | exact Hb.setSameL (by first | omega | (simp only [size_alloc, size_setB, size_drew]; omega)) | exact Hb.setSame (by assumption) | refine Hb.set (by first | omega | (simp only [size_alloc, size_setB, size_drew]; omega)) ?_ ))))) (by omega)) (fun z hz => hA.2 z (List.mem_of_mem_drop (List.mem_of_mem_take hz))) (by omega) ?_
  intro w3 L3 hT3
  have hE3 : Ext w w3 := hT3.ext (by repeat (first | assumption | exact Ext.refl _ | refine Ext.alloc ?_ _ | refine Ext.drew ?_ | refine Ext.setB ?_ (by first | omega | (simp only [size_alloc, size_setB, size_drew]; omega)) _ | exact Ext.trans (by assumption) (by assumption) | refine Ext.trans ?_ (by assumption))) (by omega)
  have hz3 := hT3.keep.sz
  try simp only [size_alloc, size_setB, size_drew] at hz3
  refine ⟨(fun h => by cases h), ?_⟩
  have hC3 := hT3.hb
  have hl3 := hT3.len
  have hL3 : By8 L3 := hT3.ty (hT2.ty (by_zero 32))
  have hb43 := hT3.other (Hb.drew hb42) (by omega)
  refine WH_nil ?_
  refine thn_normal ?_
  refine W_seq ?_
  refine W_region rfl ?_
  refine WO_p (PS_assign_int rfl) ?_
  refine WO_nil ?_
  refine thn_normal ?_
  refine W_seqJ (fun ρ w' => ∃ (q : Int) (L20 : List Int), Fr [(4, .pointer (some ⟨b4, 0, none⟩)), (5, .pointer (some ⟨b5, 0, none⟩)), (6, .int .i64 q)] ρ ∧ 1 ≤ q ∧ q ≤ 9 ∧ By L20 32 ∧ Ext w w' ∧ v5.heap.size ≤ w'.heap.size ∧ Hb w' b4 (.cells (ic .u8 (List.replicate 20 0)) 25 (0, 0)) ∧ Hb w' b5 (.cells (ic .u8 L20) 27 (0, 0))) ?_ ?_
  · skip
    refine W_block ?_
    refine W_seq ?_
    refine W_region rfl ?_
    refine WO_p (PS_move_int rfl) ?_
    refine WO_p (PS_eql rfl rfl) ?_
    refine WO_p (PS_assign_bool rfl) ?_
    refine WO_nil ?_
    refine thn_normal ?_
    refine W_if rfl (fun hb2 => ?_) (fun hb2 => ?_)
    · have hb2p := hb2.h; try simp only [al_ete, al_dfn, Bool.not_eq_true', Bool.not_eq_false', al_ne, Bool.not_not, al_nn] at hb2p
      refine W_region rfl ?_
      refine WO_p (PS_indexA Hvad.runUnderlying27 Hvad.sizeOf5 rfl rfl (by omega) (by omega)) ?_
      refine WO_storeB Hvad.sizeOf5 rfl rfl (Hb.mk (Hb.h (by repeat (first | assumption | exact Hb.newY _ _ | refine Hb.alloc ?_ | refine Hb.drew ?_ | refine Hb.ext (by assumption) ?_ | exact Hb.setSameL (by first | omega | (simp only [size_alloc, size_setB, size_drew]; omega)) | exact Hb.setSame (by assumption) | refine Hb.set (by first | omega | (simp only [size_alloc, size_setB, size_drew]; omega)) ?_ ))) : Hb _ b5 (.cells (ic .u8 L3) 27 (0, 0))) (by omega) (by decide) ?_
      intro w17 L17 hT17
      have hE17 : Ext w w17 := hT17.ext (by repeat (first | assumption | exact Ext.refl _ | refine Ext.alloc ?_ _ | refine Ext.drew ?_ | refine Ext.setB ?_ (by first | omega | (simp only [size_alloc, size_setB, size_drew]; omega)) _ | exact Ext.trans (by assumption) (by assumption) | refine Ext.trans ?_ (by assumption))) (by omega)
      have hC17 := hT17.hb
      have hl17 := hT17.len
      have hz17 := hT17.keep.sz
      have hb417 := hT17.other (Hb.mk (Hb.h (by repeat (first | assumption | exact Hb.newY _ _ | refine Hb.alloc ?_ | refine Hb.drew ?_ | refine Hb.ext (by assumption) ?_ | exact Hb.setSameL (by first | omega | (simp only [size_alloc, size_setB, size_drew]; omega)) | exact Hb.setSame (by assumption) | refine Hb.set (by first | omega | (simp only [size_alloc, size_setB, size_drew]; omega)) ?_ ))) : Hb _ b4 (.cells (ic .u8 (List.replicate 20 0)) 25 (0, 0))) (by omega)
      refine WO_nil ?_
      refine inBlk_normal ?_
      refine thn_normal ?_
      exact ⟨1, L17, ⟨rfl, rfl, rfl, trivial⟩, by omega, by omega, ⟨by omega, hT17.ty hL3⟩, hE17, by omega, hb417, hC17⟩
    · have hb2p := hb2.h; try simp only [al_ete, al_dfn, Bool.not_eq_true', Bool.not_eq_false', al_ne, Bool.not_not, al_nn] at hb2p
      refine W_seq ?_
      refine W_region rfl ?_
      refine WO_p (PS_move_int rfl) ?_
      refine WO_p (PS_lss rfl rfl) ?_
      refine WO_p (PS_assign_bool rfl) ?_
      refine WO_nil ?_
      refine thn_normal ?_
      refine W_if rfl (fun hb4 => ?_) (fun hb4 => ?_)
      · have hb4p := hb4.h; try simp only [al_ete, al_dfn, Bool.not_eq_true', Bool.not_eq_false', al_ne, Bool.not_not, al_nn] at hb4p
        refine W_region rfl ?_
        refine WO_p (PS_move_int rfl) ?_
        first | refine WO_p (PS_conv_u8n Hvad.runUnderlying26 Hvad.runUnderlying5 rfl (by omega) (by omega)) ?_ | refine WO_p (PS_conv_u8w Hvad.runUnderlying26 Hvad.runUnderlying5 rfl) ?_
        refine WO_p (PS_indexA Hvad.runUnderlying27 Hvad.sizeOf5 rfl rfl (by omega) (by omega)) ?_
        refine WO_storeB Hvad.sizeOf5 rfl rfl (Hb.mk (Hb.h (by repeat (first | assumption | exact Hb.newY _ _ | refine Hb.alloc ?_ | refine Hb.drew ?_ | refine Hb.ext (by assumption) ?_ | exact Hb.setSameL (by first | omega | (simp only [size_alloc, size_setB, size_drew]; omega)) | exact Hb.setSame (by assumption) | refine Hb.set (by first | omega | (simp only [size_alloc, size_setB, size_drew]; omega)) ?_ ))) : Hb _ b5 (.cells (ic .u8 L3) 27 (0, 0))) (by omega) (by omega) ?_
        intro w19 L19 hT19
        have hE19 : Ext w w19 := hT19.ext (by repeat (first | assumption | exact Ext.refl _ | refine Ext.alloc ?_ _ | refine Ext.drew ?_ | refine Ext.setB ?_ (by first | omega | (simp only [size_alloc, size_setB, size_drew]; omega)) _ | exact Ext.trans (by assumption) (by assumption) | refine Ext.trans ?_ (by assumption))) (by omega)
        have hC19 := hT19.hb
        have hl19 := hT19.len
        have hz19 := hT19.keep.sz
        have hb419 := hT19.other (Hb.mk (Hb.h (by repeat (first | assumption | exact Hb.newY _ _ | refine Hb.alloc ?_ | refine Hb.drew ?_ | refine Hb.ext (by assumption) ?_ | exact Hb.setSameL (by first | omega | (simp only [size_alloc, size_setB, size_drew]; omega)) | exact Hb.setSame (by assumption) | refine Hb.set (by first | omega | (simp only [size_alloc, size_setB, size_drew]; omega)) ?_ ))) : Hb _ b4 (.cells (ic .u8 (List.replicate 20 0)) 25 (0, 0))) (by omega)
        refine WO_nil ?_
        refine inBlk_normal ?_
        refine thn_normal ?_
        exact ⟨1, L19, ⟨rfl, rfl, rfl, trivial⟩, by omega, by omega, ⟨by omega, hT19.ty hL3⟩, hE19, by omega, hb419, hC19⟩
      · have hb4p := hb4.h; try simp only [al_ete, al_dfn, Bool.not_eq_true', Bool.not_eq_false', al_ne, Bool.not_not, al_nn] at hb4p
        refine W_seq ?_
        refine W_region rfl ?_
        refine WO_p (PS_assign_int rfl) ?_
        refine WO_nil ?_
        refine thn_normal ?_
        refine W_seq ?_
        refine W_seq ?_
        refine W_region rfl ?_
        refine WO_p (PS_move_int rfl) ?_
        refine WO_p (PS_assign_int rfl) ?_
        refine WO_nil ?_
        refine thn_normal ?_
        refine W_block ?_
        refine W_loopN (fun k ρ w' => ∃ (d : Nat) (x : Int), d + k = 8 ∧ 0 ≤ x ∧ x < 256 ^ k ∧ Fr [(1, .int .u64 n), (4, .pointer (some ⟨b4, 0, none⟩)), (5, .pointer (some ⟨b5, 0, none⟩)), (6, .int .i64 1), (7, .int .i64 d), (8, .int .u64 x)] ρ ∧ w' = w3) 8 ?_ ?_
        · exact ⟨0, n, rfl, hn.1, by have := hn.2; omega, ⟨rfl, rfl, rfl, rfl, rfl, rfl, trivial⟩, rfl⟩
        intro k ρ w1 hI
        obtain ⟨d, x, hdk, hx0, hx1, hFr, rfl⟩ := hI
        refine W_env _ hFr ?_
        refine W_seq ?_
        refine W_seq ?_
        refine W_region rfl ?_
        refine WO_p (PS_move_int rfl) ?_
        refine WO_p (PS_gtr rfl rfl) ?_
        refine WO_nil ?_
        refine thn_normal ?_
        refine W_if rfl (fun hb6 => ?_) (fun hb6 => ?_)
        · have hb6p := hb6.h; try simp only [al_ete, al_dfn, Bool.not_eq_true', Bool.not_eq_false', al_ne, Bool.not_not, al_nn] at hb6p
          obtain ⟨j, hj1, hj2⟩ := pow_step (x := x) (k := k) (by omega) hx1
          refine W_skip ?_
          refine thn_normal ?_
          refine W_seq ?_
          refine W_block ?_
          refine W_region rfl ?_
          refine WO_p (PS_move_int rfl) ?_
          first | refine WO_p (PS_add_i64n rfl rfl (by omega) (by omega)) ?_ | refine WO_p (PS_add_i64w rfl rfl) ?_
          refine WO_p (PS_assign_int rfl) ?_
          refine WO_nil ?_
          refine inBlk_normal ?_
          refine thn_normal ?_
          refine W_region rfl ?_
          refine WO_p (PS_move_int rfl) ?_
          refine WO_p (PS_shr_u64 8 rfl rfl (by decide) rfl) ?_
          refine WO_p (PS_assign_int rfl) ?_
          refine WO_nil ?_
          refine thn_normal ?_
          exact ⟨j, by omega, d + 1, x / 2 ^ 8, by omega, by omega, hj2, ⟨rfl, rfl, rfl, rfl, congrArg (Value.int .i64) (by omega), rfl, trivial⟩, rfl⟩
        · have hb6p := hb6.h; try simp only [al_ete, al_dfn, Bool.not_eq_true', Bool.not_eq_false', al_ne, Bool.not_not, al_nn] at hb6p
          refine W_exit ?_
          refine thn_exit ?_
          refine thn_exit ?_
          refine inBlk_exit ?_
          refine thn_normal ?_
          refine W_seq ?_
          have hd8 : d ≤ 8 := by omega
          refine W_region rfl ?_
          refine WO_p (PS_move_int rfl) ?_
          first | refine WO_p (PS_conv_u8n Hvad.runUnderlying3 Hvad.runUnderlying5 rfl (by omega) (by omega)) ?_ | refine WO_p (PS_conv_u8w Hvad.runUnderlying3 Hvad.runUnderlying5 rfl) ?_
          first | refine WO_p (PS_add_u8n rfl rfl (by omega) (by omega)) ?_ | refine WO_p (PS_add_u8w rfl rfl) ?_
          refine WO_p (PS_indexA Hvad.runUnderlying27 Hvad.sizeOf5 rfl rfl (by omega) (by omega)) ?_
          refine WO_storeB Hvad.sizeOf5 rfl rfl (Hb.mk (Hb.h (by repeat (first | assumption | exact Hb.newY _ _ | refine Hb.alloc ?_ | refine Hb.drew ?_ | refine Hb.ext (by assumption) ?_ | exact Hb.setSameL (by first | omega | (simp only [size_alloc, size_setB, size_drew]; omega)) | exact Hb.setSame (by assumption) | refine Hb.set (by first | omega | (simp only [size_alloc, size_setB, size_drew]; omega)) ?_ ))) : Hb _ b5 (.cells (ic .u8 L3) 27 (0, 0))) (by omega) (by omega) ?_
          intro w10 L10 hT10
          have hE10 : Ext w w10 := hT10.ext (by repeat (first | assumption | exact Ext.refl _ | refine Ext.alloc ?_ _ | refine Ext.drew ?_ | refine Ext.setB ?_ (by first | omega | (simp only [size_alloc, size_setB, size_drew]; omega)) _ | exact Ext.trans (by assumption) (by assumption) | refine Ext.trans ?_ (by assumption))) (by omega)
          have hC10 := hT10.hb
          have hl10 := hT10.len
          have hz10 := hT10.keep.sz
          have hb410 := hT10.other (Hb.mk (Hb.h (by repeat (first | assumption | exact Hb.newY _ _ | refine Hb.alloc ?_ | refine Hb.drew ?_ | refine Hb.ext (by assumption) ?_ | exact Hb.setSameL (by first | omega | (simp only [size_alloc, size_setB, size_drew]; omega)) | exact Hb.setSame (by assumption) | refine Hb.set (by first | omega | (simp only [size_alloc, size_setB, size_drew]; omega)) ?_ ))) : Hb _ b4 (.cells (ic .u8 (List.replicate 20 0)) 25 (0, 0))) (by omega)
          refine WO_nil ?_
          refine thn_normal ?_
          refine W_seq ?_
          refine W_seq ?_
          refine W_region rfl ?_
          refine WO_p (PS_assign_int rfl) ?_
          refine WO_nil ?_
          refine thn_normal ?_
          refine W_block ?_
          refine W_loopN (fun k ρ w' => ∃ (i : Nat) (L6 : List Int), i + k = d ∧ By L6 32 ∧ Fr [(1, .int .u64 n), (4, .pointer (some ⟨b4, 0, none⟩)), (5, .pointer (some ⟨b5, 0, none⟩)), (6, .int .i64 1), (7, .int .i64 d), (9, .int .i64 i)] ρ ∧ Ext w w' ∧ w10.heap.size ≤ w'.heap.size ∧ Hb w' b4 (.cells (ic .u8 (List.replicate 20 0)) 25 (0, 0)) ∧ Hb w' b5 (.cells (ic .u8 L6) 27 (0, 0))) d ?_ ?_
          · exact ⟨0, L10, by omega, ⟨by omega, hT10.ty hL3⟩, ⟨rfl, rfl, rfl, rfl, rfl, rfl, trivial⟩, hE10, Nat.le_refl _, hb410, hC10⟩
          intro k2 ρ2 w6 hI6
          obtain ⟨i, L6, hik, hL6, hFr6, hE6, hz6, hb46, hb56⟩ := hI6
          refine W_env _ hFr6 ?_
          have hz6' := hE6.1
          have hl6 := hL6.1
          refine W_seq ?_
          refine W_seq ?_
          refine W_region rfl ?_
          refine WO_p (PS_move_int rfl) ?_
          refine WO_p (PS_move_int rfl) ?_
          refine WO_p (PS_lss rfl rfl) ?_
          refine WO_nil ?_
          refine thn_normal ?_
          refine W_if rfl (fun hb8 => ?_) (fun hb8 => ?_)
          · have hb8p := hb8.h; try simp only [al_ete, al_dfn, Bool.not_eq_true', Bool.not_eq_false', al_ne, Bool.not_not, al_nn] at hb8p
            refine W_skip ?_
            refine thn_normal ?_
            refine W_seq ?_
            refine W_block ?_
            refine W_region rfl ?_
            refine WO_p (PS_move_int rfl) ?_
            first | refine WO_p (PS_add_i64n rfl rfl (by omega) (by omega)) ?_ | refine WO_p (PS_add_i64w rfl rfl) ?_
            refine WO_p (PS_move_int rfl) ?_
            refine WO_p (PS_move_int rfl) ?_
            first | refine WO_p (PS_sub_i64n rfl rfl (by omega) (by omega)) ?_ | refine WO_p (PS_sub_i64w rfl rfl) ?_
            refine WO_p (PS_move_int rfl) ?_
            first | refine WO_p (PS_sub_i64n rfl rfl (by omega) (by omega)) ?_ | refine WO_p (PS_sub_i64w rfl rfl) ?_
            first | refine WO_p (PS_mul_i64n rfl rfl (by omega) (by omega)) ?_ | refine WO_p (PS_mul_i64w rfl rfl) ?_
            refine WO_p (PS_shr_u64 _ rfl rfl (by omega) rfl) ?_
            first | refine WO_p (PS_conv_u8n Hvad.runUnderlying26 Hvad.runUnderlying5 rfl (by omega) (by omega)) ?_ | refine WO_p (PS_conv_u8w Hvad.runUnderlying26 Hvad.runUnderlying5 rfl) ?_
            refine WO_p (PS_indexA Hvad.runUnderlying27 Hvad.sizeOf5 rfl rfl (by omega) (by omega)) ?_
            refine WO_storeB Hvad.sizeOf5 rfl rfl (Hb.mk (Hb.h (by repeat (first | assumption | exact Hb.newY _ _ | refine Hb.alloc ?_ | refine Hb.drew ?_ | refine Hb.ext (by assumption) ?_ | exact Hb.setSameL (by first | omega | (simp only [size_alloc, size_setB, size_drew]; omega)) | exact Hb.setSame (by assumption) | refine Hb.set (by first | omega | (simp only [size_alloc, size_setB, size_drew]; omega)) ?_ ))) : Hb _ b5 (.cells (ic .u8 L6) 27 (0, 0))) (by omega) (by omega) ?_
            intro w14 L14 hT14
            have hE14 : Ext w w14 := hT14.ext (by repeat (first | assumption | exact Ext.refl _ | refine Ext.alloc ?_ _ | refine Ext.drew ?_ | refine Ext.setB ?_ (by first | omega | (simp only [size_alloc, size_setB, size_drew]; omega)) _ | exact Ext.trans (by assumption) (by assumption) | refine Ext.trans ?_ (by assumption))) (by omega)
            have hC14 := hT14.hb
            have hl14 := hT14.len
            have hz14 := hT14.keep.sz
            have hb414 := hT14.other (Hb.mk (Hb.h (by repeat (first | assumption | exact Hb.newY _ _ | refine Hb.alloc ?_ | refine Hb.drew ?_ | refine Hb.ext (by assumption) ?_ | exact Hb.setSameL (by first | omega | (simp only [size_alloc, size_setB, size_drew]; omega)) | exact Hb.setSame (by assumption) | refine Hb.set (by first | omega | (simp only [size_alloc, size_setB, size_drew]; omega)) ?_ ))) : Hb _ b4 (.cells (ic .u8 (List.replicate 20 0)) 25 (0, 0))) (by omega)
            refine WO_nil ?_
            refine inBlk_normal ?_
            refine thn_normal ?_
            refine W_region rfl ?_
            refine WO_p (PS_move_int rfl) ?_
            first | refine WO_p (PS_add_i64n rfl rfl (by omega) (by omega)) ?_ | refine WO_p (PS_add_i64w rfl rfl) ?_
            refine WO_p (PS_assign_int rfl) ?_
            refine WO_nil ?_
            refine thn_normal ?_
            exact ⟨k2 - 1, by omega, i + 1, _, by omega, ⟨by omega, hT14.ty hL6.2⟩, ⟨rfl, rfl, rfl, rfl, rfl, congrArg (Value.int .i64) (by omega), trivial⟩, hE14, by omega, hb414, hC14⟩
          · have hb8p := hb8.h; try simp only [al_ete, al_dfn, Bool.not_eq_true', Bool.not_eq_false', al_ne, Bool.not_not, al_nn] at hb8p
            refine W_exit ?_
            refine thn_exit ?_
            refine thn_exit ?_
            refine inBlk_exit ?_
            refine thn_normal ?_
            refine W_region rfl ?_
            refine WO_p (PS_move_int rfl) ?_
            refine WO_p (PS_move_int rfl) ?_
            first | refine WO_p (PS_add_i64n rfl rfl (by omega) (by omega)) ?_ | refine WO_p (PS_add_i64w rfl rfl) ?_
            refine WO_p (PS_assign_int rfl) ?_
            refine WO_nil ?_
            refine inBlk_normal ?_
            refine thn_normal ?_
            exact ⟨_, L6, ⟨rfl, rfl, rfl, trivial⟩, by omega, by omega, hL6, (by repeat (first | assumption | exact Ext.refl _ | refine Ext.alloc ?_ _ | refine Ext.drew ?_ | refine Ext.setB ?_ (by first | omega | (simp only [size_alloc, size_setB, size_drew]; omega)) _ | exact Ext.trans (by assumption) (by assumption) | refine Ext.trans ?_ (by assumption))), by omega, Hb.mk (Hb.h (by repeat (first | assumption | exact Hb.newY _ _ | refine Hb.alloc ?_ | refine Hb.drew ?_ | refine Hb.ext (by assumption) ?_ | exact Hb.setSameL (by first | omega | (simp only [size_alloc, size_setB, size_drew]; omega)) | exact Hb.setSame (by assumption) | refine Hb.set (by first | omega | (simp only [size_alloc, size_setB, size_drew]; omega)) ?_ ))), Hb.mk (Hb.h (by repeat (first | assumption | exact Hb.newY _ _ | refine Hb.alloc ?_ | refine Hb.drew ?_ | refine Hb.ext (by assumption) ?_ | exact Hb.setSameL (by first | omega | (simp only [size_alloc, size_setB, size_drew]; omega)) | exact Hb.setSame (by assumption) | refine Hb.set (by first | omega | (simp only [size_alloc, size_setB, size_drew]; omega)) ?_ )))⟩
  · rintro ρ w20 ⟨q, L20, hFr, hq1, hq9, hL20, hE20, hz20, hb420, hb520⟩
    refine W_env _ hFr ?_
    have hl20 := hL20.1
    have hz20' := hE20.1
    refine W_seq ?_
    refine W_region rfl ?_
    refine WO_p (PS_move_int rfl) ?_
    first | refine WO_p (PS_add_i64n rfl rfl (by omega) (by omega)) ?_ | refine WO_p (PS_add_i64w rfl rfl) ?_
    first | refine WO_p (PS_conv_u8n Hvad.runUnderlying3 Hvad.runUnderlying5 rfl (by omega) (by omega)) ?_ | refine WO_p (PS_conv_u8w Hvad.runUnderlying3 Hvad.runUnderlying5 rfl) ?_
    first | refine WO_p (PS_add_u8n rfl rfl (by omega) (by omega)) ?_ | refine WO_p (PS_add_u8w rfl rfl) ?_
    refine WO_p (PS_indexA Hvad.runUnderlying27 Hvad.sizeOf5 rfl rfl (by omega) (by omega)) ?_
    refine WO_storeB Hvad.sizeOf5 rfl rfl (Hb.mk (Hb.h (by repeat (first | assumption | exact Hb.newY _ _ | refine Hb.alloc ?_ | refine Hb.drew ?_ | refine Hb.ext (by assumption) ?_ | exact Hb.setSameL (by first | omega | (simp only [size_alloc, size_setB, size_drew]; omega)) | exact Hb.setSame (by assumption) | refine Hb.set (by first | omega | (simp only [size_alloc, size_setB, size_drew]; omega)) ?_ ))) : Hb _ b5 (.cells (ic .u8 L20) 27 (0, 0))) (by omega) (by omega) ?_
    intro w21 L21 hT21
    have hE21 : Ext w w21 := hT21.ext (by repeat (first | assumption | exact Ext.refl _ | refine Ext.alloc ?_ _ | refine Ext.drew ?_ | refine Ext.setB ?_ (by first | omega | (simp only [size_alloc, size_setB, size_drew]; omega)) _ | exact Ext.trans (by assumption) (by assumption) | refine Ext.trans ?_ (by assumption))) (by omega)
    have hC21 := hT21.hb
    have hl21 := hT21.len
    have hz21 := hT21.keep.sz
    have hb421 := hT21.other (Hb.mk (Hb.h (by repeat (first | assumption | exact Hb.newY _ _ | refine Hb.alloc ?_ | refine Hb.drew ?_ | refine Hb.ext (by assumption) ?_ | exact Hb.setSameL (by first | omega | (simp only [size_alloc, size_setB, size_drew]; omega)) | exact Hb.setSame (by assumption) | refine Hb.set (by first | omega | (simp only [size_alloc, size_setB, size_drew]; omega)) ?_ ))) : Hb _ b4 (.cells (ic .u8 (List.replicate 20 0)) 25 (0, 0))) (by omega)
    have hL21 : By8 L21 := hT21.ty hL20.2
    refine WO_nil ?_
    refine thn_normal ?_
    refine W_seq ?_
    refine W_region rfl ?_
    refine WO_p (PS_move_int rfl) ?_
    first | refine WO_p (PS_add_i64n rfl rfl (by omega) (by omega)) ?_ | refine WO_p (PS_add_i64w rfl rfl) ?_
    refine WO_p (PS_slA_h Hvad.runUnderlying27 Hvad.sizeOf5 rfl rfl (by omega) (by omega) (by omega)) ?_
    refine WO_call Hvad.call69 (by rfl) (Ret.mono (sum_spec (some ⟨b5, 0, none⟩, (22 + q).toNat, 32) ((L21.drop 0).take (22 + q).toNat) _ (SC.of (Hb.mk (Hb.h (by repeat (first | assumption | exact Hb.newY _ _ | refine Hb.alloc ?_ | refine Hb.drew ?_ | refine Hb.ext (by assumption) ?_ | exact Hb.setSameL (by first | omega | (simp only [size_alloc, size_setB, size_drew]; omega)) | exact Hb.setSame (by assumption) | refine Hb.set (by first | omega | (simp only [size_alloc, size_setB, size_drew]; omega)) ?_ ))) : Hb _ b5 (.cells (ic .u8 L21) 27 (0, 0))) (by omega)) (fun z hz => (hL21 z (List.mem_of_mem_drop (List.mem_of_mem_take hz)))) (by show (22 + q).toNat ≤ 32; omega) (by show (22 + q).toNat ≤ 1000000; omega)) ?_)
    rintro _ w7 ⟨hE7, R, rfl, hR⟩
    have hz7 := hE7.1
    try simp only [size_alloc, size_setB, size_drew] at hz7
    have hRl := hR.1
    have hxt := Xt.ic .u8 R 12 20 (by omega)
    have hdl2 : ((R.drop 12).take 20).length = 20 := by simp [hRl]
    have hby : By ((R.drop 12).take 20) 20 := ⟨hdl2, fun z hz => hR.2 z (List.mem_of_mem_drop (List.mem_of_mem_take hz))⟩
    generalize (R.drop 12).take 20 = AD at *
    refine WO_allocG Hvad.zeroValue27 ?_
    intro b10 v10 hg10 hE10 hH10 hl10
    try simp only [size_alloc, size_setB, size_drew] at hg10
    have hzz10 := hE10.1
    try simp only [size_alloc, size_setB, size_drew] at hzz10
    replace hH10 : Hb v10 b10 (.cells (ic .u8 (List.replicate 32 0)) 27 (0, 0)) := hH10
    first | refine WO_storeW Hvad.sizeOf27 rfl (v := .agg _) rfl (Hb.h (by repeat (first | assumption | exact Hb.newY _ _ | refine Hb.alloc ?_ | refine Hb.drew ?_ | refine Hb.ext (by assumption) ?_ | exact Hb.setSameL (by first | omega | (simp only [size_alloc, size_setB, size_drew]; omega)) | exact Hb.setSame (by assumption) | refine Hb.set (by first | omega | (simp only [size_alloc, size_setB, size_drew]; omega)) ?_ ))) rfl (by first | omega | assumption | rfl | decide | exact Nat.le_refl _ | (simp only [size_ic, Value.cells]; omega) | simp) (by first | omega | assumption | rfl | decide | exact Nat.le_refl _ | (simp only [size_ic, Value.cells]; omega) | simp) (by first | exact oneCell_ic | assumption) ?_ | refine WO_store Hvad.sizeOf27 rfl (v := .agg _) rfl (Hb.h (by repeat (first | assumption | exact Hb.newY _ _ | refine Hb.alloc ?_ | refine Hb.drew ?_ | refine Hb.ext (by assumption) ?_ | exact Hb.setSameL (by first | omega | (simp only [size_alloc, size_setB, size_drew]; omega)) | exact Hb.setSame (by assumption) | refine Hb.set (by first | omega | (simp only [size_alloc, size_setB, size_drew]; omega)) ?_ ))) (by first | omega | assumption | rfl | decide | exact Nat.le_refl _ | (simp only [size_ic, Value.cells]; omega) | simp) (by first | omega | assumption | rfl | decide | exact Nat.le_refl _ | (simp only [size_ic, Value.cells]; omega) | simp) (by first | exact oneCell_ic | assumption) ?_
    refine WO_nil ?_
    refine thn_normal ?_
    refine W_seq ?_
    refine W_region rfl ?_
    refine WO_p (PS_slA_lh Hvad.runUnderlying27 Hvad.sizeOf5 rfl rfl rfl (by omega) (by omega) (by omega) (by omega) (by omega)) ?_
    refine WO_p (PS_arrayAt Hvad.runUnderlying25 rfl (by omega)) ?_
    refine WO_loadA _ Hvad.isAgg25 Hvad.sizeOf25 rfl (Hb.h (by repeat (first | assumption | exact Hb.newY _ _ | refine Hb.alloc ?_ | refine Hb.drew ?_ | refine Hb.ext (by assumption) ?_ | exact Hb.setSameL (by first | omega | (simp only [size_alloc, size_setB, size_drew]; omega)) | exact Hb.setSame (by assumption) | refine Hb.set (by first | omega | (simp only [size_alloc, size_setB, size_drew]; omega)) ?_ ))) (by first | omega | assumption | rfl | decide | exact Nat.le_refl _ | (simp only [size_ic, Value.cells]; omega) | simp) (Xt.h (by first | assumption | exact Xt.whole rfl rfl | exact Xt.whole rfl (by simp only [size_ic, Value.cells]; omega) | exact ⟨rfl⟩)) ?_
    first | refine WO_storeW Hvad.sizeOf25 rfl (v := .agg _) rfl (Hb.h (by repeat (first | assumption | exact Hb.newY _ _ | refine Hb.alloc ?_ | refine Hb.drew ?_ | refine Hb.ext (by assumption) ?_ | exact Hb.setSameL (by first | omega | (simp only [size_alloc, size_setB, size_drew]; omega)) | exact Hb.setSame (by assumption) | refine Hb.set (by first | omega | (simp only [size_alloc, size_setB, size_drew]; omega)) ?_ ))) rfl (by first | omega | assumption | rfl | decide | exact Nat.le_refl _ | (simp only [size_ic, Value.cells]; omega) | simp) (by first | omega | assumption | rfl | decide | exact Nat.le_refl _ | (simp only [size_ic, Value.cells]; omega) | simp) (by first | exact oneCell_ic | assumption) ?_ | refine WO_store Hvad.sizeOf25 rfl (v := .agg _) rfl (Hb.h (by repeat (first | assumption | exact Hb.newY _ _ | refine Hb.alloc ?_ | refine Hb.drew ?_ | refine Hb.ext (by assumption) ?_ | exact Hb.setSameL (by first | omega | (simp only [size_alloc, size_setB, size_drew]; omega)) | exact Hb.setSame (by assumption) | refine Hb.set (by first | omega | (simp only [size_alloc, size_setB, size_drew]; omega)) ?_ ))) (by first | omega | assumption | rfl | decide | exact Nat.le_refl _ | (simp only [size_ic, Value.cells]; omega) | simp) (by first | omega | assumption | rfl | decide | exact Nat.le_refl _ | (simp only [size_ic, Value.cells]; omega) | simp) (by first | exact oneCell_ic | assumption) ?_
    refine WO_nil ?_
    refine thn_normal ?_
    refine W_ret ?_
    refine bodyQ_cell1 Hvad.results30 rfl Hvad.isAgg25 Hvad.sizeOf25 rfl (Hb.h (by repeat (first | assumption | exact Hb.newY _ _ | refine Hb.alloc ?_ | refine Hb.drew ?_ | refine Hb.ext (by assumption) ?_ | exact Hb.setSameL (by first | omega | (simp only [size_alloc, size_setB, size_drew]; omega)) | exact Hb.setSame (by assumption) | refine Hb.set (by first | omega | (simp only [size_alloc, size_setB, size_drew]; omega)) ?_ ))) (by first | omega | assumption | rfl | decide | exact Nat.le_refl _ | (simp only [size_ic, Value.cells]; omega) | simp) ?_
    exact ⟨(by repeat (first | assumption | exact Ext.refl _ | refine Ext.alloc ?_ _ | refine Ext.drew ?_ | refine Ext.setB ?_ (by first | omega | (simp only [size_alloc, size_setB, size_drew]; omega)) _ | refine Ext.trans ?_ (by assumption))), AD, rfl, hby⟩

end Go.Proofs.YgvadwGreat
