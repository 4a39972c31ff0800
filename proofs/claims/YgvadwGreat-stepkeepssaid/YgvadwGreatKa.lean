import Derived.Test.YgvadwGreatMv
import Derived.Test.YgvadwGreatUi
namespace Go.Proofs.YgvadwGreat
set_option linter.unusedSimpArgs false
set_option linter.unusedVariables false
/-! keccak, in shape -/
theorem bAnd_63 {x : Int} (h0 : 0 ≤ x) (h1 : x ≤ 63) : bAnd x 63 = x := by
  rw [bAnd_nat h0 (by omega) (by decide) (by decide)]
  have e : x.toNat &&& (63 : Int).toNat = x.toNat % 64 := Nat.and_two_pow_sub_one_eq_mod x.toNat 6
  rw [e]; omega
def FU : List Nat → (Nat → Value) → Prop
  | [], _ => True
  | t :: ts, ρ => (∃ x : Int, ρ t = .int .u64 x ∧ (0 ≤ x ∧ x ≤ 18446744073709551615)) ∧ FU ts ρ
def CutU : List Nat → List (Nat × Value) → (List (Nat × Value) → Prop) → Prop
  | [], l, K => K l
  | t :: ts, l, K => ∀ x : Int, (0 ≤ x ∧ x ≤ 18446744073709551615) → CutU ts ((t, .int .u64 x) :: l) K
theorem W_cutU {P : Program} {n : Nat} {c : Code} {Q : Post} {w : World} {ρ : Nat → Value} (ts : List Nat) (l : List (Nat × Value)) (h : Fr l ρ) (hu : FU ts ρ) (hw : CutU ts l (fun l' => ∀ ρ', Fr l' ρ' → W P n c Q ρ' w)) : W P n c Q ρ w := by
  induction ts generalizing l with
  | nil => exact hw ρ h
  | cons t ts ih =>
    obtain ⟨⟨x, hx, hb⟩, hu⟩ := hu
    exact ih ((t, .int .u64 x) :: l) ⟨hx, h⟩ hu (hw x hb)
theorem ic_setA (k : IntKind) (l : List Int) (i : Nat) (y : Int) : (ic k l).setIfInBounds i (.int k y) = ic k (l.set i y) := by
  have := ic_set k l i y
  rwa [show 0 + i * 1 = i by omega] at this
structure UT (b : Nat) (T : TypeId) (L : List Int) (w w' : World) (L' : List Int) : Prop where
  len : L'.length = L.length
  ty : UL L → UL L'
  hb : Hb w' b (.cells (ic .u64 L') T (0, 0))
  keep : KeepO (fun x => x = b) w w'
theorem UT.refl {b : Nat} {T : TypeId} {L : List Int} {w : World} (h : Hb w b (.cells (ic .u64 L) T (0, 0))) : UT b T L w w L := ⟨rfl, fun h => h, h, KeepO.refl _ _⟩
theorem UT.trans {b : Nat} {T : TypeId} {L L1 L2 : List Int} {w w1 w2 : World} (h : UT b T L w w1 L1) (h' : UT b T L1 w1 w2 L2) : UT b T L w w2 L2 :=
  ⟨h'.len.trans h.len, fun hl => h'.ty (h.ty hl), h'.hb, h.keep.trans h'.keep fun _ _ e => e⟩
theorem UT.ext {b : Nat} {T : TypeId} {L L1 : List Int} {w w1 w2 : World} (h : UT b T L w w1 L1) (he : Ext w1 w2) : UT b T L w w2 L1 := ⟨h.len, h.ty, h.hb.ext he, h.keep.extR he⟩
theorem UT.pre {b : Nat} {T : TypeId} {L L1 : List Int} {w w1 w2 : World} (he : Ext w w1) (h : UT b T L w1 w2 L1) : UT b T L w w2 L1 := ⟨h.len, h.ty, h.hb, (he.keepO _).trans h.keep fun _ _ e => e⟩
theorem UT.set {b i : Nat} {T : TypeId} {L : List Int} {w : World} {y : Int} (h : Hb w b (.cells (ic .u64 L) T (0, 0))) (hy : 0 ≤ y ∧ y ≤ 18446744073709551615) : UT b T L w (setB w b (.cells ((ic .u64 L).setIfInBounds i (.int .u64 y)) T (0, 0))) (L.set i y) := by
  rw [ic_setA]
  exact ⟨by simp, fun hl => hl.set _ hy, Hb.setSame h, (KeepO.refl (fun x => x = b) w).setB (fun _ => rfl) _⟩
section
variable {P : Program} {ρ : Nat → Value} {w : World} {ops : Array Oper} {Q : Post} {os : List Oper} {x y : Operand} {ty t e : TypeId}
theorem WO_storeU {b o : Nat} {T : TypeId} {L : List Int} {z : Int} {pos : _} {af : _} (hS : ∀ w, (Go.sizeOf t).run P w = .ok 1 w) (hx : ev ρ x = .pointer (some ⟨b, o, none⟩)) (hy : ev ρ y = .int .u64 z)
    (hb : Hb w b (.cells (ic .u64 L) T (0, 0))) (ho : o < L.length) (hz : 0 ≤ z ∧ z ≤ 18446744073709551615)
    (h : ∀ w' L', UT b T L w w' L' → WO P ops Q os ρ w') : WO P ops Q (⟨none, .store t x y, ty, pos, af, none⟩ :: os) ρ w :=
  WO_store1 hS hx hy hb.h rfl (by rw [size_ic]; exact ho) rfl (h _ _ (UT.set hb hz))
theorem WH_storeU {S : World → Prop} {os' : List (Oper × Bool)} {tg : Bool} {b o : Nat} {T : TypeId} {L : List Int} {z : Int} {pos : _} {af : _} (hS : ∀ w, (Go.sizeOf t).run P w = .ok 1 w) (hx : ev ρ x = .pointer (some ⟨b, o, none⟩)) (hy : ev ρ y = .int .u64 z)
    (hb : Hb w b (.cells (ic .u64 L) T (0, 0))) (ho : o < L.length) (hz : 0 ≤ z ∧ z ≤ 18446744073709551615)
    (h : ∀ w' L', UT b T L w w' L' → (tg = true → S w') ∧ WH P ops S Q os' ρ w') : WH P ops S Q ((⟨none, .store t x y, ty, pos, af, none⟩, tg) :: os') ρ w :=
  WH_store1 hS hx hy hb.h rfl (by rw [size_ic]; exact ho) rfl (h _ _ (UT.set hb hz)).1 (h _ _ (UT.set hb hz)).2
theorem WO_storeB {b o : Nat} {T : TypeId} {L : List Int} {z : Int} {pos : _} {af : _} (hS : ∀ w, (Go.sizeOf t).run P w = .ok 1 w) (hx : ev ρ x = .pointer (some ⟨b, o, none⟩)) (hy : ev ρ y = .int .u8 z)
    (hb : Hb w b (.cells (ic .u8 L) T (0, 0))) (ho : o < L.length) (hz : 0 ≤ z ∧ z ≤ 255)
    (h : ∀ w' L', BufT b T L w w' L' → WO P ops Q os ρ w') : WO P ops Q (⟨none, .store t x y, ty, pos, af, none⟩ :: os) ρ w :=
  WO_store1 hS hx hy hb.h rfl (by rw [size_ic]; exact ho) rfl (h _ (L.set o z) (by
    rw [ic_setA]
    exact ⟨by simp, fun hl => by
      intro x hx
      rcases List.mem_or_eq_of_mem_set hx with hx | hx
      · exact hl x hx
      · subst hx; exact hz, Hb.setSame hb, (KeepO.refl (fun x => x = b) w).setB (fun _ => rfl) _⟩))
end

set_option maxRecDepth 10000 in
theorem rotB_spec (x k : Int) (w : World) (hk : 0 ≤ k ∧ k ≤ 63) (hx : 0 ≤ x ∧ x ≤ 18446744073709551615) : Ret Hvad.prog 294 #[.int .u64 x, .int .i64 k] w fun u w' => Ext w w' ∧ ∃ r, u = .int .u64 r ∧ (0 ≤ r ∧ r ≤ 18446744073709551615) := by
  refine Ret_of_W Hvad.func294 rfl rfl ?_
  refine W_seq ?_
  refine W_region rfl ?_
  refine WO_p (PS_assign_int rfl) ?_
  refine WO_nil ?_
  refine thn_normal ?_
  refine W_seq ?_
  refine W_region rfl ?_
  refine WO_p (PS_move_int rfl) ?_
  refine WO_p (PS_conv_u64n Hvad.runUnderlying3 Hvad.runUnderlying158 rfl (by omega) (by omega)) ?_
  refine WO_p (PS_and_u64 rfl rfl) ?_
  refine WO_p (PS_assign_int rfl) ?_
  refine WO_nil ?_
  refine thn_normal ?_
  refine W_seq ?_
  rw [bAnd_63 hk.1 hk.2]
  refine W_region rfl ?_
  refine WO_p (PS_move_int rfl) ?_
  refine WO_p (PS_move_int rfl) ?_
  refine WO_p (PS_shl_u64 _ rfl rfl (by omega) rfl) ?_
  refine WO_p (PS_move_int rfl) ?_
  refine WO_p (PS_move_int rfl) ?_
  refine WO_p (PS_sub_u64n rfl rfl (by omega) (by omega)) ?_
  refine WO_p (PS_shr_u64 _ rfl rfl (by omega) rfl) ?_
  refine WO_p (PS_or_u64 rfl rfl) ?_
  refine WO_p (PS_assign_int rfl) ?_
  refine WO_nil ?_
  refine thn_normal ?_
  refine W_ret ?_
  refine bodyQ_ret1 Hvad.results294 rfl (.int _ _) rfl ?_
  exact ⟨(by repeat (first | assumption | exact Ext.refl _ | refine Ext.alloc ?_ _ | refine Ext.drew ?_ | refine Ext.setB ?_ (by first | omega | (simp only [size_alloc, size_setB, size_drew]; omega)) _ | refine Ext.trans ?_ (by assumption))), _, rfl, bOr_bd _ _⟩

set_option maxRecDepth 10000 in
theorem rot_spec (x k : Int) (w : World) (hk : 0 ≤ k ∧ k ≤ 63) (hx : 0 ≤ x ∧ x ≤ 18446744073709551615) : Ret Hvad.prog 284 #[.int .u64 x, .int .i64 k] w fun u w' => Ext w w' ∧ ∃ r, u = .int .u64 r ∧ (0 ≤ r ∧ r ≤ 18446744073709551615) := by
  refine Ret_of_W Hvad.func284 rfl rfl ?_
  refine W_seq ?_
  refine W_region rfl ?_
  refine WO_p (PS_assign_int rfl) ?_
  refine WO_nil ?_
  refine thn_normal ?_
  refine W_seq ?_
  refine W_region rfl ?_
  refine WO_p (PS_move_int rfl) ?_
  refine WO_p (PS_move_int rfl) ?_
  refine WO_call Hvad.call294 (by rfl) (Ret.mono (rotB_spec _ _ _ hk hx) ?_)
  rintro _ w294_0 ⟨hE294_0, r294_0, rfl, hr0⟩
  have hz294_0 := hE294_0.1
  try simp only [size_alloc, size_setB, size_drew] at hz294_0
  refine WO_p (PS_assign_int rfl) ?_
  refine WO_nil ?_
  refine thn_normal ?_
  refine W_ret ?_
  refine bodyQ_ret1 Hvad.results284 rfl (.int _ _) rfl ?_
  exact ⟨(by repeat (first | assumption | exact Ext.refl _ | refine Ext.alloc ?_ _ | refine Ext.drew ?_ | refine Ext.setB ?_ (by first | omega | (simp only [size_alloc, size_setB, size_drew]; omega)) _ | refine Ext.trans ?_ (by assumption))), _, rfl, hr0⟩

set_option maxRecDepth 10000 in
theorem rc_spec (i : Int) (w : World) (hi : 0 ≤ i ∧ i ≤ 255) : Ret Hvad.prog 267 #[.int .u8 i] w fun u w' => Ext w w' ∧ ∃ r, u = .int .u64 r := by
  refine Ret_of_W Hvad.func267 rfl rfl ?_
  refine W_seq ?_
  refine W_region rfl ?_
  refine WO_p (PS_assign_int rfl) ?_
  refine WO_nil ?_
  refine thn_normal ?_
  refine W_seq ?_
  refine W_seq ?_
  refine W_region rfl ?_
  refine WO_p (PS_move_int rfl) ?_
  refine WO_p (PS_geq rfl rfl) ?_
  refine WO_nil ?_
  refine thn_normal ?_
  refine W_if rfl (fun hb2 => ?_) (fun hb2 => ?_)
  · have hb2p := hb2.h; try simp only [al_ete, al_dfn, Bool.not_eq_true', Bool.not_eq_false', al_ne, Bool.not_not, al_nn] at hb2p
    refine W_seq ?_
    refine W_region rfl ?_
    refine WO_p (PS_assign_int rfl) ?_
    refine WO_nil ?_
    refine thn_normal ?_
    refine W_ret ?_
    refine thn_ret ?_
    refine bodyQ_ret1 Hvad.results267 rfl (.int _ _) rfl ?_
    exact ⟨(by repeat (first | assumption | exact Ext.refl _ | refine Ext.alloc ?_ _ | refine Ext.drew ?_ | refine Ext.setB ?_ (by first | omega | (simp only [size_alloc, size_setB, size_drew]; omega)) _ | refine Ext.trans ?_ (by assumption))), _, rfl⟩
  · have hb2p := hb2.h; try simp only [al_ete, al_dfn, Bool.not_eq_true', Bool.not_eq_false', al_ne, Bool.not_not, al_nn] at hb2p
    refine W_skip ?_
    refine thn_normal ?_
    refine W_seq ?_
    refine W_region rfl ?_
    refine WO_p (PS_buildI (k := .u64) (zs := [0, 0, 0, 0, 0, 0, 0, 0, 0, 0, 0, 0, 0, 0, 0, 0, 0, 0, 0, 0, 0, 0, 0, 0]) (ps := [(0, _), (1, _), (2, _), (3, _), (4, _), (5, _), (6, _), (7, _), (8, _), (9, _), (10, _), (11, _), (12, _), (13, _), (14, _), (15, _), (16, _), (17, _), (18, _), (19, _), (20, _), (21, _), (22, _), (23, _)]) (L := [_, _, _, _, _, _, _, _, _, _, _, _, _, _, _, _, _, _, _, _, _, _, _, _]) Hvad.zeroValue325 Hvad.runUnderlying325 Hvad.sizeOf26 rfl rfl rfl rfl) ?_
    refine WO_p (PS_move_int rfl) ?_
    refine WO_p (PS_indexV Hvad.runUnderlying325 Hvad.sizeOf26 Hvad.isAgg26 rfl rfl (by omega) (by omega) (List.getElem?_eq_getElem (by show i.toNat < 24; omega))) ?_
    refine WO_p (PS_assign_int rfl) ?_
    refine WO_nil ?_
    refine thn_normal ?_
    refine W_ret ?_
    refine bodyQ_ret1 Hvad.results267 rfl (.int _ _) rfl ?_
    exact ⟨(by repeat (first | assumption | exact Ext.refl _ | refine Ext.alloc ?_ _ | refine Ext.drew ?_ | refine Ext.setB ?_ (by first | omega | (simp only [size_alloc, size_setB, size_drew]; omega)) _ | refine Ext.trans ?_ (by assumption))), _, rfl⟩

set_option maxRecDepth 10000 in
theorem turned_spec (x : Int) (w : World) (hx : 0 ≤ x ∧ x ≤ 18446744073709551615) : Ret Hvad.prog 121 #[.int .u64 x] w fun u w' => Ext w w' ∧ ∃ r, u = .int .u64 r ∧ (0 ≤ r ∧ r ≤ 18446744073709551615) := by
  refine Ret_of_W Hvad.func121 rfl rfl ?_
  refine W_seq ?_
  refine W_region rfl ?_
  refine WO_p (PS_assign_int rfl) ?_
  refine WO_nil ?_
  refine thn_normal ?_
  refine W_seq ?_
  refine W_region rfl ?_
  refine WO_p (PS_move_int rfl) ?_
  refine WO_p (PS_shr_u64 8 rfl rfl (by decide) rfl) ?_
  refine WO_p (PS_and_u64 rfl rfl) ?_
  refine WO_p (PS_move_int rfl) ?_
  refine WO_p (PS_and_u64 rfl rfl) ?_
  refine WO_p (PS_shl_u64 8 rfl rfl (by decide) rfl) ?_
  refine WO_p (PS_or_u64 rfl rfl) ?_
  refine WO_p (PS_assign_int rfl) ?_
  refine WO_nil ?_
  refine thn_normal ?_
  refine W_seq ?_
  refine W_region rfl ?_
  refine WO_p (PS_move_int rfl) ?_
  refine WO_p (PS_shr_u64 16 rfl rfl (by decide) rfl) ?_
  refine WO_p (PS_and_u64 rfl rfl) ?_
  refine WO_p (PS_move_int rfl) ?_
  refine WO_p (PS_and_u64 rfl rfl) ?_
  refine WO_p (PS_shl_u64 16 rfl rfl (by decide) rfl) ?_
  refine WO_p (PS_or_u64 rfl rfl) ?_
  refine WO_p (PS_assign_int rfl) ?_
  refine WO_nil ?_
  refine thn_normal ?_
  refine W_seq ?_
  refine W_region rfl ?_
  refine WO_p (PS_move_int rfl) ?_
  refine WO_p (PS_shr_u64 32 rfl rfl (by decide) rfl) ?_
  refine WO_p (PS_move_int rfl) ?_
  refine WO_p (PS_shl_u64 32 rfl rfl (by decide) rfl) ?_
  refine WO_p (PS_or_u64 rfl rfl) ?_
  refine WO_p (PS_assign_int rfl) ?_
  refine WO_nil ?_
  refine thn_normal ?_
  refine W_ret ?_
  refine bodyQ_ret1 Hvad.results121 rfl (.int _ _) rfl ?_
  exact ⟨(by repeat (first | assumption | exact Ext.refl _ | refine Ext.alloc ?_ _ | refine Ext.drew ?_ | refine Ext.setB ?_ (by first | omega | (simp only [size_alloc, size_setB, size_drew]; omega)) _ | refine Ext.trans ?_ (by assumption))), _, rfl, bOr_bd _ _⟩

set_option maxRecDepth 10000 in
set_option maxHeartbeats 4000000 in
theorem round_spec (b : Nat) (T : TypeId) (L : List Int) (w : World) (hb : Hb w b (.cells (ic .u64 L) T (0, 0))) (hl : L.length = 25) : Ret Hvad.prog 266 #[.pointer (some ⟨b, 0, none⟩)] w fun u w' => u = .tuple #[] ∧ ∃ L', UT b T L w w' L' := by
  have hce0 : Ce (ic .u64 L) (0 + (0 : Int).toNat * 1) (.int .u64 (L.getD 0 0)) := ce_ic (by omega)
  have hce1 : Ce (ic .u64 L) (0 + (1 : Int).toNat * 1) (.int .u64 (L.getD 1 0)) := ce_ic (by omega)
  have hce2 : Ce (ic .u64 L) (0 + (2 : Int).toNat * 1) (.int .u64 (L.getD 2 0)) := ce_ic (by omega)
  have hce3 : Ce (ic .u64 L) (0 + (3 : Int).toNat * 1) (.int .u64 (L.getD 3 0)) := ce_ic (by omega)
  have hce4 : Ce (ic .u64 L) (0 + (4 : Int).toNat * 1) (.int .u64 (L.getD 4 0)) := ce_ic (by omega)
  have hce5 : Ce (ic .u64 L) (0 + (5 : Int).toNat * 1) (.int .u64 (L.getD 5 0)) := ce_ic (by omega)
  have hce6 : Ce (ic .u64 L) (0 + (6 : Int).toNat * 1) (.int .u64 (L.getD 6 0)) := ce_ic (by omega)
  have hce7 : Ce (ic .u64 L) (0 + (7 : Int).toNat * 1) (.int .u64 (L.getD 7 0)) := ce_ic (by omega)
  have hce8 : Ce (ic .u64 L) (0 + (8 : Int).toNat * 1) (.int .u64 (L.getD 8 0)) := ce_ic (by omega)
  have hce9 : Ce (ic .u64 L) (0 + (9 : Int).toNat * 1) (.int .u64 (L.getD 9 0)) := ce_ic (by omega)
  have hce10 : Ce (ic .u64 L) (0 + (10 : Int).toNat * 1) (.int .u64 (L.getD 10 0)) := ce_ic (by omega)
  have hce11 : Ce (ic .u64 L) (0 + (11 : Int).toNat * 1) (.int .u64 (L.getD 11 0)) := ce_ic (by omega)
  have hce12 : Ce (ic .u64 L) (0 + (12 : Int).toNat * 1) (.int .u64 (L.getD 12 0)) := ce_ic (by omega)
  have hce13 : Ce (ic .u64 L) (0 + (13 : Int).toNat * 1) (.int .u64 (L.getD 13 0)) := ce_ic (by omega)
  have hce14 : Ce (ic .u64 L) (0 + (14 : Int).toNat * 1) (.int .u64 (L.getD 14 0)) := ce_ic (by omega)
  have hce15 : Ce (ic .u64 L) (0 + (15 : Int).toNat * 1) (.int .u64 (L.getD 15 0)) := ce_ic (by omega)
  have hce16 : Ce (ic .u64 L) (0 + (16 : Int).toNat * 1) (.int .u64 (L.getD 16 0)) := ce_ic (by omega)
  have hce17 : Ce (ic .u64 L) (0 + (17 : Int).toNat * 1) (.int .u64 (L.getD 17 0)) := ce_ic (by omega)
  have hce18 : Ce (ic .u64 L) (0 + (18 : Int).toNat * 1) (.int .u64 (L.getD 18 0)) := ce_ic (by omega)
  have hce19 : Ce (ic .u64 L) (0 + (19 : Int).toNat * 1) (.int .u64 (L.getD 19 0)) := ce_ic (by omega)
  have hce20 : Ce (ic .u64 L) (0 + (20 : Int).toNat * 1) (.int .u64 (L.getD 20 0)) := ce_ic (by omega)
  have hce21 : Ce (ic .u64 L) (0 + (21 : Int).toNat * 1) (.int .u64 (L.getD 21 0)) := ce_ic (by omega)
  have hce22 : Ce (ic .u64 L) (0 + (22 : Int).toNat * 1) (.int .u64 (L.getD 22 0)) := ce_ic (by omega)
  have hce23 : Ce (ic .u64 L) (0 + (23 : Int).toNat * 1) (.int .u64 (L.getD 23 0)) := ce_ic (by omega)
  have hce24 : Ce (ic .u64 L) (0 + (24 : Int).toNat * 1) (.int .u64 (L.getD 24 0)) := ce_ic (by omega)
  refine Ret_of_W Hvad.func266 rfl rfl ?_
  refine W_seq ?_
  refine W_drawE [false, false, false, false, false, false, false, false, false, false, false, false, false, false, false, false, false, false, false, false, false, false, false, false, false] hmix (by kernel_rfl) rfl ?_
  refine WH_p (PS_move_ptr rfl) rfl ?_
  refine WH_p (PS_nilCheck rfl) rfl ?_
  refine WH_p (PS_indexA Hvad.runUnderlying195 Hvad.sizeOf26 rfl rfl (by omega) (by omega)) rfl ?_
  refine WH_load (.int _ _) Hvad.isAgg26 rfl (Hb.h (by repeat (first | assumption | exact Hb.newY _ _ | refine Hb.alloc ?_ | refine Hb.drew ?_ | refine Hb.ext (by assumption) ?_ | exact Hb.setSameL (by first | omega | (simp only [size_alloc, size_setB, size_drew]; omega)) | exact Hb.setSame (by assumption) | refine Hb.set (by first | omega | (simp only [size_alloc, size_setB, size_drew]; omega)) ?_ ))) (Ce.h (by first | assumption | exact ⟨rfl⟩)) ?_
  refine WH_p (PS_move_ptr rfl) rfl ?_
  refine WH_p (PS_nilCheck rfl) rfl ?_
  refine WH_p (PS_indexA Hvad.runUnderlying195 Hvad.sizeOf26 rfl rfl (by omega) (by omega)) rfl ?_
  refine WH_load (.int _ _) Hvad.isAgg26 rfl (Hb.h (by repeat (first | assumption | exact Hb.newY _ _ | refine Hb.alloc ?_ | refine Hb.drew ?_ | refine Hb.ext (by assumption) ?_ | exact Hb.setSameL (by first | omega | (simp only [size_alloc, size_setB, size_drew]; omega)) | exact Hb.setSame (by assumption) | refine Hb.set (by first | omega | (simp only [size_alloc, size_setB, size_drew]; omega)) ?_ ))) (Ce.h (by first | assumption | exact ⟨rfl⟩)) ?_
  refine WH_p (PS_xor_u64 rfl rfl) rfl ?_
  refine WH_p (PS_move_ptr rfl) rfl ?_
  refine WH_p (PS_nilCheck rfl) rfl ?_
  refine WH_p (PS_indexA Hvad.runUnderlying195 Hvad.sizeOf26 rfl rfl (by omega) (by omega)) rfl ?_
  refine WH_load (.int _ _) Hvad.isAgg26 rfl (Hb.h (by repeat (first | assumption | exact Hb.newY _ _ | refine Hb.alloc ?_ | refine Hb.drew ?_ | refine Hb.ext (by assumption) ?_ | exact Hb.setSameL (by first | omega | (simp only [size_alloc, size_setB, size_drew]; omega)) | exact Hb.setSame (by assumption) | refine Hb.set (by first | omega | (simp only [size_alloc, size_setB, size_drew]; omega)) ?_ ))) (Ce.h (by first | assumption | exact ⟨rfl⟩)) ?_
  refine WH_p (PS_xor_u64 rfl rfl) rfl ?_
  refine WH_p (PS_move_ptr rfl) rfl ?_
  refine WH_p (PS_nilCheck rfl) rfl ?_
  refine WH_p (PS_indexA Hvad.runUnderlying195 Hvad.sizeOf26 rfl rfl (by omega) (by omega)) rfl ?_
  refine WH_load (.int _ _) Hvad.isAgg26 rfl (Hb.h (by repeat (first | assumption | exact Hb.newY _ _ | refine Hb.alloc ?_ | refine Hb.drew ?_ | refine Hb.ext (by assumption) ?_ | exact Hb.setSameL (by first | omega | (simp only [size_alloc, size_setB, size_drew]; omega)) | exact Hb.setSame (by assumption) | refine Hb.set (by first | omega | (simp only [size_alloc, size_setB, size_drew]; omega)) ?_ ))) (Ce.h (by first | assumption | exact ⟨rfl⟩)) ?_
  refine WH_p (PS_xor_u64 rfl rfl) rfl ?_
  refine WH_p (PS_move_ptr rfl) rfl ?_
  refine WH_p (PS_nilCheck rfl) rfl ?_
  refine WH_p (PS_indexA Hvad.runUnderlying195 Hvad.sizeOf26 rfl rfl (by omega) (by omega)) rfl ?_
  refine WH_load (.int _ _) Hvad.isAgg26 rfl (Hb.h (by repeat (first | assumption | exact Hb.newY _ _ | refine Hb.alloc ?_ | refine Hb.drew ?_ | refine Hb.ext (by assumption) ?_ | exact Hb.setSameL (by first | omega | (simp only [size_alloc, size_setB, size_drew]; omega)) | exact Hb.setSame (by assumption) | refine Hb.set (by first | omega | (simp only [size_alloc, size_setB, size_drew]; omega)) ?_ ))) (Ce.h (by first | assumption | exact ⟨rfl⟩)) ?_
  refine WH_p (PS_xor_u64 rfl rfl) rfl ?_
  refine WH_p (PS_assign_int rfl) rfl ?_
  refine WH_nil ?_
  refine thn_normal ?_
  refine W_seq ?_
  refine W_drawE [false, false, false, false, false, false, false, false, false, false, false, false, false, false, false, false, false, false, false, false, false, false, false, false, false] hmix (by kernel_rfl) rfl ?_
  refine WH_p (PS_move_ptr rfl) rfl ?_
  refine WH_p (PS_nilCheck rfl) rfl ?_
  refine WH_p (PS_indexA Hvad.runUnderlying195 Hvad.sizeOf26 rfl rfl (by omega) (by omega)) rfl ?_
  refine WH_load (.int _ _) Hvad.isAgg26 rfl (Hb.h (by repeat (first | assumption | exact Hb.newY _ _ | refine Hb.alloc ?_ | refine Hb.drew ?_ | refine Hb.ext (by assumption) ?_ | exact Hb.setSameL (by first | omega | (simp only [size_alloc, size_setB, size_drew]; omega)) | exact Hb.setSame (by assumption) | refine Hb.set (by first | omega | (simp only [size_alloc, size_setB, size_drew]; omega)) ?_ ))) (Ce.h (by first | assumption | exact ⟨rfl⟩)) ?_
  refine WH_p (PS_move_ptr rfl) rfl ?_
  refine WH_p (PS_nilCheck rfl) rfl ?_
  refine WH_p (PS_indexA Hvad.runUnderlying195 Hvad.sizeOf26 rfl rfl (by omega) (by omega)) rfl ?_
  refine WH_load (.int _ _) Hvad.isAgg26 rfl (Hb.h (by repeat (first | assumption | exact Hb.newY _ _ | refine Hb.alloc ?_ | refine Hb.drew ?_ | refine Hb.ext (by assumption) ?_ | exact Hb.setSameL (by first | omega | (simp only [size_alloc, size_setB, size_drew]; omega)) | exact Hb.setSame (by assumption) | refine Hb.set (by first | omega | (simp only [size_alloc, size_setB, size_drew]; omega)) ?_ ))) (Ce.h (by first | assumption | exact ⟨rfl⟩)) ?_
  refine WH_p (PS_xor_u64 rfl rfl) rfl ?_
  refine WH_p (PS_move_ptr rfl) rfl ?_
  refine WH_p (PS_nilCheck rfl) rfl ?_
  refine WH_p (PS_indexA Hvad.runUnderlying195 Hvad.sizeOf26 rfl rfl (by omega) (by omega)) rfl ?_
  refine WH_load (.int _ _) Hvad.isAgg26 rfl (Hb.h (by repeat (first | assumption | exact Hb.newY _ _ | refine Hb.alloc ?_ | refine Hb.drew ?_ | refine Hb.ext (by assumption) ?_ | exact Hb.setSameL (by first | omega | (simp only [size_alloc, size_setB, size_drew]; omega)) | exact Hb.setSame (by assumption) | refine Hb.set (by first | omega | (simp only [size_alloc, size_setB, size_drew]; omega)) ?_ ))) (Ce.h (by first | assumption | exact ⟨rfl⟩)) ?_
  refine WH_p (PS_xor_u64 rfl rfl) rfl ?_
  refine WH_p (PS_move_ptr rfl) rfl ?_
  refine WH_p (PS_nilCheck rfl) rfl ?_
  refine WH_p (PS_indexA Hvad.runUnderlying195 Hvad.sizeOf26 rfl rfl (by omega) (by omega)) rfl ?_
  refine WH_load (.int _ _) Hvad.isAgg26 rfl (Hb.h (by repeat (first | assumption | exact Hb.newY _ _ | refine Hb.alloc ?_ | refine Hb.drew ?_ | refine Hb.ext (by assumption) ?_ | exact Hb.setSameL (by first | omega | (simp only [size_alloc, size_setB, size_drew]; omega)) | exact Hb.setSame (by assumption) | refine Hb.set (by first | omega | (simp only [size_alloc, size_setB, size_drew]; omega)) ?_ ))) (Ce.h (by first | assumption | exact ⟨rfl⟩)) ?_
  refine WH_p (PS_xor_u64 rfl rfl) rfl ?_
  refine WH_p (PS_move_ptr rfl) rfl ?_
  refine WH_p (PS_nilCheck rfl) rfl ?_
  refine WH_p (PS_indexA Hvad.runUnderlying195 Hvad.sizeOf26 rfl rfl (by omega) (by omega)) rfl ?_
  refine WH_load (.int _ _) Hvad.isAgg26 rfl (Hb.h (by repeat (first | assumption | exact Hb.newY _ _ | refine Hb.alloc ?_ | refine Hb.drew ?_ | refine Hb.ext (by assumption) ?_ | exact Hb.setSameL (by first | omega | (simp only [size_alloc, size_setB, size_drew]; omega)) | exact Hb.setSame (by assumption) | refine Hb.set (by first | omega | (simp only [size_alloc, size_setB, size_drew]; omega)) ?_ ))) (Ce.h (by first | assumption | exact ⟨rfl⟩)) ?_
  refine WH_p (PS_xor_u64 rfl rfl) rfl ?_
  refine WH_p (PS_assign_int rfl) rfl ?_
  refine WH_nil ?_
  refine thn_normal ?_
  refine W_seq ?_
  refine W_drawE [false, false, false, false, false, false, false, false, false, false, false, false, false, false, false, false, false, false, false, false, false, false, false, false, false] hmix (by kernel_rfl) rfl ?_
  refine WH_p (PS_move_ptr rfl) rfl ?_
  refine WH_p (PS_nilCheck rfl) rfl ?_
  refine WH_p (PS_indexA Hvad.runUnderlying195 Hvad.sizeOf26 rfl rfl (by omega) (by omega)) rfl ?_
  refine WH_load (.int _ _) Hvad.isAgg26 rfl (Hb.h (by repeat (first | assumption | exact Hb.newY _ _ | refine Hb.alloc ?_ | refine Hb.drew ?_ | refine Hb.ext (by assumption) ?_ | exact Hb.setSameL (by first | omega | (simp only [size_alloc, size_setB, size_drew]; omega)) | exact Hb.setSame (by assumption) | refine Hb.set (by first | omega | (simp only [size_alloc, size_setB, size_drew]; omega)) ?_ ))) (Ce.h (by first | assumption | exact ⟨rfl⟩)) ?_
  refine WH_p (PS_move_ptr rfl) rfl ?_
  refine WH_p (PS_nilCheck rfl) rfl ?_
  refine WH_p (PS_indexA Hvad.runUnderlying195 Hvad.sizeOf26 rfl rfl (by omega) (by omega)) rfl ?_
  refine WH_load (.int _ _) Hvad.isAgg26 rfl (Hb.h (by repeat (first | assumption | exact Hb.newY _ _ | refine Hb.alloc ?_ | refine Hb.drew ?_ | refine Hb.ext (by assumption) ?_ | exact Hb.setSameL (by first | omega | (simp only [size_alloc, size_setB, size_drew]; omega)) | exact Hb.setSame (by assumption) | refine Hb.set (by first | omega | (simp only [size_alloc, size_setB, size_drew]; omega)) ?_ ))) (Ce.h (by first | assumption | exact ⟨rfl⟩)) ?_
  refine WH_p (PS_xor_u64 rfl rfl) rfl ?_
  refine WH_p (PS_move_ptr rfl) rfl ?_
  refine WH_p (PS_nilCheck rfl) rfl ?_
  refine WH_p (PS_indexA Hvad.runUnderlying195 Hvad.sizeOf26 rfl rfl (by omega) (by omega)) rfl ?_
  refine WH_load (.int _ _) Hvad.isAgg26 rfl (Hb.h (by repeat (first | assumption | exact Hb.newY _ _ | refine Hb.alloc ?_ | refine Hb.drew ?_ | refine Hb.ext (by assumption) ?_ | exact Hb.setSameL (by first | omega | (simp only [size_alloc, size_setB, size_drew]; omega)) | exact Hb.setSame (by assumption) | refine Hb.set (by first | omega | (simp only [size_alloc, size_setB, size_drew]; omega)) ?_ ))) (Ce.h (by first | assumption | exact ⟨rfl⟩)) ?_
  refine WH_p (PS_xor_u64 rfl rfl) rfl ?_
  refine WH_p (PS_move_ptr rfl) rfl ?_
  refine WH_p (PS_nilCheck rfl) rfl ?_
  refine WH_p (PS_indexA Hvad.runUnderlying195 Hvad.sizeOf26 rfl rfl (by omega) (by omega)) rfl ?_
  refine WH_load (.int _ _) Hvad.isAgg26 rfl (Hb.h (by repeat (first | assumption | exact Hb.newY _ _ | refine Hb.alloc ?_ | refine Hb.drew ?_ | refine Hb.ext (by assumption) ?_ | exact Hb.setSameL (by first | omega | (simp only [size_alloc, size_setB, size_drew]; omega)) | exact Hb.setSame (by assumption) | refine Hb.set (by first | omega | (simp only [size_alloc, size_setB, size_drew]; omega)) ?_ ))) (Ce.h (by first | assumption | exact ⟨rfl⟩)) ?_
  refine WH_p (PS_xor_u64 rfl rfl) rfl ?_
  refine WH_p (PS_move_ptr rfl) rfl ?_
  refine WH_p (PS_nilCheck rfl) rfl ?_
  refine WH_p (PS_indexA Hvad.runUnderlying195 Hvad.sizeOf26 rfl rfl (by omega) (by omega)) rfl ?_
  refine WH_load (.int _ _) Hvad.isAgg26 rfl (Hb.h (by repeat (first | assumption | exact Hb.newY _ _ | refine Hb.alloc ?_ | refine Hb.drew ?_ | refine Hb.ext (by assumption) ?_ | exact Hb.setSameL (by first | omega | (simp only [size_alloc, size_setB, size_drew]; omega)) | exact Hb.setSame (by assumption) | refine Hb.set (by first | omega | (simp only [size_alloc, size_setB, size_drew]; omega)) ?_ ))) (Ce.h (by first | assumption | exact ⟨rfl⟩)) ?_
  refine WH_p (PS_xor_u64 rfl rfl) rfl ?_
  refine WH_p (PS_assign_int rfl) rfl ?_
  refine WH_nil ?_
  refine thn_normal ?_
  refine W_seq ?_
  refine W_drawE [false, false, false, false, false, false, false, false, false, false, false, false, false, false, false, false, false, false, false, false, false, false, false, false, false] hmix (by kernel_rfl) rfl ?_
  refine WH_p (PS_move_ptr rfl) rfl ?_
  refine WH_p (PS_nilCheck rfl) rfl ?_
  refine WH_p (PS_indexA Hvad.runUnderlying195 Hvad.sizeOf26 rfl rfl (by omega) (by omega)) rfl ?_
  refine WH_load (.int _ _) Hvad.isAgg26 rfl (Hb.h (by repeat (first | assumption | exact Hb.newY _ _ | refine Hb.alloc ?_ | refine Hb.drew ?_ | refine Hb.ext (by assumption) ?_ | exact Hb.setSameL (by first | omega | (simp only [size_alloc, size_setB, size_drew]; omega)) | exact Hb.setSame (by assumption) | refine Hb.set (by first | omega | (simp only [size_alloc, size_setB, size_drew]; omega)) ?_ ))) (Ce.h (by first | assumption | exact ⟨rfl⟩)) ?_
  refine WH_p (PS_move_ptr rfl) rfl ?_
  refine WH_p (PS_nilCheck rfl) rfl ?_
  refine WH_p (PS_indexA Hvad.runUnderlying195 Hvad.sizeOf26 rfl rfl (by omega) (by omega)) rfl ?_
  refine WH_load (.int _ _) Hvad.isAgg26 rfl (Hb.h (by repeat (first | assumption | exact Hb.newY _ _ | refine Hb.alloc ?_ | refine Hb.drew ?_ | refine Hb.ext (by assumption) ?_ | exact Hb.setSameL (by first | omega | (simp only [size_alloc, size_setB, size_drew]; omega)) | exact Hb.setSame (by assumption) | refine Hb.set (by first | omega | (simp only [size_alloc, size_setB, size_drew]; omega)) ?_ ))) (Ce.h (by first | assumption | exact ⟨rfl⟩)) ?_
  refine WH_p (PS_xor_u64 rfl rfl) rfl ?_
  refine WH_p (PS_move_ptr rfl) rfl ?_
  refine WH_p (PS_nilCheck rfl) rfl ?_
  refine WH_p (PS_indexA Hvad.runUnderlying195 Hvad.sizeOf26 rfl rfl (by omega) (by omega)) rfl ?_
  refine WH_load (.int _ _) Hvad.isAgg26 rfl (Hb.h (by repeat (first | assumption | exact Hb.newY _ _ | refine Hb.alloc ?_ | refine Hb.drew ?_ | refine Hb.ext (by assumption) ?_ | exact Hb.setSameL (by first | omega | (simp only [size_alloc, size_setB, size_drew]; omega)) | exact Hb.setSame (by assumption) | refine Hb.set (by first | omega | (simp only [size_alloc, size_setB, size_drew]; omega)) ?_ ))) (Ce.h (by first | assumption | exact ⟨rfl⟩)) ?_
  refine WH_p (PS_xor_u64 rfl rfl) rfl ?_
  refine WH_p (PS_move_ptr rfl) rfl ?_
  refine WH_p (PS_nilCheck rfl) rfl ?_
  refine WH_p (PS_indexA Hvad.runUnderlying195 Hvad.sizeOf26 rfl rfl (by omega) (by omega)) rfl ?_
  refine WH_load (.int _ _) Hvad.isAgg26 rfl (Hb.h (by repeat (first | assumption | exact Hb.newY _ _ | refine Hb.alloc ?_ | refine Hb.drew ?_ | refine Hb.ext (by assumption) ?_ | exact Hb.setSameL (by first | omega | (simp only [size_alloc, size_setB, size_drew]; omega)) | exact Hb.setSame (by assumption) | refine Hb.set (by first | omega | (simp only [size_alloc, size_setB, size_drew]; omega)) ?_ ))) (Ce.h (by first | assumption | exact ⟨rfl⟩)) ?_
  refine WH_p (PS_xor_u64 rfl rfl) rfl ?_
  refine WH_p (PS_move_ptr rfl) rfl ?_
  refine WH_p (PS_nilCheck rfl) rfl ?_
  refine WH_p (PS_indexA Hvad.runUnderlying195 Hvad.sizeOf26 rfl rfl (by omega) (by omega)) rfl ?_
  refine WH_load (.int _ _) Hvad.isAgg26 rfl (Hb.h (by repeat (first | assumption | exact Hb.newY _ _ | refine Hb.alloc ?_ | refine Hb.drew ?_ | refine Hb.ext (by assumption) ?_ | exact Hb.setSameL (by first | omega | (simp only [size_alloc, size_setB, size_drew]; omega)) | exact Hb.setSame (by assumption) | refine Hb.set (by first | omega | (simp only [size_alloc, size_setB, size_drew]; omega)) ?_ ))) (Ce.h (by first | assumption | exact ⟨rfl⟩)) ?_
  refine WH_p (PS_xor_u64 rfl rfl) rfl ?_
  refine WH_p (PS_assign_int rfl) rfl ?_
  refine WH_nil ?_
  refine thn_normal ?_
  refine W_seq ?_
  refine W_drawE [false, false, false, false, false, false, false, false, false, false, false, false, false, false, false, false, false, false, false, false, false, false, false, false, false] hmix (by kernel_rfl) rfl ?_
  refine WH_p (PS_move_ptr rfl) rfl ?_
  refine WH_p (PS_nilCheck rfl) rfl ?_
  refine WH_p (PS_indexA Hvad.runUnderlying195 Hvad.sizeOf26 rfl rfl (by omega) (by omega)) rfl ?_
  refine WH_load (.int _ _) Hvad.isAgg26 rfl (Hb.h (by repeat (first | assumption | exact Hb.newY _ _ | refine Hb.alloc ?_ | refine Hb.drew ?_ | refine Hb.ext (by assumption) ?_ | exact Hb.setSameL (by first | omega | (simp only [size_alloc, size_setB, size_drew]; omega)) | exact Hb.setSame (by assumption) | refine Hb.set (by first | omega | (simp only [size_alloc, size_setB, size_drew]; omega)) ?_ ))) (Ce.h (by first | assumption | exact ⟨rfl⟩)) ?_
  refine WH_p (PS_move_ptr rfl) rfl ?_
  refine WH_p (PS_nilCheck rfl) rfl ?_
  refine WH_p (PS_indexA Hvad.runUnderlying195 Hvad.sizeOf26 rfl rfl (by omega) (by omega)) rfl ?_
  refine WH_load (.int _ _) Hvad.isAgg26 rfl (Hb.h (by repeat (first | assumption | exact Hb.newY _ _ | refine Hb.alloc ?_ | refine Hb.drew ?_ | refine Hb.ext (by assumption) ?_ | exact Hb.setSameL (by first | omega | (simp only [size_alloc, size_setB, size_drew]; omega)) | exact Hb.setSame (by assumption) | refine Hb.set (by first | omega | (simp only [size_alloc, size_setB, size_drew]; omega)) ?_ ))) (Ce.h (by first | assumption | exact ⟨rfl⟩)) ?_
  refine WH_p (PS_xor_u64 rfl rfl) rfl ?_
  refine WH_p (PS_move_ptr rfl) rfl ?_
  refine WH_p (PS_nilCheck rfl) rfl ?_
  refine WH_p (PS_indexA Hvad.runUnderlying195 Hvad.sizeOf26 rfl rfl (by omega) (by omega)) rfl ?_
  refine WH_load (.int _ _) Hvad.isAgg26 rfl (Hb.h (by repeat (first | assumption | exact Hb.newY _ _ | refine Hb.alloc ?_ | refine Hb.drew ?_ | refine Hb.ext (by assumption) ?_ | exact Hb.setSameL (by first | omega | (simp only [size_alloc, size_setB, size_drew]; omega)) | exact Hb.setSame (by assumption) | refine Hb.set (by first | omega | (simp only [size_alloc, size_setB, size_drew]; omega)) ?_ ))) (Ce.h (by first | assumption | exact ⟨rfl⟩)) ?_
  refine WH_p (PS_xor_u64 rfl rfl) rfl ?_
  refine WH_p (PS_move_ptr rfl) rfl ?_
  refine WH_p (PS_nilCheck rfl) rfl ?_
  refine WH_p (PS_indexA Hvad.runUnderlying195 Hvad.sizeOf26 rfl rfl (by omega) (by omega)) rfl ?_
  refine WH_load (.int _ _) Hvad.isAgg26 rfl (Hb.h (by repeat (first | assumption | exact Hb.newY _ _ | refine Hb.alloc ?_ | refine Hb.drew ?_ | refine Hb.ext (by assumption) ?_ | exact Hb.setSameL (by first | omega | (simp only [size_alloc, size_setB, size_drew]; omega)) | exact Hb.setSame (by assumption) | refine Hb.set (by first | omega | (simp only [size_alloc, size_setB, size_drew]; omega)) ?_ ))) (Ce.h (by first | assumption | exact ⟨rfl⟩)) ?_
  refine WH_p (PS_xor_u64 rfl rfl) rfl ?_
  refine WH_p (PS_move_ptr rfl) rfl ?_
  refine WH_p (PS_nilCheck rfl) rfl ?_
  refine WH_p (PS_indexA Hvad.runUnderlying195 Hvad.sizeOf26 rfl rfl (by omega) (by omega)) rfl ?_
  refine WH_load (.int _ _) Hvad.isAgg26 rfl (Hb.h (by repeat (first | assumption | exact Hb.newY _ _ | refine Hb.alloc ?_ | refine Hb.drew ?_ | refine Hb.ext (by assumption) ?_ | exact Hb.setSameL (by first | omega | (simp only [size_alloc, size_setB, size_drew]; omega)) | exact Hb.setSame (by assumption) | refine Hb.set (by first | omega | (simp only [size_alloc, size_setB, size_drew]; omega)) ?_ ))) (Ce.h (by first | assumption | exact ⟨rfl⟩)) ?_
  refine WH_p (PS_xor_u64 rfl rfl) rfl ?_
  refine WH_p (PS_assign_int rfl) rfl ?_
  refine WH_nil ?_
  refine thn_normal ?_
  refine W_seq ?_
  refine W_cutU [2, 3, 4, 5, 6] [(0, .pointer (some ⟨b, 0, none⟩))] ⟨rfl, trivial⟩ ⟨⟨_, rfl, by first | assumption | exact bXor_bd _ _⟩, ⟨_, rfl, by first | assumption | exact bXor_bd _ _⟩, ⟨_, rfl, by first | assumption | exact bXor_bd _ _⟩, ⟨_, rfl, by first | assumption | exact bXor_bd _ _⟩, ⟨_, rfl, by first | assumption | exact bXor_bd _ _⟩, trivial⟩ ?_
  intro x2 hx2 x3 hx3 x4 hx4 x5 hx5 x6 hx6 ρ hFr
  refine W_env _ hFr ?_
  clear hFr
  refine W_region rfl ?_
  refine WO_p (PS_move_int rfl) ?_
  refine WO_p (PS_move_int rfl) ?_
  refine WO_call Hvad.call284 (by rfl) (Ret.mono (rot_spec _ _ _ (by decide) (by first | assumption | exact bXor_bd _ _)) ?_)
  rintro _ w284_0 ⟨hE284_0, r284_0, rfl, hr284_0⟩
  have hz284_0 := hE284_0.1
  try simp only [size_alloc, size_setB, size_drew] at hz284_0
  refine WO_p (PS_xor_u64 rfl rfl) ?_
  refine WO_p (PS_assign_int rfl) ?_
  refine WO_nil ?_
  refine thn_normal ?_
  refine W_seq ?_
  refine W_region rfl ?_
  refine WO_p (PS_move_int rfl) ?_
  refine WO_p (PS_move_int rfl) ?_
  refine WO_call Hvad.call284 (by rfl) (Ret.mono (rot_spec _ _ _ (by decide) (by first | assumption | exact bXor_bd _ _)) ?_)
  rintro _ w284_1 ⟨hE284_1, r284_1, rfl, hr284_1⟩
  have hz284_1 := hE284_1.1
  try simp only [size_alloc, size_setB, size_drew] at hz284_1
  refine WO_p (PS_xor_u64 rfl rfl) ?_
  refine WO_p (PS_assign_int rfl) ?_
  refine WO_nil ?_
  refine thn_normal ?_
  refine W_seq ?_
  refine W_region rfl ?_
  refine WO_p (PS_move_int rfl) ?_
  refine WO_p (PS_move_int rfl) ?_
  refine WO_call Hvad.call284 (by rfl) (Ret.mono (rot_spec _ _ _ (by decide) (by first | assumption | exact bXor_bd _ _)) ?_)
  rintro _ w284_2 ⟨hE284_2, r284_2, rfl, hr284_2⟩
  have hz284_2 := hE284_2.1
  try simp only [size_alloc, size_setB, size_drew] at hz284_2
  refine WO_p (PS_xor_u64 rfl rfl) ?_
  refine WO_p (PS_assign_int rfl) ?_
  refine WO_nil ?_
  refine thn_normal ?_
  refine W_seq ?_
  refine W_region rfl ?_
  refine WO_p (PS_move_int rfl) ?_
  refine WO_p (PS_move_int rfl) ?_
  refine WO_call Hvad.call284 (by rfl) (Ret.mono (rot_spec _ _ _ (by decide) (by first | assumption | exact bXor_bd _ _)) ?_)
  rintro _ w284_3 ⟨hE284_3, r284_3, rfl, hr284_3⟩
  have hz284_3 := hE284_3.1
  try simp only [size_alloc, size_setB, size_drew] at hz284_3
  refine WO_p (PS_xor_u64 rfl rfl) ?_
  refine WO_p (PS_assign_int rfl) ?_
  refine WO_nil ?_
  refine thn_normal ?_
  refine W_seq ?_
  refine W_region rfl ?_
  refine WO_p (PS_move_int rfl) ?_
  refine WO_p (PS_move_int rfl) ?_
  refine WO_call Hvad.call284 (by rfl) (Ret.mono (rot_spec _ _ _ (by decide) (by first | assumption | exact bXor_bd _ _)) ?_)
  rintro _ w284_4 ⟨hE284_4, r284_4, rfl, hr284_4⟩
  have hz284_4 := hE284_4.1
  try simp only [size_alloc, size_setB, size_drew] at hz284_4
  refine WO_p (PS_xor_u64 rfl rfl) ?_
  refine WO_p (PS_assign_int rfl) ?_
  refine WO_nil ?_
  refine thn_normal ?_
  refine W_seq ?_
  refine W_cutU [7, 8, 9, 10, 11] [(0, .pointer (some ⟨b, 0, none⟩))] ⟨rfl, trivial⟩ ⟨⟨_, rfl, by first | assumption | exact bXor_bd _ _⟩, ⟨_, rfl, by first | assumption | exact bXor_bd _ _⟩, ⟨_, rfl, by first | assumption | exact bXor_bd _ _⟩, ⟨_, rfl, by first | assumption | exact bXor_bd _ _⟩, ⟨_, rfl, by first | assumption | exact bXor_bd _ _⟩, trivial⟩ ?_
  intro x7 hx7 x8 hx8 x9 hx9 x10 hx10 x11 hx11 ρ hFr
  refine W_env _ hFr ?_
  clear hFr
  refine W_region rfl ?_
  refine WO_p (PS_move_ptr rfl) ?_
  refine WO_p (PS_nilCheck rfl) ?_
  refine WO_p (PS_indexA Hvad.runUnderlying195 Hvad.sizeOf26 rfl rfl (by omega) (by omega)) ?_
  refine WO_load (.int _ _) Hvad.isAgg26 rfl (Hb.h (by repeat (first | assumption | exact Hb.newY _ _ | refine Hb.alloc ?_ | refine Hb.drew ?_ | refine Hb.ext (by assumption) ?_ | exact Hb.setSameL (by first | omega | (simp only [size_alloc, size_setB, size_drew]; omega)) | exact Hb.setSame (by assumption) | refine Hb.set (by first | omega | (simp only [size_alloc, size_setB, size_drew]; omega)) ?_ ))) (Ce.h (by first | assumption | exact ⟨rfl⟩)) ?_
  refine WO_p (PS_move_int rfl) ?_
  refine WO_p (PS_xor_u64 rfl rfl) ?_
  refine WO_p (PS_assign_int rfl) ?_
  refine WO_nil ?_
  refine thn_normal ?_
  refine W_seq ?_
  refine W_region rfl ?_
  refine WO_p (PS_move_ptr rfl) ?_
  refine WO_p (PS_nilCheck rfl) ?_
  refine WO_p (PS_indexA Hvad.runUnderlying195 Hvad.sizeOf26 rfl rfl (by omega) (by omega)) ?_
  refine WO_load (.int _ _) Hvad.isAgg26 rfl (Hb.h (by repeat (first | assumption | exact Hb.newY _ _ | refine Hb.alloc ?_ | refine Hb.drew ?_ | refine Hb.ext (by assumption) ?_ | exact Hb.setSameL (by first | omega | (simp only [size_alloc, size_setB, size_drew]; omega)) | exact Hb.setSame (by assumption) | refine Hb.set (by first | omega | (simp only [size_alloc, size_setB, size_drew]; omega)) ?_ ))) (Ce.h (by first | assumption | exact ⟨rfl⟩)) ?_
  refine WO_p (PS_move_int rfl) ?_
  refine WO_p (PS_xor_u64 rfl rfl) ?_
  refine WO_call Hvad.call284 (by rfl) (Ret.mono (rot_spec _ _ _ (by decide) (by first | assumption | exact bXor_bd _ _)) ?_)
  rintro _ w284_5 ⟨hE284_5, r284_5, rfl, hr284_5⟩
  have hz284_5 := hE284_5.1
  try simp only [size_alloc, size_setB, size_drew] at hz284_5
  refine WO_p (PS_assign_int rfl) ?_
  refine WO_nil ?_
  refine thn_normal ?_
  refine W_seq ?_
  refine W_region rfl ?_
  refine WO_p (PS_move_ptr rfl) ?_
  refine WO_p (PS_nilCheck rfl) ?_
  refine WO_p (PS_indexA Hvad.runUnderlying195 Hvad.sizeOf26 rfl rfl (by omega) (by omega)) ?_
  refine WO_load (.int _ _) Hvad.isAgg26 rfl (Hb.h (by repeat (first | assumption | exact Hb.newY _ _ | refine Hb.alloc ?_ | refine Hb.drew ?_ | refine Hb.ext (by assumption) ?_ | exact Hb.setSameL (by first | omega | (simp only [size_alloc, size_setB, size_drew]; omega)) | exact Hb.setSame (by assumption) | refine Hb.set (by first | omega | (simp only [size_alloc, size_setB, size_drew]; omega)) ?_ ))) (Ce.h (by first | assumption | exact ⟨rfl⟩)) ?_
  refine WO_p (PS_move_int rfl) ?_
  refine WO_p (PS_xor_u64 rfl rfl) ?_
  refine WO_call Hvad.call284 (by rfl) (Ret.mono (rot_spec _ _ _ (by decide) (by first | assumption | exact bXor_bd _ _)) ?_)
  rintro _ w284_6 ⟨hE284_6, r284_6, rfl, hr284_6⟩
  have hz284_6 := hE284_6.1
  try simp only [size_alloc, size_setB, size_drew] at hz284_6
  refine WO_p (PS_assign_int rfl) ?_
  refine WO_nil ?_
  refine thn_normal ?_
  refine W_seq ?_
  refine W_region rfl ?_
  refine WO_p (PS_move_ptr rfl) ?_
  refine WO_p (PS_nilCheck rfl) ?_
  refine WO_p (PS_indexA Hvad.runUnderlying195 Hvad.sizeOf26 rfl rfl (by omega) (by omega)) ?_
  refine WO_load (.int _ _) Hvad.isAgg26 rfl (Hb.h (by repeat (first | assumption | exact Hb.newY _ _ | refine Hb.alloc ?_ | refine Hb.drew ?_ | refine Hb.ext (by assumption) ?_ | exact Hb.setSameL (by first | omega | (simp only [size_alloc, size_setB, size_drew]; omega)) | exact Hb.setSame (by assumption) | refine Hb.set (by first | omega | (simp only [size_alloc, size_setB, size_drew]; omega)) ?_ ))) (Ce.h (by first | assumption | exact ⟨rfl⟩)) ?_
  refine WO_p (PS_move_int rfl) ?_
  refine WO_p (PS_xor_u64 rfl rfl) ?_
  refine WO_call Hvad.call284 (by rfl) (Ret.mono (rot_spec _ _ _ (by decide) (by first | assumption | exact bXor_bd _ _)) ?_)
  rintro _ w284_7 ⟨hE284_7, r284_7, rfl, hr284_7⟩
  have hz284_7 := hE284_7.1
  try simp only [size_alloc, size_setB, size_drew] at hz284_7
  refine WO_p (PS_assign_int rfl) ?_
  refine WO_nil ?_
  refine thn_normal ?_
  refine W_seq ?_
  refine W_region rfl ?_
  refine WO_p (PS_move_ptr rfl) ?_
  refine WO_p (PS_nilCheck rfl) ?_
  refine WO_p (PS_indexA Hvad.runUnderlying195 Hvad.sizeOf26 rfl rfl (by omega) (by omega)) ?_
  refine WO_load (.int _ _) Hvad.isAgg26 rfl (Hb.h (by repeat (first | assumption | exact Hb.newY _ _ | refine Hb.alloc ?_ | refine Hb.drew ?_ | refine Hb.ext (by assumption) ?_ | exact Hb.setSameL (by first | omega | (simp only [size_alloc, size_setB, size_drew]; omega)) | exact Hb.setSame (by assumption) | refine Hb.set (by first | omega | (simp only [size_alloc, size_setB, size_drew]; omega)) ?_ ))) (Ce.h (by first | assumption | exact ⟨rfl⟩)) ?_
  refine WO_p (PS_move_int rfl) ?_
  refine WO_p (PS_xor_u64 rfl rfl) ?_
  refine WO_call Hvad.call284 (by rfl) (Ret.mono (rot_spec _ _ _ (by decide) (by first | assumption | exact bXor_bd _ _)) ?_)
  rintro _ w284_8 ⟨hE284_8, r284_8, rfl, hr284_8⟩
  have hz284_8 := hE284_8.1
  try simp only [size_alloc, size_setB, size_drew] at hz284_8
  refine WO_p (PS_assign_int rfl) ?_
  refine WO_nil ?_
  refine thn_normal ?_
  refine W_seq ?_
  refine W_cutU [7, 8, 9, 10, 11, 12, 13, 14, 15, 16] [(0, .pointer (some ⟨b, 0, none⟩))] ⟨rfl, trivial⟩ ⟨⟨_, rfl, by first | assumption | exact bXor_bd _ _⟩, ⟨_, rfl, by first | assumption | exact bXor_bd _ _⟩, ⟨_, rfl, by first | assumption | exact bXor_bd _ _⟩, ⟨_, rfl, by first | assumption | exact bXor_bd _ _⟩, ⟨_, rfl, by first | assumption | exact bXor_bd _ _⟩, ⟨_, rfl, by first | assumption | exact bXor_bd _ _⟩, ⟨_, rfl, by first | assumption | exact bXor_bd _ _⟩, ⟨_, rfl, by first | assumption | exact bXor_bd _ _⟩, ⟨_, rfl, by first | assumption | exact bXor_bd _ _⟩, ⟨_, rfl, by first | assumption | exact bXor_bd _ _⟩, trivial⟩ ?_
  intro x7 hx7 x8 hx8 x9 hx9 x10 hx10 x11 hx11 x12 hx12 x13 hx13 x14 hx14 x15 hx15 x16 hx16 ρ hFr
  refine W_env _ hFr ?_
  clear hFr
  refine W_region rfl ?_
  refine WO_p (PS_move_ptr rfl) ?_
  refine WO_p (PS_nilCheck rfl) ?_
  refine WO_p (PS_indexA Hvad.runUnderlying195 Hvad.sizeOf26 rfl rfl (by omega) (by omega)) ?_
  refine WO_load (.int _ _) Hvad.isAgg26 rfl (Hb.h (by repeat (first | assumption | exact Hb.newY _ _ | refine Hb.alloc ?_ | refine Hb.drew ?_ | refine Hb.ext (by assumption) ?_ | exact Hb.setSameL (by first | omega | (simp only [size_alloc, size_setB, size_drew]; omega)) | exact Hb.setSame (by assumption) | refine Hb.set (by first | omega | (simp only [size_alloc, size_setB, size_drew]; omega)) ?_ ))) (Ce.h (by first | assumption | exact ⟨rfl⟩)) ?_
  refine WO_p (PS_move_int rfl) ?_
  refine WO_p (PS_xor_u64 rfl rfl) ?_
  refine WO_call Hvad.call284 (by rfl) (Ret.mono (rot_spec _ _ _ (by decide) (by first | assumption | exact bXor_bd _ _)) ?_)
  rintro _ w284_9 ⟨hE284_9, r284_9, rfl, hr284_9⟩
  have hz284_9 := hE284_9.1
  try simp only [size_alloc, size_setB, size_drew] at hz284_9
  refine WO_p (PS_assign_int rfl) ?_
  refine WO_nil ?_
  refine thn_normal ?_
  refine W_seq ?_
  refine W_region rfl ?_
  refine WO_p (PS_move_ptr rfl) ?_
  refine WO_p (PS_nilCheck rfl) ?_
  refine WO_p (PS_indexA Hvad.runUnderlying195 Hvad.sizeOf26 rfl rfl (by omega) (by omega)) ?_
  refine WO_load (.int _ _) Hvad.isAgg26 rfl (Hb.h (by repeat (first | assumption | exact Hb.newY _ _ | refine Hb.alloc ?_ | refine Hb.drew ?_ | refine Hb.ext (by assumption) ?_ | exact Hb.setSameL (by first | omega | (simp only [size_alloc, size_setB, size_drew]; omega)) | exact Hb.setSame (by assumption) | refine Hb.set (by first | omega | (simp only [size_alloc, size_setB, size_drew]; omega)) ?_ ))) (Ce.h (by first | assumption | exact ⟨rfl⟩)) ?_
  refine WO_p (PS_move_int rfl) ?_
  refine WO_p (PS_xor_u64 rfl rfl) ?_
  refine WO_call Hvad.call284 (by rfl) (Ret.mono (rot_spec _ _ _ (by decide) (by first | assumption | exact bXor_bd _ _)) ?_)
  rintro _ w284_10 ⟨hE284_10, r284_10, rfl, hr284_10⟩
  have hz284_10 := hE284_10.1
  try simp only [size_alloc, size_setB, size_drew] at hz284_10
  refine WO_p (PS_assign_int rfl) ?_
  refine WO_nil ?_
  refine thn_normal ?_
  refine W_seq ?_
  refine W_region rfl ?_
  refine WO_p (PS_move_ptr rfl) ?_
  refine WO_p (PS_nilCheck rfl) ?_
  refine WO_p (PS_indexA Hvad.runUnderlying195 Hvad.sizeOf26 rfl rfl (by omega) (by omega)) ?_
  refine WO_load (.int _ _) Hvad.isAgg26 rfl (Hb.h (by repeat (first | assumption | exact Hb.newY _ _ | refine Hb.alloc ?_ | refine Hb.drew ?_ | refine Hb.ext (by assumption) ?_ | exact Hb.setSameL (by first | omega | (simp only [size_alloc, size_setB, size_drew]; omega)) | exact Hb.setSame (by assumption) | refine Hb.set (by first | omega | (simp only [size_alloc, size_setB, size_drew]; omega)) ?_ ))) (Ce.h (by first | assumption | exact ⟨rfl⟩)) ?_
  refine WO_p (PS_move_int rfl) ?_
  refine WO_p (PS_xor_u64 rfl rfl) ?_
  refine WO_call Hvad.call284 (by rfl) (Ret.mono (rot_spec _ _ _ (by decide) (by first | assumption | exact bXor_bd _ _)) ?_)
  rintro _ w284_11 ⟨hE284_11, r284_11, rfl, hr284_11⟩
  have hz284_11 := hE284_11.1
  try simp only [size_alloc, size_setB, size_drew] at hz284_11
  refine WO_p (PS_assign_int rfl) ?_
  refine WO_nil ?_
  refine thn_normal ?_
  refine W_seq ?_
  refine W_region rfl ?_
  refine WO_p (PS_move_ptr rfl) ?_
  refine WO_p (PS_nilCheck rfl) ?_
  refine WO_p (PS_indexA Hvad.runUnderlying195 Hvad.sizeOf26 rfl rfl (by omega) (by omega)) ?_
  refine WO_load (.int _ _) Hvad.isAgg26 rfl (Hb.h (by repeat (first | assumption | exact Hb.newY _ _ | refine Hb.alloc ?_ | refine Hb.drew ?_ | refine Hb.ext (by assumption) ?_ | exact Hb.setSameL (by first | omega | (simp only [size_alloc, size_setB, size_drew]; omega)) | exact Hb.setSame (by assumption) | refine Hb.set (by first | omega | (simp only [size_alloc, size_setB, size_drew]; omega)) ?_ ))) (Ce.h (by first | assumption | exact ⟨rfl⟩)) ?_
  refine WO_p (PS_move_int rfl) ?_
  refine WO_p (PS_xor_u64 rfl rfl) ?_
  refine WO_call Hvad.call284 (by rfl) (Ret.mono (rot_spec _ _ _ (by decide) (by first | assumption | exact bXor_bd _ _)) ?_)
  rintro _ w284_12 ⟨hE284_12, r284_12, rfl, hr284_12⟩
  have hz284_12 := hE284_12.1
  try simp only [size_alloc, size_setB, size_drew] at hz284_12
  refine WO_p (PS_assign_int rfl) ?_
  refine WO_nil ?_
  refine thn_normal ?_
  refine W_seq ?_
  refine W_region rfl ?_
  refine WO_p (PS_move_ptr rfl) ?_
  refine WO_p (PS_nilCheck rfl) ?_
  refine WO_p (PS_indexA Hvad.runUnderlying195 Hvad.sizeOf26 rfl rfl (by omega) (by omega)) ?_
  refine WO_load (.int _ _) Hvad.isAgg26 rfl (Hb.h (by repeat (first | assumption | exact Hb.newY _ _ | refine Hb.alloc ?_ | refine Hb.drew ?_ | refine Hb.ext (by assumption) ?_ | exact Hb.setSameL (by first | omega | (simp only [size_alloc, size_setB, size_drew]; omega)) | exact Hb.setSame (by assumption) | refine Hb.set (by first | omega | (simp only [size_alloc, size_setB, size_drew]; omega)) ?_ ))) (Ce.h (by first | assumption | exact ⟨rfl⟩)) ?_
  refine WO_p (PS_move_int rfl) ?_
  refine WO_p (PS_xor_u64 rfl rfl) ?_
  refine WO_call Hvad.call284 (by rfl) (Ret.mono (rot_spec _ _ _ (by decide) (by first | assumption | exact bXor_bd _ _)) ?_)
  rintro _ w284_13 ⟨hE284_13, r284_13, rfl, hr284_13⟩
  have hz284_13 := hE284_13.1
  try simp only [size_alloc, size_setB, size_drew] at hz284_13
  refine WO_p (PS_assign_int rfl) ?_
  refine WO_nil ?_
  refine thn_normal ?_
  refine W_seq ?_
  refine W_cutU [7, 8, 9, 10, 11, 12, 13, 14, 15, 16, 17, 18, 19, 20, 21] [(0, .pointer (some ⟨b, 0, none⟩))] ⟨rfl, trivial⟩ ⟨⟨_, rfl, by first | assumption | exact bXor_bd _ _⟩, ⟨_, rfl, by first | assumption | exact bXor_bd _ _⟩, ⟨_, rfl, by first | assumption | exact bXor_bd _ _⟩, ⟨_, rfl, by first | assumption | exact bXor_bd _ _⟩, ⟨_, rfl, by first | assumption | exact bXor_bd _ _⟩, ⟨_, rfl, by first | assumption | exact bXor_bd _ _⟩, ⟨_, rfl, by first | assumption | exact bXor_bd _ _⟩, ⟨_, rfl, by first | assumption | exact bXor_bd _ _⟩, ⟨_, rfl, by first | assumption | exact bXor_bd _ _⟩, ⟨_, rfl, by first | assumption | exact bXor_bd _ _⟩, ⟨_, rfl, by first | assumption | exact bXor_bd _ _⟩, ⟨_, rfl, by first | assumption | exact bXor_bd _ _⟩, ⟨_, rfl, by first | assumption | exact bXor_bd _ _⟩, ⟨_, rfl, by first | assumption | exact bXor_bd _ _⟩, ⟨_, rfl, by first | assumption | exact bXor_bd _ _⟩, trivial⟩ ?_
  intro x7 hx7 x8 hx8 x9 hx9 x10 hx10 x11 hx11 x12 hx12 x13 hx13 x14 hx14 x15 hx15 x16 hx16 x17 hx17 x18 hx18 x19 hx19 x20 hx20 x21 hx21 ρ hFr
  refine W_env _ hFr ?_
  clear hFr
  refine W_region rfl ?_
  refine WO_p (PS_move_ptr rfl) ?_
  refine WO_p (PS_nilCheck rfl) ?_
  refine WO_p (PS_indexA Hvad.runUnderlying195 Hvad.sizeOf26 rfl rfl (by omega) (by omega)) ?_
  refine WO_load (.int _ _) Hvad.isAgg26 rfl (Hb.h (by repeat (first | assumption | exact Hb.newY _ _ | refine Hb.alloc ?_ | refine Hb.drew ?_ | refine Hb.ext (by assumption) ?_ | exact Hb.setSameL (by first | omega | (simp only [size_alloc, size_setB, size_drew]; omega)) | exact Hb.setSame (by assumption) | refine Hb.set (by first | omega | (simp only [size_alloc, size_setB, size_drew]; omega)) ?_ ))) (Ce.h (by first | assumption | exact ⟨rfl⟩)) ?_
  refine WO_p (PS_move_int rfl) ?_
  refine WO_p (PS_xor_u64 rfl rfl) ?_
  refine WO_call Hvad.call284 (by rfl) (Ret.mono (rot_spec _ _ _ (by decide) (by first | assumption | exact bXor_bd _ _)) ?_)
  rintro _ w284_14 ⟨hE284_14, r284_14, rfl, hr284_14⟩
  have hz284_14 := hE284_14.1
  try simp only [size_alloc, size_setB, size_drew] at hz284_14
  refine WO_p (PS_assign_int rfl) ?_
  refine WO_nil ?_
  refine thn_normal ?_
  refine W_seq ?_
  refine W_region rfl ?_
  refine WO_p (PS_move_ptr rfl) ?_
  refine WO_p (PS_nilCheck rfl) ?_
  refine WO_p (PS_indexA Hvad.runUnderlying195 Hvad.sizeOf26 rfl rfl (by omega) (by omega)) ?_
  refine WO_load (.int _ _) Hvad.isAgg26 rfl (Hb.h (by repeat (first | assumption | exact Hb.newY _ _ | refine Hb.alloc ?_ | refine Hb.drew ?_ | refine Hb.ext (by assumption) ?_ | exact Hb.setSameL (by first | omega | (simp only [size_alloc, size_setB, size_drew]; omega)) | exact Hb.setSame (by assumption) | refine Hb.set (by first | omega | (simp only [size_alloc, size_setB, size_drew]; omega)) ?_ ))) (Ce.h (by first | assumption | exact ⟨rfl⟩)) ?_
  refine WO_p (PS_move_int rfl) ?_
  refine WO_p (PS_xor_u64 rfl rfl) ?_
  refine WO_call Hvad.call284 (by rfl) (Ret.mono (rot_spec _ _ _ (by decide) (by first | assumption | exact bXor_bd _ _)) ?_)
  rintro _ w284_15 ⟨hE284_15, r284_15, rfl, hr284_15⟩
  have hz284_15 := hE284_15.1
  try simp only [size_alloc, size_setB, size_drew] at hz284_15
  refine WO_p (PS_assign_int rfl) ?_
  refine WO_nil ?_
  refine thn_normal ?_
  refine W_seq ?_
  refine W_region rfl ?_
  refine WO_p (PS_move_ptr rfl) ?_
  refine WO_p (PS_nilCheck rfl) ?_
  refine WO_p (PS_indexA Hvad.runUnderlying195 Hvad.sizeOf26 rfl rfl (by omega) (by omega)) ?_
  refine WO_load (.int _ _) Hvad.isAgg26 rfl (Hb.h (by repeat (first | assumption | exact Hb.newY _ _ | refine Hb.alloc ?_ | refine Hb.drew ?_ | refine Hb.ext (by assumption) ?_ | exact Hb.setSameL (by first | omega | (simp only [size_alloc, size_setB, size_drew]; omega)) | exact Hb.setSame (by assumption) | refine Hb.set (by first | omega | (simp only [size_alloc, size_setB, size_drew]; omega)) ?_ ))) (Ce.h (by first | assumption | exact ⟨rfl⟩)) ?_
  refine WO_p (PS_move_int rfl) ?_
  refine WO_p (PS_xor_u64 rfl rfl) ?_
  refine WO_call Hvad.call284 (by rfl) (Ret.mono (rot_spec _ _ _ (by decide) (by first | assumption | exact bXor_bd _ _)) ?_)
  rintro _ w284_16 ⟨hE284_16, r284_16, rfl, hr284_16⟩
  have hz284_16 := hE284_16.1
  try simp only [size_alloc, size_setB, size_drew] at hz284_16
  refine WO_p (PS_assign_int rfl) ?_
  refine WO_nil ?_
  refine thn_normal ?_
  refine W_seq ?_
  refine W_region rfl ?_
  refine WO_p (PS_move_ptr rfl) ?_
  refine WO_p (PS_nilCheck rfl) ?_
  refine WO_p (PS_indexA Hvad.runUnderlying195 Hvad.sizeOf26 rfl rfl (by omega) (by omega)) ?_
  refine WO_load (.int _ _) Hvad.isAgg26 rfl (Hb.h (by repeat (first | assumption | exact Hb.newY _ _ | refine Hb.alloc ?_ | refine Hb.drew ?_ | refine Hb.ext (by assumption) ?_ | exact Hb.setSameL (by first | omega | (simp only [size_alloc, size_setB, size_drew]; omega)) | exact Hb.setSame (by assumption) | refine Hb.set (by first | omega | (simp only [size_alloc, size_setB, size_drew]; omega)) ?_ ))) (Ce.h (by first | assumption | exact ⟨rfl⟩)) ?_
  refine WO_p (PS_move_int rfl) ?_
  refine WO_p (PS_xor_u64 rfl rfl) ?_
  refine WO_call Hvad.call284 (by rfl) (Ret.mono (rot_spec _ _ _ (by decide) (by first | assumption | exact bXor_bd _ _)) ?_)
  rintro _ w284_17 ⟨hE284_17, r284_17, rfl, hr284_17⟩
  have hz284_17 := hE284_17.1
  try simp only [size_alloc, size_setB, size_drew] at hz284_17
  refine WO_p (PS_assign_int rfl) ?_
  refine WO_nil ?_
  refine thn_normal ?_
  refine W_seq ?_
  refine W_region rfl ?_
  refine WO_p (PS_move_ptr rfl) ?_
  refine WO_p (PS_nilCheck rfl) ?_
  refine WO_p (PS_indexA Hvad.runUnderlying195 Hvad.sizeOf26 rfl rfl (by omega) (by omega)) ?_
  refine WO_load (.int _ _) Hvad.isAgg26 rfl (Hb.h (by repeat (first | assumption | exact Hb.newY _ _ | refine Hb.alloc ?_ | refine Hb.drew ?_ | refine Hb.ext (by assumption) ?_ | exact Hb.setSameL (by first | omega | (simp only [size_alloc, size_setB, size_drew]; omega)) | exact Hb.setSame (by assumption) | refine Hb.set (by first | omega | (simp only [size_alloc, size_setB, size_drew]; omega)) ?_ ))) (Ce.h (by first | assumption | exact ⟨rfl⟩)) ?_
  refine WO_p (PS_move_int rfl) ?_
  refine WO_p (PS_xor_u64 rfl rfl) ?_
  refine WO_call Hvad.call284 (by rfl) (Ret.mono (rot_spec _ _ _ (by decide) (by first | assumption | exact bXor_bd _ _)) ?_)
  rintro _ w284_18 ⟨hE284_18, r284_18, rfl, hr284_18⟩
  have hz284_18 := hE284_18.1
  try simp only [size_alloc, size_setB, size_drew] at hz284_18
  refine WO_p (PS_assign_int rfl) ?_
  refine WO_nil ?_
  refine thn_normal ?_
  refine W_seq ?_
  refine W_cutU [7, 8, 9, 10, 11, 12, 13, 14, 15, 16, 17, 18, 19, 20, 21, 22, 23, 24, 25, 26] [(0, .pointer (some ⟨b, 0, none⟩))] ⟨rfl, trivial⟩ ⟨⟨_, rfl, by first | assumption | exact bXor_bd _ _⟩, ⟨_, rfl, by first | assumption | exact bXor_bd _ _⟩, ⟨_, rfl, by first | assumption | exact bXor_bd _ _⟩, ⟨_, rfl, by first | assumption | exact bXor_bd _ _⟩, ⟨_, rfl, by first | assumption | exact bXor_bd _ _⟩, ⟨_, rfl, by first | assumption | exact bXor_bd _ _⟩, ⟨_, rfl, by first | assumption | exact bXor_bd _ _⟩, ⟨_, rfl, by first | assumption | exact bXor_bd _ _⟩, ⟨_, rfl, by first | assumption | exact bXor_bd _ _⟩, ⟨_, rfl, by first | assumption | exact bXor_bd _ _⟩, ⟨_, rfl, by first | assumption | exact bXor_bd _ _⟩, ⟨_, rfl, by first | assumption | exact bXor_bd _ _⟩, ⟨_, rfl, by first | assumption | exact bXor_bd _ _⟩, ⟨_, rfl, by first | assumption | exact bXor_bd _ _⟩, ⟨_, rfl, by first | assumption | exact bXor_bd _ _⟩, ⟨_, rfl, by first | assumption | exact bXor_bd _ _⟩, ⟨_, rfl, by first | assumption | exact bXor_bd _ _⟩, ⟨_, rfl, by first | assumption | exact bXor_bd _ _⟩, ⟨_, rfl, by first | assumption | exact bXor_bd _ _⟩, ⟨_, rfl, by first | assumption | exact bXor_bd _ _⟩, trivial⟩ ?_
  intro x7 hx7 x8 hx8 x9 hx9 x10 hx10 x11 hx11 x12 hx12 x13 hx13 x14 hx14 x15 hx15 x16 hx16 x17 hx17 x18 hx18 x19 hx19 x20 hx20 x21 hx21 x22 hx22 x23 hx23 x24 hx24 x25 hx25 x26 hx26 ρ hFr
  refine W_env _ hFr ?_
  clear hFr
  refine W_region rfl ?_
  refine WO_p (PS_move_ptr rfl) ?_
  refine WO_p (PS_nilCheck rfl) ?_
  refine WO_p (PS_indexA Hvad.runUnderlying195 Hvad.sizeOf26 rfl rfl (by omega) (by omega)) ?_
  refine WO_load (.int _ _) Hvad.isAgg26 rfl (Hb.h (by repeat (first | assumption | exact Hb.newY _ _ | refine Hb.alloc ?_ | refine Hb.drew ?_ | refine Hb.ext (by assumption) ?_ | exact Hb.setSameL (by first | omega | (simp only [size_alloc, size_setB, size_drew]; omega)) | exact Hb.setSame (by assumption) | refine Hb.set (by first | omega | (simp only [size_alloc, size_setB, size_drew]; omega)) ?_ ))) (Ce.h (by first | assumption | exact ⟨rfl⟩)) ?_
  refine WO_p (PS_move_int rfl) ?_
  refine WO_p (PS_xor_u64 rfl rfl) ?_
  refine WO_call Hvad.call284 (by rfl) (Ret.mono (rot_spec _ _ _ (by decide) (by first | assumption | exact bXor_bd _ _)) ?_)
  rintro _ w284_19 ⟨hE284_19, r284_19, rfl, hr284_19⟩
  have hz284_19 := hE284_19.1
  try simp only [size_alloc, size_setB, size_drew] at hz284_19
  refine WO_p (PS_assign_int rfl) ?_
  refine WO_nil ?_
  refine thn_normal ?_
  refine W_seq ?_
  refine W_region rfl ?_
  refine WO_p (PS_move_ptr rfl) ?_
  refine WO_p (PS_nilCheck rfl) ?_
  refine WO_p (PS_indexA Hvad.runUnderlying195 Hvad.sizeOf26 rfl rfl (by omega) (by omega)) ?_
  refine WO_load (.int _ _) Hvad.isAgg26 rfl (Hb.h (by repeat (first | assumption | exact Hb.newY _ _ | refine Hb.alloc ?_ | refine Hb.drew ?_ | refine Hb.ext (by assumption) ?_ | exact Hb.setSameL (by first | omega | (simp only [size_alloc, size_setB, size_drew]; omega)) | exact Hb.setSame (by assumption) | refine Hb.set (by first | omega | (simp only [size_alloc, size_setB, size_drew]; omega)) ?_ ))) (Ce.h (by first | assumption | exact ⟨rfl⟩)) ?_
  refine WO_p (PS_move_int rfl) ?_
  refine WO_p (PS_xor_u64 rfl rfl) ?_
  refine WO_call Hvad.call284 (by rfl) (Ret.mono (rot_spec _ _ _ (by decide) (by first | assumption | exact bXor_bd _ _)) ?_)
  rintro _ w284_20 ⟨hE284_20, r284_20, rfl, hr284_20⟩
  have hz284_20 := hE284_20.1
  try simp only [size_alloc, size_setB, size_drew] at hz284_20
  refine WO_p (PS_assign_int rfl) ?_
  refine WO_nil ?_
  refine thn_normal ?_
  refine W_seq ?_
  refine W_region rfl ?_
  refine WO_p (PS_move_ptr rfl) ?_
  refine WO_p (PS_nilCheck rfl) ?_
  refine WO_p (PS_indexA Hvad.runUnderlying195 Hvad.sizeOf26 rfl rfl (by omega) (by omega)) ?_
  refine WO_load (.int _ _) Hvad.isAgg26 rfl (Hb.h (by repeat (first | assumption | exact Hb.newY _ _ | refine Hb.alloc ?_ | refine Hb.drew ?_ | refine Hb.ext (by assumption) ?_ | exact Hb.setSameL (by first | omega | (simp only [size_alloc, size_setB, size_drew]; omega)) | exact Hb.setSame (by assumption) | refine Hb.set (by first | omega | (simp only [size_alloc, size_setB, size_drew]; omega)) ?_ ))) (Ce.h (by first | assumption | exact ⟨rfl⟩)) ?_
  refine WO_p (PS_move_int rfl) ?_
  refine WO_p (PS_xor_u64 rfl rfl) ?_
  refine WO_call Hvad.call284 (by rfl) (Ret.mono (rot_spec _ _ _ (by decide) (by first | assumption | exact bXor_bd _ _)) ?_)
  rintro _ w284_21 ⟨hE284_21, r284_21, rfl, hr284_21⟩
  have hz284_21 := hE284_21.1
  try simp only [size_alloc, size_setB, size_drew] at hz284_21
  refine WO_p (PS_assign_int rfl) ?_
  refine WO_nil ?_
  refine thn_normal ?_
  refine W_seq ?_
  refine W_region rfl ?_
  refine WO_p (PS_move_ptr rfl) ?_
  refine WO_p (PS_nilCheck rfl) ?_
  refine WO_p (PS_indexA Hvad.runUnderlying195 Hvad.sizeOf26 rfl rfl (by omega) (by omega)) ?_
  refine WO_load (.int _ _) Hvad.isAgg26 rfl (Hb.h (by repeat (first | assumption | exact Hb.newY _ _ | refine Hb.alloc ?_ | refine Hb.drew ?_ | refine Hb.ext (by assumption) ?_ | exact Hb.setSameL (by first | omega | (simp only [size_alloc, size_setB, size_drew]; omega)) | exact Hb.setSame (by assumption) | refine Hb.set (by first | omega | (simp only [size_alloc, size_setB, size_drew]; omega)) ?_ ))) (Ce.h (by first | assumption | exact ⟨rfl⟩)) ?_
  refine WO_p (PS_move_int rfl) ?_
  refine WO_p (PS_xor_u64 rfl rfl) ?_
  refine WO_call Hvad.call284 (by rfl) (Ret.mono (rot_spec _ _ _ (by decide) (by first | assumption | exact bXor_bd _ _)) ?_)
  rintro _ w284_22 ⟨hE284_22, r284_22, rfl, hr284_22⟩
  have hz284_22 := hE284_22.1
  try simp only [size_alloc, size_setB, size_drew] at hz284_22
  refine WO_p (PS_assign_int rfl) ?_
  refine WO_nil ?_
  refine thn_normal ?_
  refine W_seq ?_
  refine W_region rfl ?_
  refine WO_p (PS_move_ptr rfl) ?_
  refine WO_p (PS_nilCheck rfl) ?_
  refine WO_p (PS_indexA Hvad.runUnderlying195 Hvad.sizeOf26 rfl rfl (by omega) (by omega)) ?_
  refine WO_load (.int _ _) Hvad.isAgg26 rfl (Hb.h (by repeat (first | assumption | exact Hb.newY _ _ | refine Hb.alloc ?_ | refine Hb.drew ?_ | refine Hb.ext (by assumption) ?_ | exact Hb.setSameL (by first | omega | (simp only [size_alloc, size_setB, size_drew]; omega)) | exact Hb.setSame (by assumption) | refine Hb.set (by first | omega | (simp only [size_alloc, size_setB, size_drew]; omega)) ?_ ))) (Ce.h (by first | assumption | exact ⟨rfl⟩)) ?_
  refine WO_p (PS_move_int rfl) ?_
  refine WO_p (PS_xor_u64 rfl rfl) ?_
  refine WO_call Hvad.call284 (by rfl) (Ret.mono (rot_spec _ _ _ (by decide) (by first | assumption | exact bXor_bd _ _)) ?_)
  rintro _ w284_23 ⟨hE284_23, r284_23, rfl, hr284_23⟩
  have hz284_23 := hE284_23.1
  try simp only [size_alloc, size_setB, size_drew] at hz284_23
  refine WO_p (PS_assign_int rfl) ?_
  refine WO_nil ?_
  refine thn_normal ?_
  refine W_seq ?_
  refine W_cutU [7, 8, 9, 10, 11, 12, 13, 14, 15, 16, 17, 18, 19, 20, 21, 22, 23, 24, 25, 26, 27, 28, 29, 30, 31] [(0, .pointer (some ⟨b, 0, none⟩))] ⟨rfl, trivial⟩ ⟨⟨_, rfl, by first | assumption | exact bXor_bd _ _⟩, ⟨_, rfl, by first | assumption | exact bXor_bd _ _⟩, ⟨_, rfl, by first | assumption | exact bXor_bd _ _⟩, ⟨_, rfl, by first | assumption | exact bXor_bd _ _⟩, ⟨_, rfl, by first | assumption | exact bXor_bd _ _⟩, ⟨_, rfl, by first | assumption | exact bXor_bd _ _⟩, ⟨_, rfl, by first | assumption | exact bXor_bd _ _⟩, ⟨_, rfl, by first | assumption | exact bXor_bd _ _⟩, ⟨_, rfl, by first | assumption | exact bXor_bd _ _⟩, ⟨_, rfl, by first | assumption | exact bXor_bd _ _⟩, ⟨_, rfl, by first | assumption | exact bXor_bd _ _⟩, ⟨_, rfl, by first | assumption | exact bXor_bd _ _⟩, ⟨_, rfl, by first | assumption | exact bXor_bd _ _⟩, ⟨_, rfl, by first | assumption | exact bXor_bd _ _⟩, ⟨_, rfl, by first | assumption | exact bXor_bd _ _⟩, ⟨_, rfl, by first | assumption | exact bXor_bd _ _⟩, ⟨_, rfl, by first | assumption | exact bXor_bd _ _⟩, ⟨_, rfl, by first | assumption | exact bXor_bd _ _⟩, ⟨_, rfl, by first | assumption | exact bXor_bd _ _⟩, ⟨_, rfl, by first | assumption | exact bXor_bd _ _⟩, ⟨_, rfl, by first | assumption | exact bXor_bd _ _⟩, ⟨_, rfl, by first | assumption | exact bXor_bd _ _⟩, ⟨_, rfl, by first | assumption | exact bXor_bd _ _⟩, ⟨_, rfl, by first | assumption | exact bXor_bd _ _⟩, ⟨_, rfl, by first | assumption | exact bXor_bd _ _⟩, trivial⟩ ?_
  intro x7 hx7 x8 hx8 x9 hx9 x10 hx10 x11 hx11 x12 hx12 x13 hx13 x14 hx14 x15 hx15 x16 hx16 x17 hx17 x18 hx18 x19 hx19 x20 hx20 x21 hx21 x22 hx22 x23 hx23 x24 hx24 x25 hx25 x26 hx26 x27 hx27 x28 hx28 x29 hx29 x30 hx30 x31 hx31 ρ hFr
  refine W_env _ hFr ?_
  clear hFr
  refine W_region rfl ?_
  refine WO_p (PS_move_ptr rfl) ?_
  refine WO_p (PS_nilCheck rfl) ?_
  refine WO_p (PS_indexA Hvad.runUnderlying195 Hvad.sizeOf26 rfl rfl (by omega) (by omega)) ?_
  refine WO_load (.int _ _) Hvad.isAgg26 rfl (Hb.h (by repeat (first | assumption | exact Hb.newY _ _ | refine Hb.alloc ?_ | refine Hb.drew ?_ | refine Hb.ext (by assumption) ?_ | exact Hb.setSameL (by first | omega | (simp only [size_alloc, size_setB, size_drew]; omega)) | exact Hb.setSame (by assumption) | refine Hb.set (by first | omega | (simp only [size_alloc, size_setB, size_drew]; omega)) ?_ ))) (Ce.h (by first | assumption | exact ⟨rfl⟩)) ?_
  refine WO_p (PS_move_int rfl) ?_
  refine WO_p (PS_xor_u64 rfl rfl) ?_
  refine WO_call Hvad.call284 (by rfl) (Ret.mono (rot_spec _ _ _ (by decide) (by first | assumption | exact bXor_bd _ _)) ?_)
  rintro _ w284_24 ⟨hE284_24, r284_24, rfl, hr284_24⟩
  have hz284_24 := hE284_24.1
  try simp only [size_alloc, size_setB, size_drew] at hz284_24
  refine WO_p (PS_assign_int rfl) ?_
  refine WO_nil ?_
  refine thn_normal ?_
  refine W_seq ?_
  refine W_region rfl ?_
  refine WO_p (PS_move_ptr rfl) ?_
  refine WO_p (PS_nilCheck rfl) ?_
  refine WO_p (PS_indexA Hvad.runUnderlying195 Hvad.sizeOf26 rfl rfl (by omega) (by omega)) ?_
  refine WO_load (.int _ _) Hvad.isAgg26 rfl (Hb.h (by repeat (first | assumption | exact Hb.newY _ _ | refine Hb.alloc ?_ | refine Hb.drew ?_ | refine Hb.ext (by assumption) ?_ | exact Hb.setSameL (by first | omega | (simp only [size_alloc, size_setB, size_drew]; omega)) | exact Hb.setSame (by assumption) | refine Hb.set (by first | omega | (simp only [size_alloc, size_setB, size_drew]; omega)) ?_ ))) (Ce.h (by first | assumption | exact ⟨rfl⟩)) ?_
  refine WO_p (PS_move_int rfl) ?_
  refine WO_p (PS_xor_u64 rfl rfl) ?_
  refine WO_call Hvad.call284 (by rfl) (Ret.mono (rot_spec _ _ _ (by decide) (by first | assumption | exact bXor_bd _ _)) ?_)
  rintro _ w284_25 ⟨hE284_25, r284_25, rfl, hr284_25⟩
  have hz284_25 := hE284_25.1
  try simp only [size_alloc, size_setB, size_drew] at hz284_25
  refine WO_p (PS_assign_int rfl) ?_
  refine WO_nil ?_
  refine thn_normal ?_
  refine W_seq ?_
  refine W_region rfl ?_
  refine WO_p (PS_move_ptr rfl) ?_
  refine WO_p (PS_nilCheck rfl) ?_
  refine WO_p (PS_indexA Hvad.runUnderlying195 Hvad.sizeOf26 rfl rfl (by omega) (by omega)) ?_
  refine WO_load (.int _ _) Hvad.isAgg26 rfl (Hb.h (by repeat (first | assumption | exact Hb.newY _ _ | refine Hb.alloc ?_ | refine Hb.drew ?_ | refine Hb.ext (by assumption) ?_ | exact Hb.setSameL (by first | omega | (simp only [size_alloc, size_setB, size_drew]; omega)) | exact Hb.setSame (by assumption) | refine Hb.set (by first | omega | (simp only [size_alloc, size_setB, size_drew]; omega)) ?_ ))) (Ce.h (by first | assumption | exact ⟨rfl⟩)) ?_
  refine WO_p (PS_move_int rfl) ?_
  refine WO_p (PS_xor_u64 rfl rfl) ?_
  refine WO_call Hvad.call284 (by rfl) (Ret.mono (rot_spec _ _ _ (by decide) (by first | assumption | exact bXor_bd _ _)) ?_)
  rintro _ w284_26 ⟨hE284_26, r284_26, rfl, hr284_26⟩
  have hz284_26 := hE284_26.1
  try simp only [size_alloc, size_setB, size_drew] at hz284_26
  refine WO_p (PS_assign_int rfl) ?_
  refine WO_nil ?_
  refine thn_normal ?_
  refine W_seq ?_
  refine W_region rfl ?_
  refine WO_p (PS_move_ptr rfl) ?_
  refine WO_p (PS_nilCheck rfl) ?_
  refine WO_p (PS_indexA Hvad.runUnderlying195 Hvad.sizeOf26 rfl rfl (by omega) (by omega)) ?_
  refine WO_load (.int _ _) Hvad.isAgg26 rfl (Hb.h (by repeat (first | assumption | exact Hb.newY _ _ | refine Hb.alloc ?_ | refine Hb.drew ?_ | refine Hb.ext (by assumption) ?_ | exact Hb.setSameL (by first | omega | (simp only [size_alloc, size_setB, size_drew]; omega)) | exact Hb.setSame (by assumption) | refine Hb.set (by first | omega | (simp only [size_alloc, size_setB, size_drew]; omega)) ?_ ))) (Ce.h (by first | assumption | exact ⟨rfl⟩)) ?_
  refine WO_p (PS_move_int rfl) ?_
  refine WO_p (PS_xor_u64 rfl rfl) ?_
  refine WO_call Hvad.call284 (by rfl) (Ret.mono (rot_spec _ _ _ (by decide) (by first | assumption | exact bXor_bd _ _)) ?_)
  rintro _ w284_27 ⟨hE284_27, r284_27, rfl, hr284_27⟩
  have hz284_27 := hE284_27.1
  try simp only [size_alloc, size_setB, size_drew] at hz284_27
  refine WO_p (PS_assign_int rfl) ?_
  refine WO_nil ?_
  refine thn_normal ?_
  refine W_seq ?_
  refine W_region rfl ?_
  refine WO_p (PS_move_ptr rfl) ?_
  refine WO_p (PS_nilCheck rfl) ?_
  refine WO_p (PS_indexA Hvad.runUnderlying195 Hvad.sizeOf26 rfl rfl (by omega) (by omega)) ?_
  refine WO_load (.int _ _) Hvad.isAgg26 rfl (Hb.h (by repeat (first | assumption | exact Hb.newY _ _ | refine Hb.alloc ?_ | refine Hb.drew ?_ | refine Hb.ext (by assumption) ?_ | exact Hb.setSameL (by first | omega | (simp only [size_alloc, size_setB, size_drew]; omega)) | exact Hb.setSame (by assumption) | refine Hb.set (by first | omega | (simp only [size_alloc, size_setB, size_drew]; omega)) ?_ ))) (Ce.h (by first | assumption | exact ⟨rfl⟩)) ?_
  refine WO_p (PS_move_int rfl) ?_
  refine WO_p (PS_xor_u64 rfl rfl) ?_
  refine WO_call Hvad.call284 (by rfl) (Ret.mono (rot_spec _ _ _ (by decide) (by first | assumption | exact bXor_bd _ _)) ?_)
  rintro _ w284_28 ⟨hE284_28, r284_28, rfl, hr284_28⟩
  have hz284_28 := hE284_28.1
  try simp only [size_alloc, size_setB, size_drew] at hz284_28
  refine WO_p (PS_assign_int rfl) ?_
  refine WO_nil ?_
  refine thn_normal ?_
  refine W_seq ?_
  refine W_cutU [12, 13, 14, 15, 16, 17, 18, 19, 20, 21, 22, 23, 24, 25, 26, 27, 28, 29, 30, 31, 32, 33, 34, 35, 36] [(0, .pointer (some ⟨b, 0, none⟩))] ⟨rfl, trivial⟩ ⟨⟨_, rfl, by first | assumption | exact bXor_bd _ _⟩, ⟨_, rfl, by first | assumption | exact bXor_bd _ _⟩, ⟨_, rfl, by first | assumption | exact bXor_bd _ _⟩, ⟨_, rfl, by first | assumption | exact bXor_bd _ _⟩, ⟨_, rfl, by first | assumption | exact bXor_bd _ _⟩, ⟨_, rfl, by first | assumption | exact bXor_bd _ _⟩, ⟨_, rfl, by first | assumption | exact bXor_bd _ _⟩, ⟨_, rfl, by first | assumption | exact bXor_bd _ _⟩, ⟨_, rfl, by first | assumption | exact bXor_bd _ _⟩, ⟨_, rfl, by first | assumption | exact bXor_bd _ _⟩, ⟨_, rfl, by first | assumption | exact bXor_bd _ _⟩, ⟨_, rfl, by first | assumption | exact bXor_bd _ _⟩, ⟨_, rfl, by first | assumption | exact bXor_bd _ _⟩, ⟨_, rfl, by first | assumption | exact bXor_bd _ _⟩, ⟨_, rfl, by first | assumption | exact bXor_bd _ _⟩, ⟨_, rfl, by first | assumption | exact bXor_bd _ _⟩, ⟨_, rfl, by first | assumption | exact bXor_bd _ _⟩, ⟨_, rfl, by first | assumption | exact bXor_bd _ _⟩, ⟨_, rfl, by first | assumption | exact bXor_bd _ _⟩, ⟨_, rfl, by first | assumption | exact bXor_bd _ _⟩, ⟨_, rfl, by first | assumption | exact bXor_bd _ _⟩, ⟨_, rfl, by first | assumption | exact bXor_bd _ _⟩, ⟨_, rfl, by first | assumption | exact bXor_bd _ _⟩, ⟨_, rfl, by first | assumption | exact bXor_bd _ _⟩, ⟨_, rfl, by first | assumption | exact bXor_bd _ _⟩, trivial⟩ ?_
  intro x12 hx12 x13 hx13 x14 hx14 x15 hx15 x16 hx16 x17 hx17 x18 hx18 x19 hx19 x20 hx20 x21 hx21 x22 hx22 x23 hx23 x24 hx24 x25 hx25 x26 hx26 x27 hx27 x28 hx28 x29 hx29 x30 hx30 x31 hx31 x32 hx32 x33 hx33 x34 hx34 x35 hx35 x36 hx36 ρ hFr
  refine W_env _ hFr ?_
  clear hFr
  refine W_region rfl ?_
  refine WO_p (PS_move_ptr rfl) ?_
  refine WO_p (PS_move_int rfl) ?_
  refine WO_p (PS_move_int rfl) ?_
  refine WO_p (PS_com_u64 rfl) ?_
  refine WO_p (PS_move_int rfl) ?_
  refine WO_p (PS_and_u64 rfl rfl) ?_
  refine WO_p (PS_xor_u64 rfl rfl) ?_
  refine WO_p (PS_nilCheck rfl) ?_
  refine WO_p (PS_indexA Hvad.runUnderlying195 Hvad.sizeOf26 rfl rfl (by omega) (by omega)) ?_
  refine WO_storeU Hvad.sizeOf26 rfl rfl (Hb.mk (Hb.h (by repeat (first | assumption | exact Hb.newY _ _ | refine Hb.alloc ?_ | refine Hb.drew ?_ | refine Hb.ext (by assumption) ?_ | exact Hb.setSameL (by first | omega | (simp only [size_alloc, size_setB, size_drew]; omega)) | exact Hb.setSame (by assumption) | refine Hb.set (by first | omega | (simp only [size_alloc, size_setB, size_drew]; omega)) ?_ )))) (by rw [hl]; decide) (bXor_bd _ _) ?_
  intro w0 L0 hU0
  have hb0 := hU0.hb
  have hl0 := hU0.len.trans hl
  refine WO_nil ?_
  refine thn_normal ?_
  refine W_seq ?_
  refine W_region rfl ?_
  refine WO_p (PS_move_ptr rfl) ?_
  refine WO_p (PS_move_int rfl) ?_
  refine WO_p (PS_move_int rfl) ?_
  refine WO_p (PS_com_u64 rfl) ?_
  refine WO_p (PS_move_int rfl) ?_
  refine WO_p (PS_and_u64 rfl rfl) ?_
  refine WO_p (PS_xor_u64 rfl rfl) ?_
  refine WO_p (PS_nilCheck rfl) ?_
  refine WO_p (PS_indexA Hvad.runUnderlying195 Hvad.sizeOf26 rfl rfl (by omega) (by omega)) ?_
  refine WO_storeU Hvad.sizeOf26 rfl rfl hb0 (by rw [hl0]; decide) (bXor_bd _ _) ?_
  intro w1 L1 hU1
  have hb1 := hU1.hb
  have hl1 := hU1.len.trans hl0
  refine WO_nil ?_
  refine thn_normal ?_
  refine W_seq ?_
  refine W_region rfl ?_
  refine WO_p (PS_move_ptr rfl) ?_
  refine WO_p (PS_move_int rfl) ?_
  refine WO_p (PS_move_int rfl) ?_
  refine WO_p (PS_com_u64 rfl) ?_
  refine WO_p (PS_move_int rfl) ?_
  refine WO_p (PS_and_u64 rfl rfl) ?_
  refine WO_p (PS_xor_u64 rfl rfl) ?_
  refine WO_p (PS_nilCheck rfl) ?_
  refine WO_p (PS_indexA Hvad.runUnderlying195 Hvad.sizeOf26 rfl rfl (by omega) (by omega)) ?_
  refine WO_storeU Hvad.sizeOf26 rfl rfl hb1 (by rw [hl1]; decide) (bXor_bd _ _) ?_
  intro w2 L2 hU2
  have hb2 := hU2.hb
  have hl2 := hU2.len.trans hl1
  refine WO_nil ?_
  refine thn_normal ?_
  refine W_seq ?_
  refine W_region rfl ?_
  refine WO_p (PS_move_ptr rfl) ?_
  refine WO_p (PS_move_int rfl) ?_
  refine WO_p (PS_move_int rfl) ?_
  refine WO_p (PS_com_u64 rfl) ?_
  refine WO_p (PS_move_int rfl) ?_
  refine WO_p (PS_and_u64 rfl rfl) ?_
  refine WO_p (PS_xor_u64 rfl rfl) ?_
  refine WO_p (PS_nilCheck rfl) ?_
  refine WO_p (PS_indexA Hvad.runUnderlying195 Hvad.sizeOf26 rfl rfl (by omega) (by omega)) ?_
  refine WO_storeU Hvad.sizeOf26 rfl rfl hb2 (by rw [hl2]; decide) (bXor_bd _ _) ?_
  intro w3 L3 hU3
  have hb3 := hU3.hb
  have hl3 := hU3.len.trans hl2
  refine WO_nil ?_
  refine thn_normal ?_
  refine W_seq ?_
  refine W_region rfl ?_
  refine WO_p (PS_move_ptr rfl) ?_
  refine WO_p (PS_move_int rfl) ?_
  refine WO_p (PS_move_int rfl) ?_
  refine WO_p (PS_com_u64 rfl) ?_
  refine WO_p (PS_move_int rfl) ?_
  refine WO_p (PS_and_u64 rfl rfl) ?_
  refine WO_p (PS_xor_u64 rfl rfl) ?_
  refine WO_p (PS_nilCheck rfl) ?_
  refine WO_p (PS_indexA Hvad.runUnderlying195 Hvad.sizeOf26 rfl rfl (by omega) (by omega)) ?_
  refine WO_storeU Hvad.sizeOf26 rfl rfl hb3 (by rw [hl3]; decide) (bXor_bd _ _) ?_
  intro w4 L4 hU4
  have hb4 := hU4.hb
  have hl4 := hU4.len.trans hl3
  refine WO_nil ?_
  refine thn_normal ?_
  refine W_seq ?_
  refine W_cutU [12, 13, 14, 15, 16, 17, 18, 19, 20, 21, 22, 23, 24, 25, 26, 27, 28, 29, 30, 31, 32, 33, 34, 35, 36] [(0, .pointer (some ⟨b, 0, none⟩))] ⟨rfl, trivial⟩ ⟨⟨_, rfl, by first | assumption | exact bXor_bd _ _⟩, ⟨_, rfl, by first | assumption | exact bXor_bd _ _⟩, ⟨_, rfl, by first | assumption | exact bXor_bd _ _⟩, ⟨_, rfl, by first | assumption | exact bXor_bd _ _⟩, ⟨_, rfl, by first | assumption | exact bXor_bd _ _⟩, ⟨_, rfl, by first | assumption | exact bXor_bd _ _⟩, ⟨_, rfl, by first | assumption | exact bXor_bd _ _⟩, ⟨_, rfl, by first | assumption | exact bXor_bd _ _⟩, ⟨_, rfl, by first | assumption | exact bXor_bd _ _⟩, ⟨_, rfl, by first | assumption | exact bXor_bd _ _⟩, ⟨_, rfl, by first | assumption | exact bXor_bd _ _⟩, ⟨_, rfl, by first | assumption | exact bXor_bd _ _⟩, ⟨_, rfl, by first | assumption | exact bXor_bd _ _⟩, ⟨_, rfl, by first | assumption | exact bXor_bd _ _⟩, ⟨_, rfl, by first | assumption | exact bXor_bd _ _⟩, ⟨_, rfl, by first | assumption | exact bXor_bd _ _⟩, ⟨_, rfl, by first | assumption | exact bXor_bd _ _⟩, ⟨_, rfl, by first | assumption | exact bXor_bd _ _⟩, ⟨_, rfl, by first | assumption | exact bXor_bd _ _⟩, ⟨_, rfl, by first | assumption | exact bXor_bd _ _⟩, ⟨_, rfl, by first | assumption | exact bXor_bd _ _⟩, ⟨_, rfl, by first | assumption | exact bXor_bd _ _⟩, ⟨_, rfl, by first | assumption | exact bXor_bd _ _⟩, ⟨_, rfl, by first | assumption | exact bXor_bd _ _⟩, ⟨_, rfl, by first | assumption | exact bXor_bd _ _⟩, trivial⟩ ?_
  intro x12 hx12 x13 hx13 x14 hx14 x15 hx15 x16 hx16 x17 hx17 x18 hx18 x19 hx19 x20 hx20 x21 hx21 x22 hx22 x23 hx23 x24 hx24 x25 hx25 x26 hx26 x27 hx27 x28 hx28 x29 hx29 x30 hx30 x31 hx31 x32 hx32 x33 hx33 x34 hx34 x35 hx35 x36 hx36 ρ hFr
  refine W_env _ hFr ?_
  clear hFr
  refine W_region rfl ?_
  refine WO_p (PS_move_ptr rfl) ?_
  refine WO_p (PS_move_int rfl) ?_
  refine WO_p (PS_move_int rfl) ?_
  refine WO_p (PS_com_u64 rfl) ?_
  refine WO_p (PS_move_int rfl) ?_
  refine WO_p (PS_and_u64 rfl rfl) ?_
  refine WO_p (PS_xor_u64 rfl rfl) ?_
  refine WO_p (PS_nilCheck rfl) ?_
  refine WO_p (PS_indexA Hvad.runUnderlying195 Hvad.sizeOf26 rfl rfl (by omega) (by omega)) ?_
  refine WO_storeU Hvad.sizeOf26 rfl rfl hb4 (by rw [hl4]; decide) (bXor_bd _ _) ?_
  intro w5 L5 hU5
  have hb5 := hU5.hb
  have hl5 := hU5.len.trans hl4
  refine WO_nil ?_
  refine thn_normal ?_
  refine W_seq ?_
  refine W_region rfl ?_
  refine WO_p (PS_move_ptr rfl) ?_
  refine WO_p (PS_move_int rfl) ?_
  refine WO_p (PS_move_int rfl) ?_
  refine WO_p (PS_com_u64 rfl) ?_
  refine WO_p (PS_move_int rfl) ?_
  refine WO_p (PS_and_u64 rfl rfl) ?_
  refine WO_p (PS_xor_u64 rfl rfl) ?_
  refine WO_p (PS_nilCheck rfl) ?_
  refine WO_p (PS_indexA Hvad.runUnderlying195 Hvad.sizeOf26 rfl rfl (by omega) (by omega)) ?_
  refine WO_storeU Hvad.sizeOf26 rfl rfl hb5 (by rw [hl5]; decide) (bXor_bd _ _) ?_
  intro w6 L6 hU6
  have hb6 := hU6.hb
  have hl6 := hU6.len.trans hl5
  refine WO_nil ?_
  refine thn_normal ?_
  refine W_seq ?_
  refine W_region rfl ?_
  refine WO_p (PS_move_ptr rfl) ?_
  refine WO_p (PS_move_int rfl) ?_
  refine WO_p (PS_move_int rfl) ?_
  refine WO_p (PS_com_u64 rfl) ?_
  refine WO_p (PS_move_int rfl) ?_
  refine WO_p (PS_and_u64 rfl rfl) ?_
  refine WO_p (PS_xor_u64 rfl rfl) ?_
  refine WO_p (PS_nilCheck rfl) ?_
  refine WO_p (PS_indexA Hvad.runUnderlying195 Hvad.sizeOf26 rfl rfl (by omega) (by omega)) ?_
  refine WO_storeU Hvad.sizeOf26 rfl rfl hb6 (by rw [hl6]; decide) (bXor_bd _ _) ?_
  intro w7 L7 hU7
  have hb7 := hU7.hb
  have hl7 := hU7.len.trans hl6
  refine WO_nil ?_
  refine thn_normal ?_
  refine W_seq ?_
  refine W_region rfl ?_
  refine WO_p (PS_move_ptr rfl) ?_
  refine WO_p (PS_move_int rfl) ?_
  refine WO_p (PS_move_int rfl) ?_
  refine WO_p (PS_com_u64 rfl) ?_
  refine WO_p (PS_move_int rfl) ?_
  refine WO_p (PS_and_u64 rfl rfl) ?_
  refine WO_p (PS_xor_u64 rfl rfl) ?_
  refine WO_p (PS_nilCheck rfl) ?_
  refine WO_p (PS_indexA Hvad.runUnderlying195 Hvad.sizeOf26 rfl rfl (by omega) (by omega)) ?_
  refine WO_storeU Hvad.sizeOf26 rfl rfl hb7 (by rw [hl7]; decide) (bXor_bd _ _) ?_
  intro w8 L8 hU8
  have hb8 := hU8.hb
  have hl8 := hU8.len.trans hl7
  refine WO_nil ?_
  refine thn_normal ?_
  refine W_seq ?_
  refine W_region rfl ?_
  refine WO_p (PS_move_ptr rfl) ?_
  refine WO_p (PS_move_int rfl) ?_
  refine WO_p (PS_move_int rfl) ?_
  refine WO_p (PS_com_u64 rfl) ?_
  refine WO_p (PS_move_int rfl) ?_
  refine WO_p (PS_and_u64 rfl rfl) ?_
  refine WO_p (PS_xor_u64 rfl rfl) ?_
  refine WO_p (PS_nilCheck rfl) ?_
  refine WO_p (PS_indexA Hvad.runUnderlying195 Hvad.sizeOf26 rfl rfl (by omega) (by omega)) ?_
  refine WO_storeU Hvad.sizeOf26 rfl rfl hb8 (by rw [hl8]; decide) (bXor_bd _ _) ?_
  intro w9 L9 hU9
  have hb9 := hU9.hb
  have hl9 := hU9.len.trans hl8
  refine WO_nil ?_
  refine thn_normal ?_
  refine W_seq ?_
  refine W_cutU [12, 13, 14, 15, 16, 17, 18, 19, 20, 21, 22, 23, 24, 25, 26, 27, 28, 29, 30, 31, 32, 33, 34, 35, 36] [(0, .pointer (some ⟨b, 0, none⟩))] ⟨rfl, trivial⟩ ⟨⟨_, rfl, by first | assumption | exact bXor_bd _ _⟩, ⟨_, rfl, by first | assumption | exact bXor_bd _ _⟩, ⟨_, rfl, by first | assumption | exact bXor_bd _ _⟩, ⟨_, rfl, by first | assumption | exact bXor_bd _ _⟩, ⟨_, rfl, by first | assumption | exact bXor_bd _ _⟩, ⟨_, rfl, by first | assumption | exact bXor_bd _ _⟩, ⟨_, rfl, by first | assumption | exact bXor_bd _ _⟩, ⟨_, rfl, by first | assumption | exact bXor_bd _ _⟩, ⟨_, rfl, by first | assumption | exact bXor_bd _ _⟩, ⟨_, rfl, by first | assumption | exact bXor_bd _ _⟩, ⟨_, rfl, by first | assumption | exact bXor_bd _ _⟩, ⟨_, rfl, by first | assumption | exact bXor_bd _ _⟩, ⟨_, rfl, by first | assumption | exact bXor_bd _ _⟩, ⟨_, rfl, by first | assumption | exact bXor_bd _ _⟩, ⟨_, rfl, by first | assumption | exact bXor_bd _ _⟩, ⟨_, rfl, by first | assumption | exact bXor_bd _ _⟩, ⟨_, rfl, by first | assumption | exact bXor_bd _ _⟩, ⟨_, rfl, by first | assumption | exact bXor_bd _ _⟩, ⟨_, rfl, by first | assumption | exact bXor_bd _ _⟩, ⟨_, rfl, by first | assumption | exact bXor_bd _ _⟩, ⟨_, rfl, by first | assumption | exact bXor_bd _ _⟩, ⟨_, rfl, by first | assumption | exact bXor_bd _ _⟩, ⟨_, rfl, by first | assumption | exact bXor_bd _ _⟩, ⟨_, rfl, by first | assumption | exact bXor_bd _ _⟩, ⟨_, rfl, by first | assumption | exact bXor_bd _ _⟩, trivial⟩ ?_
  intro x12 hx12 x13 hx13 x14 hx14 x15 hx15 x16 hx16 x17 hx17 x18 hx18 x19 hx19 x20 hx20 x21 hx21 x22 hx22 x23 hx23 x24 hx24 x25 hx25 x26 hx26 x27 hx27 x28 hx28 x29 hx29 x30 hx30 x31 hx31 x32 hx32 x33 hx33 x34 hx34 x35 hx35 x36 hx36 ρ hFr
  refine W_env _ hFr ?_
  clear hFr
  refine W_region rfl ?_
  refine WO_p (PS_move_ptr rfl) ?_
  refine WO_p (PS_move_int rfl) ?_
  refine WO_p (PS_move_int rfl) ?_
  refine WO_p (PS_com_u64 rfl) ?_
  refine WO_p (PS_move_int rfl) ?_
  refine WO_p (PS_and_u64 rfl rfl) ?_
  refine WO_p (PS_xor_u64 rfl rfl) ?_
  refine WO_p (PS_nilCheck rfl) ?_
  refine WO_p (PS_indexA Hvad.runUnderlying195 Hvad.sizeOf26 rfl rfl (by omega) (by omega)) ?_
  refine WO_storeU Hvad.sizeOf26 rfl rfl hb9 (by rw [hl9]; decide) (bXor_bd _ _) ?_
  intro w10 L10 hU10
  have hb10 := hU10.hb
  have hl10 := hU10.len.trans hl9
  refine WO_nil ?_
  refine thn_normal ?_
  refine W_seq ?_
  refine W_region rfl ?_
  refine WO_p (PS_move_ptr rfl) ?_
  refine WO_p (PS_move_int rfl) ?_
  refine WO_p (PS_move_int rfl) ?_
  refine WO_p (PS_com_u64 rfl) ?_
  refine WO_p (PS_move_int rfl) ?_
  refine WO_p (PS_and_u64 rfl rfl) ?_
  refine WO_p (PS_xor_u64 rfl rfl) ?_
  refine WO_p (PS_nilCheck rfl) ?_
  refine WO_p (PS_indexA Hvad.runUnderlying195 Hvad.sizeOf26 rfl rfl (by omega) (by omega)) ?_
  refine WO_storeU Hvad.sizeOf26 rfl rfl hb10 (by rw [hl10]; decide) (bXor_bd _ _) ?_
  intro w11 L11 hU11
  have hb11 := hU11.hb
  have hl11 := hU11.len.trans hl10
  refine WO_nil ?_
  refine thn_normal ?_
  refine W_seq ?_
  refine W_region rfl ?_
  refine WO_p (PS_move_ptr rfl) ?_
  refine WO_p (PS_move_int rfl) ?_
  refine WO_p (PS_move_int rfl) ?_
  refine WO_p (PS_com_u64 rfl) ?_
  refine WO_p (PS_move_int rfl) ?_
  refine WO_p (PS_and_u64 rfl rfl) ?_
  refine WO_p (PS_xor_u64 rfl rfl) ?_
  refine WO_p (PS_nilCheck rfl) ?_
  refine WO_p (PS_indexA Hvad.runUnderlying195 Hvad.sizeOf26 rfl rfl (by omega) (by omega)) ?_
  refine WO_storeU Hvad.sizeOf26 rfl rfl hb11 (by rw [hl11]; decide) (bXor_bd _ _) ?_
  intro w12 L12 hU12
  have hb12 := hU12.hb
  have hl12 := hU12.len.trans hl11
  refine WO_nil ?_
  refine thn_normal ?_
  refine W_seq ?_
  refine W_region rfl ?_
  refine WO_p (PS_move_ptr rfl) ?_
  refine WO_p (PS_move_int rfl) ?_
  refine WO_p (PS_move_int rfl) ?_
  refine WO_p (PS_com_u64 rfl) ?_
  refine WO_p (PS_move_int rfl) ?_
  refine WO_p (PS_and_u64 rfl rfl) ?_
  refine WO_p (PS_xor_u64 rfl rfl) ?_
  refine WO_p (PS_nilCheck rfl) ?_
  refine WO_p (PS_indexA Hvad.runUnderlying195 Hvad.sizeOf26 rfl rfl (by omega) (by omega)) ?_
  refine WO_storeU Hvad.sizeOf26 rfl rfl hb12 (by rw [hl12]; decide) (bXor_bd _ _) ?_
  intro w13 L13 hU13
  have hb13 := hU13.hb
  have hl13 := hU13.len.trans hl12
  refine WO_nil ?_
  refine thn_normal ?_
  refine W_seq ?_
  refine W_region rfl ?_
  refine WO_p (PS_move_ptr rfl) ?_
  refine WO_p (PS_move_int rfl) ?_
  refine WO_p (PS_move_int rfl) ?_
  refine WO_p (PS_com_u64 rfl) ?_
  refine WO_p (PS_move_int rfl) ?_
  refine WO_p (PS_and_u64 rfl rfl) ?_
  refine WO_p (PS_xor_u64 rfl rfl) ?_
  refine WO_p (PS_nilCheck rfl) ?_
  refine WO_p (PS_indexA Hvad.runUnderlying195 Hvad.sizeOf26 rfl rfl (by omega) (by omega)) ?_
  refine WO_storeU Hvad.sizeOf26 rfl rfl hb13 (by rw [hl13]; decide) (bXor_bd _ _) ?_
  intro w14 L14 hU14
  have hb14 := hU14.hb
  have hl14 := hU14.len.trans hl13
  refine WO_nil ?_
  refine thn_normal ?_
  refine W_seq ?_
  refine W_cutU [12, 13, 14, 15, 16, 17, 18, 19, 20, 21, 22, 23, 24, 25, 26, 27, 28, 29, 30, 31, 32, 33, 34, 35, 36] [(0, .pointer (some ⟨b, 0, none⟩))] ⟨rfl, trivial⟩ ⟨⟨_, rfl, by first | assumption | exact bXor_bd _ _⟩, ⟨_, rfl, by first | assumption | exact bXor_bd _ _⟩, ⟨_, rfl, by first | assumption | exact bXor_bd _ _⟩, ⟨_, rfl, by first | assumption | exact bXor_bd _ _⟩, ⟨_, rfl, by first | assumption | exact bXor_bd _ _⟩, ⟨_, rfl, by first | assumption | exact bXor_bd _ _⟩, ⟨_, rfl, by first | assumption | exact bXor_bd _ _⟩, ⟨_, rfl, by first | assumption | exact bXor_bd _ _⟩, ⟨_, rfl, by first | assumption | exact bXor_bd _ _⟩, ⟨_, rfl, by first | assumption | exact bXor_bd _ _⟩, ⟨_, rfl, by first | assumption | exact bXor_bd _ _⟩, ⟨_, rfl, by first | assumption | exact bXor_bd _ _⟩, ⟨_, rfl, by first | assumption | exact bXor_bd _ _⟩, ⟨_, rfl, by first | assumption | exact bXor_bd _ _⟩, ⟨_, rfl, by first | assumption | exact bXor_bd _ _⟩, ⟨_, rfl, by first | assumption | exact bXor_bd _ _⟩, ⟨_, rfl, by first | assumption | exact bXor_bd _ _⟩, ⟨_, rfl, by first | assumption | exact bXor_bd _ _⟩, ⟨_, rfl, by first | assumption | exact bXor_bd _ _⟩, ⟨_, rfl, by first | assumption | exact bXor_bd _ _⟩, ⟨_, rfl, by first | assumption | exact bXor_bd _ _⟩, ⟨_, rfl, by first | assumption | exact bXor_bd _ _⟩, ⟨_, rfl, by first | assumption | exact bXor_bd _ _⟩, ⟨_, rfl, by first | assumption | exact bXor_bd _ _⟩, ⟨_, rfl, by first | assumption | exact bXor_bd _ _⟩, trivial⟩ ?_
  intro x12 hx12 x13 hx13 x14 hx14 x15 hx15 x16 hx16 x17 hx17 x18 hx18 x19 hx19 x20 hx20 x21 hx21 x22 hx22 x23 hx23 x24 hx24 x25 hx25 x26 hx26 x27 hx27 x28 hx28 x29 hx29 x30 hx30 x31 hx31 x32 hx32 x33 hx33 x34 hx34 x35 hx35 x36 hx36 ρ hFr
  refine W_env _ hFr ?_
  clear hFr
  refine W_region rfl ?_
  refine WO_p (PS_move_ptr rfl) ?_
  refine WO_p (PS_move_int rfl) ?_
  refine WO_p (PS_move_int rfl) ?_
  refine WO_p (PS_com_u64 rfl) ?_
  refine WO_p (PS_move_int rfl) ?_
  refine WO_p (PS_and_u64 rfl rfl) ?_
  refine WO_p (PS_xor_u64 rfl rfl) ?_
  refine WO_p (PS_nilCheck rfl) ?_
  refine WO_p (PS_indexA Hvad.runUnderlying195 Hvad.sizeOf26 rfl rfl (by omega) (by omega)) ?_
  refine WO_storeU Hvad.sizeOf26 rfl rfl hb14 (by rw [hl14]; decide) (bXor_bd _ _) ?_
  intro w15 L15 hU15
  have hb15 := hU15.hb
  have hl15 := hU15.len.trans hl14
  refine WO_nil ?_
  refine thn_normal ?_
  refine W_seq ?_
  refine W_region rfl ?_
  refine WO_p (PS_move_ptr rfl) ?_
  refine WO_p (PS_move_int rfl) ?_
  refine WO_p (PS_move_int rfl) ?_
  refine WO_p (PS_com_u64 rfl) ?_
  refine WO_p (PS_move_int rfl) ?_
  refine WO_p (PS_and_u64 rfl rfl) ?_
  refine WO_p (PS_xor_u64 rfl rfl) ?_
  refine WO_p (PS_nilCheck rfl) ?_
  refine WO_p (PS_indexA Hvad.runUnderlying195 Hvad.sizeOf26 rfl rfl (by omega) (by omega)) ?_
  refine WO_storeU Hvad.sizeOf26 rfl rfl hb15 (by rw [hl15]; decide) (bXor_bd _ _) ?_
  intro w16 L16 hU16
  have hb16 := hU16.hb
  have hl16 := hU16.len.trans hl15
  refine WO_nil ?_
  refine thn_normal ?_
  refine W_seq ?_
  refine W_region rfl ?_
  refine WO_p (PS_move_ptr rfl) ?_
  refine WO_p (PS_move_int rfl) ?_
  refine WO_p (PS_move_int rfl) ?_
  refine WO_p (PS_com_u64 rfl) ?_
  refine WO_p (PS_move_int rfl) ?_
  refine WO_p (PS_and_u64 rfl rfl) ?_
  refine WO_p (PS_xor_u64 rfl rfl) ?_
  refine WO_p (PS_nilCheck rfl) ?_
  refine WO_p (PS_indexA Hvad.runUnderlying195 Hvad.sizeOf26 rfl rfl (by omega) (by omega)) ?_
  refine WO_storeU Hvad.sizeOf26 rfl rfl hb16 (by rw [hl16]; decide) (bXor_bd _ _) ?_
  intro w17 L17 hU17
  have hb17 := hU17.hb
  have hl17 := hU17.len.trans hl16
  refine WO_nil ?_
  refine thn_normal ?_
  refine W_seq ?_
  refine W_region rfl ?_
  refine WO_p (PS_move_ptr rfl) ?_
  refine WO_p (PS_move_int rfl) ?_
  refine WO_p (PS_move_int rfl) ?_
  refine WO_p (PS_com_u64 rfl) ?_
  refine WO_p (PS_move_int rfl) ?_
  refine WO_p (PS_and_u64 rfl rfl) ?_
  refine WO_p (PS_xor_u64 rfl rfl) ?_
  refine WO_p (PS_nilCheck rfl) ?_
  refine WO_p (PS_indexA Hvad.runUnderlying195 Hvad.sizeOf26 rfl rfl (by omega) (by omega)) ?_
  refine WO_storeU Hvad.sizeOf26 rfl rfl hb17 (by rw [hl17]; decide) (bXor_bd _ _) ?_
  intro w18 L18 hU18
  have hb18 := hU18.hb
  have hl18 := hU18.len.trans hl17
  refine WO_nil ?_
  refine thn_normal ?_
  refine W_seq ?_
  refine W_region rfl ?_
  refine WO_p (PS_move_ptr rfl) ?_
  refine WO_p (PS_move_int rfl) ?_
  refine WO_p (PS_move_int rfl) ?_
  refine WO_p (PS_com_u64 rfl) ?_
  refine WO_p (PS_move_int rfl) ?_
  refine WO_p (PS_and_u64 rfl rfl) ?_
  refine WO_p (PS_xor_u64 rfl rfl) ?_
  refine WO_p (PS_nilCheck rfl) ?_
  refine WO_p (PS_indexA Hvad.runUnderlying195 Hvad.sizeOf26 rfl rfl (by omega) (by omega)) ?_
  refine WO_storeU Hvad.sizeOf26 rfl rfl hb18 (by rw [hl18]; decide) (bXor_bd _ _) ?_
  intro w19 L19 hU19
  have hb19 := hU19.hb
  have hl19 := hU19.len.trans hl18
  refine WO_nil ?_
  refine thn_normal ?_
  refine W_seq ?_
  refine W_cutU [12, 13, 14, 15, 16, 17, 18, 19, 20, 21, 22, 23, 24, 25, 26, 27, 28, 29, 30, 31, 32, 33, 34, 35, 36] [(0, .pointer (some ⟨b, 0, none⟩))] ⟨rfl, trivial⟩ ⟨⟨_, rfl, by first | assumption | exact bXor_bd _ _⟩, ⟨_, rfl, by first | assumption | exact bXor_bd _ _⟩, ⟨_, rfl, by first | assumption | exact bXor_bd _ _⟩, ⟨_, rfl, by first | assumption | exact bXor_bd _ _⟩, ⟨_, rfl, by first | assumption | exact bXor_bd _ _⟩, ⟨_, rfl, by first | assumption | exact bXor_bd _ _⟩, ⟨_, rfl, by first | assumption | exact bXor_bd _ _⟩, ⟨_, rfl, by first | assumption | exact bXor_bd _ _⟩, ⟨_, rfl, by first | assumption | exact bXor_bd _ _⟩, ⟨_, rfl, by first | assumption | exact bXor_bd _ _⟩, ⟨_, rfl, by first | assumption | exact bXor_bd _ _⟩, ⟨_, rfl, by first | assumption | exact bXor_bd _ _⟩, ⟨_, rfl, by first | assumption | exact bXor_bd _ _⟩, ⟨_, rfl, by first | assumption | exact bXor_bd _ _⟩, ⟨_, rfl, by first | assumption | exact bXor_bd _ _⟩, ⟨_, rfl, by first | assumption | exact bXor_bd _ _⟩, ⟨_, rfl, by first | assumption | exact bXor_bd _ _⟩, ⟨_, rfl, by first | assumption | exact bXor_bd _ _⟩, ⟨_, rfl, by first | assumption | exact bXor_bd _ _⟩, ⟨_, rfl, by first | assumption | exact bXor_bd _ _⟩, ⟨_, rfl, by first | assumption | exact bXor_bd _ _⟩, ⟨_, rfl, by first | assumption | exact bXor_bd _ _⟩, ⟨_, rfl, by first | assumption | exact bXor_bd _ _⟩, ⟨_, rfl, by first | assumption | exact bXor_bd _ _⟩, ⟨_, rfl, by first | assumption | exact bXor_bd _ _⟩, trivial⟩ ?_
  intro x12 hx12 x13 hx13 x14 hx14 x15 hx15 x16 hx16 x17 hx17 x18 hx18 x19 hx19 x20 hx20 x21 hx21 x22 hx22 x23 hx23 x24 hx24 x25 hx25 x26 hx26 x27 hx27 x28 hx28 x29 hx29 x30 hx30 x31 hx31 x32 hx32 x33 hx33 x34 hx34 x35 hx35 x36 hx36 ρ hFr
  refine W_env _ hFr ?_
  clear hFr
  refine W_region rfl ?_
  refine WO_p (PS_move_ptr rfl) ?_
  refine WO_p (PS_move_int rfl) ?_
  refine WO_p (PS_move_int rfl) ?_
  refine WO_p (PS_com_u64 rfl) ?_
  refine WO_p (PS_move_int rfl) ?_
  refine WO_p (PS_and_u64 rfl rfl) ?_
  refine WO_p (PS_xor_u64 rfl rfl) ?_
  refine WO_p (PS_nilCheck rfl) ?_
  refine WO_p (PS_indexA Hvad.runUnderlying195 Hvad.sizeOf26 rfl rfl (by omega) (by omega)) ?_
  refine WO_storeU Hvad.sizeOf26 rfl rfl hb19 (by rw [hl19]; decide) (bXor_bd _ _) ?_
  intro w20 L20 hU20
  have hb20 := hU20.hb
  have hl20 := hU20.len.trans hl19
  refine WO_nil ?_
  refine thn_normal ?_
  refine W_seq ?_
  refine W_region rfl ?_
  refine WO_p (PS_move_ptr rfl) ?_
  refine WO_p (PS_move_int rfl) ?_
  refine WO_p (PS_move_int rfl) ?_
  refine WO_p (PS_com_u64 rfl) ?_
  refine WO_p (PS_move_int rfl) ?_
  refine WO_p (PS_and_u64 rfl rfl) ?_
  refine WO_p (PS_xor_u64 rfl rfl) ?_
  refine WO_p (PS_nilCheck rfl) ?_
  refine WO_p (PS_indexA Hvad.runUnderlying195 Hvad.sizeOf26 rfl rfl (by omega) (by omega)) ?_
  refine WO_storeU Hvad.sizeOf26 rfl rfl hb20 (by rw [hl20]; decide) (bXor_bd _ _) ?_
  intro w21 L21 hU21
  have hb21 := hU21.hb
  have hl21 := hU21.len.trans hl20
  refine WO_nil ?_
  refine thn_normal ?_
  refine W_seq ?_
  refine W_region rfl ?_
  refine WO_p (PS_move_ptr rfl) ?_
  refine WO_p (PS_move_int rfl) ?_
  refine WO_p (PS_move_int rfl) ?_
  refine WO_p (PS_com_u64 rfl) ?_
  refine WO_p (PS_move_int rfl) ?_
  refine WO_p (PS_and_u64 rfl rfl) ?_
  refine WO_p (PS_xor_u64 rfl rfl) ?_
  refine WO_p (PS_nilCheck rfl) ?_
  refine WO_p (PS_indexA Hvad.runUnderlying195 Hvad.sizeOf26 rfl rfl (by omega) (by omega)) ?_
  refine WO_storeU Hvad.sizeOf26 rfl rfl hb21 (by rw [hl21]; decide) (bXor_bd _ _) ?_
  intro w22 L22 hU22
  have hb22 := hU22.hb
  have hl22 := hU22.len.trans hl21
  refine WO_nil ?_
  refine thn_normal ?_
  refine W_seq ?_
  refine W_region rfl ?_
  refine WO_p (PS_move_ptr rfl) ?_
  refine WO_p (PS_move_int rfl) ?_
  refine WO_p (PS_move_int rfl) ?_
  refine WO_p (PS_com_u64 rfl) ?_
  refine WO_p (PS_move_int rfl) ?_
  refine WO_p (PS_and_u64 rfl rfl) ?_
  refine WO_p (PS_xor_u64 rfl rfl) ?_
  refine WO_p (PS_nilCheck rfl) ?_
  refine WO_p (PS_indexA Hvad.runUnderlying195 Hvad.sizeOf26 rfl rfl (by omega) (by omega)) ?_
  refine WO_storeU Hvad.sizeOf26 rfl rfl hb22 (by rw [hl22]; decide) (bXor_bd _ _) ?_
  intro w23 L23 hU23
  have hb23 := hU23.hb
  have hl23 := hU23.len.trans hl22
  refine WO_nil ?_
  refine thn_normal ?_
  refine W_region rfl ?_
  refine WO_p (PS_move_ptr rfl) ?_
  refine WO_p (PS_move_int rfl) ?_
  refine WO_p (PS_move_int rfl) ?_
  refine WO_p (PS_com_u64 rfl) ?_
  refine WO_p (PS_move_int rfl) ?_
  refine WO_p (PS_and_u64 rfl rfl) ?_
  refine WO_p (PS_xor_u64 rfl rfl) ?_
  refine WO_p (PS_nilCheck rfl) ?_
  refine WO_p (PS_indexA Hvad.runUnderlying195 Hvad.sizeOf26 rfl rfl (by omega) (by omega)) ?_
  refine WO_storeU Hvad.sizeOf26 rfl rfl hb23 (by rw [hl23]; decide) (bXor_bd _ _) ?_
  intro w24 L24 hU24
  have hb24 := hU24.hb
  have hl24 := hU24.len.trans hl23
  refine WO_nil ?_
  first | refine bodyQ_ret0 Hvad.results266 ?_ | refine bodyQ_end0 Hvad.results266 ?_
  exact ⟨rfl, _, UT.pre (by repeat (first | assumption | exact Ext.refl _ | refine Ext.alloc ?_ _ | refine Ext.drew ?_ | refine Ext.setB ?_ (by first | omega | (simp only [size_alloc, size_setB, size_drew]; omega)) _ | refine Ext.trans ?_ (by assumption))) ((((((((((((((((((((((((hU0.trans hU1).trans hU2).trans hU3).trans hU4).trans hU5).trans hU6).trans hU7).trans hU8).trans hU9).trans hU10).trans hU11).trans hU12).trans hU13).trans hU14).trans hU15).trans hU16).trans hU17).trans hU18).trans hU19).trans hU20).trans hU21).trans hU22).trans hU23).trans hU24)⟩

end Go.Proofs.YgvadwGreat
