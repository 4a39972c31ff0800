import Derived.Test.YgvacwGreatRd
import Derived.Test.YgvacwGreatOo
namespace Go.Proofs.YgvacwGreat
set_option linter.unusedSimpArgs false
set_option linter.unusedVariables false
theorem yput_go (a : PA) (laid : Bool) (l : List PA) (i : Nat) (y : PA) (hy : l[i]? = some y) : yputGo a laid (l.drop i) = (if !laid && !(yless y.addr a.addr) then [a] else []) ++ ((if y.addr ≠ a.addr then [y] else []) ++ yputGo a (laid || (!laid && !(yless y.addr a.addr))) (l.drop (i + 1))) := by
  have h1 := lt_of_getElem? hy
  rw [List.drop_eq_getElem_cons h1]
  rw [List.getElem?_eq_getElem h1] at hy
  rw [Option.some.inj hy]
  rfl
theorem yput_end (a : PA) (laid : Bool) (l : List PA) (i : Nat) (h : l.length ≤ i) : yputGo a laid (l.drop i) = if laid then [] else [a] := by
  rw [List.drop_eq_nil_of_le h]; rfl
theorem keepS {w w1 : World} (h : Ext w w1) (S : Nat) (o : Obj) : KeepO (fun b => b = S) w (setB w1 S o) := KeepO.setB (O := fun b => b = S) (h.keepO _) (fun _ => rfl) o
theorem keepSO [Om] {w w1 : World} (h : Ext w w1) {S : Nat} (hS : Om.p S) (o : Obj) : KeepO Om.p w (setB w1 S o) := KeepO.setB (O := Om.p) (h.keepO _) (fun _ => hS) o
theorem fm1 {a n : Nat} (h : a < n) : ∀ b ∈ [a], b < n := by intro b hb; simp at hb; omega
theorem fm2 {a c n : Nat} (h : a < n) (h' : c < n) : ∀ b ∈ [a, c], b < n := by intro b hb; simp at hb; omega
theorem ext_app2 {w0 w w' : World} {s s' : Option (Nat × Nat)} (he : Ext w0 w) (hk : KeepO (blkOf s) w w') (hs : ∀ b, blkOf s b → w0.heap.size ≤ b) (hb : ∀ b, blkOf s' b → blkOf s b ∨ w.heap.size ≤ b) : Ext w0 w' ∧ ∀ b, blkOf s' b → w0.heap.size ≤ b :=
  ⟨ext_app he hk hs, fun b h => by
    rcases hb b h with h | h
    · exact hs b h
    · exact Nat.le_trans he.1 h⟩

set_option maxRecDepth 10000 in
set_option maxHeartbeats 4000000 in
theorem yEmpty_spec [Om] (w : World) (hO : OmB w) (b : Nat) (T : TypeId) (fz : Nat × Nat) (x : YAc) (a : PA) (hb : Hb w b (.cells (encYA x).toArray T fz)) (hx : AcR w x a) (hcd : a.code.length ≤ 1000000) : Ret Hvac.prog 163 #[.pointer (some ⟨b, 0, none⟩)] w fun u w' => Ext w w' ∧ u = .bool (yempty a) := by
  have hxl : x.addr.length = 20 := by rw [hx.addr]; exact hx.ab.1
  have hc1 := encYA_1 hxl
  have hc2 := encYA_2 hxl
  have hc3 := encYA_3 hxl
  have hn1 := hx.nonce
  have hn2 := hx.bal
  have hz1 := hx.nz
  have hz2 := hx.bz
  have hcl := hx.code.len
  refine Ret_of_W Hvac.func163 rfl rfl ?_
  refine W_seq ?_
  refine W_region rfl ?_
  refine WO_p (PS_assign_bool rfl) ?_
  refine WO_nil ?_
  refine thn_normal ?_
  refine W_seq ?_
  refine W_region rfl ?_
  refine WO_p (PS_move_ptr rfl) ?_
  refine WO_p (PS_nilCheck rfl) ?_
  refine WO_p (PS_fieldAddr 20 Hvac.runUnderlying104 rfl Hvac.sizeOf92 rfl rfl) ?_
  refine WO_load (.slice _ _ _) Hvac.isAgg92 rfl (Hb.h (by repeat (first | assumption | exact Hb.newY _ _ | refine Hb.alloc ?_ | refine Hb.drew ?_ | refine Hb.ext (by assumption) ?_ | exact Hb.setSameL (by first | omega | (simp only [size_alloc, size_setB, size_drew]; omega)) | exact Hb.setSame (by assumption) | refine Hb.set (by first | omega | (simp only [size_alloc, size_setB, size_drew]; omega)) ?_ ))) (Ce.h (by first | assumption | exact ⟨rfl⟩)) ?_
  refine WO_call Hvac.call91 (by rfl) (Ret.mono (yIsZero_spec _ (OmB.ext hO (by repeat (first | assumption | exact Ext.refl _ | refine Ext.alloc ?_ _ | refine Ext.drew ?_ | refine Ext.setB ?_ (by first | omega | (simp only [size_alloc, size_setB, size_drew]; omega)) _ | exact Ext.trans (by assumption) (by assumption) | refine Ext.trans ?_ (by assumption)))) _ _ _ _ (by first | exact NN.nil _ | assumption | exact NN.ext (by assumption) (by repeat (first | assumption | exact Ext.refl _ | refine Ext.alloc ?_ _ | refine Ext.drew ?_ | refine Ext.setB ?_ (by first | omega | (simp only [size_alloc, size_setB, size_drew]; omega)) _ | exact Ext.trans (by assumption) (by assumption) | refine Ext.trans ?_ (by assumption)))) (by first | assumption | omega | (rw [sz_zero]; omega))) ?_)
  rintro _ w91_0 ⟨hE91_0, rfl⟩
  have hz91_0 := hE91_0.1
  try simp only [size_alloc, size_setB, size_drew] at hz91_0
  refine WO_p (PS_move_bool rfl) ?_
  refine WO_if (t := 8) rfl (fun hb3 => ?_) (fun hb3 => ?_)
  · have hb3p := hb3.h; try simp only [al_ete, al_dfn, Bool.not_eq_true', Bool.not_eq_false', al_ne, Bool.not_not, al_nn] at hb3p
    refine WO_guardT rfl rfl hb3.h ?_
    refine WO_p (PS_move_ptr rfl) ?_
    refine WO_guardT rfl rfl hb3.h ?_
    refine WO_p (PS_nilCheck rfl) ?_
    refine WO_guardT rfl rfl hb3.h ?_
    refine WO_p (PS_fieldAddr 21 Hvac.runUnderlying104 rfl Hvac.sizeOf92 rfl rfl) ?_
    refine WO_guardT rfl rfl hb3.h ?_
    refine WO_load (.slice _ _ _) Hvac.isAgg92 rfl (Hb.h (by repeat (first | assumption | exact Hb.newY _ _ | refine Hb.alloc ?_ | refine Hb.drew ?_ | refine Hb.ext (by assumption) ?_ | exact Hb.setSameL (by first | omega | (simp only [size_alloc, size_setB, size_drew]; omega)) | exact Hb.setSame (by assumption) | refine Hb.set (by first | omega | (simp only [size_alloc, size_setB, size_drew]; omega)) ?_ ))) (Ce.h (by first | assumption | exact ⟨rfl⟩)) ?_
    refine WO_guardT rfl rfl hb3.h ?_
    refine WO_call Hvac.call91 (by rfl) (Ret.mono (yIsZero_spec _ (OmB.ext hO (by repeat (first | assumption | exact Ext.refl _ | refine Ext.alloc ?_ _ | refine Ext.drew ?_ | refine Ext.setB ?_ (by first | omega | (simp only [size_alloc, size_setB, size_drew]; omega)) _ | exact Ext.trans (by assumption) (by assumption) | refine Ext.trans ?_ (by assumption)))) _ _ _ _ (by first | exact NN.nil _ | assumption | exact NN.ext (by assumption) (by repeat (first | assumption | exact Ext.refl _ | refine Ext.alloc ?_ _ | refine Ext.drew ?_ | refine Ext.setB ?_ (by first | omega | (simp only [size_alloc, size_setB, size_drew]; omega)) _ | exact Ext.trans (by assumption) (by assumption) | refine Ext.trans ?_ (by assumption)))) (by first | assumption | omega | (rw [sz_zero]; omega))) ?_)
    rintro _ w91_3 ⟨hE91_3, rfl⟩
    have hz91_3 := hE91_3.1
    try simp only [size_alloc, size_setB, size_drew] at hz91_3
    refine WO_p (PS_pickT rfl hb3.h rfl) ?_
    refine WO_p (PS_move_bool rfl) ?_
    refine WO_if (t := 15) rfl (fun hb6 => ?_) (fun hb6 => ?_)
    · have hb6p := hb6.h; try simp only [al_ete, al_dfn, Bool.not_eq_true', Bool.not_eq_false', al_ne, Bool.not_not, al_nn] at hb6p
      refine WO_guardT rfl rfl hb6.h ?_
      refine WO_p (PS_move_ptr rfl) ?_
      refine WO_guardT rfl rfl hb6.h ?_
      refine WO_p (PS_nilCheck rfl) ?_
      refine WO_guardT rfl rfl hb6.h ?_
      refine WO_p (PS_fieldAddr 22 Hvac.runUnderlying104 rfl Hvac.sizeOf32 rfl rfl) ?_
      refine WO_guardT rfl rfl hb6.h ?_
      refine WO_load (.slice _ _ _) Hvac.isAgg32 rfl (Hb.h (by repeat (first | assumption | exact Hb.newY _ _ | refine Hb.alloc ?_ | refine Hb.drew ?_ | refine Hb.ext (by assumption) ?_ | exact Hb.setSameL (by first | omega | (simp only [size_alloc, size_setB, size_drew]; omega)) | exact Hb.setSame (by assumption) | refine Hb.set (by first | omega | (simp only [size_alloc, size_setB, size_drew]; omega)) ?_ ))) (Ce.h (by first | assumption | exact ⟨rfl⟩)) ?_
      refine WO_guardT rfl rfl hb6.h ?_
      refine WO_p (PS_lenS Hvac.runUnderlying32 rfl) ?_
      refine WO_guardT rfl rfl hb6.h ?_
      refine WO_p (PS_eql rfl rfl) ?_
      refine WO_p (PS_pickT rfl hb6.h rfl) ?_
      refine WO_p (PS_assign_bool rfl) ?_
      refine WO_nil ?_
      refine thn_normal ?_
      refine W_ret ?_
      refine bodyQ_ret1 Hvac.results163 rfl (.bool _) rfl ?_
      refine ⟨(by repeat (first | assumption | exact Ext.refl _ | refine Ext.alloc ?_ _ | refine Ext.drew ?_ | refine Ext.setB ?_ (by first | omega | (simp only [size_alloc, size_setB, size_drew]; omega)) _ | refine Ext.trans ?_ (by assumption))), ?_⟩
      unfold yempty
      rw [hcl]
      first
      | (simp [*]; done)
      | (simp_all; done)
      | (simp only [*]; simp; omega)
    · have hb6p := hb6.h; try simp only [al_ete, al_dfn, Bool.not_eq_true', Bool.not_eq_false', al_ne, Bool.not_not, al_nn] at hb6p
      refine WO_guardF rfl rfl hb6.h ?_
      refine WO_guardF rfl rfl hb6.h ?_
      refine WO_guardF rfl rfl hb6.h ?_
      refine WO_guardF rfl rfl hb6.h ?_
      refine WO_guardF rfl rfl hb6.h ?_
      refine WO_guardF rfl rfl hb6.h ?_
      refine WO_p (PS_pickF rfl hb6.h rfl) ?_
      refine WO_p (PS_assign_bool rfl) ?_
      refine WO_nil ?_
      refine thn_normal ?_
      refine W_ret ?_
      refine bodyQ_ret1 Hvac.results163 rfl (.bool _) rfl ?_
      refine ⟨(by repeat (first | assumption | exact Ext.refl _ | refine Ext.alloc ?_ _ | refine Ext.drew ?_ | refine Ext.setB ?_ (by first | omega | (simp only [size_alloc, size_setB, size_drew]; omega)) _ | refine Ext.trans ?_ (by assumption))), ?_⟩
      unfold yempty
      rw [hcl]
      first
      | (simp [*]; done)
      | (simp_all; done)
      | (simp only [*]; simp; omega)
  · have hb3p := hb3.h; try simp only [al_ete, al_dfn, Bool.not_eq_true', Bool.not_eq_false', al_ne, Bool.not_not, al_nn] at hb3p
    refine WO_guardF rfl rfl hb3.h ?_
    refine WO_guardF rfl rfl hb3.h ?_
    refine WO_guardF rfl rfl hb3.h ?_
    refine WO_guardF rfl rfl hb3.h ?_
    refine WO_guardF rfl rfl hb3.h ?_
    refine WO_p (PS_pickF rfl hb3.h rfl) ?_
    refine WO_p (PS_move_bool rfl) ?_
    refine WO_guardF rfl rfl rfl ?_
    refine WO_guardF rfl rfl rfl ?_
    refine WO_guardF rfl rfl rfl ?_
    refine WO_guardF rfl rfl rfl ?_
    refine WO_guardF rfl rfl rfl ?_
    refine WO_guardF rfl rfl rfl ?_
    refine WO_p (PS_pickF rfl rfl rfl) ?_
    refine WO_p (PS_assign_bool rfl) ?_
    refine WO_nil ?_
    refine thn_normal ?_
    refine W_ret ?_
    refine bodyQ_ret1 Hvac.results163 rfl (.bool _) rfl ?_
    refine ⟨(by repeat (first | assumption | exact Ext.refl _ | refine Ext.alloc ?_ _ | refine Ext.drew ?_ | refine Ext.setB ?_ (by first | omega | (simp only [size_alloc, size_setB, size_drew]; omega)) _ | refine Ext.trans ?_ (by assumption))), ?_⟩
    unfold yempty
    rw [hcl]
    first
    | (simp [*]; done)
    | (simp_all; done)
    | (simp only [*]; simp; omega)

set_option maxRecDepth 10000 in
set_option maxHeartbeats 4000000 in
theorem yBefore_spec [Om] (w : World) (hO : OmB w) (A B : List Int) (hA : By A 20) (hB : By B 20) : Ret Hvac.prog 90 #[.agg (ic .u8 A), .agg (ic .u8 B)] w fun u w' => Ext w w' ∧ u = .bool (yless A B) := by
  have hAl := hA.1
  have hBl := hB.1
  refine Ret_of_W Hvac.func90 rfl rfl ?_
  refine W_seq ?_
  refine W_region rfl ?_
  refine WO_box (.agg _) rfl ?_
  refine WO_box (.agg _) rfl ?_
  refine WO_p (PS_assign_bool rfl) ?_
  refine WO_nil ?_
  refine thn_normal ?_
  refine W_seq ?_
  refine W_drawE [false, false, false, false, false, false] hmix (by kernel_rfl) rfl ?_
  refine WH_p (PS_slA Hvac.runUnderlying25 Hvac.sizeOf5 rfl (by omega)) rfl ?_
  refine WH_tostr Hvac.runUnderlying32 Hvac.runUnderlying9 Hvac.runUnderlying5 rfl (Hb.h (by repeat (first | assumption | exact Hb.newY _ _ | refine Hb.alloc ?_ | refine Hb.drew ?_ | refine Hb.ext (by assumption) ?_ | exact Hb.setSameL (by first | omega | (simp only [size_alloc, size_setB, size_drew]; omega)) | exact Hb.setSame (by assumption) | refine Hb.set (by first | omega | (simp only [size_alloc, size_setB, size_drew]; omega)) ?_ ))) (by first | omega | assumption | rfl | decide | exact Nat.le_refl _ | (simp only [size_ic, Value.cells]; omega) | (simp; omega) | simp) (Xt.h (by first | assumption | exact Xt.whole rfl rfl | exact Xt.whole rfl (by assumption) | exact Xt.whole rfl (by simp only [size_ic, Value.cells]; omega) | exact ⟨rfl⟩)) ?_
  refine WH_p (PS_slA Hvac.runUnderlying25 Hvac.sizeOf5 rfl (by omega)) rfl ?_
  refine WH_tostr Hvac.runUnderlying32 Hvac.runUnderlying9 Hvac.runUnderlying5 rfl (Hb.h (by repeat (first | assumption | exact Hb.newY _ _ | refine Hb.alloc ?_ | refine Hb.drew ?_ | refine Hb.ext (by assumption) ?_ | exact Hb.setSameL (by first | omega | (simp only [size_alloc, size_setB, size_drew]; omega)) | exact Hb.setSame (by assumption) | refine Hb.set (by first | omega | (simp only [size_alloc, size_setB, size_drew]; omega)) ?_ ))) (by first | omega | assumption | rfl | decide | exact Nat.le_refl _ | (simp only [size_ic, Value.cells]; omega) | (simp; omega) | simp) (Xt.h (by first | assumption | exact Xt.whole rfl rfl | exact Xt.whole rfl (by assumption) | exact Xt.whole rfl (by simp only [size_ic, Value.cells]; omega) | exact ⟨rfl⟩)) ?_
  refine WH_p (PS_lssstr rfl rfl) rfl ?_
  refine WH_p (PS_assign_bool rfl) rfl ?_
  refine WH_nil ?_
  refine thn_normal ?_
  refine W_ret ?_
  refine bodyQ_ret1 Hvac.results90 rfl (.bool _) rfl ?_
  exact ⟨(by repeat (first | assumption | exact Ext.refl _ | refine Ext.alloc ?_ _ | refine Ext.drew ?_ | refine Ext.setB ?_ (by first | omega | (simp only [size_alloc, size_setB, size_drew]; omega)) _ | refine Ext.trans ?_ (by assumption))), rfl⟩

set_option maxRecDepth 10000 in
set_option maxHeartbeats 4000000 in
theorem yPut_spec [Om] (w : World) (hO : OmB w) (S : Nat) (c : Array Value) (T : TypeId)  (s : SV) (l : List PA) (hS : Hb w S (.cells c T (0, 0))) (hc : Ce c (0 + 0) (.slice s.1 s.2.1 s.2.2)) (hl : AcsR w s l) (hln : l.length ≤ 100000000) (hSo : Om.p S) (hc0 : 0 < c.size) (x : YAc) (a : PA) (hx : AcR w x a) (hcd : a.code.length ≤ 1000000) : Ret Hvac.prog 85 #[.pointer (some ⟨S, 0, none⟩), .agg (encYA x).toArray] w fun u w' => u = .tuple #[] ∧ KeepO (fun b => b = S) w w' ∧ ∃ s' : SV, Hb w' S (.cells (c.setIfInBounds (0 + 0) (.slice s'.1 s'.2.1 s'.2.2)) T (0, 0)) ∧ AcsR w' s' (yput l a) := by
  obtain ⟨p, n, cp⟩ := s
  obtain ⟨L, hPL, hR⟩ := hl
  have hxl : x.addr.length = 20 := by rw [hx.addr]; exact hx.ab.1
  have hxE := encYA_len hxl
  have hsz24 : (encYA x).toArray.size = 24 := by simpa using hxE
  have honex := one_YA2 x
  have hX0 := encYA_addr hxl
  have hc4 := encYA_4 hxl
  have hab := hx.ab
  rw [← hx.addr] at hab
  have hSl := hS.lt
  have hn := hPL.len
  dsimp only at hn hc
  have hR1 := hR.1
  obtain ⟨SL, hSL, hSR⟩ := hx.slots
  have hsl := hSL.len
  have hsl2 := hSR.1
  refine Ret_of_W Hvac.func85 rfl rfl ?_
  refine W_seq ?_
  refine W_region rfl ?_
  refine WO_boxG (.agg _) rfl ?_
  intro b3 v3 hg3 hE3 hH3 hl3
  try simp only [size_alloc, size_setB, size_drew] at hg3
  have hzz3 := hE3.1
  try simp only [size_alloc, size_setB, size_drew] at hzz3
  refine WO_nil ?_
  refine thn_normal ?_
  refine W_seq ?_
  refine W_region rfl ?_
  refine WO_p (PS_assign_slice rfl) ?_
  refine WO_nil ?_
  refine thn_normal ?_
  refine W_seqJ (fun ρ w' => Fr [(0, .pointer (some ⟨S, 0, none⟩)), (3, .pointer (some ⟨b3, 0, none⟩)), (4, .slice none 0 0), (5, .bool (yempty a && decide (a.slots.length = 0)))] ρ ∧ Ext w w' ∧ Hb w' b3 (.cells (encYA x).toArray 104 (0, 0))) ?_ ?_
  · skip
    refine W_region rfl ?_
    refine WO_call Hvac.call163 (by rfl) (Ret.mono (yEmpty_spec _ (OmB.ext hO (by repeat (first | assumption | exact Ext.refl _ | refine Ext.alloc ?_ _ | refine Ext.drew ?_ | refine Ext.setB ?_ (by first | omega | (simp only [size_alloc, size_setB, size_drew]; omega)) _ | exact Ext.trans (by assumption) (by assumption) | refine Ext.trans ?_ (by assumption)))) _ _ _ _ _ (Hb.mk (Hb.h (by repeat (first | assumption | exact Hb.newY _ _ | refine Hb.alloc ?_ | refine Hb.drew ?_ | refine Hb.ext (by assumption) ?_ | exact Hb.setSameL (by first | omega | (simp only [size_alloc, size_setB, size_drew]; omega)) | exact Hb.setSame (by assumption) | refine Hb.set (by first | omega | (simp only [size_alloc, size_setB, size_drew]; omega)) ?_ )))) (by first | assumption | exact AcR.ext (by assumption) (by repeat (first | assumption | exact Ext.refl _ | refine Ext.alloc ?_ _ | refine Ext.drew ?_ | refine Ext.setB ?_ (by first | omega | (simp only [size_alloc, size_setB, size_drew]; omega)) _ | exact Ext.trans (by assumption) (by assumption) | refine Ext.trans ?_ (by assumption)))) (by omega)) ?_)
    rintro _ w163_0 ⟨hE163_0, rfl⟩
    have hz163_0 := hE163_0.1
    try simp only [size_alloc, size_setB, size_drew] at hz163_0
    refine WO_p (PS_move_bool rfl) ?_
    refine WO_if (t := 9) rfl (fun hb3 => ?_) (fun hb3 => ?_)
    · have hb3p := hb3.h; try simp only [al_ete, al_dfn, Bool.not_eq_true', Bool.not_eq_false', al_ne, Bool.not_not, al_nn] at hb3p
      have hem := hb3p
      refine WO_guardT rfl rfl hb3.h ?_
      refine WO_p (PS_fieldAddr 23 Hvac.runUnderlying104 rfl Hvac.sizeOf102 rfl rfl) ?_
      refine WO_guardT rfl rfl hb3.h ?_
      refine WO_load (.slice _ _ _) Hvac.isAgg102 rfl (Hb.h (by repeat (first | assumption | exact Hb.newY _ _ | refine Hb.alloc ?_ | refine Hb.drew ?_ | refine Hb.ext (by assumption) ?_ | exact Hb.setSameL (by first | omega | (simp only [size_alloc, size_setB, size_drew]; omega)) | exact Hb.setSame (by assumption) | refine Hb.set (by first | omega | (simp only [size_alloc, size_setB, size_drew]; omega)) ?_ ))) (Ce.h (by first | assumption | exact ⟨rfl⟩)) ?_
      refine WO_guardT rfl rfl hb3.h ?_
      refine WO_p (PS_lenS Hvac.runUnderlying102 rfl) ?_
      refine WO_guardT rfl rfl hb3.h ?_
      refine WO_p (PS_eql rfl rfl) ?_
      refine WO_p (PS_pickT rfl hb3.h rfl) ?_
      refine WO_p (PS_assign_bool rfl) ?_
      refine WO_nil ?_
      refine thn_normal ?_
      refine ⟨⟨rfl, rfl, rfl, ?_, trivial⟩, (by repeat (first | assumption | exact Ext.refl _ | refine Ext.alloc ?_ _ | refine Ext.drew ?_ | refine Ext.setB ?_ (by first | omega | (simp only [size_alloc, size_setB, size_drew]; omega)) _ | exact Ext.trans (by assumption) (by assumption) | refine Ext.trans ?_ (by assumption))), Hb.mk (Hb.h (by repeat (first | assumption | exact Hb.newY _ _ | refine Hb.alloc ?_ | refine Hb.drew ?_ | refine Hb.ext (by assumption) ?_ | exact Hb.setSameL (by first | omega | (simp only [size_alloc, size_setB, size_drew]; omega)) | exact Hb.setSame (by assumption) | refine Hb.set (by first | omega | (simp only [size_alloc, size_setB, size_drew]; omega)) ?_ )))⟩
      show Value.bool _ = _; rw [hem, al_bta]; exact congrArg Value.bool (al_dd.2 (by omega))
    · have hb3p := hb3.h; try simp only [al_ete, al_dfn, Bool.not_eq_true', Bool.not_eq_false', al_ne, Bool.not_not, al_nn] at hb3p
      have hem := hb3p
      refine WO_guardF rfl rfl hb3.h ?_
      refine WO_guardF rfl rfl hb3.h ?_
      refine WO_guardF rfl rfl hb3.h ?_
      refine WO_guardF rfl rfl hb3.h ?_
      refine WO_p (PS_pickF rfl hb3.h rfl) ?_
      refine WO_p (PS_assign_bool rfl) ?_
      refine WO_nil ?_
      refine thn_normal ?_
      refine ⟨⟨rfl, rfl, rfl, ?_, trivial⟩, (by repeat (first | assumption | exact Ext.refl _ | refine Ext.alloc ?_ _ | refine Ext.drew ?_ | refine Ext.setB ?_ (by first | omega | (simp only [size_alloc, size_setB, size_drew]; omega)) _ | exact Ext.trans (by assumption) (by assumption) | refine Ext.trans ?_ (by assumption))), Hb.mk (Hb.h (by repeat (first | assumption | exact Hb.newY _ _ | refine Hb.alloc ?_ | refine Hb.drew ?_ | refine Hb.ext (by assumption) ?_ | exact Hb.setSameL (by first | omega | (simp only [size_alloc, size_setB, size_drew]; omega)) | exact Hb.setSame (by assumption) | refine Hb.set (by first | omega | (simp only [size_alloc, size_setB, size_drew]; omega)) ?_ )))⟩
      show Value.bool _ = _; rw [hem, al_bfa]
  · rintro ρ3 w3 ⟨hFr3, hE3, hb3⟩
    refine W_env _ hFr3 ?_
    have hz3 := hE3.1
    have hb3l := hb3.lt
    have hS3 := hS.ext hE3
    refine W_seq ?_
    refine W_seq ?_
    refine W_region rfl ?_
    refine WO_p (PS_move_ptr rfl) ?_
    refine WO_p (PS_nilCheck rfl) ?_
    refine WO_p (PS_fieldAddr 0 Hvac.runUnderlying95 rfl Hvac.sizeOf89 rfl rfl) ?_
    refine WO_load (.slice _ _ _) Hvac.isAgg89 rfl (Hb.h (by repeat (first | assumption | exact Hb.newY _ _ | refine Hb.alloc ?_ | refine Hb.drew ?_ | refine Hb.ext (by assumption) ?_ | exact Hb.setSameL (by first | omega | (simp only [size_alloc, size_setB, size_drew]; omega)) | exact Hb.setSame (by assumption) | refine Hb.set (by first | omega | (simp only [size_alloc, size_setB, size_drew]; omega)) ?_ ))) (Ce.h (by first | assumption | exact ⟨rfl⟩)) ?_
    refine WO_p (PS_lenS Hvac.runUnderlying89 rfl) ?_
    refine WO_p (PS_move_int rfl) ?_
    refine WO_nil ?_
    refine thn_normal ?_
    refine W_block ?_
    refine W_loopN (fun k ρ w' => ∃ (i : Nat) (laid : Bool) (so : Option (Nat × Nat)) (K : List YAc) (m : List PA), i + k = n ∧ K.length ≤ 2 * i ∧ R2 (AcR w) K m ∧ m ++ yputGo a laid (l.drop i) = yput l a ∧ BL encYA 24 104 w [b3] w' so K ∧ Fr [(0, .pointer (some ⟨S, 0, none⟩)), (3, .pointer (some ⟨b3, 0, none⟩)), (4, .slice (slp so) K.length (slc so)), (5, .bool laid), (18, .slice p n cp), (19, .int .i64 n), (20, .int .i64 i)] ρ ∧ Ext w w' ∧ Hb w' b3 (.cells (encYA x).toArray 104 (0, 0))) n ?_ ?_
    · exact ⟨0, _, none, [], [], by omega, by simp, R2.nil _, rfl, BL.nil _ _ _ _ _ _, ⟨rfl, rfl, rfl, rfl, rfl, rfl, rfl, trivial⟩, hE3, hb3⟩
    intro k4 ρ4 w4 hI4
    obtain ⟨i, laid, so, K, m, hik, hK8, hKm, hgo, hBL, hFr4, hE4, hb3k⟩ := hI4
    refine W_env _ hFr4 ?_
    have hz4 := hE4.1
    have hb3k_l := hb3k.lt
    refine W_seq ?_
    refine W_region rfl ?_
    refine WO_p (PS_lss rfl rfl) ?_
    refine WO_nil ?_
    refine thn_normal ?_
    refine W_seq ?_
    refine W_if rfl (fun hb6 => ?_) (fun hb6 => ?_)
    · have hb6p := hb6.h; try simp only [al_ete, al_dfn, Bool.not_eq_true', Bool.not_eq_false', al_ne, Bool.not_not, al_nn] at hb6p
      obtain ⟨x2, y2, hx2, hy2, hxy2⟩ := hR.get (i := i) (by omega)
      have hxl2 : x2.addr.length = 20 := by rw [hxy2.addr]; exact hxy2.ab.1
      have hxE2 := encYA_len hxl2
      obtain ⟨b, r, fz2, hp, hb, hrs, hXi⟩ := pl_at (hPL.ext hE4) hx2 hxE2
      subst hp
      have hX2 := encYA_addr hxl2
      have hone2 := one_YA2 x2
      have hsz24b : (encYA x2).toArray.size = 24 := by simpa using hxE2
      have hab2 := hxy2.ab
      rw [← hxy2.addr] at hab2
      have hadx : y2.addr = x2.addr := hxy2.addr.symm
      have hady : a.addr = x.addr := hx.addr.symm
      refine W_skip ?_
      refine thn_normal ?_
      refine W_seq ?_
      refine W_block ?_
      refine W_seq ?_
      refine W_region rfl ?_
      refine WO_p (PS_indexS Hvac.runUnderlying89 Hvac.sizeOf104 rfl rfl (by omega) (by omega)) ?_
      refine WO_loadA _ Hvac.isAgg104 Hvac.sizeOf104 rfl (Hb.h (by repeat (first | assumption | exact Hb.newY _ _ | refine Hb.alloc ?_ | refine Hb.drew ?_ | refine Hb.ext (by assumption) ?_ | exact Hb.setSameL (by first | omega | (simp only [size_alloc, size_setB, size_drew]; omega)) | exact Hb.setSame (by assumption) | refine Hb.set (by first | omega | (simp only [size_alloc, size_setB, size_drew]; omega)) ?_ ))) (by first | omega | assumption | rfl | decide | exact Nat.le_refl _ | (simp only [size_ic, Value.cells]; omega) | (simp; omega) | simp) (Xt.h (by first | assumption | exact Xt.whole rfl rfl | exact Xt.whole rfl (by assumption) | exact Xt.whole rfl (by simp only [size_ic, Value.cells]; omega) | exact ⟨rfl⟩)) ?_
      refine WO_allocG Hvac.zeroValue104 ?_
      intro b7 v7 hg7 hE7 hH7 hl7
      try simp only [size_alloc, size_setB, size_drew] at hg7
      have hzz7 := hE7.1
      try simp only [size_alloc, size_setB, size_drew] at hzz7
      replace hH7 : Hb v7 b7 (.cells ((encYA (ac0 (List.replicate 20 0))).toArray) 104 (0, 0)) := hH7
      first | refine WO_storeW Hvac.sizeOf104 rfl (v := .agg _) rfl (Hb.h (by repeat (first | assumption | exact Hb.newY _ _ | refine Hb.alloc ?_ | refine Hb.drew ?_ | refine Hb.ext (by assumption) ?_ | exact Hb.setSameL (by first | omega | (simp only [size_alloc, size_setB, size_drew]; omega)) | exact Hb.setSame (by assumption) | refine Hb.set (by first | omega | (simp only [size_alloc, size_setB, size_drew]; omega)) ?_ ))) rfl (by first | omega | assumption | rfl | decide | exact Nat.le_refl _ | (simp only [size_ic, Value.cells]; omega) | (simp; omega) | simp) (by first | omega | assumption | rfl | decide | exact Nat.le_refl _ | (simp only [size_ic, Value.cells]; omega) | (simp; omega) | simp) (by first | exact oneCell_ic | assumption) ?_ | refine WO_store Hvac.sizeOf104 rfl (v := .agg _) rfl (Hb.h (by repeat (first | assumption | exact Hb.newY _ _ | refine Hb.alloc ?_ | refine Hb.drew ?_ | refine Hb.ext (by assumption) ?_ | exact Hb.setSameL (by first | omega | (simp only [size_alloc, size_setB, size_drew]; omega)) | exact Hb.setSame (by assumption) | refine Hb.set (by first | omega | (simp only [size_alloc, size_setB, size_drew]; omega)) ?_ ))) (by first | omega | assumption | rfl | decide | exact Nat.le_refl _ | (simp only [size_ic, Value.cells]; omega) | (simp; omega) | simp) (by first | omega | assumption | rfl | decide | exact Nat.le_refl _ | (simp only [size_ic, Value.cells]; omega) | (simp; omega) | simp) (by first | exact oneCell_ic | assumption) ?_
      refine WO_nil ?_
      refine thn_normal ?_
      refine W_seqJ (fun ρ w' => ∃ (so2 : Option (Nat × Nat)) (K2 : List YAc) (m2 : List PA), m2 = m ++ (if (!laid && !(yless y2.addr a.addr)) then [a] else []) ∧ K2.length ≤ K.length + 1 ∧ R2 (AcR w) K2 m2 ∧ BL encYA 24 104 w [b7, b3] w' so2 K2 ∧ Fr [(0, .pointer (some ⟨S, 0, none⟩)), (3, .pointer (some ⟨b3, 0, none⟩)), (4, .slice (slp so2) K2.length (slc so2)), (5, .bool (laid || (!laid && !(yless y2.addr a.addr)))), (7, .pointer (some ⟨b7, 0, none⟩)), (18, .slice (some ⟨b, 0, none⟩) n cp), (19, .int .i64 n), (20, .int .i64 i)] ρ ∧ Ext w w' ∧ Hb w' b3 (.cells (encYA x).toArray 104 (0, 0)) ∧ Hb w' b7 (.cells (encYA x2).toArray 104 (0, 0))) ?_ ?_
      · skip
        refine W_seq ?_
        refine W_gen fun w6 hw6 => ?_
        have hBL6 : BL encYA 24 104 w [b7, b3] w6 so K := by rw [hw6]; exact ((hBL.cons hg7).ext hE7).set (Or.inl (by simp)) _
        have hb3_6 : Hb w6 b3 (.cells (encYA x).toArray 104 (0, 0)) := by rw [hw6]; exact Hb.set (by omega) (hb3k.ext hE7)
        have hb7_6 : Hb w6 b7 (.cells (encYA x2).toArray 104 (0, 0)) := by rw [hw6]; exact Hb.setSame hH7
        have hE46 : Ext w4 w6 := by rw [hw6]; exact Ext.setB hE7 (by omega) _
        have hE6 : Ext w w6 := hE4.trans hE46
        have hz6 := hE6.1
        have hz46 := hE46.1
        have hb7l6 := hb7_6.lt
        have hb3l6 := hb3_6.lt
        clear hw6
        refine W_region rfl ?_
        refine WO_p (PS_move_bool rfl) ?_
        refine WO_p (PS_not rfl) ?_
        refine WO_p (PS_move_bool rfl) ?_
        refine WO_if (t := 26) rfl (fun hb9 => ?_) (fun hb9 => ?_)
        · have hb9p := hb9.h; try simp only [al_ete, al_dfn, Bool.not_eq_true', Bool.not_eq_false', al_ne, Bool.not_not, al_nn] at hb9p
          have hlaid : laid = false := by simpa using hb9p
          refine WO_guardT rfl rfl hb9.h ?_
          refine WO_p (PS_fieldAddr 0 Hvac.runUnderlying104 rfl Hvac.sizeOf25 rfl rfl) ?_
          refine WO_guardT rfl rfl hb9.h ?_
          refine WO_loadA _ Hvac.isAgg25 Hvac.sizeOf25 rfl (Hb.h (by repeat (first | assumption | exact Hb.newY _ _ | refine Hb.alloc ?_ | refine Hb.drew ?_ | refine Hb.ext (by assumption) ?_ | exact Hb.setSameL (by first | omega | (simp only [size_alloc, size_setB, size_drew]; omega)) | exact Hb.setSame (by assumption) | refine Hb.set (by first | omega | (simp only [size_alloc, size_setB, size_drew]; omega)) ?_ ))) (by first | omega | assumption | rfl | decide | exact Nat.le_refl _ | (simp only [size_ic, Value.cells]; omega) | (simp; omega) | simp) (Xt.h (by first | assumption | exact Xt.whole rfl rfl | exact Xt.whole rfl (by assumption) | exact Xt.whole rfl (by simp only [size_ic, Value.cells]; omega) | exact ⟨rfl⟩)) ?_
          refine WO_guardT rfl rfl hb9.h ?_
          refine WO_p (PS_fieldAddr 0 Hvac.runUnderlying104 rfl Hvac.sizeOf25 rfl rfl) ?_
          refine WO_guardT rfl rfl hb9.h ?_
          refine WO_loadA _ Hvac.isAgg25 Hvac.sizeOf25 rfl (Hb.h (by repeat (first | assumption | exact Hb.newY _ _ | refine Hb.alloc ?_ | refine Hb.drew ?_ | refine Hb.ext (by assumption) ?_ | exact Hb.setSameL (by first | omega | (simp only [size_alloc, size_setB, size_drew]; omega)) | exact Hb.setSame (by assumption) | refine Hb.set (by first | omega | (simp only [size_alloc, size_setB, size_drew]; omega)) ?_ ))) (by first | omega | assumption | rfl | decide | exact Nat.le_refl _ | (simp only [size_ic, Value.cells]; omega) | (simp; omega) | simp) (Xt.h (by first | assumption | exact Xt.whole rfl rfl | exact Xt.whole rfl (by assumption) | exact Xt.whole rfl (by simp only [size_ic, Value.cells]; omega) | exact ⟨rfl⟩)) ?_
          refine WO_guardT rfl rfl hb9.h ?_
          refine WO_call Hvac.call90 (by rfl) (Ret.mono (yBefore_spec _ (OmB.ext hO (by repeat (first | assumption | exact Ext.refl _ | refine Ext.alloc ?_ _ | refine Ext.drew ?_ | refine Ext.setB ?_ (by first | omega | (simp only [size_alloc, size_setB, size_drew]; omega)) _ | exact Ext.trans (by assumption) (by assumption) | refine Ext.trans ?_ (by assumption)))) _ _ (by assumption) (by assumption)) ?_)
          rintro _ w90_9 ⟨hE90_9, rfl⟩
          have hz90_9 := hE90_9.1
          try simp only [size_alloc, size_setB, size_drew] at hz90_9
          refine WO_guardT rfl rfl hb9.h ?_
          refine WO_p (PS_not rfl) ?_
          refine WO_p (PS_pickT rfl hb9.h rfl) ?_
          refine WO_nil ?_
          refine thn_normal ?_
          refine W_if rfl (fun hb13 => ?_) (fun hb13 => ?_)
          · have hb13p := hb13.h; try simp only [al_ete, al_dfn, Bool.not_eq_true', Bool.not_eq_false', al_ne, Bool.not_not, al_nn] at hb13p
            have hbf : yless x2.addr x.addr = false := by simpa using hb13p
            refine W_seq ?_
            refine W_region rfl ?_
            refine WO_p (PS_move_slice rfl) ?_
            refine WO_loadA _ Hvac.isAgg104 Hvac.sizeOf104 rfl (Hb.h (by repeat (first | assumption | exact Hb.newY _ _ | refine Hb.alloc ?_ | refine Hb.drew ?_ | refine Hb.ext (by assumption) ?_ | exact Hb.setSameL (by first | omega | (simp only [size_alloc, size_setB, size_drew]; omega)) | exact Hb.setSame (by assumption) | refine Hb.set (by first | omega | (simp only [size_alloc, size_setB, size_drew]; omega)) ?_ ))) (by first | omega | assumption | rfl | decide | exact Nat.le_refl _ | (simp only [size_ic, Value.cells]; omega) | (simp; omega) | simp) (Xt.h (by first | assumption | exact Xt.whole rfl rfl | exact Xt.whole rfl (by assumption) | exact Xt.whole rfl (by simp only [size_ic, Value.cells]; omega) | exact ⟨rfl⟩)) ?_
            refine WO_buildSlice1 Hvac.runUnderlying89 Hvac.sizeOf104 Hvac.zeroValue104 rfl (by first | omega | assumption | rfl | decide | exact Nat.le_refl _ | (simp only [size_ic, Value.cells]; omega) | (simp; omega) | simp) (by decide) (by decide) ?_
            refine WO_app x ap_YA (BL.ext hBL6 (by repeat (first | assumption | exact Ext.refl _ | refine Ext.alloc ?_ _ | refine Ext.drew ?_ | refine Ext.setB ?_ (by first | omega | (simp only [size_alloc, size_setB, size_drew]; omega)) _ | exact Ext.trans (by assumption) (by assumption) | refine Ext.trans ?_ (by assumption)))) (by repeat (first | assumption | exact Ext.refl _ | refine Ext.alloc ?_ _ | refine Ext.drew ?_ | refine Ext.setB ?_ (by first | omega | (simp only [size_alloc, size_setB, size_drew]; omega)) _ | exact Ext.trans (by assumption) (by assumption) | refine Ext.trans ?_ (by assumption))) (fm2 (by first | omega | (simp only [size_alloc, size_setB, size_drew]; omega)) (by first | omega | (simp only [size_alloc, size_setB, size_drew]; omega))) (by omega) hxE (Hb.newY _ _) rfl rfl ?_
            intro soA wA hBA hEA hkA hzA
            try simp only [size_alloc, size_setB, size_drew] at hzA
            have hb3_A := hkA b3 _ (by simp) (Hb.mk (Hb.h (by repeat (first | assumption | exact Hb.newY _ _ | refine Hb.alloc ?_ | refine Hb.drew ?_ | refine Hb.ext (by assumption) ?_ | exact Hb.setSameL (by first | omega | (simp only [size_alloc, size_setB, size_drew]; omega)) | exact Hb.setSame (by assumption) | refine Hb.set (by first | omega | (simp only [size_alloc, size_setB, size_drew]; omega)) ?_ ))) : Hb _ b3 (.cells (encYA x).toArray 104 (0, 0)))
            have hb7_A := hkA b7 _ (by simp) (Hb.mk (Hb.h (by repeat (first | assumption | exact Hb.newY _ _ | refine Hb.alloc ?_ | refine Hb.drew ?_ | refine Hb.ext (by assumption) ?_ | exact Hb.setSameL (by first | omega | (simp only [size_alloc, size_setB, size_drew]; omega)) | exact Hb.setSame (by assumption) | refine Hb.set (by first | omega | (simp only [size_alloc, size_setB, size_drew]; omega)) ?_ ))) : Hb _ b7 (.cells (encYA x2).toArray 104 (0, 0)))
            refine WO_p (PS_assign_slice rfl) ?_
            refine WO_nil ?_
            refine thn_normal ?_
            refine W_region rfl ?_
            refine WO_p (PS_assign_bool rfl) ?_
            refine WO_nil ?_
            refine thn_normal ?_
            refine ⟨soA, K ++ [x], m ++ [a], ?_, by simp, hKm.snoc hx, hBA, ⟨rfl, rfl, rfl, ?_, rfl, rfl, rfl, rfl, trivial⟩, hEA, hb3_A, hb7_A⟩; (simp [hlaid, hadx, hady, hbf]); (show Value.bool _ = _; simp [hlaid, hadx, hady, hbf])
          · have hb13p := hb13.h; try simp only [al_ete, al_dfn, Bool.not_eq_true', Bool.not_eq_false', al_ne, Bool.not_not, al_nn] at hb13p
            have hbf : yless x2.addr x.addr = true := by simpa using hb13p
            refine W_skip ?_
            refine thn_normal ?_
            refine ⟨so, K, m, ?_, by omega, hKm, hBL6.ext (by repeat (first | assumption | exact Ext.refl _ | refine Ext.alloc ?_ _ | refine Ext.drew ?_ | refine Ext.setB ?_ (by first | omega | (simp only [size_alloc, size_setB, size_drew]; omega)) _ | exact Ext.trans (by assumption) (by assumption) | refine Ext.trans ?_ (by assumption))), ⟨rfl, rfl, rfl, ?_, rfl, rfl, rfl, rfl, trivial⟩, (by repeat (first | assumption | exact Ext.refl _ | refine Ext.alloc ?_ _ | refine Ext.drew ?_ | refine Ext.setB ?_ (by first | omega | (simp only [size_alloc, size_setB, size_drew]; omega)) _ | exact Ext.trans (by assumption) (by assumption) | refine Ext.trans ?_ (by assumption))), Hb.mk (Hb.h (by repeat (first | assumption | exact Hb.newY _ _ | refine Hb.alloc ?_ | refine Hb.drew ?_ | refine Hb.ext (by assumption) ?_ | exact Hb.setSameL (by first | omega | (simp only [size_alloc, size_setB, size_drew]; omega)) | exact Hb.setSame (by assumption) | refine Hb.set (by first | omega | (simp only [size_alloc, size_setB, size_drew]; omega)) ?_ ))), Hb.mk (Hb.h (by repeat (first | assumption | exact Hb.newY _ _ | refine Hb.alloc ?_ | refine Hb.drew ?_ | refine Hb.ext (by assumption) ?_ | exact Hb.setSameL (by first | omega | (simp only [size_alloc, size_setB, size_drew]; omega)) | exact Hb.setSame (by assumption) | refine Hb.set (by first | omega | (simp only [size_alloc, size_setB, size_drew]; omega)) ?_ )))⟩; (simp [hlaid, hadx, hady, hbf]); (show Value.bool _ = _; simp [hlaid, hadx, hady, hbf])
        · have hb9p := hb9.h; try simp only [al_ete, al_dfn, Bool.not_eq_true', Bool.not_eq_false', al_ne, Bool.not_not, al_nn] at hb9p
          have hlaid : laid = true := by simpa using hb9p
          have hbf : True := trivial
          refine WO_guardF rfl rfl hb9.h ?_
          refine WO_guardF rfl rfl hb9.h ?_
          refine WO_guardF rfl rfl hb9.h ?_
          refine WO_guardF rfl rfl hb9.h ?_
          refine WO_guardF rfl rfl hb9.h ?_
          refine WO_guardF rfl rfl hb9.h ?_
          refine WO_p (PS_pickF rfl hb9.h rfl) ?_
          refine WO_nil ?_
          refine thn_normal ?_
          refine W_condF rfl rfl ?_
          refine W_skip ?_
          refine thn_normal ?_
          refine ⟨so, K, m, ?_, by omega, hKm, hBL6.ext (by repeat (first | assumption | exact Ext.refl _ | refine Ext.alloc ?_ _ | refine Ext.drew ?_ | refine Ext.setB ?_ (by first | omega | (simp only [size_alloc, size_setB, size_drew]; omega)) _ | exact Ext.trans (by assumption) (by assumption) | refine Ext.trans ?_ (by assumption))), ⟨rfl, rfl, rfl, ?_, rfl, rfl, rfl, rfl, trivial⟩, (by repeat (first | assumption | exact Ext.refl _ | refine Ext.alloc ?_ _ | refine Ext.drew ?_ | refine Ext.setB ?_ (by first | omega | (simp only [size_alloc, size_setB, size_drew]; omega)) _ | exact Ext.trans (by assumption) (by assumption) | refine Ext.trans ?_ (by assumption))), Hb.mk (Hb.h (by repeat (first | assumption | exact Hb.newY _ _ | refine Hb.alloc ?_ | refine Hb.drew ?_ | refine Hb.ext (by assumption) ?_ | exact Hb.setSameL (by first | omega | (simp only [size_alloc, size_setB, size_drew]; omega)) | exact Hb.setSame (by assumption) | refine Hb.set (by first | omega | (simp only [size_alloc, size_setB, size_drew]; omega)) ?_ ))), Hb.mk (Hb.h (by repeat (first | assumption | exact Hb.newY _ _ | refine Hb.alloc ?_ | refine Hb.drew ?_ | refine Hb.ext (by assumption) ?_ | exact Hb.setSameL (by first | omega | (simp only [size_alloc, size_setB, size_drew]; omega)) | exact Hb.setSame (by assumption) | refine Hb.set (by first | omega | (simp only [size_alloc, size_setB, size_drew]; omega)) ?_ )))⟩; (simp [hlaid, hadx, hady, hbf]); (show Value.bool _ = _; simp [hlaid, hadx, hady, hbf])
      · rintro ρ5 w5 ⟨so2, K2, m2, hm2, hK2, hKm2, hBL5, hFr5, hE5, hb35, hb75⟩
        refine W_env _ hFr5 ?_
        have hz5 := hE5.1
        have hb3l5 := hb35.lt
        have hb7l5 := hb75.lt
        refine W_seq ?_
        refine W_region rfl ?_
        refine WO_p (PS_fieldAddr 0 Hvac.runUnderlying104 rfl Hvac.sizeOf25 rfl rfl) ?_
        refine WO_loadA _ Hvac.isAgg25 Hvac.sizeOf25 rfl (Hb.h (by repeat (first | assumption | exact Hb.newY _ _ | refine Hb.alloc ?_ | refine Hb.drew ?_ | refine Hb.ext (by assumption) ?_ | exact Hb.setSameL (by first | omega | (simp only [size_alloc, size_setB, size_drew]; omega)) | exact Hb.setSame (by assumption) | refine Hb.set (by first | omega | (simp only [size_alloc, size_setB, size_drew]; omega)) ?_ ))) (by first | omega | assumption | rfl | decide | exact Nat.le_refl _ | (simp only [size_ic, Value.cells]; omega) | (simp; omega) | simp) (Xt.h (by first | assumption | exact Xt.whole rfl rfl | exact Xt.whole rfl (by assumption) | exact Xt.whole rfl (by simp only [size_ic, Value.cells]; omega) | exact ⟨rfl⟩)) ?_
        refine WO_p (PS_fieldAddr 0 Hvac.runUnderlying104 rfl Hvac.sizeOf25 rfl rfl) ?_
        refine WO_loadA _ Hvac.isAgg25 Hvac.sizeOf25 rfl (Hb.h (by repeat (first | assumption | exact Hb.newY _ _ | refine Hb.alloc ?_ | refine Hb.drew ?_ | refine Hb.ext (by assumption) ?_ | exact Hb.setSameL (by first | omega | (simp only [size_alloc, size_setB, size_drew]; omega)) | exact Hb.setSame (by assumption) | refine Hb.set (by first | omega | (simp only [size_alloc, size_setB, size_drew]; omega)) ?_ ))) (by first | omega | assumption | rfl | decide | exact Nat.le_refl _ | (simp only [size_ic, Value.cells]; omega) | (simp; omega) | simp) (Xt.h (by first | assumption | exact Xt.whole rfl rfl | exact Xt.whole rfl (by assumption) | exact Xt.whole rfl (by simp only [size_ic, Value.cells]; omega) | exact ⟨rfl⟩)) ?_
        refine WO_p (PS_neqA Hvac.underlying25 Hvac.underlying5 Hvac.sizeOf5 Hvac.eqGuardType25 rfl rfl (by first | omega | assumption | rfl | decide | exact Nat.le_refl _ | (simp only [size_ic, Value.cells]; omega) | (simp; omega) | simp) (by first | omega | assumption | rfl | decide | exact Nat.le_refl _ | (simp only [size_ic, Value.cells]; omega) | (simp; omega) | simp)) ?_
        refine WO_nil ?_
        refine thn_normal ?_
        refine W_if rfl (fun hb15 => ?_) (fun hb15 => ?_)
        · have hb15p := hb15.h; try simp only [al_ete, al_dfn, Bool.not_eq_true', Bool.not_eq_false', al_ne, Bool.not_not, al_nn] at hb15p
          have hne : y2.addr ≠ a.addr := by rw [hadx, hady]; exact hb15p
          refine W_region rfl ?_
          refine WO_p (PS_move_slice rfl) ?_
          refine WO_loadA _ Hvac.isAgg104 Hvac.sizeOf104 rfl (Hb.h (by repeat (first | assumption | exact Hb.newY _ _ | refine Hb.alloc ?_ | refine Hb.drew ?_ | refine Hb.ext (by assumption) ?_ | exact Hb.setSameL (by first | omega | (simp only [size_alloc, size_setB, size_drew]; omega)) | exact Hb.setSame (by assumption) | refine Hb.set (by first | omega | (simp only [size_alloc, size_setB, size_drew]; omega)) ?_ ))) (by first | omega | assumption | rfl | decide | exact Nat.le_refl _ | (simp only [size_ic, Value.cells]; omega) | (simp; omega) | simp) (Xt.h (by first | assumption | exact Xt.whole rfl rfl | exact Xt.whole rfl (by assumption) | exact Xt.whole rfl (by simp only [size_ic, Value.cells]; omega) | exact ⟨rfl⟩)) ?_
          refine WO_buildSlice1 Hvac.runUnderlying89 Hvac.sizeOf104 Hvac.zeroValue104 rfl (by first | omega | assumption | rfl | decide | exact Nat.le_refl _ | (simp only [size_ic, Value.cells]; omega) | (simp; omega) | simp) (by decide) (by decide) ?_
          refine WO_app x2 ap_YA (BL.ext hBL5 (by repeat (first | assumption | exact Ext.refl _ | refine Ext.alloc ?_ _ | refine Ext.drew ?_ | refine Ext.setB ?_ (by first | omega | (simp only [size_alloc, size_setB, size_drew]; omega)) _ | exact Ext.trans (by assumption) (by assumption) | refine Ext.trans ?_ (by assumption)))) (by repeat (first | assumption | exact Ext.refl _ | refine Ext.alloc ?_ _ | refine Ext.drew ?_ | refine Ext.setB ?_ (by first | omega | (simp only [size_alloc, size_setB, size_drew]; omega)) _ | exact Ext.trans (by assumption) (by assumption) | refine Ext.trans ?_ (by assumption))) (fm2 (by first | omega | (simp only [size_alloc, size_setB, size_drew]; omega)) (by first | omega | (simp only [size_alloc, size_setB, size_drew]; omega))) (by omega) hxE2 (Hb.newY _ _) rfl rfl ?_
          intro so8 w8 hB8 hE8 hk8 hz8
          try simp only [size_alloc, size_setB, size_drew] at hz8
          have hb3_8 := hk8 b3 _ (by simp) (Hb.mk (Hb.h (by repeat (first | assumption | exact Hb.newY _ _ | refine Hb.alloc ?_ | refine Hb.drew ?_ | refine Hb.ext (by assumption) ?_ | exact Hb.setSameL (by first | omega | (simp only [size_alloc, size_setB, size_drew]; omega)) | exact Hb.setSame (by assumption) | refine Hb.set (by first | omega | (simp only [size_alloc, size_setB, size_drew]; omega)) ?_ ))) : Hb _ b3 (.cells (encYA x).toArray 104 (0, 0)))
          refine WO_p (PS_assign_slice rfl) ?_
          refine WO_nil ?_
          refine inBlk_normal ?_
          refine thn_normal ?_
          refine W_region rfl ?_
          refine WO_p (PS_add_i64n rfl rfl (by omega) (by omega)) ?_
          refine WO_p (PS_move_int rfl) ?_
          refine WO_nil ?_
          refine thn_normal ?_
          refine ⟨k4 - 1, by omega, i + 1, _, so8, K2 ++ [x2], m2 ++ [y2], by omega, ?_, hKm2.snoc hxy2, ?_, hB8.tail (by simp), ⟨rfl, rfl, rfl, rfl, rfl, rfl, congrArg (Value.int .i64) (by omega), trivial⟩, hE8, hb3_8⟩; (simp; omega); rw [← hgo, yput_go a laid l i y2 hy2, hm2, if_pos hne]; simp only [List.append_assoc]
        · have hb15p := hb15.h; try simp only [al_ete, al_dfn, Bool.not_eq_true', Bool.not_eq_false', al_ne, Bool.not_not, al_nn] at hb15p
          have hne : ¬ y2.addr ≠ a.addr := by rw [hadx, hady]; exact fun h9 => absurd hb15p (by simpa using h9)
          refine W_skip ?_
          refine inBlk_normal ?_
          refine thn_normal ?_
          refine W_region rfl ?_
          refine WO_p (PS_add_i64n rfl rfl (by omega) (by omega)) ?_
          refine WO_p (PS_move_int rfl) ?_
          refine WO_nil ?_
          refine thn_normal ?_
          refine ⟨k4 - 1, by omega, i + 1, _, so2, K2, m2, by omega, by omega, hKm2, ?_, (hBL5.ext (by repeat (first | assumption | exact Ext.refl _ | refine Ext.alloc ?_ _ | refine Ext.drew ?_ | refine Ext.setB ?_ (by first | omega | (simp only [size_alloc, size_setB, size_drew]; omega)) _ | exact Ext.trans (by assumption) (by assumption) | refine Ext.trans ?_ (by assumption)))).tail (by simp), ⟨rfl, rfl, rfl, rfl, rfl, rfl, congrArg (Value.int .i64) (by omega), trivial⟩, (by repeat (first | assumption | exact Ext.refl _ | refine Ext.alloc ?_ _ | refine Ext.drew ?_ | refine Ext.setB ?_ (by first | omega | (simp only [size_alloc, size_setB, size_drew]; omega)) _ | exact Ext.trans (by assumption) (by assumption) | refine Ext.trans ?_ (by assumption))), Hb.mk (Hb.h (by repeat (first | assumption | exact Hb.newY _ _ | refine Hb.alloc ?_ | refine Hb.drew ?_ | refine Hb.ext (by assumption) ?_ | exact Hb.setSameL (by first | omega | (simp only [size_alloc, size_setB, size_drew]; omega)) | exact Hb.setSame (by assumption) | refine Hb.set (by first | omega | (simp only [size_alloc, size_setB, size_drew]; omega)) ?_ )))⟩; rw [← hgo, yput_go a laid l i y2 hy2, hm2, if_neg hne]; simp only [List.append_assoc, List.nil_append]
    · have hb6p := hb6.h; try simp only [al_ete, al_dfn, Bool.not_eq_true', Bool.not_eq_false', al_ne, Bool.not_not, al_nn] at hb6p
      refine W_exit ?_
      refine thn_exit ?_
      refine thn_exit ?_
      refine inBlk_exit ?_
      refine thn_normal ?_
      refine W_seq ?_
      refine W_seq ?_
      refine W_region rfl ?_
      refine WO_p (PS_move_bool rfl) ?_
      refine WO_p (PS_not rfl) ?_
      refine WO_nil ?_
      refine thn_normal ?_
      refine W_if rfl (fun hb18 => ?_) (fun hb18 => ?_)
      · have hb18p := hb18.h; try simp only [al_ete, al_dfn, Bool.not_eq_true', Bool.not_eq_false', al_ne, Bool.not_not, al_nn] at hb18p
        have hlaid : laid = false := by simpa using hb18p
        refine W_region rfl ?_
        refine WO_p (PS_move_slice rfl) ?_
        refine WO_loadA _ Hvac.isAgg104 Hvac.sizeOf104 rfl (Hb.h (by repeat (first | assumption | exact Hb.newY _ _ | refine Hb.alloc ?_ | refine Hb.drew ?_ | refine Hb.ext (by assumption) ?_ | exact Hb.setSameL (by first | omega | (simp only [size_alloc, size_setB, size_drew]; omega)) | exact Hb.setSame (by assumption) | refine Hb.set (by first | omega | (simp only [size_alloc, size_setB, size_drew]; omega)) ?_ ))) (by first | omega | assumption | rfl | decide | exact Nat.le_refl _ | (simp only [size_ic, Value.cells]; omega) | (simp; omega) | simp) (Xt.h (by first | assumption | exact Xt.whole rfl rfl | exact Xt.whole rfl (by assumption) | exact Xt.whole rfl (by simp only [size_ic, Value.cells]; omega) | exact ⟨rfl⟩)) ?_
        refine WO_buildSlice1 Hvac.runUnderlying89 Hvac.sizeOf104 Hvac.zeroValue104 rfl (by first | omega | assumption | rfl | decide | exact Nat.le_refl _ | (simp only [size_ic, Value.cells]; omega) | (simp; omega) | simp) (by decide) (by decide) ?_
        refine WO_app x ap_YA (BL.ext hBL (by repeat (first | assumption | exact Ext.refl _ | refine Ext.alloc ?_ _ | refine Ext.drew ?_ | refine Ext.setB ?_ (by first | omega | (simp only [size_alloc, size_setB, size_drew]; omega)) _ | exact Ext.trans (by assumption) (by assumption) | refine Ext.trans ?_ (by assumption)))) (by repeat (first | assumption | exact Ext.refl _ | refine Ext.alloc ?_ _ | refine Ext.drew ?_ | refine Ext.setB ?_ (by first | omega | (simp only [size_alloc, size_setB, size_drew]; omega)) _ | exact Ext.trans (by assumption) (by assumption) | refine Ext.trans ?_ (by assumption))) (fm1 (by first | omega | (simp only [size_alloc, size_setB, size_drew]; omega))) (by omega) hxE (Hb.newY _ _) rfl rfl ?_
        intro so9 w9 hB9 hE9 hk9 hz9
        try simp only [size_alloc, size_setB, size_drew] at hz9
        refine WO_p (PS_assign_slice rfl) ?_
        refine WO_nil ?_
        refine thn_normal ?_
        refine W_region rfl ?_
        refine WO_p (PS_move_ptr rfl) ?_
        refine WO_p (PS_move_slice rfl) ?_
        refine WO_p (PS_nilCheck rfl) ?_
        refine WO_p (PS_fieldAddr 0 Hvac.runUnderlying95 rfl Hvac.sizeOf89 rfl rfl) ?_
        refine WO_store1 Hvac.sizeOf89 rfl (v := (.slice _ _ _)) rfl (Hb.h (by repeat (first | assumption | exact Hb.newY _ _ | refine Hb.alloc ?_ | refine Hb.drew ?_ | refine Hb.ext (by assumption) ?_ | exact Hb.setSameL (by first | omega | (simp only [size_alloc, size_setB, size_drew]; omega)) | exact Hb.setSame (by assumption) | refine Hb.set (by first | omega | (simp only [size_alloc, size_setB, size_drew]; omega)) ?_ ))) rfl (by first | omega | assumption | rfl | decide | exact Nat.le_refl _ | (simp only [size_ic, Value.cells]; omega) | (simp; omega) | simp) rfl ?_
        refine WO_nil ?_
        first | refine bodyQ_ret0 Hvac.results85 ?_ | refine bodyQ_end0 Hvac.results85 ?_
        refine ⟨rfl, keepS hE9 _ _, (slp so9, (K ++ [x]).length, slc so9), Hb.setSame (hS.ext hE9), K ++ [x], ?_, ?_⟩; exact ((hB9.set (Or.inr hSl) _).pl hO); rw [← hgo, yput_end a laid l i (by omega), hlaid]; simpa using (hKm.snoc hx).mono fun _ _ h => h.keep (keepSO hE9 hSo _)
      · have hb18p := hb18.h; try simp only [al_ete, al_dfn, Bool.not_eq_true', Bool.not_eq_false', al_ne, Bool.not_not, al_nn] at hb18p
        have hlaid : laid = true := by simpa using hb18p
        refine W_skip ?_
        refine thn_normal ?_
        refine W_region rfl ?_
        refine WO_p (PS_move_ptr rfl) ?_
        refine WO_p (PS_move_slice rfl) ?_
        refine WO_p (PS_nilCheck rfl) ?_
        refine WO_p (PS_fieldAddr 0 Hvac.runUnderlying95 rfl Hvac.sizeOf89 rfl rfl) ?_
        refine WO_store1 Hvac.sizeOf89 rfl (v := (.slice _ _ _)) rfl (Hb.h (by repeat (first | assumption | exact Hb.newY _ _ | refine Hb.alloc ?_ | refine Hb.drew ?_ | refine Hb.ext (by assumption) ?_ | exact Hb.setSameL (by first | omega | (simp only [size_alloc, size_setB, size_drew]; omega)) | exact Hb.setSame (by assumption) | refine Hb.set (by first | omega | (simp only [size_alloc, size_setB, size_drew]; omega)) ?_ ))) rfl (by first | omega | assumption | rfl | decide | exact Nat.le_refl _ | (simp only [size_ic, Value.cells]; omega) | (simp; omega) | simp) rfl ?_
        refine WO_nil ?_
        first | refine bodyQ_ret0 Hvac.results85 ?_ | refine bodyQ_end0 Hvac.results85 ?_
        refine ⟨rfl, keepS hE4 _ _, (slp so, (K).length, slc so), Hb.setSame (hS.ext hE4), K, ?_, ?_⟩; exact ((hBL.set (Or.inr hSl) _).pl hO); rw [← hgo, yput_end a laid l i (by omega), hlaid]; simpa using (hKm).mono fun _ _ h => h.keep (keepSO hE4 hSo _)

end Go.Proofs.YgvacwGreat
