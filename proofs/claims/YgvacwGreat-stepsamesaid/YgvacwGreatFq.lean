import Derived.Test.YgvacwGreatFp
import Derived.Test.YgvacwGreatZc
import Derived.Test.YgvacwGreatEt
namespace Go.Proofs.YgvacwGreat
set_option linter.unusedSimpArgs false
set_option linter.unusedVariables false
theorem take_s {α : Type} {l : List α} {i : Nat} {x : α} (hx : l[i]? = some x) : l.take (i + 1) = l.take i ++ [x] := by rw [List.take_add_one, hx]; rfl
/-- the vault has warmed a list -/
structure GX (v y : V) (l : List Ax) : Prop where
  vk : VK v y
  vr : ∀ rd (q : PSt), VR rd v.sx q.now → VR rd y.sx (yaxs q l).now
structure GY (v y : V) (l : List Ax) (A : List Int) (ks : List (List Int)) : Prop where
  vk : VK v y
  vr : ∀ rd (q : PSt), VR rd v.sx q.now → VR rd y.sx { (yaxs q l).now with warmA := ywith (yaxs q l).now.warmA A, warmS := yaxK (yaxs q l).now.warmS A ks }
theorem GX.refl (v : V) : GX v v [] := ⟨VK.refl v, fun _ _ h => h⟩
theorem GX.warm {v y z : V} {l : List Ax} {A : List Int} (h : GX v y l) (hx : VK y z ∧ ∀ rd p, VR rd y.sx p → VR rd z.sx { p with warmA := ywith p.warmA A }) : GY v z l A [] := ⟨h.vk.trans hx.1, fun rd q hq => hx.2 rd _ (h.vr rd q hq)⟩
theorem GY.key {v y z : V} {l : List Ax} {A k : List Int} {ks : List (List Int)} (h : GY v y l A ks) (hx : VK y z ∧ ∀ rd p, VR rd y.sx p → VR rd z.sx { p with warmS := ymk p.warmS A (bvY k) }) : GY v z l A (ks ++ [k]) :=
  ⟨h.vk.trans hx.1, fun rd q hq => by rw [yaxK_snoc]; exact hx.2 rd _ (h.vr rd q hq)⟩
theorem GY.done {v y : V} {l : List Ax} {a : Ax} (h : GY v y l a.addr a.kl) : GX v y (l ++ [a]) := ⟨h.vk, fun rd q hq => by rw [yaxs_snoc]; exact h.vr rd q hq⟩
theorem OpG.warmX {y : V} {A : List Int} {nj na ns : Nat} {S : Int} (h : OpG y nj na ns S) (hj : nj < 65000) (ha : y.entered A ∨ na < 2560) : VK y (y.warmT A).2 ∧ ∀ rd p, VR rd y.sx p → VR rd (y.warmT A).2.sx { p with warmA := ywith p.warmA A } := by
  unfold V.warmT
  split
  · rename_i hw
    refine ⟨VK.refl y, fun rd p hp => ?_⟩
    have : A ∈ p.warmA := by rw [hp.warmV h.vi] at hw; exact of_decide_eq_true hw
    have e : ywith p.warmA A = p.warmA := by unfold ywith; rw [if_pos this]
    rw [e]; exact hp
  · have hx := warmA_x h.vi (A := A) (by rcases ha with h3 | h3; exact Or.inl h3; exact Or.inr (by have := h.a; omega)) (by have := h.j; omega)
    exact ⟨hx.vk, fun rd p hp => hx.warmA hp⟩
theorem OpG.warmSX {y : V} {A K : List Int} {nj na ns : Nat} {S : Int} (h : OpG y nj na ns S) (hj : nj < 65000) (hA : y.entered A) (hs : ns < 2560) (hK : Wd K) : VK y (y.warmS A K).2 ∧ ∀ rd p, VR rd y.sx p → VR rd (y.warmS A K).2.sx { p with warmS := ymk p.warmS A (wn K) } := by
  have hx := warmS_x h.vi (A := A) (K := K) hA (Or.inr (by have := h.s; omega)) (by have := h.j; omega)
  exact ⟨hx.vk, fun rd p hp => hx.warmS hK hp⟩
theorem OpG.warmSI {y : V} {A K : List Int} {nj na ns : Nat} {S : Int} (h : OpG y nj na ns S) (hK : Wd K) (hw : y.isWarmS A K = true) : VK y y ∧ ∀ rd p, VR rd y.sx p → VR rd y.sx { p with warmS := ymk p.warmS A (wn K) } := by
  refine ⟨VK.refl y, fun rd p hp => ?_⟩
  have := (hp.slotV h.vi A hK).2
  rw [hw] at this
  rw [ymk_same (of_decide_eq_true this.symm)]; exact hp

set_option maxRecDepth 10000 in
set_option maxHeartbeats 4000000 in
theorem warmList_ex [Om] (w0 : World) (C : Nat) (c : Array Value) (v : V) (B : VB) (β : Option Nat) (s : SV) (l : List Ax) (nj na ns : Nat) (S : Int) (w : World) (he : Ext w0 w) (hin : InRow encAx 21 w0 s l) (hax : ∀ x ∈ l, AxOK w0 x) (hv : VS w C c v B β) (hlow : ∀ b, VOwn C B b → w0.heap.size ≤ b) (hG : OpG v nj na ns S) (hj : nj + l.length + ksum l l.length ≤ 60000) (ha : na + l.length ≤ 2500) (hs : ns + ksum l l.length ≤ 2500) (hl16 : l.length ≤ 1000) (hmn : ∀ i, i ≤ l.length → ksum l i ≤ ksum l l.length) : Ret Hvac.prog 68 #[.pointer (some ⟨C, 2435, none⟩), .slice s.1 s.2.1 s.2.2] w fun u w' => ∃ y, VRet w C c B β w' y ∧ OpG y (nj + l.length + ksum l l.length) (na + l.length) (ns + ksum l l.length) S ∧ Stp v y ∧ GX v y l := by
  obtain ⟨p, n, cp⟩ := s
  have hsl := hin.len
  dsimp only at hsl ⊢
  subst hsl
  have hz32 : (ic .u8 Z32).size = 32 := by rw [size_ic]; rfl
  refine Ret_of_W Hvac.func68 rfl rfl ?_
  refine W_seq ?_
  refine W_region rfl ?_
  refine WO_p (PS_move_slice rfl) ?_
  refine WO_p (PS_lenS Hvac.runUnderlying33 rfl) ?_
  refine WO_p (PS_move_int rfl) ?_
  refine WO_nil ?_
  refine thn_normal ?_
  refine W_block ?_
  refine W_loopN (fun k ρ w' => ∃ (i : Nat) (c2 : Array Value) (v2 : V) (B2 : VB), i + k = l.length ∧ VS w' C c2 v2 B2 β ∧ VStep w w' C c c2 B B2 ∧ OpG v2 (nj + i + ksum l i) (na + i) (ns + ksum l i) S ∧ Stp v v2 ∧ GX v v2 (l.take i) ∧ Fr [(0, .pointer (some ⟨C, 2435, none⟩)), (1, .slice p l.length cp), (9, .slice p l.length cp), (10, .int .i64 l.length), (11, .int .i64 i)] ρ) l.length ?_ ?_
  · exact ⟨0, c, v, B, by omega, hv.ext (by repeat (first | assumption | exact Ext.refl _ | refine Ext.alloc ?_ _ | refine Ext.drew ?_ | refine Ext.setB ?_ (by first | omega | (simp only [size_alloc, size_setB, size_drew]; omega)) _ | refine Ext.trans ?_ (by assumption))), VStep.ext (by repeat (first | assumption | exact Ext.refl _ | refine Ext.alloc ?_ _ | refine Ext.drew ?_ | refine Ext.setB ?_ (by first | omega | (simp only [size_alloc, size_setB, size_drew]; omega)) _ | refine Ext.trans ?_ (by assumption))), hG, Stp.refl v, GX.refl v, ⟨rfl, rfl, rfl, rfl, rfl, trivial⟩⟩
  intro k ρ w2 hI2
  obtain ⟨i, c2, v2, B2, hik, hv2, hS2, hG2, hst2, hGX2, hFr⟩ := hI2
  refine W_env _ hFr ?_
  have hE2 : Ext w0 w2 := Ext.keepC he hS2.keep hlow
  have hz2 := hE2.1
  have hki := hmn i (by omega)
  refine W_seq ?_
  refine W_region rfl ?_
  refine WO_p (PS_lss rfl rfl) ?_
  refine WO_nil ?_
  refine thn_normal ?_
  refine W_seq ?_
  refine W_if rfl (fun hb2 => ?_) (fun hb2 => ?_)
  · have hb2p := hb2.h; try simp only [al_ete, al_dfn, Bool.not_eq_true', Bool.not_eq_false', al_ne, Bool.not_not, al_nn] at hb2p
    obtain ⟨bx, ox, rx, Tx_, fzx, hpx, hbx, hrlx⟩ := hin.row (by omega)
    dsimp only at hpx
    subst hpx
    have hiz : i < l.length := by omega
    obtain ⟨x, hx⟩ : ∃ x, l[i]? = some x := ⟨_, List.getElem?_eq_getElem hiz⟩
    have hxk := hax x (List.mem_of_getElem? hx)
    have hxbd := hrlx.bd hx
    have hxw := hrlx.ext hx (k := 0) (n := 21) (by decide) (ax_whole hxk) (encAx_len hxk)
    have hel21 : (encAx x).toArray.size = 21 := by simpa using encAx_len hxk
    have hck := axKeys hxk
    have hca := axAddr hxk
    have hadl := hxk.ad.1
    generalize hpst : x.keys.1 = pst at hck
    have hkl := hxk.ks.len
    have hgx : l.getD i ⟨[], (none, 0, 0), []⟩ = x := getD_some hx
    have hks1 : ksum l (i + 1) = ksum l i + x.kl.length := by show ksum l i + (l.getD i ⟨[], (none, 0, 0), []⟩).kl.length = _; rw [hgx]
    have hkm := hmn (i + 1) (by omega)
    have hbx2 := hbx.ext hE2
    refine W_skip ?_
    refine thn_normal ?_
    refine W_seq ?_
    refine W_block ?_
    refine W_seq ?_
    refine W_region rfl ?_
    refine WO_p (PS_indexS Hvac.runUnderlying33 Hvac.sizeOf117 rfl rfl (by omega) (by omega)) ?_
    refine WO_loadA _ Hvac.isAgg117 Hvac.sizeOf117 rfl (Hb.h (by repeat (first | assumption | exact Hb.newY _ _ | refine Hb.alloc ?_ | refine Hb.drew ?_ | refine Hb.ext (by assumption) ?_ | exact Hb.setSameL (by first | omega | (simp only [size_alloc, size_setB, size_drew]; omega)) | exact Hb.setSame (by assumption) | refine Hb.set (by first | omega | (simp only [size_alloc, size_setB, size_drew]; omega)) ?_ ))) (by first | omega | assumption | rfl | decide | exact Nat.le_refl _ | (simp only [size_ic, Value.cells]; omega) | simp) (Xt.h (by first | assumption | exact Xt.whole rfl rfl | exact Xt.whole rfl (by simp only [size_ic, Value.cells]; omega) | exact ⟨rfl⟩)) ?_
    refine WO_allocG Hvac.zeroValue117 ?_
    intro b5 v5 hg5 hE5 hH5 hl5
    try simp only [size_alloc, size_setB, size_drew] at hg5
    have hzz5 := hE5.1
    try simp only [size_alloc, size_setB, size_drew] at hzz5
    refine WO_storeW Hvac.sizeOf117 rfl (v := .agg (encAx x).toArray) rfl hH5.h rfl hel21 (by rfl) (one_encAx x) ?_
    apply WO_gen5; intro w2b hw2b
    have hb5b : Hb w2b b5 (.cells (encAx x).toArray 117 (0, 0)) := by rw [hw2b]; exact Hb.setSame hH5
    have hE2b : Ext w2 w2b := by rw [hw2b]; exact Ext.setB hE5 hg5 _
    clear hw2b
    refine WO_nil ?_
    refine thn_normal ?_
    refine W_seq ?_
    refine W_region rfl ?_
    refine WO_p (PS_move_ptr rfl) ?_
    refine WO_p (PS_fieldAddr 0 Hvac.runUnderlying117 rfl Hvac.sizeOf25 rfl rfl) ?_
    refine WO_loadA _ Hvac.isAgg25 Hvac.sizeOf25 rfl (Hb.h (by repeat (first | assumption | exact Hb.newY _ _ | refine Hb.alloc ?_ | refine Hb.drew ?_ | refine Hb.ext (by assumption) ?_ | exact Hb.setSameL (by first | omega | (simp only [size_alloc, size_setB, size_drew]; omega)) | exact Hb.setSame (by assumption) | refine Hb.set (by first | omega | (simp only [size_alloc, size_setB, size_drew]; omega)) ?_ ))) (by first | omega | assumption | rfl | decide | exact Nat.le_refl _ | (simp only [size_ic, Value.cells]; omega) | simp) (Xt.h (by first | assumption | exact Xt.whole rfl rfl | exact Xt.whole rfl (by simp only [size_ic, Value.cells]; omega) | exact ⟨rfl⟩)) ?_
    refine WO_call Hvac.call67 (by rfl) (Ret.mono (warm_spec C c2 v2 B2 β x.addr _ (hv2.ext hE2b) hxk.ad) ?_)
    rintro u3 w3 ⟨c3, B3, hv3, hs3⟩
    obtain ⟨a3, ha31, _, hG3, hen3, hst3⟩ := hG2.warm (A := x.addr) (by omega) (Or.inr (by omega))
    have hGY3 := hGX2.warm (hG2.warmX (A := x.addr) (by omega) (Or.inr (by omega)))
    generalize (v2.warmT x.addr).2 = v3 at *
    have hS3 := (hS2.trans (VStep.ext hE2b)).trans hs3
    have hEw3 : Ext w0 w3 := Ext.keepC he hS3.keep hlow
    have hb53 : Hb w3 b5 (.cells (encAx x).toArray 117 (0, 0)) := hs3.hb (hv2.ext hE2b) hb5b (by decide)
    refine WO_nil ?_
    refine thn_normal ?_
    refine W_seq ?_
    refine W_region rfl ?_
    refine WO_p (PS_fieldAddr 20 Hvac.runUnderlying117 rfl Hvac.sizeOf29 rfl rfl) ?_
    refine WO_load (.slice _ _ _) Hvac.isAgg29 rfl (Hb.h (by repeat (first | assumption | exact Hb.newY _ _ | refine Hb.alloc ?_ | refine Hb.drew ?_ | refine Hb.ext (by assumption) ?_ | exact Hb.setSameL (by first | omega | (simp only [size_alloc, size_setB, size_drew]; omega)) | exact Hb.setSame (by assumption) | refine Hb.set (by first | omega | (simp only [size_alloc, size_setB, size_drew]; omega)) ?_ ))) (Ce.h (by first | assumption | exact ⟨rfl⟩)) ?_
    refine WO_p (PS_lenS Hvac.runUnderlying29 rfl) ?_
    refine WO_p (PS_move_int rfl) ?_
    refine WO_nil ?_
    refine thn_normal ?_
    refine W_block ?_
    refine W_loopN (fun k ρ w' => ∃ (j : Nat) (c7 : Array Value) (y7 : V) (B7 : VB), j + k = x.kl.length ∧ VS w' C c7 y7 B7 β ∧ VStep w w' C c c7 B B7 ∧ OpG y7 (nj + i + 1 + ksum l i + j) (na + i + 1) (ns + ksum l i + j) S ∧ Stp v y7 ∧ GY v y7 (l.take i) x.addr (x.kl.take j) ∧ y7.entered x.addr ∧ Ext w0 w' ∧ Hb w' b5 (.cells (encAx x).toArray 117 (0, 0)) ∧ Fr [(0, .pointer (some ⟨C, 2435, none⟩)), (1, .slice (some ⟨bx, ox, none⟩) l.length cp), (5, .pointer (some ⟨b5, 0, none⟩)), (9, .slice (some ⟨bx, ox, none⟩) l.length cp), (10, .int .i64 l.length), (11, .int .i64 i), (20, .slice pst x.keys.2.1 x.keys.2.2), (21, .int .i64 x.keys.2.1), (22, .int .i64 j)] ρ) x.kl.length ?_ ?_
    · exact ⟨0, c3, v3, B3, by omega, hv3, hS3, hG3.mono (by omega) (by omega) (by omega), hst2.trans hst3, hGY3, hen3, hEw3, hb53, ⟨rfl, rfl, rfl, rfl, rfl, rfl, rfl, rfl, rfl, trivial⟩⟩
    intro k2 ρ2 w7 hI7
    obtain ⟨j, c7, y7, B7, hjk, hv7, hS7, hG7, hst7, hGY7, hen7, hEw7, hb57, hFr7⟩ := hI7
    refine W_env _ hFr7 ?_
    have hzw7 := hEw7.1
    have hlb5 := hb57.lt
    refine W_seq ?_
    refine W_region rfl ?_
    refine WO_p (PS_lss rfl rfl) ?_
    refine WO_nil ?_
    refine thn_normal ?_
    refine W_seq ?_
    refine W_if rfl (fun hb5 => ?_) (fun hb5 => ?_)
    · have hb5p := hb5.h; try simp only [al_ete, al_dfn, Bool.not_eq_true', Bool.not_eq_false', al_ne, Bool.not_not, al_nn] at hb5p
      obtain ⟨k9, hk9⟩ : ∃ z, x.kl[j]? = some z := ⟨_, List.getElem?_eq_getElem (by omega)⟩
      obtain ⟨bk, ok, rk, Tk, fzk, hpk, hbk, hrlk⟩ := hxk.ks.get hk9
      rw [hpst] at hpk
      subst hpk
      have hkb := hxk.kb k9 (List.mem_of_getElem? hk9)
      have hkbd := hrlk.bd hk9
      have hkl32 := hkb.1
      have hkw : Xt rk (ok + j * 32 + 0) (ok + j * 32 + 0 + 32) (ic .u8 k9) := hrlk.ext hk9 (k := 0) (n := 32) (by decide) (by rw [List.drop_zero, List.take_of_length_le (by simp [encH, hkl32])]; rfl) (by simp [encH, hkl32])
      have hkw2 : Xt rk (ok + j * 32) (ok + j * 32 + 32) (ic .u8 k9) := hkw
      have hbk7 := hbk.ext hEw7
      have hWk := fromB_wd hkb.2
      have hWkl := hWk.1
      have hcb7 := hv7.blk
      have hCl7 := hcb7.lt
      refine W_skip ?_
      refine thn_normal ?_
      refine W_seq ?_
      refine W_block ?_
      refine W_seq ?_
      refine W_region rfl ?_
      refine WO_p (PS_indexS Hvac.runUnderlying29 Hvac.sizeOf28 rfl rfl (by omega) (by omega)) ?_
      refine WO_loadA _ Hvac.isAgg28 Hvac.sizeOf28 rfl (Hb.h (by repeat (first | assumption | exact Hb.newY _ _ | refine Hb.alloc ?_ | refine Hb.drew ?_ | refine Hb.ext (by assumption) ?_ | exact Hb.setSameL (by first | omega | (simp only [size_alloc, size_setB, size_drew]; omega)) | exact Hb.setSame (by assumption) | refine Hb.set (by first | omega | (simp only [size_alloc, size_setB, size_drew]; omega)) ?_ ))) (by first | omega | assumption | rfl | decide | exact Nat.le_refl _ | (simp only [size_ic, Value.cells]; omega) | simp) (Xt.h (by first | assumption | exact Xt.whole rfl rfl | exact Xt.whole rfl (by simp only [size_ic, Value.cells]; omega) | exact ⟨rfl⟩)) ?_
      refine WO_allocG Hvac.zeroValue28 ?_
      intro b7 v7 hg7 hE7 hH7 hl7
      try simp only [size_alloc, size_setB, size_drew] at hg7
      have hzz7 := hE7.1
      try simp only [size_alloc, size_setB, size_drew] at hzz7
      replace hH7 : Hb v7 b7 (.cells (ic .u8 Z32) 28 (0, 0)) := hH7
      first | refine WO_storeW Hvac.sizeOf28 rfl (v := .agg _) rfl (Hb.h (by repeat (first | assumption | exact Hb.newY _ _ | refine Hb.alloc ?_ | refine Hb.drew ?_ | refine Hb.ext (by assumption) ?_ | exact Hb.setSameL (by first | omega | (simp only [size_alloc, size_setB, size_drew]; omega)) | exact Hb.setSame (by assumption) | refine Hb.set (by first | omega | (simp only [size_alloc, size_setB, size_drew]; omega)) ?_ ))) rfl (by first | omega | assumption | rfl | decide | exact Nat.le_refl _ | (simp only [size_ic, Value.cells]; omega) | simp) (by first | omega | assumption | rfl | decide | exact Nat.le_refl _ | (simp only [size_ic, Value.cells]; omega) | simp) (by first | exact oneCell_ic | assumption) ?_ | refine WO_store Hvac.sizeOf28 rfl (v := .agg _) rfl (Hb.h (by repeat (first | assumption | exact Hb.newY _ _ | refine Hb.alloc ?_ | refine Hb.drew ?_ | refine Hb.ext (by assumption) ?_ | exact Hb.setSameL (by first | omega | (simp only [size_alloc, size_setB, size_drew]; omega)) | exact Hb.setSame (by assumption) | refine Hb.set (by first | omega | (simp only [size_alloc, size_setB, size_drew]; omega)) ?_ ))) (by first | omega | assumption | rfl | decide | exact Nat.le_refl _ | (simp only [size_ic, Value.cells]; omega) | simp) (by first | omega | assumption | rfl | decide | exact Nat.le_refl _ | (simp only [size_ic, Value.cells]; omega) | simp) (by first | exact oneCell_ic | assumption) ?_
      refine WO_nil ?_
      refine thn_normal ?_
      refine W_seq ?_
      refine W_region rfl ?_
      refine WO_loadA _ Hvac.isAgg28 Hvac.sizeOf28 rfl (Hb.h (by repeat (first | assumption | exact Hb.newY _ _ | refine Hb.alloc ?_ | refine Hb.drew ?_ | refine Hb.ext (by assumption) ?_ | exact Hb.setSameL (by first | omega | (simp only [size_alloc, size_setB, size_drew]; omega)) | exact Hb.setSame (by assumption) | refine Hb.set (by first | omega | (simp only [size_alloc, size_setB, size_drew]; omega)) ?_ ))) (by first | omega | assumption | rfl | decide | exact Nat.le_refl _ | (simp only [size_ic, Value.cells]; omega) | simp) (Xt.h (by first | assumption | exact Xt.whole rfl rfl | exact Xt.whole rfl (by simp only [size_ic, Value.cells]; omega) | exact ⟨rfl⟩)) ?_
      refine WO_call Hvac.call69 (by rfl) (Ret.mono (fromBytes_spec k9 _ hkb) ?_)
      rintro _ w27 ⟨rfl, hE27⟩
      have hz27 := hE27.1
      try simp only [size_alloc, size_setB, size_drew] at hz27
      refine WO_allocG Hvac.zeroValue61 ?_
      intro b8 v8 hg8 hE8 hH8 hl8
      try simp only [size_alloc, size_setB, size_drew] at hg8
      have hzz8 := hE8.1
      try simp only [size_alloc, size_setB, size_drew] at hzz8
      replace hH8 : Hb v8 b8 (.cells (ic .u64 [0, 0, 0, 0]) 61 (0, 0)) := hH8
      first | refine WO_storeW Hvac.sizeOf61 rfl (v := .agg _) rfl (Hb.h (by repeat (first | assumption | exact Hb.newY _ _ | refine Hb.alloc ?_ | refine Hb.drew ?_ | refine Hb.ext (by assumption) ?_ | exact Hb.setSameL (by first | omega | (simp only [size_alloc, size_setB, size_drew]; omega)) | exact Hb.setSame (by assumption) | refine Hb.set (by first | omega | (simp only [size_alloc, size_setB, size_drew]; omega)) ?_ ))) rfl (by first | omega | assumption | rfl | decide | exact Nat.le_refl _ | (simp only [size_ic, Value.cells]; omega) | simp) (by first | omega | assumption | rfl | decide | exact Nat.le_refl _ | (simp only [size_ic, Value.cells]; omega) | simp) (by first | exact oneCell_ic | assumption) ?_ | refine WO_store Hvac.sizeOf61 rfl (v := .agg _) rfl (Hb.h (by repeat (first | assumption | exact Hb.newY _ _ | refine Hb.alloc ?_ | refine Hb.drew ?_ | refine Hb.ext (by assumption) ?_ | exact Hb.setSameL (by first | omega | (simp only [size_alloc, size_setB, size_drew]; omega)) | exact Hb.setSame (by assumption) | refine Hb.set (by first | omega | (simp only [size_alloc, size_setB, size_drew]; omega)) ?_ ))) (by first | omega | assumption | rfl | decide | exact Nat.le_refl _ | (simp only [size_ic, Value.cells]; omega) | simp) (by first | omega | assumption | rfl | decide | exact Nat.le_refl _ | (simp only [size_ic, Value.cells]; omega) | simp) (by first | exact oneCell_ic | assumption) ?_
      refine WO_nil ?_
      refine thn_normal ?_
      refine W_seq ?_
      refine W_region rfl ?_
      refine WO_p (PS_move_ptr rfl) ?_
      refine WO_p (PS_fieldAddr 0 Hvac.runUnderlying117 rfl Hvac.sizeOf25 rfl rfl) ?_
      refine WO_loadA _ Hvac.isAgg25 Hvac.sizeOf25 rfl (Hb.h (by repeat (first | assumption | exact Hb.newY _ _ | refine Hb.alloc ?_ | refine Hb.drew ?_ | refine Hb.ext (by assumption) ?_ | exact Hb.setSameL (by first | omega | (simp only [size_alloc, size_setB, size_drew]; omega)) | exact Hb.setSame (by assumption) | refine Hb.set (by first | omega | (simp only [size_alloc, size_setB, size_drew]; omega)) ?_ ))) (by first | omega | assumption | rfl | decide | exact Nat.le_refl _ | (simp only [size_ic, Value.cells]; omega) | simp) (Xt.h (by first | assumption | exact Xt.whole rfl rfl | exact Xt.whole rfl (by simp only [size_ic, Value.cells]; omega) | exact ⟨rfl⟩)) ?_
      refine WO_loadA _ Hvac.isAgg61 Hvac.sizeOf61 rfl (Hb.h (by repeat (first | assumption | exact Hb.newY _ _ | refine Hb.alloc ?_ | refine Hb.drew ?_ | refine Hb.ext (by assumption) ?_ | exact Hb.setSameL (by first | omega | (simp only [size_alloc, size_setB, size_drew]; omega)) | exact Hb.setSame (by assumption) | refine Hb.set (by first | omega | (simp only [size_alloc, size_setB, size_drew]; omega)) ?_ ))) (by first | omega | assumption | rfl | decide | exact Nat.le_refl _ | (simp only [size_ic, Value.cells]; omega) | simp) (Xt.h (by first | assumption | exact Xt.whole rfl rfl | exact Xt.whole rfl (by simp only [size_ic, Value.cells]; omega) | exact ⟨rfl⟩)) ?_
      refine WO_call Hvac.call150 (by rfl) (Ret.mono (isWarmS_spec C c7 y7 B7 β x.addr (fromB k9) _ (hv7.ext (by repeat (first | assumption | exact Ext.refl _ | refine Ext.alloc ?_ _ | refine Ext.drew ?_ | refine Ext.setB ?_ (by first | omega | (simp only [size_alloc, size_setB, size_drew]; omega)) _ | exact Ext.trans (by assumption) (by assumption) | refine Ext.trans ?_ (by assumption)))) hxk.ad hWk) ?_)
      rintro _ w32 ⟨rfl, hE32⟩
      have hb832 : Hb w32 b8 (.cells (ic .u64 (fromB k9)) 61 (0, 0)) := Hb.mk (Hb.h (by repeat (first | assumption | exact Hb.newY _ _ | refine Hb.alloc ?_ | refine Hb.drew ?_ | refine Hb.ext (by assumption) ?_ | exact Hb.setSameL (by first | omega | (simp only [size_alloc, size_setB, size_drew]; omega)) | exact Hb.setSame (by assumption) | refine Hb.set (by first | omega | (simp only [size_alloc, size_setB, size_drew]; omega)) ?_ )))
      have hE732 : Ext w7 w32 := (by repeat (first | assumption | exact Ext.refl _ | refine Ext.alloc ?_ _ | refine Ext.drew ?_ | refine Ext.setB ?_ (by first | omega | (simp only [size_alloc, size_setB, size_drew]; omega)) _ | exact Ext.trans (by assumption) (by assumption) | refine Ext.trans ?_ (by assumption)))
      have hb532 := hb57.ext hE732
      have hz32b := hE32.1
      refine WO_p (PS_not rfl) ?_
      refine WO_nil ?_
      refine thn_normal ?_
      refine W_if rfl (fun hb10 => ?_) (fun hb10 => ?_)
      · have hb10p := hb10.h; try simp only [al_ete, al_dfn, Bool.not_eq_true', Bool.not_eq_false', al_ne, Bool.not_not, al_nn] at hb10p
        refine W_region rfl ?_
        refine WO_p (PS_move_ptr rfl) ?_
        refine WO_p (PS_fieldAddr 0 Hvac.runUnderlying117 rfl Hvac.sizeOf25 rfl rfl) ?_
        refine WO_loadA _ Hvac.isAgg25 Hvac.sizeOf25 rfl (Hb.h (by repeat (first | assumption | exact Hb.newY _ _ | refine Hb.alloc ?_ | refine Hb.drew ?_ | refine Hb.ext (by assumption) ?_ | exact Hb.setSameL (by first | omega | (simp only [size_alloc, size_setB, size_drew]; omega)) | exact Hb.setSame (by assumption) | refine Hb.set (by first | omega | (simp only [size_alloc, size_setB, size_drew]; omega)) ?_ ))) (by first | omega | assumption | rfl | decide | exact Nat.le_refl _ | (simp only [size_ic, Value.cells]; omega) | simp) (Xt.h (by first | assumption | exact Xt.whole rfl rfl | exact Xt.whole rfl (by simp only [size_ic, Value.cells]; omega) | exact ⟨rfl⟩)) ?_
        refine WO_loadA _ Hvac.isAgg61 Hvac.sizeOf61 rfl (Hb.h (by repeat (first | assumption | exact Hb.newY _ _ | refine Hb.alloc ?_ | refine Hb.drew ?_ | refine Hb.ext (by assumption) ?_ | exact Hb.setSameL (by first | omega | (simp only [size_alloc, size_setB, size_drew]; omega)) | exact Hb.setSame (by assumption) | refine Hb.set (by first | omega | (simp only [size_alloc, size_setB, size_drew]; omega)) ?_ ))) (by first | omega | assumption | rfl | decide | exact Nat.le_refl _ | (simp only [size_ic, Value.cells]; omega) | simp) (Xt.h (by first | assumption | exact Xt.whole rfl rfl | exact Xt.whole rfl (by simp only [size_ic, Value.cells]; omega) | exact ⟨rfl⟩)) ?_
        refine WO_call Hvac.call151 (by rfl) (Ret.mono (warmS_spec C c7 y7 B7 β x.addr (fromB k9) _ (hv7.ext hE732) hxk.ad hWk) ?_)
        rintro u11 w11 ⟨hu11, c11, B11, hv11, hs11⟩
        subst hu11
        obtain ⟨hG11, hst11⟩ := hG7.warmS (A := x.addr) (K := fromB k9) (by omega) hen7 (by omega)
        have hGY11 := hGY7.key (k := k9) (by rw [← wn_fromB hkb]; exact hG7.warmSX (A := x.addr) (K := fromB k9) (by omega) hen7 (by omega) hWk)
        generalize (y7.warmS x.addr (fromB k9)).2 = v11 at *
        have hS11 := (hS7.trans (VStep.ext hE732)).trans hs11
        have hEw11 : Ext w0 w11 := Ext.keepC he hS11.keep hlow
        have hb511 : Hb w11 b5 (.cells (encAx x).toArray 117 (0, 0)) := hs11.hb (hv7.ext hE732) (hb57.ext hE732) (by decide)
        refine WO_nil ?_
        refine inBlk_normal ?_
        refine thn_normal ?_
        refine W_region rfl ?_
        refine WO_p (PS_add_i64n rfl rfl (by omega) (by omega)) ?_
        refine WO_p (PS_move_int rfl) ?_
        refine WO_nil ?_
        refine thn_normal ?_
        exact ⟨k2 - 1, by omega, j + 1, c11, v11, B11, by omega, hv11, hS11, hG11.mono (by omega) (by omega) (by omega), hst7.trans hst11, (by rw [take_s hk9]; exact hGY11), hst11.en _ hen7, hEw11, hb511, ⟨rfl, rfl, rfl, rfl, rfl, rfl, rfl, rfl, congrArg (Value.int .i64) (by omega), trivial⟩⟩
      · have hb10p := hb10.h; try simp only [al_ete, al_dfn, Bool.not_eq_true', Bool.not_eq_false', al_ne, Bool.not_not, al_nn] at hb10p
        refine W_skip ?_
        refine inBlk_normal ?_
        refine thn_normal ?_
        refine W_region rfl ?_
        refine WO_p (PS_add_i64n rfl rfl (by omega) (by omega)) ?_
        refine WO_p (PS_move_int rfl) ?_
        refine WO_nil ?_
        refine thn_normal ?_
        exact ⟨k2 - 1, by omega, j + 1, c7, y7, B7, by omega, hv7.ext hE732, hS7.trans (VStep.ext hE732), hG7.mono (by omega) (by omega) (by omega), hst7, (by rw [take_s hk9]; exact hGY7.key (k := k9) (by rw [← wn_fromB hkb]; exact hG7.warmSI hWk (by simpa using hb10p))), hen7, hEw7.trans hE732, hb57.ext hE732, ⟨rfl, rfl, rfl, rfl, rfl, rfl, rfl, rfl, congrArg (Value.int .i64) (by omega), trivial⟩⟩
    · have hb5p := hb5.h; try simp only [al_ete, al_dfn, Bool.not_eq_true', Bool.not_eq_false', al_ne, Bool.not_not, al_nn] at hb5p
      refine W_exit ?_
      refine thn_exit ?_
      refine thn_exit ?_
      refine inBlk_exit ?_
      refine inBlk_normal ?_
      refine thn_normal ?_
      refine W_region rfl ?_
      refine WO_p (PS_add_i64n rfl rfl (by omega) (by omega)) ?_
      refine WO_p (PS_move_int rfl) ?_
      refine WO_nil ?_
      refine thn_normal ?_
      exact ⟨k - 1, by omega, i + 1, c7, y7, B7, by omega, hv7, hS7, hG7.mono (by omega) (by omega) (by omega), hst7, (by rw [take_s hx]; rw [List.take_of_length_le (l := x.kl) (by omega)] at hGY7; exact hGY7.done), ⟨rfl, rfl, rfl, rfl, congrArg (Value.int .i64) (by omega), trivial⟩⟩
  · have hb2p := hb2.h; try simp only [al_ete, al_dfn, Bool.not_eq_true', Bool.not_eq_false', al_ne, Bool.not_not, al_nn] at hb2p
    refine W_exit ?_
    refine thn_exit ?_
    refine thn_exit ?_
    refine inBlk_exit ?_
    first | refine bodyQ_ret0 Hvac.results68 ?_ | refine bodyQ_end0 Hvac.results68 ?_
    have hil : i = l.length := by omega
    subst hil
    exact ⟨v2, ⟨c2, B2, hv2, hS2⟩, hG2, hst2, (by rw [List.take_of_length_le (Nat.le_refl _)] at hGX2; exact hGX2)⟩

end Go.Proofs.YgvacwGreat
