import Derived.Test.YgvacwGreatRf
namespace Go.Proofs.YgvacwGreat
set_option linter.unusedSimpArgs false
set_option linter.unusedVariables false
def yslot (l : List (Nat × Nat)) (k : Nat) : Nat := match l.find? (fun x => x.1 = k) with | some s => s.2 | none => 0
def yload (l : List PA) (A : List Int) (k : Nat) : Nat := yslot (yacct l A).slots k
def ystoreGo (k v : Nat) : Bool → List (Nat × Nat) → List (Nat × Nat)
  | laid, [] => if laid then [] else [(k, v)]
  | laid, s :: l => (if !laid && decide (k ≤ s.1) then [(k, v)] else []) ++ ((if s.1 ≠ k then [s] else []) ++ ystoreGo k v (laid || (!laid && decide (k ≤ s.1))) l)
def ystore (l : List PA) (A : List Int) (k v : Nat) : List PA := yput l { yacct l A with slots := ystoreGo k v (decide (v = 0)) (yacct l A).slots }
def ywithGo (A : List Int) : Bool → List (List Int) → List (List Int)
  | laid, [] => if laid then [] else [A]
  | laid, x :: l => (if !laid && yless A x then [A] else []) ++ (x :: ywithGo A (laid || (!laid && yless A x)) l)
def ywith (l : List (List Int)) (A : List Int) : List (List Int) := if A ∈ l then l else ywithGo A false l
theorem ystore_go (k v : Nat) (laid : Bool) (l : List (Nat × Nat)) (i : Nat) (y : Nat × Nat) (hy : l[i]? = some y) : ystoreGo k v laid (l.drop i) = (if !laid && decide (k ≤ y.1) then [(k, v)] else []) ++ ((if y.1 ≠ k then [y] else []) ++ ystoreGo k v (laid || (!laid && decide (k ≤ y.1))) (l.drop (i + 1))) := by
  have h1 := lt_of_getElem? hy
  rw [List.drop_eq_getElem_cons h1]
  rw [List.getElem?_eq_getElem h1] at hy
  rw [Option.some.inj hy]
  rfl
theorem ystore_end (k v : Nat) (laid : Bool) (l : List (Nat × Nat)) (i : Nat) (h : l.length ≤ i) : ystoreGo k v laid (l.drop i) = if laid then [] else [(k, v)] := by
  rw [List.drop_eq_nil_of_le h]; rfl
theorem ywith_go (A : List Int) (laid : Bool) (l : List (List Int)) (i : Nat) (y : List Int) (hy : l[i]? = some y) : ywithGo A laid (l.drop i) = (if !laid && yless A y then [A] else []) ++ (y :: ywithGo A (laid || (!laid && yless A y)) (l.drop (i + 1))) := by
  have h1 := lt_of_getElem? hy
  rw [List.drop_eq_getElem_cons h1]
  rw [List.getElem?_eq_getElem h1] at hy
  rw [Option.some.inj hy]
  rfl
theorem ywith_end (A : List Int) (laid : Bool) (l : List (List Int)) (i : Nat) (h : l.length ≤ i) : ywithGo A laid (l.drop i) = if laid then [] else [A] := by
  rw [List.drop_eq_nil_of_le h]; rfl
theorem one_YSl (x : YSl) : ∀ u ∈ encYSl x, u.oneCell' = true := by intro u hu; simp [encYSl] at hu; rcases hu with rfl | rfl <;> rfl
theorem one_YSl2 (x : YSl) : ∀ u ∈ (encYSl x).toArray.toList, u.oneCell' = true := by intro u hu; exact one_YSl x u (by simpa using hu)
theorem info111 : Hvac.prog.info? 111 = some Hvac.t111 := by kernel_rfl
theorem info25 : Hvac.prog.info? 25 = some Hvac.t25 := by kernel_rfl
theorem ap_YSl : AppI encYSl 2 111 102 48 := ⟨Hvac.underlying102, ⟨Hvac.t111, _, info111, rfl, rfl, rfl, rfl⟩, one_YSl, by decide⟩
theorem one_YAd (x : List Int) : ∀ u ∈ encYAd x, u.oneCell' = true := by intro u hu; obtain ⟨a, _, rfl⟩ := List.mem_map.1 hu; rfl
theorem ap_YAd : AppI encYAd 20 25 90 20 := ⟨Hvac.underlying90, ⟨Hvac.t25, _, info25, rfl, rfl, rfl, rfl⟩, one_YAd, by decide⟩
theorem PS_b111 {ρ : Nat → Value} {x0 x1 : Operand} {p1 p2 : Option Addr} {n1 n2 c1 c2 : Nat} (h0 : ev ρ x0 = .slice p1 n1 c1) (h1 : ev ρ x1 = .slice p2 n2 c2) :
    PS Hvac.prog (.build 111 #[(0, x0), (1, x1)]) ρ (.agg (encYSl ⟨(p1, n1, c1), (p2, n2, c2)⟩).toArray) :=
  PS_buildS Hvac.zeroValue111 Hvac.runUnderlying111 (places_run (pl := [(0, 1), (1, 1)]) ⟨rfl, Hvac.sizeOf92, rfl, Hvac.sizeOf92, trivial⟩) (ps := [(0, .slice p1 n1 c1), (1, .slice p2 n2 c2)]) (by simp only [List.map, h0, h1]) (by kernel_rfl)
theorem yslot_hit {l : List (Nat × Nat)} {k i : Nat} {y : Nat × Nat} (hl : ∀ j z, j < i → l[j]? = some z → z.1 ≠ k) (hy : l[i]? = some y) (ha : y.1 = k) : yslot l k = y.2 := by
  have : l.find? (fun x => x.1 = k) = some y := by
    rw [List.find?_eq_some_iff_getElem]
    have h1 := lt_of_getElem? hy
    refine ⟨by simpa using ha, i, h1, ?_, fun j hj => ?_⟩
    · rw [List.getElem?_eq_getElem h1] at hy; exact Option.some.inj hy
    · have := hl j _ hj (List.getElem?_eq_getElem (by omega))
      simpa using this
  unfold yslot; rw [this]
theorem yslot_miss {l : List (Nat × Nat)} {k : Nat} (hl : ∀ (j : Nat) z, l[j]? = some z → z.1 ≠ k) : yslot l k = 0 := by
  have : l.find? (fun x => x.1 = k) = none := by
    rw [List.find?_eq_none]
    intro x hx
    obtain ⟨j, hj, he⟩ := List.mem_iff_getElem.1 hx
    have := hl j x (by rw [List.getElem?_eq_getElem hj, he])
    simpa using this
  unfold yslot; rw [this]

set_option maxRecDepth 10000 in
set_option maxHeartbeats 4000000 in
theorem yLoad_spec [Om] (w : World) (hO : OmB w) (S : Nat) (c : Array Value) (T : TypeId) (fz : Nat × Nat) (s : SV) (l : List PA) (hS : Hb w S (.cells c T fz)) (hc : Ce c (0 + 0) (.slice s.1 s.2.1 s.2.2)) (hl : AcsR w s l) (hln : l.length ≤ 100000000) (A : List Int) (hA : By A 20) (hsl : (yacct l A).slots.length ≤ 100000000) (kp : Option Addr) (kn kc k : Nat) (hk : NN w (kp, kn, kc) k) (zk : sz k ≤ 32) : Ret Hvac.prog 206 #[.pointer (some ⟨S, 0, none⟩), .agg (ic .u8 A), .slice kp kn kc] w fun u w' => Ext w w' ∧ ∃ s' : SV, u = .slice s'.1 s'.2.1 s'.2.2 ∧ NN w' s' (yload l A k) ∧ sz (yload l A k) ≤ 32 := by
  have hAl := hA.1
  have hSl := hS.lt
  refine Ret_of_W Hvac.func206 rfl rfl ?_
  refine W_seq ?_
  refine W_region rfl ?_
  refine WO_boxG (.agg _) rfl ?_
  intro b4 v4 hg4 hE4 hH4 hl4
  try simp only [size_alloc, size_setB, size_drew] at hg4
  have hzz4 := hE4.1
  try simp only [size_alloc, size_setB, size_drew] at hzz4
  refine WO_p (PS_assign_slice rfl) ?_
  refine WO_nil ?_
  refine thn_normal ?_
  refine W_seq ?_
  refine W_seq ?_
  refine W_region rfl ?_
  refine WO_p (PS_move_ptr rfl) ?_
  refine WO_loadA _ Hvac.isAgg25 Hvac.sizeOf25 rfl (Hb.h (by repeat (first | assumption | exact Hb.newY _ _ | refine Hb.alloc ?_ | refine Hb.drew ?_ | refine Hb.ext (by assumption) ?_ | exact Hb.setSameL (by first | omega | (simp only [size_alloc, size_setB, size_drew]; omega)) | exact Hb.setSame (by assumption) | refine Hb.set (by first | omega | (simp only [size_alloc, size_setB, size_drew]; omega)) ?_ ))) (by first | omega | assumption | rfl | decide | exact Nat.le_refl _ | (simp only [size_ic, Value.cells]; omega) | (simp; omega) | simp) (Xt.h (by first | assumption | exact Xt.whole rfl rfl | exact Xt.whole rfl (by assumption) | exact Xt.whole rfl (by simp only [size_ic, Value.cells]; omega) | exact ⟨rfl⟩)) ?_
  refine WO_call Hvac.call17 (by rfl) (Ret.mono (account_spec _ (OmB.ext hO (by repeat (first | assumption | exact Ext.refl _ | refine Ext.alloc ?_ _ | refine Ext.drew ?_ | refine Ext.setB ?_ (by first | omega | (simp only [size_alloc, size_setB, size_drew]; omega)) _ | exact Ext.trans (by assumption) (by assumption) | refine Ext.trans ?_ (by assumption)))) S c T fz s l (Hb.mk (Hb.h (by repeat (first | assumption | exact Hb.newY _ _ | refine Hb.alloc ?_ | refine Hb.drew ?_ | refine Hb.ext (by assumption) ?_ | exact Hb.setSameL (by first | omega | (simp only [size_alloc, size_setB, size_drew]; omega)) | exact Hb.setSame (by assumption) | refine Hb.set (by first | omega | (simp only [size_alloc, size_setB, size_drew]; omega)) ?_ )))) hc (by first | assumption | exact AcsR.ext (by assumption) (by repeat (first | assumption | exact Ext.refl _ | refine Ext.alloc ?_ _ | refine Ext.drew ?_ | refine Ext.setB ?_ (by first | omega | (simp only [size_alloc, size_setB, size_drew]; omega)) _ | exact Ext.trans (by assumption) (by assumption) | refine Ext.trans ?_ (by assumption)))) hln _ (by assumption)) ?_)
  rintro _ w3 ⟨hE3, x3, rfl, hxa3, hxr3⟩
  have hz3 := hE3.1
  try simp only [size_alloc, size_setB, size_drew] at hz3
  have hxl3 : x3.addr.length = 20 := by rw [hxa3]; first | exact hA.1 | exact hB.1
  have hsz3 : (encYA x3).toArray.size = 24 := by simpa using encYA_len hxl3
  have hone3 := one_YA2 x3
  have hc13 := encYA_1 hxl3
  have hc23 := encYA_2 hxl3
  have hc33 := encYA_3 hxl3
  have hnb3 := hxr3.bal
  have hnn3 := hxr3.nonce
  have hzb3 := hxr3.bz
  have hzn3 := hxr3.nz
  have hcl3 := hxr3.code.len
  have hc43 := encYA_4 hxl3
  obtain ⟨L3, hPL3, hR3⟩ := hxr3.slots
  obtain ⟨sp, hsp⟩ : ∃ sp, sp = x3.slots := ⟨_, rfl⟩
  rw [← hsp] at hPL3 hc43
  obtain ⟨p, n, cp⟩ := sp
  have hn := hPL3.len
  dsimp only at hn hc43
  have hR31 := hR3.1
  refine WO_p (PS_field (.slice _ _ _) 23 Hvac.runUnderlying104 rfl Hvac.isAgg102 rfl rfl (Ce.h (by first | assumption | exact ⟨rfl⟩))) ?_
  refine WO_p (PS_lenS Hvac.runUnderlying102 rfl) ?_
  refine WO_p (PS_move_int rfl) ?_
  refine WO_nil ?_
  refine thn_normal ?_
  refine W_block ?_
  refine W_loopN (fun k9 ρ w' => ∃ (i : Nat), i + k9 = n ∧ (∀ j z, j < i → (yacct l A).slots[j]? = some z → z.1 ≠ k) ∧ Fr [(2, .slice kp kn kc), (12, .slice p n cp), (13, .int .i64 n), (14, .int .i64 i)] ρ ∧ Ext w w' ∧ Ext w3 w') n ?_ ?_
  · exact ⟨0, by omega, fun j z h => absurd h (Nat.not_lt_zero j), ⟨rfl, rfl, rfl, rfl, trivial⟩, (by repeat (first | assumption | exact Ext.refl _ | refine Ext.alloc ?_ _ | refine Ext.drew ?_ | refine Ext.setB ?_ (by first | omega | (simp only [size_alloc, size_setB, size_drew]; omega)) _ | refine Ext.trans ?_ (by assumption))), (by repeat (first | assumption | exact Ext.refl _ | refine Ext.alloc ?_ _ | refine Ext.drew ?_ | refine Ext.setB ?_ (by first | omega | (simp only [size_alloc, size_setB, size_drew]; omega)) _ | refine Ext.trans ?_ (by assumption)))⟩
  intro k4 ρ4 w4 hI4
  obtain ⟨i, hik, hno, hFr4, hE4, hE43⟩ := hI4
  refine W_env _ hFr4 ?_
  have hz4 := hE4.1
  have hE43_z := hE43.1
  refine W_seq ?_
  refine W_region rfl ?_
  refine WO_p (PS_lss rfl rfl) ?_
  refine WO_nil ?_
  refine thn_normal ?_
  refine W_seq ?_
  refine W_if rfl (fun hb3 => ?_) (fun hb3 => ?_)
  · have hb3p := hb3.h; try simp only [al_ete, al_dfn, Bool.not_eq_true', Bool.not_eq_false', al_ne, Bool.not_not, al_nn] at hb3p
    obtain ⟨x2, y2, hx2, hy2, hxy2⟩ := hR3.get (i := i) (by omega)
    obtain ⟨b, r, fz2, hp, hb, hrs, hXi⟩ := pl_at (hPL3.ext hE43) hx2 rfl
    subst hp
    have hsz2 : (encYSl x2).toArray.size = 2 := rfl
    have hone2 := one_YSl2 x2
    have hkn := hxy2.key
    have hvn := hxy2.val
    have hkz := hxy2.kz
    have hvz := hxy2.vz
    refine W_skip ?_
    refine thn_normal ?_
    refine W_seq ?_
    refine W_block ?_
    refine W_seq ?_
    refine W_region rfl ?_
    refine WO_p (PS_indexS Hvac.runUnderlying102 Hvac.sizeOf111 rfl rfl (by omega) (by omega)) ?_
    refine WO_loadA _ Hvac.isAgg111 Hvac.sizeOf111 rfl (Hb.h (by repeat (first | assumption | exact Hb.newY _ _ | refine Hb.alloc ?_ | refine Hb.drew ?_ | refine Hb.ext (by assumption) ?_ | exact Hb.setSameL (by first | omega | (simp only [size_alloc, size_setB, size_drew]; omega)) | exact Hb.setSame (by assumption) | refine Hb.set (by first | omega | (simp only [size_alloc, size_setB, size_drew]; omega)) ?_ ))) (by first | omega | assumption | rfl | decide | exact Nat.le_refl _ | (simp only [size_ic, Value.cells]; omega) | (simp; omega) | simp) (Xt.h (by first | assumption | exact Xt.whole rfl rfl | exact Xt.whole rfl (by assumption) | exact Xt.whole rfl (by simp only [size_ic, Value.cells]; omega) | exact ⟨rfl⟩)) ?_
    refine WO_allocG Hvac.zeroValue111 ?_
    intro b8 v8 hg8 hE8 hH8 hl8
    try simp only [size_alloc, size_setB, size_drew] at hg8
    have hzz8 := hE8.1
    try simp only [size_alloc, size_setB, size_drew] at hzz8
    replace hH8 : Hb v8 b8 (.cells ((encYSl ⟨(none, 0, 0), (none, 0, 0)⟩).toArray) 111 (0, 0)) := hH8
    first | refine WO_storeW Hvac.sizeOf111 rfl (v := .agg _) rfl (Hb.h (by repeat (first | assumption | exact Hb.newY _ _ | refine Hb.alloc ?_ | refine Hb.drew ?_ | refine Hb.ext (by assumption) ?_ | exact Hb.setSameL (by first | omega | (simp only [size_alloc, size_setB, size_drew]; omega)) | exact Hb.setSame (by assumption) | refine Hb.set (by first | omega | (simp only [size_alloc, size_setB, size_drew]; omega)) ?_ ))) rfl (by first | omega | assumption | rfl | decide | exact Nat.le_refl _ | (simp only [size_ic, Value.cells]; omega) | (simp; omega) | simp) (by first | omega | assumption | rfl | decide | exact Nat.le_refl _ | (simp only [size_ic, Value.cells]; omega) | (simp; omega) | simp) (by first | exact oneCell_ic | assumption) ?_ | refine WO_store Hvac.sizeOf111 rfl (v := .agg _) rfl (Hb.h (by repeat (first | assumption | exact Hb.newY _ _ | refine Hb.alloc ?_ | refine Hb.drew ?_ | refine Hb.ext (by assumption) ?_ | exact Hb.setSameL (by first | omega | (simp only [size_alloc, size_setB, size_drew]; omega)) | exact Hb.setSame (by assumption) | refine Hb.set (by first | omega | (simp only [size_alloc, size_setB, size_drew]; omega)) ?_ ))) (by first | omega | assumption | rfl | decide | exact Nat.le_refl _ | (simp only [size_ic, Value.cells]; omega) | (simp; omega) | simp) (by first | omega | assumption | rfl | decide | exact Nat.le_refl _ | (simp only [size_ic, Value.cells]; omega) | (simp; omega) | simp) (by first | exact oneCell_ic | assumption) ?_
    refine WO_nil ?_
    refine thn_normal ?_
    refine W_seq ?_
    refine W_region rfl ?_
    refine WO_p (PS_fieldAddr 0 Hvac.runUnderlying111 rfl Hvac.sizeOf92 rfl rfl) ?_
    refine WO_load (.slice _ _ _) Hvac.isAgg92 rfl (Hb.h (by repeat (first | assumption | exact Hb.newY _ _ | refine Hb.alloc ?_ | refine Hb.drew ?_ | refine Hb.ext (by assumption) ?_ | exact Hb.setSameL (by first | omega | (simp only [size_alloc, size_setB, size_drew]; omega)) | exact Hb.setSame (by assumption) | refine Hb.set (by first | omega | (simp only [size_alloc, size_setB, size_drew]; omega)) ?_ ))) (Ce.h (by first | assumption | exact ⟨rfl⟩)) ?_
    refine WO_p (PS_move_slice rfl) ?_
    refine WO_call Hvac.call76 (by rfl) (Ret.mono (nCmp_spec (by first | exact NN.nil _ | assumption | exact NN.ext (by assumption) (by repeat (first | assumption | exact Ext.refl _ | refine Ext.alloc ?_ _ | refine Ext.drew ?_ | refine Ext.setB ?_ (by first | omega | (simp only [size_alloc, size_setB, size_drew]; omega)) _ | exact Ext.trans (by assumption) (by assumption) | refine Ext.trans ?_ (by assumption)))) (by first | exact NN.nil _ | assumption | exact NN.ext (by assumption) (by repeat (first | assumption | exact Ext.refl _ | refine Ext.alloc ?_ _ | refine Ext.drew ?_ | refine Ext.setB ?_ (by first | omega | (simp only [size_alloc, size_setB, size_drew]; omega)) _ | exact Ext.trans (by assumption) (by assumption) | refine Ext.trans ?_ (by assumption)))) (by first | assumption | omega | (rw [sz_zero]; omega)) (by first | assumption | omega | (rw [sz_zero]; omega))) ?_)
    rintro _ w76_3 ⟨hE76_3, rfl⟩
    have hz76_3 := hE76_3.1
    try simp only [size_alloc, size_setB, size_drew] at hz76_3
    refine WO_p (PS_eql rfl rfl) ?_
    refine WO_nil ?_
    refine thn_normal ?_
    refine W_if rfl (fun hb6 => ?_) (fun hb6 => ?_)
    · have hb6p := hb6.h; try simp only [al_ete, al_dfn, Bool.not_eq_true', Bool.not_eq_false', al_ne, Bool.not_not, al_nn] at hb6p
      have hhit : y2.1 = k := cmpI_eq.1 hb6p
      refine W_seq ?_
      refine W_region rfl ?_
      refine WO_p (PS_fieldAddr 1 Hvac.runUnderlying111 rfl Hvac.sizeOf92 rfl rfl) ?_
      refine WO_load (.slice _ _ _) Hvac.isAgg92 rfl (Hb.h (by repeat (first | assumption | exact Hb.newY _ _ | refine Hb.alloc ?_ | refine Hb.drew ?_ | refine Hb.ext (by assumption) ?_ | exact Hb.setSameL (by first | omega | (simp only [size_alloc, size_setB, size_drew]; omega)) | exact Hb.setSame (by assumption) | refine Hb.set (by first | omega | (simp only [size_alloc, size_setB, size_drew]; omega)) ?_ ))) (Ce.h (by first | assumption | exact ⟨rfl⟩)) ?_
      refine WO_p (PS_assign_slice rfl) ?_
      refine WO_nil ?_
      refine thn_normal ?_
      refine W_ret ?_
      refine inBlk_ret ?_
      refine thn_ret ?_
      refine thn_ret ?_
      refine inBlk_ret ?_
      refine thn_ret ?_
      refine bodyQ_ret1 Hvac.results206 rfl (.slice _ _ _) rfl ?_
      unfold yload
      first
      | (rw [yslot_hit hno hy2 hhit]
         exact ⟨(by repeat (first | assumption | exact Ext.refl _ | refine Ext.alloc ?_ _ | refine Ext.drew ?_ | refine Ext.setB ?_ (by first | omega | (simp only [size_alloc, size_setB, size_drew]; omega)) _ | refine Ext.trans ?_ (by assumption))), x2.val, rfl, NN.ext hvn (by repeat (first | assumption | exact Ext.refl _ | refine Ext.alloc ?_ _ | refine Ext.drew ?_ | refine Ext.setB ?_ (by first | omega | (simp only [size_alloc, size_setB, size_drew]; omega)) _ | refine Ext.trans ?_ (by assumption))), hvz⟩)
      | (rw [yslot_miss (fun j z hz => hno j z (by have := lt_of_getElem? hz; omega) hz)]
         exact ⟨(by repeat (first | assumption | exact Ext.refl _ | refine Ext.alloc ?_ _ | refine Ext.drew ?_ | refine Ext.setB ?_ (by first | omega | (simp only [size_alloc, size_setB, size_drew]; omega)) _ | refine Ext.trans ?_ (by assumption))), (none, 0, 0), rfl, NN.nil _, by rw [sz_zero]; omega⟩)
    · have hb6p := hb6.h; try simp only [al_ete, al_dfn, Bool.not_eq_true', Bool.not_eq_false', al_ne, Bool.not_not, al_nn] at hb6p
      have hne : y2.1 ≠ k := fun h9 => hb6p (cmpI_eq.2 h9)
      refine W_skip ?_
      refine inBlk_normal ?_
      refine thn_normal ?_
      refine W_region rfl ?_
      refine WO_p (PS_add_i64n rfl rfl (by omega) (by omega)) ?_
      refine WO_p (PS_move_int rfl) ?_
      refine WO_nil ?_
      refine thn_normal ?_
      exact ⟨k4 - 1, by omega, i + 1, by omega, fun j z hj hz => by
        rcases Nat.lt_or_ge j i with h3 | h3
        · exact hno j z h3 hz
        · rw [show j = i by omega, hy2] at hz; rw [← Option.some.inj hz]; exact hne, ⟨rfl, rfl, rfl, congrArg (Value.int .i64) (by omega), trivial⟩, (by repeat (first | assumption | exact Ext.refl _ | refine Ext.alloc ?_ _ | refine Ext.drew ?_ | refine Ext.setB ?_ (by first | omega | (simp only [size_alloc, size_setB, size_drew]; omega)) _ | refine Ext.trans ?_ (by assumption))), (by repeat (first | assumption | exact Ext.refl _ | refine Ext.alloc ?_ _ | refine Ext.drew ?_ | refine Ext.setB ?_ (by first | omega | (simp only [size_alloc, size_setB, size_drew]; omega)) _ | refine Ext.trans ?_ (by assumption)))⟩
  · have hb3p := hb3.h; try simp only [al_ete, al_dfn, Bool.not_eq_true', Bool.not_eq_false', al_ne, Bool.not_not, al_nn] at hb3p
    refine W_exit ?_
    refine thn_exit ?_
    refine thn_exit ?_
    refine inBlk_exit ?_
    refine thn_normal ?_
    refine W_seq ?_
    refine W_region rfl ?_
    refine WO_p (PS_assign_slice rfl) ?_
    refine WO_nil ?_
    refine thn_normal ?_
    refine W_ret ?_
    refine bodyQ_ret1 Hvac.results206 rfl (.slice _ _ _) rfl ?_
    unfold yload
    first
    | (rw [yslot_hit hno hy2 hhit]
       exact ⟨(by repeat (first | assumption | exact Ext.refl _ | refine Ext.alloc ?_ _ | refine Ext.drew ?_ | refine Ext.setB ?_ (by first | omega | (simp only [size_alloc, size_setB, size_drew]; omega)) _ | refine Ext.trans ?_ (by assumption))), x2.val, rfl, NN.ext hvn (by repeat (first | assumption | exact Ext.refl _ | refine Ext.alloc ?_ _ | refine Ext.drew ?_ | refine Ext.setB ?_ (by first | omega | (simp only [size_alloc, size_setB, size_drew]; omega)) _ | refine Ext.trans ?_ (by assumption))), hvz⟩)
    | (rw [yslot_miss (fun j z hz => hno j z (by have := lt_of_getElem? hz; omega) hz)]
       exact ⟨(by repeat (first | assumption | exact Ext.refl _ | refine Ext.alloc ?_ _ | refine Ext.drew ?_ | refine Ext.setB ?_ (by first | omega | (simp only [size_alloc, size_setB, size_drew]; omega)) _ | refine Ext.trans ?_ (by assumption))), (none, 0, 0), rfl, NN.nil _, by rw [sz_zero]; omega⟩)

set_option maxRecDepth 10000 in
set_option maxHeartbeats 4000000 in
theorem yStore_spec [Om] (w : World) (hO : OmB w) (S : Nat) (c : Array Value) (T : TypeId)  (s : SV) (l : List PA) (hS : Hb w S (.cells c T (0, 0))) (hc : Ce c (0 + 0) (.slice s.1 s.2.1 s.2.2)) (hl : AcsR w s l) (hln : l.length ≤ 100000000) (hSo : Om.p S) (hc0 : 0 < c.size) (hcd : CdOK l) (A : List Int) (hA : By A 20) (hsl : (yacct l A).slots.length ≤ 100000000) (kp : Option Addr) (kn kc k : Nat) (hk : NN w (kp, kn, kc) k) (zk : sz k ≤ 32) (vp : Option Addr) (vn vc v : Nat) (hv : NN w (vp, vn, vc) v) (zv : sz v ≤ 32) : Ret Hvac.prog 313 #[.pointer (some ⟨S, 0, none⟩), .agg (ic .u8 A), .slice kp kn kc, .slice vp vn vc] w fun u w' => u = .tuple #[] ∧ KeepO (fun b => b = S) w w' ∧ ∃ s' : SV, Hb w' S (.cells (c.setIfInBounds (0 + 0) (.slice s'.1 s'.2.1 s'.2.2)) T (0, 0)) ∧ AcsR w' s' (ystore l A k v) := by
  have hAl := hA.1
  have hSl := hS.lt
  refine Ret_of_W Hvac.func313 rfl rfl ?_
  refine W_seq ?_
  refine W_region rfl ?_
  refine WO_boxG (.agg _) rfl ?_
  intro b5 v5 hg5 hE5 hH5 hl5
  try simp only [size_alloc, size_setB, size_drew] at hg5
  have hzz5 := hE5.1
  try simp only [size_alloc, size_setB, size_drew] at hzz5
  refine WO_nil ?_
  refine thn_normal ?_
  refine W_seq ?_
  refine W_region rfl ?_
  refine WO_p (PS_move_ptr rfl) ?_
  refine WO_loadA _ Hvac.isAgg25 Hvac.sizeOf25 rfl (Hb.h (by repeat (first | assumption | exact Hb.newY _ _ | refine Hb.alloc ?_ | refine Hb.drew ?_ | refine Hb.ext (by assumption) ?_ | exact Hb.setSameL (by first | omega | (simp only [size_alloc, size_setB, size_drew]; omega)) | exact Hb.setSame (by assumption) | refine Hb.set (by first | omega | (simp only [size_alloc, size_setB, size_drew]; omega)) ?_ ))) (by first | omega | assumption | rfl | decide | exact Nat.le_refl _ | (simp only [size_ic, Value.cells]; omega) | (simp; omega) | simp) (Xt.h (by first | assumption | exact Xt.whole rfl rfl | exact Xt.whole rfl (by assumption) | exact Xt.whole rfl (by simp only [size_ic, Value.cells]; omega) | exact ⟨rfl⟩)) ?_
  refine WO_call Hvac.call17 (by rfl) (Ret.mono (account_spec _ (OmB.ext hO (by repeat (first | assumption | exact Ext.refl _ | refine Ext.alloc ?_ _ | refine Ext.drew ?_ | refine Ext.setB ?_ (by first | omega | (simp only [size_alloc, size_setB, size_drew]; omega)) _ | exact Ext.trans (by assumption) (by assumption) | refine Ext.trans ?_ (by assumption)))) S c T (0, 0) s l (Hb.mk (Hb.h (by repeat (first | assumption | exact Hb.newY _ _ | refine Hb.alloc ?_ | refine Hb.drew ?_ | refine Hb.ext (by assumption) ?_ | exact Hb.setSameL (by first | omega | (simp only [size_alloc, size_setB, size_drew]; omega)) | exact Hb.setSame (by assumption) | refine Hb.set (by first | omega | (simp only [size_alloc, size_setB, size_drew]; omega)) ?_ )))) hc (by first | assumption | exact AcsR.ext (by assumption) (by repeat (first | assumption | exact Ext.refl _ | refine Ext.alloc ?_ _ | refine Ext.drew ?_ | refine Ext.setB ?_ (by first | omega | (simp only [size_alloc, size_setB, size_drew]; omega)) _ | exact Ext.trans (by assumption) (by assumption) | refine Ext.trans ?_ (by assumption)))) hln _ (by assumption)) ?_)
  rintro _ w3 ⟨hE3, x3, rfl, hxa3, hxr3⟩
  have hz3 := hE3.1
  try simp only [size_alloc, size_setB, size_drew] at hz3
  have hxl3 : x3.addr.length = 20 := by rw [hxa3]; first | exact hA.1 | exact hB.1
  have hsz3 : (encYA x3).toArray.size = 24 := by simpa using encYA_len hxl3
  have hone3 := one_YA2 x3
  have hc13 := encYA_1 hxl3
  have hc23 := encYA_2 hxl3
  have hc33 := encYA_3 hxl3
  have hnb3 := hxr3.bal
  have hnn3 := hxr3.nonce
  have hzb3 := hxr3.bz
  have hzn3 := hxr3.nz
  have hcl3 := hxr3.code.len
  have hc43 := encYA_4 hxl3
  obtain ⟨L3, hPL3, hR3⟩ := hxr3.slots
  obtain ⟨sp, hsp⟩ : ∃ sp, sp = x3.slots := ⟨_, rfl⟩
  rw [← hsp] at hPL3 hc43
  obtain ⟨p, n, cp⟩ := sp
  have hn := hPL3.len
  dsimp only at hn hc43
  have hR31 := hR3.1
  have hE3w : Ext w w3 := (by repeat (first | assumption | exact Ext.refl _ | refine Ext.alloc ?_ _ | refine Ext.drew ?_ | refine Ext.setB ?_ (by first | omega | (simp only [size_alloc, size_setB, size_drew]; omega)) _ | exact Ext.trans (by assumption) (by assumption) | refine Ext.trans ?_ (by assumption)))
  have hz3w := hE3w.1
  refine WO_allocG Hvac.zeroValue104 ?_
  intro b8 v8 hg8 hE8 hH8 hl8
  try simp only [size_alloc, size_setB, size_drew] at hg8
  have hzz8 := hE8.1
  try simp only [size_alloc, size_setB, size_drew] at hzz8
  replace hH8 : Hb v8 b8 (.cells ((encYA (ac0 (List.replicate 20 0))).toArray) 104 (0, 0)) := hH8
  first | refine WO_storeW Hvac.sizeOf104 rfl (v := .agg _) rfl (Hb.h (by repeat (first | assumption | exact Hb.newY _ _ | refine Hb.alloc ?_ | refine Hb.drew ?_ | refine Hb.ext (by assumption) ?_ | exact Hb.setSameL (by first | omega | (simp only [size_alloc, size_setB, size_drew]; omega)) | exact Hb.setSame (by assumption) | refine Hb.set (by first | omega | (simp only [size_alloc, size_setB, size_drew]; omega)) ?_ ))) rfl (by first | omega | assumption | rfl | decide | exact Nat.le_refl _ | (simp only [size_ic, Value.cells]; omega) | (simp; omega) | simp) (by first | omega | assumption | rfl | decide | exact Nat.le_refl _ | (simp only [size_ic, Value.cells]; omega) | (simp; omega) | simp) (by first | exact oneCell_ic | assumption) ?_ | refine WO_store Hvac.sizeOf104 rfl (v := .agg _) rfl (Hb.h (by repeat (first | assumption | exact Hb.newY _ _ | refine Hb.alloc ?_ | refine Hb.drew ?_ | refine Hb.ext (by assumption) ?_ | exact Hb.setSameL (by first | omega | (simp only [size_alloc, size_setB, size_drew]; omega)) | exact Hb.setSame (by assumption) | refine Hb.set (by first | omega | (simp only [size_alloc, size_setB, size_drew]; omega)) ?_ ))) (by first | omega | assumption | rfl | decide | exact Nat.le_refl _ | (simp only [size_ic, Value.cells]; omega) | (simp; omega) | simp) (by first | omega | assumption | rfl | decide | exact Nat.le_refl _ | (simp only [size_ic, Value.cells]; omega) | (simp; omega) | simp) (by first | exact oneCell_ic | assumption) ?_
  refine WO_nil ?_
  refine thn_normal ?_
  refine W_seq ?_
  refine W_region rfl ?_
  refine WO_p (PS_assign_slice rfl) ?_
  refine WO_nil ?_
  refine thn_normal ?_
  refine W_seq ?_
  refine W_region rfl ?_
  refine WO_p (PS_move_slice rfl) ?_
  refine WO_call Hvac.call91 (by rfl) (Ret.mono (yIsZero_spec _ (OmB.ext hO (by repeat (first | assumption | exact Ext.refl _ | refine Ext.alloc ?_ _ | refine Ext.drew ?_ | refine Ext.setB ?_ (by first | omega | (simp only [size_alloc, size_setB, size_drew]; omega)) _ | exact Ext.trans (by assumption) (by assumption) | refine Ext.trans ?_ (by assumption)))) _ _ _ _ (by first | exact NN.nil _ | assumption | exact NN.ext (by assumption) (by repeat (first | assumption | exact Ext.refl _ | refine Ext.alloc ?_ _ | refine Ext.drew ?_ | refine Ext.setB ?_ (by first | omega | (simp only [size_alloc, size_setB, size_drew]; omega)) _ | exact Ext.trans (by assumption) (by assumption) | refine Ext.trans ?_ (by assumption)))) (by first | assumption | omega | (rw [sz_zero]; omega))) ?_)
  rintro _ w91_1 ⟨hE91_1, rfl⟩
  have hz91_1 := hE91_1.1
  try simp only [size_alloc, size_setB, size_drew] at hz91_1
  refine WO_p (PS_assign_bool rfl) ?_
  refine WO_nil ?_
  refine thn_normal ?_
  refine W_seq ?_
  refine W_seq ?_
  refine W_region rfl ?_
  refine WO_p (PS_fieldAddr 23 Hvac.runUnderlying104 rfl Hvac.sizeOf102 rfl rfl) ?_
  refine WO_load (.slice _ _ _) Hvac.isAgg102 rfl (Hb.h (by repeat (first | assumption | exact Hb.newY _ _ | refine Hb.alloc ?_ | refine Hb.drew ?_ | refine Hb.ext (by assumption) ?_ | exact Hb.setSameL (by first | omega | (simp only [size_alloc, size_setB, size_drew]; omega)) | exact Hb.setSame (by assumption) | refine Hb.set (by first | omega | (simp only [size_alloc, size_setB, size_drew]; omega)) ?_ ))) (Ce.h (by first | assumption | exact ⟨rfl⟩)) ?_
  refine WO_p (PS_lenS Hvac.runUnderlying102 rfl) ?_
  refine WO_p (PS_move_int rfl) ?_
  refine WO_nil ?_
  refine thn_normal ?_
  refine W_block ?_
  refine W_loopN (fun k9 ρ w' => ∃ (i : Nat) (laid : Bool) (so : Option (Nat × Nat)) (K : List YSl) (m : List (Nat × Nat)), i + k9 = n ∧ K.length ≤ 2 * i ∧ R2 (SlR w3) K m ∧ m ++ ystoreGo k v laid ((yacct l A).slots.drop i) = ystoreGo k v (decide (v = 0)) (yacct l A).slots ∧ BL encYSl 2 111 w3 [b8] w' so K ∧ Fr [(0, .pointer (some ⟨S, 0, none⟩)), (2, .slice kp kn kc), (3, .slice vp vn vc), (8, .pointer (some ⟨b8, 0, none⟩)), (9, .slice (slp so) K.length (slc so)), (10, .bool laid), (20, .slice p n cp), (21, .int .i64 n), (22, .int .i64 i)] ρ ∧ Ext w w' ∧ Ext w3 w' ∧ Hb w' b8 (.cells (encYA x3).toArray 104 (0, 0))) n ?_ ?_
  · exact ⟨0, _, none, [], [], by omega, by simp, R2.nil _, rfl, BL.nil _ _ _ _ _ _, ⟨rfl, rfl, rfl, rfl, rfl, rfl, rfl, rfl, rfl, trivial⟩, (by repeat (first | assumption | exact Ext.refl _ | refine Ext.alloc ?_ _ | refine Ext.drew ?_ | refine Ext.setB ?_ (by first | omega | (simp only [size_alloc, size_setB, size_drew]; omega)) _ | refine Ext.trans ?_ (by assumption))), (by repeat (first | assumption | exact Ext.refl _ | refine Ext.alloc ?_ _ | refine Ext.drew ?_ | refine Ext.setB ?_ (by first | omega | (simp only [size_alloc, size_setB, size_drew]; omega)) _ | refine Ext.trans ?_ (by assumption))), Hb.mk (Hb.h (by repeat (first | assumption | exact Hb.newY _ _ | refine Hb.alloc ?_ | refine Hb.drew ?_ | refine Hb.ext (by assumption) ?_ | exact Hb.setSameL (by first | omega | (simp only [size_alloc, size_setB, size_drew]; omega)) | exact Hb.setSame (by assumption) | refine Hb.set (by first | omega | (simp only [size_alloc, size_setB, size_drew]; omega)) ?_ )))⟩
  intro k4 ρ4 w4 hI4
  obtain ⟨i, laid, so, K, m, hik, hK8, hKm, hgo, hBL, hFr4, hE4, hE43, hb8k⟩ := hI4
  refine W_env _ hFr4 ?_
  have hz4 := hE4.1
  have hb8k_l := hb8k.lt
  have hE43_z := hE43.1
  refine W_seq ?_
  refine W_region rfl ?_
  refine WO_p (PS_lss rfl rfl) ?_
  refine WO_nil ?_
  refine thn_normal ?_
  refine W_seq ?_
  refine W_if rfl (fun hb5 => ?_) (fun hb5 => ?_)
  · have hb5p := hb5.h; try simp only [al_ete, al_dfn, Bool.not_eq_true', Bool.not_eq_false', al_ne, Bool.not_not, al_nn] at hb5p
    obtain ⟨x2, y2, hx2, hy2, hxy2⟩ := hR3.get (i := i) (by omega)
    obtain ⟨b, r, fz2, hp, hb, hrs, hXi⟩ := pl_at (hPL3.ext hE43) hx2 rfl
    subst hp
    have hsz2 : (encYSl x2).toArray.size = 2 := rfl
    have hone2 := one_YSl2 x2
    have hkn := hxy2.key
    have hvn := hxy2.val
    have hkz := hxy2.kz
    have hvz := hxy2.vz
    refine W_skip ?_
    refine thn_normal ?_
    refine W_seq ?_
    refine W_block ?_
    refine W_seq ?_
    refine W_region rfl ?_
    refine WO_p (PS_indexS Hvac.runUnderlying102 Hvac.sizeOf111 rfl rfl (by omega) (by omega)) ?_
    refine WO_loadA _ Hvac.isAgg111 Hvac.sizeOf111 rfl (Hb.h (by repeat (first | assumption | exact Hb.newY _ _ | refine Hb.alloc ?_ | refine Hb.drew ?_ | refine Hb.ext (by assumption) ?_ | exact Hb.setSameL (by first | omega | (simp only [size_alloc, size_setB, size_drew]; omega)) | exact Hb.setSame (by assumption) | refine Hb.set (by first | omega | (simp only [size_alloc, size_setB, size_drew]; omega)) ?_ ))) (by first | omega | assumption | rfl | decide | exact Nat.le_refl _ | (simp only [size_ic, Value.cells]; omega) | (simp; omega) | simp) (Xt.h (by first | assumption | exact Xt.whole rfl rfl | exact Xt.whole rfl (by assumption) | exact Xt.whole rfl (by simp only [size_ic, Value.cells]; omega) | exact ⟨rfl⟩)) ?_
    refine WO_allocG Hvac.zeroValue111 ?_
    intro b12 v12 hg12 hE12 hH12 hl12
    try simp only [size_alloc, size_setB, size_drew] at hg12
    have hzz12 := hE12.1
    try simp only [size_alloc, size_setB, size_drew] at hzz12
    replace hH12 : Hb v12 b12 (.cells ((encYSl ⟨(none, 0, 0), (none, 0, 0)⟩).toArray) 111 (0, 0)) := hH12
    first | refine WO_storeW Hvac.sizeOf111 rfl (v := .agg _) rfl (Hb.h (by repeat (first | assumption | exact Hb.newY _ _ | refine Hb.alloc ?_ | refine Hb.drew ?_ | refine Hb.ext (by assumption) ?_ | exact Hb.setSameL (by first | omega | (simp only [size_alloc, size_setB, size_drew]; omega)) | exact Hb.setSame (by assumption) | refine Hb.set (by first | omega | (simp only [size_alloc, size_setB, size_drew]; omega)) ?_ ))) rfl (by first | omega | assumption | rfl | decide | exact Nat.le_refl _ | (simp only [size_ic, Value.cells]; omega) | (simp; omega) | simp) (by first | omega | assumption | rfl | decide | exact Nat.le_refl _ | (simp only [size_ic, Value.cells]; omega) | (simp; omega) | simp) (by first | exact oneCell_ic | assumption) ?_ | refine WO_store Hvac.sizeOf111 rfl (v := .agg _) rfl (Hb.h (by repeat (first | assumption | exact Hb.newY _ _ | refine Hb.alloc ?_ | refine Hb.drew ?_ | refine Hb.ext (by assumption) ?_ | exact Hb.setSameL (by first | omega | (simp only [size_alloc, size_setB, size_drew]; omega)) | exact Hb.setSame (by assumption) | refine Hb.set (by first | omega | (simp only [size_alloc, size_setB, size_drew]; omega)) ?_ ))) (by first | omega | assumption | rfl | decide | exact Nat.le_refl _ | (simp only [size_ic, Value.cells]; omega) | (simp; omega) | simp) (by first | omega | assumption | rfl | decide | exact Nat.le_refl _ | (simp only [size_ic, Value.cells]; omega) | (simp; omega) | simp) (by first | exact oneCell_ic | assumption) ?_
    refine WO_nil ?_
    refine thn_normal ?_
    refine W_seq ?_
    refine W_gen fun w7 hw7 => ?_
    have hBL7 : BL encYSl 2 111 w3 [b12, b8] w7 so K := by rw [hw7]; exact ((hBL.cons hg12).ext hE12).set (Or.inl (by simp)) _
    have hb8_7 : Hb w7 b8 (.cells (encYA x3).toArray 104 (0, 0)) := by rw [hw7]; exact Hb.set (by omega) (hb8k.ext hE12)
    have hb12_7 : Hb w7 b12 (.cells (encYSl x2).toArray 111 (0, 0)) := by rw [hw7]; exact Hb.setSame hH12
    have hE47 : Ext w4 w7 := by rw [hw7]; exact Ext.setB hE12 (by omega) _
    have hE37 : Ext w3 w7 := hE43.trans hE47
    have hE7 : Ext w w7 := hE3w.trans hE37
    have hz7 := hE7.1
    have hz37 := hE37.1
    have hb12l7 := hb12_7.lt
    have hb8l7 := hb8_7.lt
    clear hw7
    refine W_region rfl ?_
    refine WO_p (PS_fieldAddr 0 Hvac.runUnderlying111 rfl Hvac.sizeOf92 rfl rfl) ?_
    refine WO_load (.slice _ _ _) Hvac.isAgg92 rfl (Hb.h (by repeat (first | assumption | exact Hb.newY _ _ | refine Hb.alloc ?_ | refine Hb.drew ?_ | refine Hb.ext (by assumption) ?_ | exact Hb.setSameL (by first | omega | (simp only [size_alloc, size_setB, size_drew]; omega)) | exact Hb.setSame (by assumption) | refine Hb.set (by first | omega | (simp only [size_alloc, size_setB, size_drew]; omega)) ?_ ))) (Ce.h (by first | assumption | exact ⟨rfl⟩)) ?_
    refine WO_p (PS_move_slice rfl) ?_
    refine WO_call Hvac.call76 (by rfl) (Ret.mono (nCmp_spec (by first | exact NN.nil _ | assumption | exact NN.ext (by assumption) (by repeat (first | assumption | exact Ext.refl _ | refine Ext.alloc ?_ _ | refine Ext.drew ?_ | refine Ext.setB ?_ (by first | omega | (simp only [size_alloc, size_setB, size_drew]; omega)) _ | exact Ext.trans (by assumption) (by assumption) | refine Ext.trans ?_ (by assumption)))) (by first | exact NN.nil _ | assumption | exact NN.ext (by assumption) (by repeat (first | assumption | exact Ext.refl _ | refine Ext.alloc ?_ _ | refine Ext.drew ?_ | refine Ext.setB ?_ (by first | omega | (simp only [size_alloc, size_setB, size_drew]; omega)) _ | exact Ext.trans (by assumption) (by assumption) | refine Ext.trans ?_ (by assumption)))) (by first | assumption | omega | (rw [sz_zero]; omega)) (by first | assumption | omega | (rw [sz_zero]; omega))) ?_)
    rintro _ w76_5 ⟨hE76_5, rfl⟩
    have hz76_5 := hE76_5.1
    try simp only [size_alloc, size_setB, size_drew] at hz76_5
    refine WO_p (PS_assign_int rfl) ?_
    refine WO_nil ?_
    refine thn_normal ?_
    refine W_seqJ (fun ρ w' => ∃ (so2 : Option (Nat × Nat)) (K2 : List YSl) (m2 : List (Nat × Nat)), m2 = m ++ (if (!laid && decide (k ≤ y2.1)) then [(k, v)] else []) ∧ K2.length ≤ K.length + 1 ∧ R2 (SlR w3) K2 m2 ∧ BL encYSl 2 111 w3 [b12, b8] w' so2 K2 ∧ Fr [(0, .pointer (some ⟨S, 0, none⟩)), (2, .slice kp kn kc), (3, .slice vp vn vc), (8, .pointer (some ⟨b8, 0, none⟩)), (9, .slice (slp so2) K2.length (slc so2)), (10, .bool (laid || (!laid && decide (k ≤ y2.1)))), (12, .pointer (some ⟨b12, 0, none⟩)), (13, .int .i8 (cmpI y2.1 k)), (20, .slice (some ⟨b, 0, none⟩) n cp), (21, .int .i64 n), (22, .int .i64 i)] ρ ∧ Ext w w' ∧ Ext w3 w' ∧ Hb w' b8 (.cells (encYA x3).toArray 104 (0, 0)) ∧ Hb w' b12 (.cells (encYSl x2).toArray 111 (0, 0))) ?_ ?_
    · skip
      refine W_seq ?_
      refine W_region rfl ?_
      refine WO_p (PS_move_bool rfl) ?_
      refine WO_p (PS_not rfl) ?_
      refine WO_p (PS_move_bool rfl) ?_
      refine WO_if (t := 32) rfl (fun hb9 => ?_) (fun hb9 => ?_)
      · have hb9p := hb9.h; try simp only [al_ete, al_dfn, Bool.not_eq_true', Bool.not_eq_false', al_ne, Bool.not_not, al_nn] at hb9p
        have hlaid : laid = false := by simpa using hb9p
        refine WO_guardT rfl rfl hb9.h ?_
        refine WO_p (PS_move_int rfl) ?_
        refine WO_guardT rfl rfl hb9.h ?_
        refine WO_p (PS_geq rfl rfl) ?_
        refine WO_p (PS_pickT rfl hb9.h rfl) ?_
        refine WO_nil ?_
        refine thn_normal ?_
        refine W_if rfl (fun hb11 => ?_) (fun hb11 => ?_)
        · have hb11p := hb11.h; try simp only [al_ete, al_dfn, Bool.not_eq_true', Bool.not_eq_false', al_ne, Bool.not_not, al_nn] at hb11p
          have hbf : decide (k ≤ y2.1) = true := by simpa [cmpI_ge2] using hb11p
          refine W_seq ?_
          refine W_region rfl ?_
          refine WO_p (PS_move_slice rfl) ?_
          refine WO_p (PS_move_slice rfl) ?_
          refine WO_p (PS_move_slice rfl) ?_
          refine WO_p (PS_b111 rfl rfl) ?_
          refine WO_buildSlice1 Hvac.runUnderlying102 Hvac.sizeOf111 Hvac.zeroValue111 rfl (by first | omega | assumption | rfl | decide | exact Nat.le_refl _ | (simp only [size_ic, Value.cells]; omega) | (simp; omega) | simp) (by decide) (by decide) ?_
          refine WO_app (YSl.mk (kp, kn, kc) (vp, vn, vc)) ap_YSl (BL.ext hBL7 (by repeat (first | assumption | exact Ext.refl _ | refine Ext.alloc ?_ _ | refine Ext.drew ?_ | refine Ext.setB ?_ (by first | omega | (simp only [size_alloc, size_setB, size_drew]; omega)) _ | exact Ext.trans (by assumption) (by assumption) | refine Ext.trans ?_ (by assumption)))) (by repeat (first | assumption | exact Ext.refl _ | refine Ext.alloc ?_ _ | refine Ext.drew ?_ | refine Ext.setB ?_ (by first | omega | (simp only [size_alloc, size_setB, size_drew]; omega)) _ | exact Ext.trans (by assumption) (by assumption) | refine Ext.trans ?_ (by assumption))) (fm2 (by first | omega | (simp only [size_alloc, size_setB, size_drew]; omega)) (by first | omega | (simp only [size_alloc, size_setB, size_drew]; omega))) (by omega) rfl (Hb.newY _ _) rfl rfl ?_
          intro soA wA hBA hEA hkA hzA
          try simp only [size_alloc, size_setB, size_drew] at hzA
          have hb8_A := hkA b8 _ (by simp) (Hb.mk (Hb.h (by repeat (first | assumption | exact Hb.newY _ _ | refine Hb.alloc ?_ | refine Hb.drew ?_ | refine Hb.ext (by assumption) ?_ | exact Hb.setSameL (by first | omega | (simp only [size_alloc, size_setB, size_drew]; omega)) | exact Hb.setSame (by assumption) | refine Hb.set (by first | omega | (simp only [size_alloc, size_setB, size_drew]; omega)) ?_ ))) : Hb _ b8 (.cells (encYA x3).toArray 104 (0, 0)))
          have hb12_A := hkA b12 _ (by simp) (Hb.mk (Hb.h (by repeat (first | assumption | exact Hb.newY _ _ | refine Hb.alloc ?_ | refine Hb.drew ?_ | refine Hb.ext (by assumption) ?_ | exact Hb.setSameL (by first | omega | (simp only [size_alloc, size_setB, size_drew]; omega)) | exact Hb.setSame (by assumption) | refine Hb.set (by first | omega | (simp only [size_alloc, size_setB, size_drew]; omega)) ?_ ))) : Hb _ b12 (.cells (encYSl x2).toArray 111 (0, 0)))
          refine WO_p (PS_assign_slice rfl) ?_
          refine WO_nil ?_
          refine thn_normal ?_
          refine W_region rfl ?_
          refine WO_p (PS_assign_bool rfl) ?_
          refine WO_nil ?_
          refine thn_normal ?_
          refine ⟨soA, K ++ [(YSl.mk (kp, kn, kc) (vp, vn, vc))], m ++ [(k, v)], ?_, by simp, hKm.snoc ⟨NN.ext hk hE3w, NN.ext hv hE3w, zk, zv⟩, hBA, ⟨rfl, rfl, rfl, rfl, rfl, ?_, rfl, rfl, rfl, rfl, rfl, trivial⟩, hE3w.trans hEA, hEA, hb8_A, hb12_A⟩; (simp [hlaid, hbf]); (show Value.bool _ = _; simp [hlaid, hbf])
        · have hb11p := hb11.h; try simp only [al_ete, al_dfn, Bool.not_eq_true', Bool.not_eq_false', al_ne, Bool.not_not, al_nn] at hb11p
          have hbf : decide (k ≤ y2.1) = false := by simpa [cmpI_ge2] using hb11p
          refine W_skip ?_
          refine thn_normal ?_
          refine ⟨so, K, m, ?_, by omega, hKm, hBL7.ext (by repeat (first | assumption | exact Ext.refl _ | refine Ext.alloc ?_ _ | refine Ext.drew ?_ | refine Ext.setB ?_ (by first | omega | (simp only [size_alloc, size_setB, size_drew]; omega)) _ | exact Ext.trans (by assumption) (by assumption) | refine Ext.trans ?_ (by assumption))), ⟨rfl, rfl, rfl, rfl, rfl, ?_, rfl, rfl, rfl, rfl, rfl, trivial⟩, (by repeat (first | assumption | exact Ext.refl _ | refine Ext.alloc ?_ _ | refine Ext.drew ?_ | refine Ext.setB ?_ (by first | omega | (simp only [size_alloc, size_setB, size_drew]; omega)) _ | exact Ext.trans (by assumption) (by assumption) | refine Ext.trans ?_ (by assumption))), (by repeat (first | assumption | exact Ext.refl _ | refine Ext.alloc ?_ _ | refine Ext.drew ?_ | refine Ext.setB ?_ (by first | omega | (simp only [size_alloc, size_setB, size_drew]; omega)) _ | exact Ext.trans (by assumption) (by assumption) | refine Ext.trans ?_ (by assumption))), Hb.mk (Hb.h (by repeat (first | assumption | exact Hb.newY _ _ | refine Hb.alloc ?_ | refine Hb.drew ?_ | refine Hb.ext (by assumption) ?_ | exact Hb.setSameL (by first | omega | (simp only [size_alloc, size_setB, size_drew]; omega)) | exact Hb.setSame (by assumption) | refine Hb.set (by first | omega | (simp only [size_alloc, size_setB, size_drew]; omega)) ?_ ))), Hb.mk (Hb.h (by repeat (first | assumption | exact Hb.newY _ _ | refine Hb.alloc ?_ | refine Hb.drew ?_ | refine Hb.ext (by assumption) ?_ | exact Hb.setSameL (by first | omega | (simp only [size_alloc, size_setB, size_drew]; omega)) | exact Hb.setSame (by assumption) | refine Hb.set (by first | omega | (simp only [size_alloc, size_setB, size_drew]; omega)) ?_ )))⟩; (simp [hlaid, hbf]); (show Value.bool _ = _; simp [hlaid, hbf])
      · have hb9p := hb9.h; try simp only [al_ete, al_dfn, Bool.not_eq_true', Bool.not_eq_false', al_ne, Bool.not_not, al_nn] at hb9p
        have hlaid : laid = true := by simpa using hb9p
        have hbf : True := trivial
        refine WO_guardF rfl rfl hb9.h ?_
        refine WO_guardF rfl rfl hb9.h ?_
        refine WO_p (PS_pickF rfl hb9.h rfl) ?_
        refine WO_nil ?_
        refine thn_normal ?_
        refine W_condF rfl rfl ?_
        refine W_skip ?_
        refine thn_normal ?_
        refine ⟨so, K, m, ?_, by omega, hKm, hBL7.ext (by repeat (first | assumption | exact Ext.refl _ | refine Ext.alloc ?_ _ | refine Ext.drew ?_ | refine Ext.setB ?_ (by first | omega | (simp only [size_alloc, size_setB, size_drew]; omega)) _ | exact Ext.trans (by assumption) (by assumption) | refine Ext.trans ?_ (by assumption))), ⟨rfl, rfl, rfl, rfl, rfl, ?_, rfl, rfl, rfl, rfl, rfl, trivial⟩, (by repeat (first | assumption | exact Ext.refl _ | refine Ext.alloc ?_ _ | refine Ext.drew ?_ | refine Ext.setB ?_ (by first | omega | (simp only [size_alloc, size_setB, size_drew]; omega)) _ | exact Ext.trans (by assumption) (by assumption) | refine Ext.trans ?_ (by assumption))), (by repeat (first | assumption | exact Ext.refl _ | refine Ext.alloc ?_ _ | refine Ext.drew ?_ | refine Ext.setB ?_ (by first | omega | (simp only [size_alloc, size_setB, size_drew]; omega)) _ | exact Ext.trans (by assumption) (by assumption) | refine Ext.trans ?_ (by assumption))), Hb.mk (Hb.h (by repeat (first | assumption | exact Hb.newY _ _ | refine Hb.alloc ?_ | refine Hb.drew ?_ | refine Hb.ext (by assumption) ?_ | exact Hb.setSameL (by first | omega | (simp only [size_alloc, size_setB, size_drew]; omega)) | exact Hb.setSame (by assumption) | refine Hb.set (by first | omega | (simp only [size_alloc, size_setB, size_drew]; omega)) ?_ ))), Hb.mk (Hb.h (by repeat (first | assumption | exact Hb.newY _ _ | refine Hb.alloc ?_ | refine Hb.drew ?_ | refine Hb.ext (by assumption) ?_ | exact Hb.setSameL (by first | omega | (simp only [size_alloc, size_setB, size_drew]; omega)) | exact Hb.setSame (by assumption) | refine Hb.set (by first | omega | (simp only [size_alloc, size_setB, size_drew]; omega)) ?_ )))⟩; (simp [hlaid, hbf]); (show Value.bool _ = _; simp [hlaid, hbf])
    · rintro ρ5 w5 ⟨so2, K2, m2, hm2, hK2, hKm2, hBL5, hFr5, hE5, hE35, hb85, hb125⟩
      refine W_env _ hFr5 ?_
      have hz5 := hE5.1
      have hz35 := hE35.1
      have hb8l5 := hb85.lt
      have hb12l5 := hb125.lt
      refine W_seq ?_
      refine W_region rfl ?_
      refine WO_p (PS_move_int rfl) ?_
      refine WO_p (PS_neq rfl rfl) ?_
      refine WO_nil ?_
      refine thn_normal ?_
      refine W_if rfl (fun hb13 => ?_) (fun hb13 => ?_)
      · have hb13p := hb13.h; try simp only [al_ete, al_dfn, Bool.not_eq_true', Bool.not_eq_false', al_ne, Bool.not_not, al_nn] at hb13p
        have hne : y2.1 ≠ k := fun h9 => hb13p (cmpI_eq.2 h9)
        refine W_region rfl ?_
        refine WO_p (PS_move_slice rfl) ?_
        refine WO_loadA _ Hvac.isAgg111 Hvac.sizeOf111 rfl (Hb.h (by repeat (first | assumption | exact Hb.newY _ _ | refine Hb.alloc ?_ | refine Hb.drew ?_ | refine Hb.ext (by assumption) ?_ | exact Hb.setSameL (by first | omega | (simp only [size_alloc, size_setB, size_drew]; omega)) | exact Hb.setSame (by assumption) | refine Hb.set (by first | omega | (simp only [size_alloc, size_setB, size_drew]; omega)) ?_ ))) (by first | omega | assumption | rfl | decide | exact Nat.le_refl _ | (simp only [size_ic, Value.cells]; omega) | (simp; omega) | simp) (Xt.h (by first | assumption | exact Xt.whole rfl rfl | exact Xt.whole rfl (by assumption) | exact Xt.whole rfl (by simp only [size_ic, Value.cells]; omega) | exact ⟨rfl⟩)) ?_
        refine WO_buildSlice1 Hvac.runUnderlying102 Hvac.sizeOf111 Hvac.zeroValue111 rfl (by first | omega | assumption | rfl | decide | exact Nat.le_refl _ | (simp only [size_ic, Value.cells]; omega) | (simp; omega) | simp) (by decide) (by decide) ?_
        refine WO_app x2 ap_YSl (BL.ext hBL5 (by repeat (first | assumption | exact Ext.refl _ | refine Ext.alloc ?_ _ | refine Ext.drew ?_ | refine Ext.setB ?_ (by first | omega | (simp only [size_alloc, size_setB, size_drew]; omega)) _ | exact Ext.trans (by assumption) (by assumption) | refine Ext.trans ?_ (by assumption)))) (by repeat (first | assumption | exact Ext.refl _ | refine Ext.alloc ?_ _ | refine Ext.drew ?_ | refine Ext.setB ?_ (by first | omega | (simp only [size_alloc, size_setB, size_drew]; omega)) _ | exact Ext.trans (by assumption) (by assumption) | refine Ext.trans ?_ (by assumption))) (fm2 (by first | omega | (simp only [size_alloc, size_setB, size_drew]; omega)) (by first | omega | (simp only [size_alloc, size_setB, size_drew]; omega))) (by omega) rfl (Hb.newY _ _) rfl rfl ?_
        intro so8 w8 hB8 hE8 hk8 hz8
        try simp only [size_alloc, size_setB, size_drew] at hz8
        have hb8_8 := hk8 b8 _ (by simp) (Hb.mk (Hb.h (by repeat (first | assumption | exact Hb.newY _ _ | refine Hb.alloc ?_ | refine Hb.drew ?_ | refine Hb.ext (by assumption) ?_ | exact Hb.setSameL (by first | omega | (simp only [size_alloc, size_setB, size_drew]; omega)) | exact Hb.setSame (by assumption) | refine Hb.set (by first | omega | (simp only [size_alloc, size_setB, size_drew]; omega)) ?_ ))) : Hb _ b8 (.cells (encYA x3).toArray 104 (0, 0)))
        refine WO_p (PS_assign_slice rfl) ?_
        refine WO_nil ?_
        refine inBlk_normal ?_
        refine thn_normal ?_
        refine W_region rfl ?_
        refine WO_p (PS_add_i64n rfl rfl (by omega) (by omega)) ?_
        refine WO_p (PS_move_int rfl) ?_
        refine WO_nil ?_
        refine thn_normal ?_
        refine ⟨k4 - 1, by omega, i + 1, _, so8, K2 ++ [x2], m2 ++ [y2], by omega, ?_, hKm2.snoc hxy2, ?_, hB8.tail (by simp), ⟨rfl, rfl, rfl, rfl, rfl, rfl, rfl, rfl, congrArg (Value.int .i64) (by omega), trivial⟩, hE3w.trans hE8, hE8, hb8_8⟩; (simp; omega); rw [← hgo, ystore_go k v laid _ i y2 hy2, hm2, if_pos hne]; simp only [List.append_assoc]
      · have hb13p := hb13.h; try simp only [al_ete, al_dfn, Bool.not_eq_true', Bool.not_eq_false', al_ne, Bool.not_not, al_nn] at hb13p
        have hne : ¬ y2.1 ≠ k := fun h9 => h9 (cmpI_eq.1 (by simpa using hb13p))
        refine W_skip ?_
        refine inBlk_normal ?_
        refine thn_normal ?_
        refine W_region rfl ?_
        refine WO_p (PS_add_i64n rfl rfl (by omega) (by omega)) ?_
        refine WO_p (PS_move_int rfl) ?_
        refine WO_nil ?_
        refine thn_normal ?_
        refine ⟨k4 - 1, by omega, i + 1, _, so2, K2, m2, by omega, by omega, hKm2, ?_, (hBL5.ext (by repeat (first | assumption | exact Ext.refl _ | refine Ext.alloc ?_ _ | refine Ext.drew ?_ | refine Ext.setB ?_ (by first | omega | (simp only [size_alloc, size_setB, size_drew]; omega)) _ | exact Ext.trans (by assumption) (by assumption) | refine Ext.trans ?_ (by assumption)))).tail (by simp), ⟨rfl, rfl, rfl, rfl, rfl, rfl, rfl, rfl, congrArg (Value.int .i64) (by omega), trivial⟩, (by repeat (first | assumption | exact Ext.refl _ | refine Ext.alloc ?_ _ | refine Ext.drew ?_ | refine Ext.setB ?_ (by first | omega | (simp only [size_alloc, size_setB, size_drew]; omega)) _ | exact Ext.trans (by assumption) (by assumption) | refine Ext.trans ?_ (by assumption))), (by repeat (first | assumption | exact Ext.refl _ | refine Ext.alloc ?_ _ | refine Ext.drew ?_ | refine Ext.setB ?_ (by first | omega | (simp only [size_alloc, size_setB, size_drew]; omega)) _ | exact Ext.trans (by assumption) (by assumption) | refine Ext.trans ?_ (by assumption))), Hb.mk (Hb.h (by repeat (first | assumption | exact Hb.newY _ _ | refine Hb.alloc ?_ | refine Hb.drew ?_ | refine Hb.ext (by assumption) ?_ | exact Hb.setSameL (by first | omega | (simp only [size_alloc, size_setB, size_drew]; omega)) | exact Hb.setSame (by assumption) | refine Hb.set (by first | omega | (simp only [size_alloc, size_setB, size_drew]; omega)) ?_ )))⟩; rw [← hgo, ystore_go k v laid _ i y2 hy2, hm2, if_neg hne]; simp only [List.append_assoc, List.nil_append]
  · have hb5p := hb5.h; try simp only [al_ete, al_dfn, Bool.not_eq_true', Bool.not_eq_false', al_ne, Bool.not_not, al_nn] at hb5p
    refine W_exit ?_
    refine thn_exit ?_
    refine thn_exit ?_
    refine inBlk_exit ?_
    refine thn_normal ?_
    refine W_seq ?_
    refine W_seq ?_
    refine W_region rfl ?_
    refine WO_p (PS_move_bool rfl) ?_
    refine WO_p (PS_not rfl) ?_
    refine WO_nil ?_
    refine thn_normal ?_
    refine W_if rfl (fun hb16 => ?_) (fun hb16 => ?_)
    · have hb16p := hb16.h; try simp only [al_ete, al_dfn, Bool.not_eq_true', Bool.not_eq_false', al_ne, Bool.not_not, al_nn] at hb16p
      have hlaid : laid = false := by simpa using hb16p
      refine W_region rfl ?_
      refine WO_p (PS_move_slice rfl) ?_
      refine WO_p (PS_move_slice rfl) ?_
      refine WO_p (PS_move_slice rfl) ?_
      refine WO_p (PS_b111 rfl rfl) ?_
      refine WO_buildSlice1 Hvac.runUnderlying102 Hvac.sizeOf111 Hvac.zeroValue111 rfl (by first | omega | assumption | rfl | decide | exact Nat.le_refl _ | (simp only [size_ic, Value.cells]; omega) | (simp; omega) | simp) (by decide) (by decide) ?_
      refine WO_app (YSl.mk (kp, kn, kc) (vp, vn, vc)) ap_YSl (BL.ext hBL (by repeat (first | assumption | exact Ext.refl _ | refine Ext.alloc ?_ _ | refine Ext.drew ?_ | refine Ext.setB ?_ (by first | omega | (simp only [size_alloc, size_setB, size_drew]; omega)) _ | exact Ext.trans (by assumption) (by assumption) | refine Ext.trans ?_ (by assumption)))) (by repeat (first | assumption | exact Ext.refl _ | refine Ext.alloc ?_ _ | refine Ext.drew ?_ | refine Ext.setB ?_ (by first | omega | (simp only [size_alloc, size_setB, size_drew]; omega)) _ | exact Ext.trans (by assumption) (by assumption) | refine Ext.trans ?_ (by assumption))) (fm1 (by first | omega | (simp only [size_alloc, size_setB, size_drew]; omega))) (by omega) rfl (Hb.newY _ _) rfl rfl ?_
      intro so9 w9 hB9 hE9 hk9 hz9
      try simp only [size_alloc, size_setB, size_drew] at hz9
      have hb8_9 := hk9 b8 _ (by simp) (Hb.mk (Hb.h (by repeat (first | assumption | exact Hb.newY _ _ | refine Hb.alloc ?_ | refine Hb.drew ?_ | refine Hb.ext (by assumption) ?_ | exact Hb.setSameL (by first | omega | (simp only [size_alloc, size_setB, size_drew]; omega)) | exact Hb.setSame (by assumption) | refine Hb.set (by first | omega | (simp only [size_alloc, size_setB, size_drew]; omega)) ?_ ))) : Hb _ b8 (.cells (encYA x3).toArray 104 (0, 0)))
      refine WO_p (PS_assign_slice rfl) ?_
      refine WO_nil ?_
      refine thn_normal ?_
      refine W_seq ?_
      refine W_region rfl ?_
      refine WO_p (PS_move_slice rfl) ?_
      refine WO_p (PS_fieldAddr 23 Hvac.runUnderlying104 rfl Hvac.sizeOf102 rfl rfl) ?_
      refine WO_store1 Hvac.sizeOf102 rfl (v := .slice _ _ _) rfl (Hb.h (by repeat (first | assumption | exact Hb.newY _ _ | refine Hb.alloc ?_ | refine Hb.drew ?_ | refine Hb.ext (by assumption) ?_ | exact Hb.setSameL (by first | omega | (simp only [size_alloc, size_setB, size_drew]; omega)) | exact Hb.setSame (by assumption) | refine Hb.set (by first | omega | (simp only [size_alloc, size_setB, size_drew]; omega)) ?_ ))) rfl (by first | omega | (simp only [Value.cells]; omega)) rfl ?_
      rw [encYA_set4 hxl3]
      have hsz4 : (encYA { x3 with slots := (slp so9, (K ++ [(YSl.mk (kp, kn, kc) (vp, vn, vc))]).length, slc so9) }).toArray.size = 24 := by simpa using encYA_len (x := { x3 with slots := (slp so9, (K ++ [(YSl.mk (kp, kn, kc) (vp, vn, vc))]).length, slc so9) }) hxl3
      refine WO_nil ?_
      refine thn_normal ?_
      refine W_region rfl ?_
      refine WO_p (PS_move_ptr rfl) ?_
      refine WO_loadA _ Hvac.isAgg104 Hvac.sizeOf104 rfl (Hb.h (by repeat (first | assumption | exact Hb.newY _ _ | refine Hb.alloc ?_ | refine Hb.drew ?_ | refine Hb.ext (by assumption) ?_ | exact Hb.setSameL (by first | omega | (simp only [size_alloc, size_setB, size_drew]; omega)) | exact Hb.setSame (by assumption) | refine Hb.set (by first | omega | (simp only [size_alloc, size_setB, size_drew]; omega)) ?_ ))) (by first | omega | assumption | rfl | decide | exact Nat.le_refl _ | (simp only [size_ic, Value.cells]; omega) | (simp; omega) | simp) (Xt.h (by first | assumption | exact Xt.whole rfl rfl | exact Xt.whole rfl (by assumption) | exact Xt.whole rfl (by simp only [size_ic, Value.cells]; omega) | exact ⟨rfl⟩)) ?_
      refine WO_call Hvac.call85 (by rfl) (Ret.mono (yPut_spec _ (OmB.ext hO (by repeat (first | assumption | exact Ext.refl _ | refine Ext.alloc ?_ _ | refine Ext.drew ?_ | refine Ext.setB ?_ (by first | omega | (simp only [size_alloc, size_setB, size_drew]; omega)) _ | exact Ext.trans (by assumption) (by assumption) | refine Ext.trans ?_ (by assumption)))) S c T s l (Hb.mk (Hb.h (by repeat (first | assumption | exact Hb.newY _ _ | refine Hb.alloc ?_ | refine Hb.drew ?_ | refine Hb.ext (by assumption) ?_ | exact Hb.setSameL (by first | omega | (simp only [size_alloc, size_setB, size_drew]; omega)) | exact Hb.setSame (by assumption) | refine Hb.set (by first | omega | (simp only [size_alloc, size_setB, size_drew]; omega)) ?_ )))) hc (AcsR.ext hl (by repeat (first | assumption | exact Ext.refl _ | refine Ext.alloc ?_ _ | refine Ext.drew ?_ | refine Ext.setB ?_ (by first | omega | (simp only [size_alloc, size_setB, size_drew]; omega)) _ | exact Ext.trans (by assumption) (by assumption) | refine Ext.trans ?_ (by assumption)))) hln hSo hc0 { x3 with slots := (slp so9, (K ++ [(YSl.mk (kp, kn, kc) (vp, vn, vc))]).length, slc so9) } { yacct l A with slots := ystoreGo k v (decide (v = 0)) (yacct l A).slots } { hxr3.ext (by repeat (first | assumption | exact Ext.refl _ | refine Ext.alloc ?_ _ | refine Ext.drew ?_ | refine Ext.setB ?_ (by first | omega | (simp only [size_alloc, size_setB, size_drew]; omega)) _ | exact Ext.trans (by assumption) (by assumption) | refine Ext.trans ?_ (by assumption))) with slots := ⟨_, (hB9.set (Or.inl (by simp)) _).pl (OmB.ext hO hE3w), by rw [← hgo, ystore_end k v laid _ i (by omega), hlaid]; exact (hKm.snoc ⟨NN.ext hk hE3w, NN.ext hv hE3w, zk, zv⟩).mono fun _ _ h => SlR.ext (w := w3) h (by repeat (first | assumption | exact Ext.refl _ | refine Ext.alloc ?_ _ | refine Ext.drew ?_ | refine Ext.setB ?_ (by first | omega | (simp only [size_alloc, size_setB, size_drew]; omega)) _ | exact Ext.trans (by assumption) (by assumption) | refine Ext.trans ?_ (by assumption)))⟩ } (hcd.acct A)) ?_)
      rintro _ w9 ⟨rfl, hk9, s9, hS9, hl9⟩
      refine WO_nil ?_
      first | refine bodyQ_ret0 Hvac.results313 ?_ | refine bodyQ_end0 Hvac.results313 ?_
      exact ⟨rfl, KeepO.trans (O := fun b => b = S) (Ext.keepO (by repeat (first | assumption | exact Ext.refl _ | refine Ext.alloc ?_ _ | refine Ext.drew ?_ | refine Ext.setB ?_ (by first | omega | (simp only [size_alloc, size_setB, size_drew]; omega)) _ | refine Ext.trans ?_ (by assumption))) _) hk9 (fun _ _ h => h), s9, hS9, hl9⟩
    · have hb16p := hb16.h; try simp only [al_ete, al_dfn, Bool.not_eq_true', Bool.not_eq_false', al_ne, Bool.not_not, al_nn] at hb16p
      have hlaid : laid = true := by simpa using hb16p
      refine W_skip ?_
      refine thn_normal ?_
      refine W_seq ?_
      refine W_region rfl ?_
      refine WO_p (PS_move_slice rfl) ?_
      refine WO_p (PS_fieldAddr 23 Hvac.runUnderlying104 rfl Hvac.sizeOf102 rfl rfl) ?_
      refine WO_store1 Hvac.sizeOf102 rfl (v := .slice _ _ _) rfl (Hb.h (by repeat (first | assumption | exact Hb.newY _ _ | refine Hb.alloc ?_ | refine Hb.drew ?_ | refine Hb.ext (by assumption) ?_ | exact Hb.setSameL (by first | omega | (simp only [size_alloc, size_setB, size_drew]; omega)) | exact Hb.setSame (by assumption) | refine Hb.set (by first | omega | (simp only [size_alloc, size_setB, size_drew]; omega)) ?_ ))) rfl (by first | omega | (simp only [Value.cells]; omega)) rfl ?_
      rw [encYA_set4 hxl3]
      have hsz4 : (encYA { x3 with slots := (slp so, K.length, slc so) }).toArray.size = 24 := by simpa using encYA_len (x := { x3 with slots := (slp so, K.length, slc so) }) hxl3
      refine WO_nil ?_
      refine thn_normal ?_
      refine W_region rfl ?_
      refine WO_p (PS_move_ptr rfl) ?_
      refine WO_loadA _ Hvac.isAgg104 Hvac.sizeOf104 rfl (Hb.h (by repeat (first | assumption | exact Hb.newY _ _ | refine Hb.alloc ?_ | refine Hb.drew ?_ | refine Hb.ext (by assumption) ?_ | exact Hb.setSameL (by first | omega | (simp only [size_alloc, size_setB, size_drew]; omega)) | exact Hb.setSame (by assumption) | refine Hb.set (by first | omega | (simp only [size_alloc, size_setB, size_drew]; omega)) ?_ ))) (by first | omega | assumption | rfl | decide | exact Nat.le_refl _ | (simp only [size_ic, Value.cells]; omega) | (simp; omega) | simp) (Xt.h (by first | assumption | exact Xt.whole rfl rfl | exact Xt.whole rfl (by assumption) | exact Xt.whole rfl (by simp only [size_ic, Value.cells]; omega) | exact ⟨rfl⟩)) ?_
      refine WO_call Hvac.call85 (by rfl) (Ret.mono (yPut_spec _ (OmB.ext hO (by repeat (first | assumption | exact Ext.refl _ | refine Ext.alloc ?_ _ | refine Ext.drew ?_ | refine Ext.setB ?_ (by first | omega | (simp only [size_alloc, size_setB, size_drew]; omega)) _ | exact Ext.trans (by assumption) (by assumption) | refine Ext.trans ?_ (by assumption)))) S c T s l (Hb.mk (Hb.h (by repeat (first | assumption | exact Hb.newY _ _ | refine Hb.alloc ?_ | refine Hb.drew ?_ | refine Hb.ext (by assumption) ?_ | exact Hb.setSameL (by first | omega | (simp only [size_alloc, size_setB, size_drew]; omega)) | exact Hb.setSame (by assumption) | refine Hb.set (by first | omega | (simp only [size_alloc, size_setB, size_drew]; omega)) ?_ )))) hc (AcsR.ext hl (by repeat (first | assumption | exact Ext.refl _ | refine Ext.alloc ?_ _ | refine Ext.drew ?_ | refine Ext.setB ?_ (by first | omega | (simp only [size_alloc, size_setB, size_drew]; omega)) _ | exact Ext.trans (by assumption) (by assumption) | refine Ext.trans ?_ (by assumption)))) hln hSo hc0 { x3 with slots := (slp so, K.length, slc so) } { yacct l A with slots := ystoreGo k v (decide (v = 0)) (yacct l A).slots } { hxr3.ext (by repeat (first | assumption | exact Ext.refl _ | refine Ext.alloc ?_ _ | refine Ext.drew ?_ | refine Ext.setB ?_ (by first | omega | (simp only [size_alloc, size_setB, size_drew]; omega)) _ | exact Ext.trans (by assumption) (by assumption) | refine Ext.trans ?_ (by assumption))) with slots := ⟨_, (hBL.set (Or.inl (by simp)) _).pl (OmB.ext hO hE3w), by rw [← hgo, ystore_end k v laid _ i (by omega), hlaid]; simpa using hKm.mono fun _ _ h => SlR.ext (w := w3) h (by repeat (first | assumption | exact Ext.refl _ | refine Ext.alloc ?_ _ | refine Ext.drew ?_ | refine Ext.setB ?_ (by first | omega | (simp only [size_alloc, size_setB, size_drew]; omega)) _ | exact Ext.trans (by assumption) (by assumption) | refine Ext.trans ?_ (by assumption)))⟩ } (hcd.acct A)) ?_)
      rintro _ w9 ⟨rfl, hk9, s9, hS9, hl9⟩
      refine WO_nil ?_
      first | refine bodyQ_ret0 Hvac.results313 ?_ | refine bodyQ_end0 Hvac.results313 ?_
      exact ⟨rfl, KeepO.trans (O := fun b => b = S) (Ext.keepO (by repeat (first | assumption | exact Ext.refl _ | refine Ext.alloc ?_ _ | refine Ext.drew ?_ | refine Ext.setB ?_ (by first | omega | (simp only [size_alloc, size_setB, size_drew]; omega)) _ | refine Ext.trans ?_ (by assumption))) _) hk9 (fun _ _ h => h), s9, hS9, hl9⟩

end Go.Proofs.YgvacwGreat
