import Derived.Test.YgvacwGreatRh
namespace Go.Proofs.YgvacwGreat
set_option linter.unusedSimpArgs false
set_option linter.unusedVariables false
def ymIns (A : List Int) (k : Nat) (m : List Int × Nat) : Bool := yless A m.1 || (decide (A = m.1) && decide (k < m.2))
def ymkGo (A : List Int) (k : Nat) : Bool → List (List Int × Nat) → List (List Int × Nat)
  | laid, [] => if laid then [] else [(A, k)]
  | laid, m :: l => (if !laid && ymIns A k m then [(A, k)] else []) ++ (m :: ymkGo A k (laid || (!laid && ymIns A k m)) l)
def ymk (l : List (List Int × Nat)) (A : List Int) (k : Nat) : List (List Int × Nat) := if (A, k) ∈ l then l else ymkGo A k false l
def ytl (l : List (List Int × Nat × Nat)) (A : List Int) (k : Nat) : Nat := match l.find? (fun t => t.1 = A ∧ t.2.1 = k) with | some t => t.2.2 | none => 0
def ytSame (A : List Int) (k : Nat) (t : List Int × Nat × Nat) : Bool := decide (t.1 = A) && decide (t.2.1 = k)
def ytIns (A : List Int) (k : Nat) (t : List Int × Nat × Nat) : Bool := ytSame A k t || yless A t.1 || (decide (A = t.1) && decide (k < t.2.1))
def ytsGo (A : List Int) (k v : Nat) : Bool → List (List Int × Nat × Nat) → List (List Int × Nat × Nat)
  | laid, [] => if laid then [] else [(A, k, v)]
  | laid, t :: l => (if !laid && ytIns A k t then [(A, k, v)] else []) ++ ((if !ytSame A k t then [t] else []) ++ ytsGo A k v (laid || (!laid && ytIns A k t)) l)
def yts (l : List (List Int × Nat × Nat)) (A : List Int) (k v : Nat) : List (List Int × Nat × Nat) := ytsGo A k v (decide (v = 0)) l
theorem ymk_go (A : List Int) (k : Nat) (laid : Bool) (l : List (List Int × Nat)) (i : Nat) (y : List Int × Nat) (hy : l[i]? = some y) : ymkGo A k laid (l.drop i) = (if !laid && ymIns A k y then [(A, k)] else []) ++ (y :: ymkGo A k (laid || (!laid && ymIns A k y)) (l.drop (i + 1))) := by
  have h1 := lt_of_getElem? hy
  rw [List.drop_eq_getElem_cons h1]
  rw [List.getElem?_eq_getElem h1] at hy
  rw [Option.some.inj hy]
  rfl
theorem ymk_end (A : List Int) (k : Nat) (laid : Bool) (l : List (List Int × Nat)) (i : Nat) (h : l.length ≤ i) : ymkGo A k laid (l.drop i) = if laid then [] else [(A, k)] := by
  rw [List.drop_eq_nil_of_le h]; rfl
theorem yts_go (A : List Int) (k v : Nat) (laid : Bool) (l : List (List Int × Nat × Nat)) (i : Nat) (y : List Int × Nat × Nat) (hy : l[i]? = some y) : ytsGo A k v laid (l.drop i) = (if !laid && ytIns A k y then [(A, k, v)] else []) ++ ((if !ytSame A k y then [y] else []) ++ ytsGo A k v (laid || (!laid && ytIns A k y)) (l.drop (i + 1))) := by
  have h1 := lt_of_getElem? hy
  rw [List.drop_eq_getElem_cons h1]
  rw [List.getElem?_eq_getElem h1] at hy
  rw [Option.some.inj hy]
  rfl
theorem yts_end (A : List Int) (k v : Nat) (laid : Bool) (l : List (List Int × Nat × Nat)) (i : Nat) (h : l.length ≤ i) : ytsGo A k v laid (l.drop i) = if laid then [] else [(A, k, v)] := by
  rw [List.drop_eq_nil_of_le h]; rfl
theorem ytl_hit {l : List (List Int × Nat × Nat)} {A : List Int} {k i : Nat} {y : List Int × Nat × Nat} (hl : ∀ j z, j < i → l[j]? = some z → ¬ (z.1 = A ∧ z.2.1 = k)) (hy : l[i]? = some y) (ha : y.1 = A ∧ y.2.1 = k) : ytl l A k = y.2.2 := by
  have : l.find? (fun t => t.1 = A ∧ t.2.1 = k) = some y := by
    rw [List.find?_eq_some_iff_getElem]
    have h1 := lt_of_getElem? hy
    refine ⟨by simpa using ha, i, h1, ?_, fun j hj => ?_⟩
    · rw [List.getElem?_eq_getElem h1] at hy; exact Option.some.inj hy
    · have := hl j _ hj (List.getElem?_eq_getElem (by omega))
      show (!decide _) = true
      rw [al_ef this]; rfl
  unfold ytl; rw [this]
theorem ytl_miss {l : List (List Int × Nat × Nat)} {A : List Int} {k : Nat} (hl : ∀ (j : Nat) z, l[j]? = some z → ¬ (z.1 = A ∧ z.2.1 = k)) : ytl l A k = 0 := by
  have : l.find? (fun t => t.1 = A ∧ t.2.1 = k) = none := by
    rw [List.find?_eq_none]
    intro x hx
    obtain ⟨j, hj, he⟩ := List.mem_iff_getElem.1 hx
    have := hl j x (by rw [List.getElem?_eq_getElem hj, he])
    simpa using this
  unfold ytl; rw [this]
theorem one_YM (x : YMk) : ∀ u ∈ encYM x, u.oneCell' = true := one_ad (by intro u hu; simp at hu; rw [hu]; rfl)
theorem one_YM2 (x : YMk) : ∀ u ∈ (encYM x).toArray.toList, u.oneCell' = true := by intro u hu; exact one_YM x u (by simpa using hu)
theorem one_YT (x : YTp) : ∀ u ∈ encYT x, u.oneCell' = true := one_ad (by intro u hu; simp at hu; rcases hu with rfl | rfl <;> rfl)
theorem one_YT2 (x : YTp) : ∀ u ∈ (encYT x).toArray.toList, u.oneCell' = true := by intro u hu; exact one_YT x u (by simpa using hu)
theorem info181 : Hvac.prog.info? 181 = some Hvac.t181 := by kernel_rfl
theorem info254 : Hvac.prog.info? 254 = some Hvac.t254 := by kernel_rfl
theorem ap_YM : AppI encYM 21 181 91 48 := ⟨Hvac.underlying91, ⟨Hvac.t181, _, info181, rfl, rfl, rfl, rfl⟩, one_YM, by decide⟩
theorem ap_YT : AppI encYT 22 254 93 72 := ⟨Hvac.underlying93, ⟨Hvac.t254, _, info254, rfl, rfl, rfl, rfl⟩, one_YT, by decide⟩
theorem encYM_len {x : YMk} (h : x.addr.length = 20) : (encYM x).length = 21 := by simp [encYM, h]
theorem encYM_addr {x : YMk} (h : x.addr.length = 20) : Xt (encYM x).toArray (0 + 0) (0 + 0 + 20) (ic .u8 x.addr) := gx h _
theorem encYM_1 {x : YMk} (h : x.addr.length = 20) : Ce (encYM x).toArray (0 + 20) (.slice x.key.1 x.key.2.1 x.key.2.2) := ⟨by rw [List.getElem?_toArray]; exact gl h _ 0⟩
theorem encYT_len {x : YTp} (h : x.addr.length = 20) : (encYT x).length = 22 := by simp [encYT, h]
theorem encYT_addr {x : YTp} (h : x.addr.length = 20) : Xt (encYT x).toArray (0 + 0) (0 + 0 + 20) (ic .u8 x.addr) := gx h _
theorem encYT_1 {x : YTp} (h : x.addr.length = 20) : Ce (encYT x).toArray (0 + 20) (.slice x.key.1 x.key.2.1 x.key.2.2) := ⟨by rw [List.getElem?_toArray]; exact gl h _ 0⟩
theorem encYT_2 {x : YTp} (h : x.addr.length = 20) : Ce (encYT x).toArray (0 + 21) (.slice x.val.1 x.val.2.1 x.val.2.2) := ⟨by rw [List.getElem?_toArray]; exact gl h _ 1⟩
theorem PS_b181 {ρ : Nat → Value} {x0 x1 : Operand} {A : List Int} {p1 : Option Addr} {n1 c1 : Nat} (h0 : ev ρ x0 = .agg (ic .u8 A)) (hA : A.length = 20) (h1 : ev ρ x1 = .slice p1 n1 c1) :
    PS Hvac.prog (.build 181 #[(0, x0), (1, x1)]) ρ (.agg (encYM ⟨A, (p1, n1, c1)⟩).toArray) := by
  obtain ⟨a0, a1, a2, a3, a4, a5, a6, a7, a8, a9, b0, b1, b2, b3, b4, b5, b6, b7, b8, b9, rfl⟩ := len20 hA
  exact PS_buildS Hvac.zeroValue181 Hvac.runUnderlying181 (places_run (pl := [(0, 20), (20, 1)]) ⟨rfl, Hvac.sizeOf25, rfl, Hvac.sizeOf92, trivial⟩) (ps := [(0, .agg (ic .u8 [a0, a1, a2, a3, a4, a5, a6, a7, a8, a9, b0, b1, b2, b3, b4, b5, b6, b7, b8, b9])), (1, .slice p1 n1 c1)]) (by simp only [List.map, h0, h1]) (by kernel_rfl)
theorem PS_b254 {ρ : Nat → Value} {x0 x1 x2 : Operand} {A : List Int} {p1 p2 : Option Addr} {n1 c1 n2 c2 : Nat} (h0 : ev ρ x0 = .agg (ic .u8 A)) (hA : A.length = 20) (h1 : ev ρ x1 = .slice p1 n1 c1) (h2 : ev ρ x2 = .slice p2 n2 c2) :
    PS Hvac.prog (.build 254 #[(0, x0), (1, x1), (2, x2)]) ρ (.agg (encYT ⟨A, (p1, n1, c1), (p2, n2, c2)⟩).toArray) := by
  obtain ⟨a0, a1, a2, a3, a4, a5, a6, a7, a8, a9, b0, b1, b2, b3, b4, b5, b6, b7, b8, b9, rfl⟩ := len20 hA
  exact PS_buildS Hvac.zeroValue254 Hvac.runUnderlying254 (places_run (pl := [(0, 20), (20, 1), (21, 1)]) ⟨rfl, Hvac.sizeOf25, rfl, Hvac.sizeOf92, rfl, Hvac.sizeOf92, trivial⟩) (ps := [(0, .agg (ic .u8 [a0, a1, a2, a3, a4, a5, a6, a7, a8, a9, b0, b1, b2, b3, b4, b5, b6, b7, b8, b9])), (1, .slice p1 n1 c1), (2, .slice p2 n2 c2)]) (by simp only [List.map, h0, h1, h2]) (by kernel_rfl)

set_option maxRecDepth 10000 in
set_option maxHeartbeats 4000000 in
theorem yIsWarmS_spec [Om] (w : World) (hO : OmB w) (S : Nat) (c : Array Value) (T : TypeId) (s : SV) (l : List (List Int × Nat)) (hS : Hb w S (.cells c T (0, 0))) (hc : Ce c (0 + 2) (.slice s.1 s.2.1 s.2.2)) (hl : MksR w s l) (hl8 : s.2.1 ≤ 100000000) (A : List Int) (hA : By A 20) (kp : Option Addr) (kn kc k : Nat) (hk : NN w (kp, kn, kc) k) (zk : sz k ≤ 32) : Ret Hvac.prog 89 #[.pointer (some ⟨S, 0, none⟩), .agg (ic .u8 A), .slice kp kn kc] w fun u w' => Ext w w' ∧ u = .bool (decide ((A, k) ∈ l)) := by
  have hAl := hA.1
  have hSl := hS.lt
  obtain ⟨p, n, cp⟩ := s
  obtain ⟨L, hPL, hR⟩ := hl
  have hn := hPL.len
  dsimp only at hn hc hl8
  have hR1 := hR.1
  
  refine Ret_of_W Hvac.func89 rfl rfl ?_
  refine W_seq ?_
  refine W_region rfl ?_
  refine WO_boxG (.agg _) rfl ?_
  intro b4 v4 hg4 hE4 hH4 hl4
  try simp only [size_alloc, size_setB, size_drew] at hg4
  have hzz4 := hE4.1
  try simp only [size_alloc, size_setB, size_drew] at hzz4
  refine WO_p (PS_assign_bool rfl) ?_
  refine WO_nil ?_
  refine thn_normal ?_
  refine W_seq ?_
  refine W_seq ?_
  refine W_region rfl ?_
  refine WO_p (PS_move_ptr rfl) ?_
  refine WO_p (PS_nilCheck rfl) ?_
  refine WO_p (PS_fieldAddr 2 Hvac.runUnderlying95 rfl Hvac.sizeOf91 rfl rfl) ?_
  refine WO_load (.slice _ _ _) Hvac.isAgg91 rfl (Hb.h (by repeat (first | assumption | exact Hb.newY _ _ | refine Hb.alloc ?_ | refine Hb.drew ?_ | refine Hb.ext (by assumption) ?_ | exact Hb.setSameL (by first | omega | (simp only [size_alloc, size_setB, size_drew]; omega)) | exact Hb.setSame (by assumption) | refine Hb.set (by first | omega | (simp only [size_alloc, size_setB, size_drew]; omega)) ?_ ))) (Ce.h (by first | assumption | exact ⟨rfl⟩)) ?_
  refine WO_p (PS_lenS Hvac.runUnderlying91 rfl) ?_
  refine WO_p (PS_move_int rfl) ?_
  refine WO_nil ?_
  refine thn_normal ?_
  refine W_block ?_
  refine W_loopN (fun k9 ρ w' => ∃ (i : Nat), i + k9 = n ∧ (∀ j z, j < i → l[j]? = some z → ¬ (z.1 = A ∧ z.2 = k)) ∧ Fr [(2, .slice kp kn kc), (4, .pointer (some ⟨b4, 0, none⟩)), (12, .slice p n cp), (13, .int .i64 n), (14, .int .i64 i)] ρ ∧ Ext w w' ∧ Hb w' b4 (.cells (ic .u8 A) 25 (0, 0))) n ?_ ?_
  · exact ⟨0, by omega, fun j z h => absurd h (Nat.not_lt_zero j), ⟨rfl, rfl, rfl, rfl, rfl, trivial⟩, (by repeat (first | assumption | exact Ext.refl _ | refine Ext.alloc ?_ _ | refine Ext.drew ?_ | refine Ext.setB ?_ (by first | omega | (simp only [size_alloc, size_setB, size_drew]; omega)) _ | refine Ext.trans ?_ (by assumption))), Hb.mk (Hb.h (by repeat (first | assumption | exact Hb.newY _ _ | refine Hb.alloc ?_ | refine Hb.drew ?_ | refine Hb.ext (by assumption) ?_ | exact Hb.setSameL (by first | omega | (simp only [size_alloc, size_setB, size_drew]; omega)) | exact Hb.setSame (by assumption) | refine Hb.set (by first | omega | (simp only [size_alloc, size_setB, size_drew]; omega)) ?_ )))⟩
  intro k2 ρ2 w2 hI2
  obtain ⟨i, hik, hno, hFr2, hE2, hb4k⟩ := hI2
  refine W_env _ hFr2 ?_
  have hz2 := hE2.1
  have hb4k_l := hb4k.lt
  refine W_seq ?_
  refine W_region rfl ?_
  refine WO_p (PS_lss rfl rfl) ?_
  refine WO_nil ?_
  refine thn_normal ?_
  refine W_seq ?_
  refine W_if rfl (fun hb2 => ?_) (fun hb2 => ?_)
  · have hb2p := hb2.h; try simp only [al_ete, al_dfn, Bool.not_eq_true', Bool.not_eq_false', al_ne, Bool.not_not, al_nn] at hb2p
    obtain ⟨x2, y2, hx2, hy2, hxy2⟩ := hR.get (i := i) (by omega)
    have hxl2 : x2.addr.length = 20 := by rw [hxy2.addr]; exact hxy2.ab.1
    have hxE2 := encYM_len hxl2
    obtain ⟨b, r, fz2, hp, hb, hrs, hXi⟩ := pl_at (hPL.ext hE2) hx2 hxE2
    subst hp
    have hX2 := encYM_addr hxl2
    have hk1 := encYM_1 hxl2
    have hone2 := one_YM2 x2
    have hsz2 : (encYM x2).toArray.size = 21 := by simpa using hxE2
    have hab2 := hxy2.ab
    rw [← hxy2.addr] at hab2
    have hadx : y2.1 = x2.addr := hxy2.addr.symm
    have hkn := hxy2.key
    have hkz := hxy2.kz
    refine W_skip ?_
    refine thn_normal ?_
    refine W_seq ?_
    refine W_block ?_
    refine W_seq ?_
    refine W_region rfl ?_
    refine WO_p (PS_indexS Hvac.runUnderlying91 Hvac.sizeOf181 rfl rfl (by omega) (by omega)) ?_
    refine WO_loadA _ Hvac.isAgg181 Hvac.sizeOf181 rfl (Hb.h (by repeat (first | assumption | exact Hb.newY _ _ | refine Hb.alloc ?_ | refine Hb.drew ?_ | refine Hb.ext (by assumption) ?_ | exact Hb.setSameL (by first | omega | (simp only [size_alloc, size_setB, size_drew]; omega)) | exact Hb.setSame (by assumption) | refine Hb.set (by first | omega | (simp only [size_alloc, size_setB, size_drew]; omega)) ?_ ))) (by first | omega | assumption | rfl | decide | exact Nat.le_refl _ | (simp only [size_ic, Value.cells]; omega) | (simp; omega) | simp) (Xt.h (by first | assumption | exact Xt.whole rfl rfl | exact Xt.whole rfl (by assumption) | exact Xt.whole rfl (by simp only [size_ic, Value.cells]; omega) | exact ⟨rfl⟩)) ?_
    refine WO_allocG Hvac.zeroValue181 ?_
    intro b8 v8 hg8 hE8 hH8 hl8
    try simp only [size_alloc, size_setB, size_drew] at hg8
    have hzz8 := hE8.1
    try simp only [size_alloc, size_setB, size_drew] at hzz8
    replace hH8 : Hb v8 b8 (.cells ((encYM ⟨List.replicate 20 0, (none, 0, 0)⟩).toArray) 181 (0, 0)) := hH8
    first | refine WO_storeW Hvac.sizeOf181 rfl (v := .agg _) rfl (Hb.h (by repeat (first | assumption | exact Hb.newY _ _ | refine Hb.alloc ?_ | refine Hb.drew ?_ | refine Hb.ext (by assumption) ?_ | exact Hb.setSameL (by first | omega | (simp only [size_alloc, size_setB, size_drew]; omega)) | exact Hb.setSame (by assumption) | refine Hb.set (by first | omega | (simp only [size_alloc, size_setB, size_drew]; omega)) ?_ ))) rfl (by first | omega | assumption | rfl | decide | exact Nat.le_refl _ | (simp only [size_ic, Value.cells]; omega) | (simp; omega) | simp) (by first | omega | assumption | rfl | decide | exact Nat.le_refl _ | (simp only [size_ic, Value.cells]; omega) | (simp; omega) | simp) (by first | exact oneCell_ic | assumption) ?_ | refine WO_store Hvac.sizeOf181 rfl (v := .agg _) rfl (Hb.h (by repeat (first | assumption | exact Hb.newY _ _ | refine Hb.alloc ?_ | refine Hb.drew ?_ | refine Hb.ext (by assumption) ?_ | exact Hb.setSameL (by first | omega | (simp only [size_alloc, size_setB, size_drew]; omega)) | exact Hb.setSame (by assumption) | refine Hb.set (by first | omega | (simp only [size_alloc, size_setB, size_drew]; omega)) ?_ ))) (by first | omega | assumption | rfl | decide | exact Nat.le_refl _ | (simp only [size_ic, Value.cells]; omega) | (simp; omega) | simp) (by first | omega | assumption | rfl | decide | exact Nat.le_refl _ | (simp only [size_ic, Value.cells]; omega) | (simp; omega) | simp) (by first | exact oneCell_ic | assumption) ?_
    refine WO_nil ?_
    refine thn_normal ?_
    refine W_seq ?_
    refine W_region rfl ?_
    refine WO_p (PS_fieldAddr 0 Hvac.runUnderlying181 rfl Hvac.sizeOf25 rfl rfl) ?_
    refine WO_loadA _ Hvac.isAgg25 Hvac.sizeOf25 rfl (Hb.h (by repeat (first | assumption | exact Hb.newY _ _ | refine Hb.alloc ?_ | refine Hb.drew ?_ | refine Hb.ext (by assumption) ?_ | exact Hb.setSameL (by first | omega | (simp only [size_alloc, size_setB, size_drew]; omega)) | exact Hb.setSame (by assumption) | refine Hb.set (by first | omega | (simp only [size_alloc, size_setB, size_drew]; omega)) ?_ ))) (by first | omega | assumption | rfl | decide | exact Nat.le_refl _ | (simp only [size_ic, Value.cells]; omega) | (simp; omega) | simp) (Xt.h (by first | assumption | exact Xt.whole rfl rfl | exact Xt.whole rfl (by assumption) | exact Xt.whole rfl (by simp only [size_ic, Value.cells]; omega) | exact ⟨rfl⟩)) ?_
    refine WO_loadA _ Hvac.isAgg25 Hvac.sizeOf25 rfl (Hb.h (by repeat (first | assumption | exact Hb.newY _ _ | refine Hb.alloc ?_ | refine Hb.drew ?_ | refine Hb.ext (by assumption) ?_ | exact Hb.setSameL (by first | omega | (simp only [size_alloc, size_setB, size_drew]; omega)) | exact Hb.setSame (by assumption) | refine Hb.set (by first | omega | (simp only [size_alloc, size_setB, size_drew]; omega)) ?_ ))) (by first | omega | assumption | rfl | decide | exact Nat.le_refl _ | (simp only [size_ic, Value.cells]; omega) | (simp; omega) | simp) (Xt.h (by first | assumption | exact Xt.whole rfl rfl | exact Xt.whole rfl (by assumption) | exact Xt.whole rfl (by simp only [size_ic, Value.cells]; omega) | exact ⟨rfl⟩)) ?_
    refine WO_p (PS_eqlA Hvac.underlying25 Hvac.underlying5 Hvac.sizeOf5 Hvac.eqGuardType25 rfl rfl (by first | omega | assumption | rfl | decide | exact Nat.le_refl _ | (simp only [size_ic, Value.cells]; omega) | (simp; omega) | simp) (by first | omega | assumption | rfl | decide | exact Nat.le_refl _ | (simp only [size_ic, Value.cells]; omega) | (simp; omega) | simp)) ?_
    refine WO_p (PS_move_bool rfl) ?_
    refine WO_if (t := 22) rfl (fun hb4 => ?_) (fun hb4 => ?_)
    · have hb4p := hb4.h; try simp only [al_ete, al_dfn, Bool.not_eq_true', Bool.not_eq_false', al_ne, Bool.not_not, al_nn] at hb4p
      have hsa : x2.addr = A := hb4p
      refine WO_guardT rfl rfl hb4.h ?_
      refine WO_p (PS_fieldAddr 20 Hvac.runUnderlying181 rfl Hvac.sizeOf92 rfl rfl) ?_
      refine WO_guardT rfl rfl hb4.h ?_
      refine WO_load (.slice _ _ _) Hvac.isAgg92 rfl (Hb.h (by repeat (first | assumption | exact Hb.newY _ _ | refine Hb.alloc ?_ | refine Hb.drew ?_ | refine Hb.ext (by assumption) ?_ | exact Hb.setSameL (by first | omega | (simp only [size_alloc, size_setB, size_drew]; omega)) | exact Hb.setSame (by assumption) | refine Hb.set (by first | omega | (simp only [size_alloc, size_setB, size_drew]; omega)) ?_ ))) (Ce.h (by first | assumption | exact ⟨rfl⟩)) ?_
      refine WO_guardT rfl rfl hb4.h ?_
      refine WO_p (PS_move_slice rfl) ?_
      refine WO_guardT rfl rfl hb4.h ?_
      refine WO_call Hvac.call76 (by rfl) (Ret.mono (nCmp_spec (by first | exact NN.nil _ | assumption | exact NN.ext (by assumption) (by repeat (first | assumption | exact Ext.refl _ | refine Ext.alloc ?_ _ | refine Ext.drew ?_ | refine Ext.setB ?_ (by first | omega | (simp only [size_alloc, size_setB, size_drew]; omega)) _ | exact Ext.trans (by assumption) (by assumption) | refine Ext.trans ?_ (by assumption)))) (by first | exact NN.nil _ | assumption | exact NN.ext (by assumption) (by repeat (first | assumption | exact Ext.refl _ | refine Ext.alloc ?_ _ | refine Ext.drew ?_ | refine Ext.setB ?_ (by first | omega | (simp only [size_alloc, size_setB, size_drew]; omega)) _ | exact Ext.trans (by assumption) (by assumption) | refine Ext.trans ?_ (by assumption)))) (by first | assumption | omega | (rw [sz_zero]; omega)) (by first | assumption | omega | (rw [sz_zero]; omega))) ?_)
      rintro _ w76_4 ⟨hE76_4, rfl⟩
      have hz76_4 := hE76_4.1
      try simp only [size_alloc, size_setB, size_drew] at hz76_4
      refine WO_guardT rfl rfl hb4.h ?_
      refine WO_p (PS_eql rfl rfl) ?_
      refine WO_p (PS_pickT rfl hb4.h rfl) ?_
      refine WO_nil ?_
      refine thn_normal ?_
      refine W_if rfl (fun hb7 => ?_) (fun hb7 => ?_)
      · have hb7p := hb7.h; try simp only [al_ete, al_dfn, Bool.not_eq_true', Bool.not_eq_false', al_ne, Bool.not_not, al_nn] at hb7p
        have hhit : y2.1 = A ∧ y2.2 = k := ⟨by rw [hadx]; exact hsa, cmpI_eq.1 hb7p⟩
        refine W_seq ?_
        refine W_region rfl ?_
        refine WO_p (PS_assign_bool rfl) ?_
        refine WO_nil ?_
        refine thn_normal ?_
        refine W_ret ?_
        refine inBlk_ret ?_
        refine thn_ret ?_
        refine thn_ret ?_
        refine inBlk_ret ?_
        refine thn_ret ?_
        refine bodyQ_ret1 Hvac.results89 rfl (.bool _) rfl ?_
        first
        | (have hm : (A, k) ∈ l := by rw [← hhit.1, ← hhit.2]; exact List.mem_of_getElem? hy2
           exact ⟨(by repeat (first | assumption | exact Ext.refl _ | refine Ext.alloc ?_ _ | refine Ext.drew ?_ | refine Ext.setB ?_ (by first | omega | (simp only [size_alloc, size_setB, size_drew]; omega)) _ | refine Ext.trans ?_ (by assumption))), congrArg Value.bool (al_et hm).symm⟩)
        | (have hm : (A, k) ∉ l := fun h9 => by
             obtain ⟨j, hj, he⟩ := List.mem_iff_getElem.1 h9
             exact hno j (A, k) (by omega) (by rw [List.getElem?_eq_getElem hj, he]) ⟨rfl, rfl⟩
           exact ⟨(by repeat (first | assumption | exact Ext.refl _ | refine Ext.alloc ?_ _ | refine Ext.drew ?_ | refine Ext.setB ?_ (by first | omega | (simp only [size_alloc, size_setB, size_drew]; omega)) _ | refine Ext.trans ?_ (by assumption))), congrArg Value.bool (al_ef hm).symm⟩)
      · have hb7p := hb7.h; try simp only [al_ete, al_dfn, Bool.not_eq_true', Bool.not_eq_false', al_ne, Bool.not_not, al_nn] at hb7p
        have hne : ¬ (y2.1 = A ∧ y2.2 = k) := fun h9 => hb7p (cmpI_eq.2 h9.2)
        refine W_skip ?_
        refine inBlk_normal ?_
        refine thn_normal ?_
        refine W_region rfl ?_
        refine WO_p (PS_add_i64n rfl rfl (by omega) (by omega)) ?_
        refine WO_p (PS_move_int rfl) ?_
        refine WO_nil ?_
        refine thn_normal ?_
        exact ⟨k2 - 1, by omega, i + 1, by omega, fun j z hj hz => by
          rcases Nat.lt_or_ge j i with h3 | h3
          · exact hno j z h3 hz
          · rw [show j = i by omega, hy2] at hz; rw [← Option.some.inj hz]; exact hne, ⟨rfl, rfl, rfl, rfl, congrArg (Value.int .i64) (by omega), trivial⟩, (by repeat (first | assumption | exact Ext.refl _ | refine Ext.alloc ?_ _ | refine Ext.drew ?_ | refine Ext.setB ?_ (by first | omega | (simp only [size_alloc, size_setB, size_drew]; omega)) _ | refine Ext.trans ?_ (by assumption))), Hb.mk (Hb.h (by repeat (first | assumption | exact Hb.newY _ _ | refine Hb.alloc ?_ | refine Hb.drew ?_ | refine Hb.ext (by assumption) ?_ | exact Hb.setSameL (by first | omega | (simp only [size_alloc, size_setB, size_drew]; omega)) | exact Hb.setSame (by assumption) | refine Hb.set (by first | omega | (simp only [size_alloc, size_setB, size_drew]; omega)) ?_ )))⟩
    · have hb4p := hb4.h; try simp only [al_ete, al_dfn, Bool.not_eq_true', Bool.not_eq_false', al_ne, Bool.not_not, al_nn] at hb4p
      have hne : ¬ (y2.1 = A ∧ y2.2 = k) := fun h9 => hb4p (by rw [← hadx]; exact h9.1)
      refine WO_guardF rfl rfl hb4.h ?_
      refine WO_guardF rfl rfl hb4.h ?_
      refine WO_guardF rfl rfl hb4.h ?_
      refine WO_guardF rfl rfl hb4.h ?_
      refine WO_guardF rfl rfl hb4.h ?_
      refine WO_p (PS_pickF rfl hb4.h rfl) ?_
      refine WO_nil ?_
      refine thn_normal ?_
      refine W_condF rfl rfl ?_
      refine W_skip ?_
      refine inBlk_normal ?_
      refine thn_normal ?_
      refine W_region rfl ?_
      refine WO_p (PS_add_i64n rfl rfl (by omega) (by omega)) ?_
      refine WO_p (PS_move_int rfl) ?_
      refine WO_nil ?_
      refine thn_normal ?_
      exact ⟨k2 - 1, by omega, i + 1, by omega, fun j z hj hz => by
        rcases Nat.lt_or_ge j i with h3 | h3
        · exact hno j z h3 hz
        · rw [show j = i by omega, hy2] at hz; rw [← Option.some.inj hz]; exact hne, ⟨rfl, rfl, rfl, rfl, congrArg (Value.int .i64) (by omega), trivial⟩, (by repeat (first | assumption | exact Ext.refl _ | refine Ext.alloc ?_ _ | refine Ext.drew ?_ | refine Ext.setB ?_ (by first | omega | (simp only [size_alloc, size_setB, size_drew]; omega)) _ | refine Ext.trans ?_ (by assumption))), Hb.mk (Hb.h (by repeat (first | assumption | exact Hb.newY _ _ | refine Hb.alloc ?_ | refine Hb.drew ?_ | refine Hb.ext (by assumption) ?_ | exact Hb.setSameL (by first | omega | (simp only [size_alloc, size_setB, size_drew]; omega)) | exact Hb.setSame (by assumption) | refine Hb.set (by first | omega | (simp only [size_alloc, size_setB, size_drew]; omega)) ?_ )))⟩
  · have hb2p := hb2.h; try simp only [al_ete, al_dfn, Bool.not_eq_true', Bool.not_eq_false', al_ne, Bool.not_not, al_nn] at hb2p
    refine W_exit ?_
    refine thn_exit ?_
    refine thn_exit ?_
    refine inBlk_exit ?_
    refine thn_normal ?_
    refine W_seq ?_
    refine W_region rfl ?_
    refine WO_p (PS_assign_bool rfl) ?_
    refine WO_nil ?_
    refine thn_normal ?_
    refine W_ret ?_
    refine bodyQ_ret1 Hvac.results89 rfl (.bool _) rfl ?_
    first
    | (have hm : (A, k) ∈ l := by rw [← hhit.1, ← hhit.2]; exact List.mem_of_getElem? hy2
       exact ⟨(by repeat (first | assumption | exact Ext.refl _ | refine Ext.alloc ?_ _ | refine Ext.drew ?_ | refine Ext.setB ?_ (by first | omega | (simp only [size_alloc, size_setB, size_drew]; omega)) _ | refine Ext.trans ?_ (by assumption))), congrArg Value.bool (al_et hm).symm⟩)
    | (have hm : (A, k) ∉ l := fun h9 => by
         obtain ⟨j, hj, he⟩ := List.mem_iff_getElem.1 h9
         exact hno j (A, k) (by omega) (by rw [List.getElem?_eq_getElem hj, he]) ⟨rfl, rfl⟩
       exact ⟨(by repeat (first | assumption | exact Ext.refl _ | refine Ext.alloc ?_ _ | refine Ext.drew ?_ | refine Ext.setB ?_ (by first | omega | (simp only [size_alloc, size_setB, size_drew]; omega)) _ | refine Ext.trans ?_ (by assumption))), congrArg Value.bool (al_ef hm).symm⟩)

set_option maxRecDepth 10000 in
set_option maxHeartbeats 4000000 in
theorem yTload_spec [Om] (w : World) (hO : OmB w) (S : Nat) (c : Array Value) (T : TypeId) (s : SV) (l : List (List Int × Nat × Nat)) (hS : Hb w S (.cells c T (0, 0))) (hc : Ce c (0 + 5) (.slice s.1 s.2.1 s.2.2)) (hl : TpsR 254 w s l) (hl8 : s.2.1 ≤ 100000000) (A : List Int) (hA : By A 20) (kp : Option Addr) (kn kc k : Nat) (hk : NN w (kp, kn, kc) k) (zk : sz k ≤ 32) : Ret Hvac.prog 207 #[.pointer (some ⟨S, 0, none⟩), .agg (ic .u8 A), .slice kp kn kc] w fun u w' => Ext w w' ∧ ∃ s' : SV, u = .slice s'.1 s'.2.1 s'.2.2 ∧ NN w' s' (ytl l A k) ∧ sz (ytl l A k) ≤ 32 := by
  have hAl := hA.1
  have hSl := hS.lt
  obtain ⟨p, n, cp⟩ := s
  obtain ⟨L, hPL, hR⟩ := hl
  have hn := hPL.len
  dsimp only at hn hc hl8
  have hR1 := hR.1
  
  refine Ret_of_W Hvac.func207 rfl rfl ?_
  refine W_seq ?_
  refine W_region rfl ?_
  refine WO_boxG (.agg _) rfl ?_
  intro b4 v4 hg4 hE4 hH4 hl4
  try simp only [size_alloc, size_setB, size_drew] at hg4
  have hzz4 := hE4.1
  try simp only [size_alloc, size_setB, size_drew] at hzz4
  refine WO_p (PS_assign_slice rfl) ?_
  refine WO_nil ?_
  refine thn_normal ?_
  refine W_seq ?_
  refine W_seq ?_
  refine W_region rfl ?_
  refine WO_p (PS_move_ptr rfl) ?_
  refine WO_p (PS_nilCheck rfl) ?_
  refine WO_p (PS_fieldAddr 5 Hvac.runUnderlying95 rfl Hvac.sizeOf93 rfl rfl) ?_
  refine WO_load (.slice _ _ _) Hvac.isAgg93 rfl (Hb.h (by repeat (first | assumption | exact Hb.newY _ _ | refine Hb.alloc ?_ | refine Hb.drew ?_ | refine Hb.ext (by assumption) ?_ | exact Hb.setSameL (by first | omega | (simp only [size_alloc, size_setB, size_drew]; omega)) | exact Hb.setSame (by assumption) | refine Hb.set (by first | omega | (simp only [size_alloc, size_setB, size_drew]; omega)) ?_ ))) (Ce.h (by first | assumption | exact ⟨rfl⟩)) ?_
  refine WO_p (PS_lenS Hvac.runUnderlying93 rfl) ?_
  refine WO_p (PS_move_int rfl) ?_
  refine WO_nil ?_
  refine thn_normal ?_
  refine W_block ?_
  refine W_loopN (fun k9 ρ w' => ∃ (i : Nat), i + k9 = n ∧ (∀ j z, j < i → l[j]? = some z → ¬ (z.1 = A ∧ z.2.1 = k)) ∧ Fr [(2, .slice kp kn kc), (4, .pointer (some ⟨b4, 0, none⟩)), (12, .slice p n cp), (13, .int .i64 n), (14, .int .i64 i)] ρ ∧ Ext w w' ∧ Hb w' b4 (.cells (ic .u8 A) 25 (0, 0))) n ?_ ?_
  · exact ⟨0, by omega, fun j z h => absurd h (Nat.not_lt_zero j), ⟨rfl, rfl, rfl, rfl, rfl, trivial⟩, (by repeat (first | assumption | exact Ext.refl _ | refine Ext.alloc ?_ _ | refine Ext.drew ?_ | refine Ext.setB ?_ (by first | omega | (simp only [size_alloc, size_setB, size_drew]; omega)) _ | refine Ext.trans ?_ (by assumption))), Hb.mk (Hb.h (by repeat (first | assumption | exact Hb.newY _ _ | refine Hb.alloc ?_ | refine Hb.drew ?_ | refine Hb.ext (by assumption) ?_ | exact Hb.setSameL (by first | omega | (simp only [size_alloc, size_setB, size_drew]; omega)) | exact Hb.setSame (by assumption) | refine Hb.set (by first | omega | (simp only [size_alloc, size_setB, size_drew]; omega)) ?_ )))⟩
  intro k2 ρ2 w2 hI2
  obtain ⟨i, hik, hno, hFr2, hE2, hb4k⟩ := hI2
  refine W_env _ hFr2 ?_
  have hz2 := hE2.1
  have hb4k_l := hb4k.lt
  refine W_seq ?_
  refine W_region rfl ?_
  refine WO_p (PS_lss rfl rfl) ?_
  refine WO_nil ?_
  refine thn_normal ?_
  refine W_seq ?_
  refine W_if rfl (fun hb2 => ?_) (fun hb2 => ?_)
  · have hb2p := hb2.h; try simp only [al_ete, al_dfn, Bool.not_eq_true', Bool.not_eq_false', al_ne, Bool.not_not, al_nn] at hb2p
    obtain ⟨x2, y2, hx2, hy2, hxy2⟩ := hR.get (i := i) (by omega)
    have hxl2 : x2.addr.length = 20 := by rw [hxy2.addr]; exact hxy2.ab.1
    have hxE2 := encYT_len hxl2
    obtain ⟨b, r, fz2, hp, hb, hrs, hXi⟩ := pl_at (hPL.ext hE2) hx2 hxE2
    subst hp
    have hX2 := encYT_addr hxl2
    have hk1 := encYT_1 hxl2
    have hone2 := one_YT2 x2
    have hsz2 : (encYT x2).toArray.size = 22 := by simpa using hxE2
    have hab2 := hxy2.ab
    rw [← hxy2.addr] at hab2
    have hadx : y2.1 = x2.addr := hxy2.addr.symm
    have hkn := hxy2.key
    have hkz := hxy2.kz
    have hk2 := encYT_2 hxl2
    have hvn := hxy2.val
    have hvz := hxy2.vz
    refine W_skip ?_
    refine thn_normal ?_
    refine W_seq ?_
    refine W_block ?_
    refine W_seq ?_
    refine W_region rfl ?_
    refine WO_p (PS_indexS Hvac.runUnderlying93 Hvac.sizeOf254 rfl rfl (by omega) (by omega)) ?_
    refine WO_loadA _ Hvac.isAgg254 Hvac.sizeOf254 rfl (Hb.h (by repeat (first | assumption | exact Hb.newY _ _ | refine Hb.alloc ?_ | refine Hb.drew ?_ | refine Hb.ext (by assumption) ?_ | exact Hb.setSameL (by first | omega | (simp only [size_alloc, size_setB, size_drew]; omega)) | exact Hb.setSame (by assumption) | refine Hb.set (by first | omega | (simp only [size_alloc, size_setB, size_drew]; omega)) ?_ ))) (by first | omega | assumption | rfl | decide | exact Nat.le_refl _ | (simp only [size_ic, Value.cells]; omega) | (simp; omega) | simp) (Xt.h (by first | assumption | exact Xt.whole rfl rfl | exact Xt.whole rfl (by assumption) | exact Xt.whole rfl (by simp only [size_ic, Value.cells]; omega) | exact ⟨rfl⟩)) ?_
    refine WO_allocG Hvac.zeroValue254 ?_
    intro b8 v8 hg8 hE8 hH8 hl8
    try simp only [size_alloc, size_setB, size_drew] at hg8
    have hzz8 := hE8.1
    try simp only [size_alloc, size_setB, size_drew] at hzz8
    replace hH8 : Hb v8 b8 (.cells ((encYT ⟨List.replicate 20 0, (none, 0, 0), (none, 0, 0)⟩).toArray) 254 (0, 0)) := hH8
    first | refine WO_storeW Hvac.sizeOf254 rfl (v := .agg _) rfl (Hb.h (by repeat (first | assumption | exact Hb.newY _ _ | refine Hb.alloc ?_ | refine Hb.drew ?_ | refine Hb.ext (by assumption) ?_ | exact Hb.setSameL (by first | omega | (simp only [size_alloc, size_setB, size_drew]; omega)) | exact Hb.setSame (by assumption) | refine Hb.set (by first | omega | (simp only [size_alloc, size_setB, size_drew]; omega)) ?_ ))) rfl (by first | omega | assumption | rfl | decide | exact Nat.le_refl _ | (simp only [size_ic, Value.cells]; omega) | (simp; omega) | simp) (by first | omega | assumption | rfl | decide | exact Nat.le_refl _ | (simp only [size_ic, Value.cells]; omega) | (simp; omega) | simp) (by first | exact oneCell_ic | assumption) ?_ | refine WO_store Hvac.sizeOf254 rfl (v := .agg _) rfl (Hb.h (by repeat (first | assumption | exact Hb.newY _ _ | refine Hb.alloc ?_ | refine Hb.drew ?_ | refine Hb.ext (by assumption) ?_ | exact Hb.setSameL (by first | omega | (simp only [size_alloc, size_setB, size_drew]; omega)) | exact Hb.setSame (by assumption) | refine Hb.set (by first | omega | (simp only [size_alloc, size_setB, size_drew]; omega)) ?_ ))) (by first | omega | assumption | rfl | decide | exact Nat.le_refl _ | (simp only [size_ic, Value.cells]; omega) | (simp; omega) | simp) (by first | omega | assumption | rfl | decide | exact Nat.le_refl _ | (simp only [size_ic, Value.cells]; omega) | (simp; omega) | simp) (by first | exact oneCell_ic | assumption) ?_
    refine WO_nil ?_
    refine thn_normal ?_
    refine W_seq ?_
    refine W_region rfl ?_
    refine WO_p (PS_fieldAddr 0 Hvac.runUnderlying254 rfl Hvac.sizeOf25 rfl rfl) ?_
    refine WO_loadA _ Hvac.isAgg25 Hvac.sizeOf25 rfl (Hb.h (by repeat (first | assumption | exact Hb.newY _ _ | refine Hb.alloc ?_ | refine Hb.drew ?_ | refine Hb.ext (by assumption) ?_ | exact Hb.setSameL (by first | omega | (simp only [size_alloc, size_setB, size_drew]; omega)) | exact Hb.setSame (by assumption) | refine Hb.set (by first | omega | (simp only [size_alloc, size_setB, size_drew]; omega)) ?_ ))) (by first | omega | assumption | rfl | decide | exact Nat.le_refl _ | (simp only [size_ic, Value.cells]; omega) | (simp; omega) | simp) (Xt.h (by first | assumption | exact Xt.whole rfl rfl | exact Xt.whole rfl (by assumption) | exact Xt.whole rfl (by simp only [size_ic, Value.cells]; omega) | exact ⟨rfl⟩)) ?_
    refine WO_loadA _ Hvac.isAgg25 Hvac.sizeOf25 rfl (Hb.h (by repeat (first | assumption | exact Hb.newY _ _ | refine Hb.alloc ?_ | refine Hb.drew ?_ | refine Hb.ext (by assumption) ?_ | exact Hb.setSameL (by first | omega | (simp only [size_alloc, size_setB, size_drew]; omega)) | exact Hb.setSame (by assumption) | refine Hb.set (by first | omega | (simp only [size_alloc, size_setB, size_drew]; omega)) ?_ ))) (by first | omega | assumption | rfl | decide | exact Nat.le_refl _ | (simp only [size_ic, Value.cells]; omega) | (simp; omega) | simp) (Xt.h (by first | assumption | exact Xt.whole rfl rfl | exact Xt.whole rfl (by assumption) | exact Xt.whole rfl (by simp only [size_ic, Value.cells]; omega) | exact ⟨rfl⟩)) ?_
    refine WO_p (PS_eqlA Hvac.underlying25 Hvac.underlying5 Hvac.sizeOf5 Hvac.eqGuardType25 rfl rfl (by first | omega | assumption | rfl | decide | exact Nat.le_refl _ | (simp only [size_ic, Value.cells]; omega) | (simp; omega) | simp) (by first | omega | assumption | rfl | decide | exact Nat.le_refl _ | (simp only [size_ic, Value.cells]; omega) | (simp; omega) | simp)) ?_
    refine WO_p (PS_move_bool rfl) ?_
    refine WO_if (t := 22) rfl (fun hb4 => ?_) (fun hb4 => ?_)
    · have hb4p := hb4.h; try simp only [al_ete, al_dfn, Bool.not_eq_true', Bool.not_eq_false', al_ne, Bool.not_not, al_nn] at hb4p
      have hsa : x2.addr = A := hb4p
      refine WO_guardT rfl rfl hb4.h ?_
      refine WO_p (PS_fieldAddr 20 Hvac.runUnderlying254 rfl Hvac.sizeOf92 rfl rfl) ?_
      refine WO_guardT rfl rfl hb4.h ?_
      refine WO_load (.slice _ _ _) Hvac.isAgg92 rfl (Hb.h (by repeat (first | assumption | exact Hb.newY _ _ | refine Hb.alloc ?_ | refine Hb.drew ?_ | refine Hb.ext (by assumption) ?_ | exact Hb.setSameL (by first | omega | (simp only [size_alloc, size_setB, size_drew]; omega)) | exact Hb.setSame (by assumption) | refine Hb.set (by first | omega | (simp only [size_alloc, size_setB, size_drew]; omega)) ?_ ))) (Ce.h (by first | assumption | exact ⟨rfl⟩)) ?_
      refine WO_guardT rfl rfl hb4.h ?_
      refine WO_p (PS_move_slice rfl) ?_
      refine WO_guardT rfl rfl hb4.h ?_
      refine WO_call Hvac.call76 (by rfl) (Ret.mono (nCmp_spec (by first | exact NN.nil _ | assumption | exact NN.ext (by assumption) (by repeat (first | assumption | exact Ext.refl _ | refine Ext.alloc ?_ _ | refine Ext.drew ?_ | refine Ext.setB ?_ (by first | omega | (simp only [size_alloc, size_setB, size_drew]; omega)) _ | exact Ext.trans (by assumption) (by assumption) | refine Ext.trans ?_ (by assumption)))) (by first | exact NN.nil _ | assumption | exact NN.ext (by assumption) (by repeat (first | assumption | exact Ext.refl _ | refine Ext.alloc ?_ _ | refine Ext.drew ?_ | refine Ext.setB ?_ (by first | omega | (simp only [size_alloc, size_setB, size_drew]; omega)) _ | exact Ext.trans (by assumption) (by assumption) | refine Ext.trans ?_ (by assumption)))) (by first | assumption | omega | (rw [sz_zero]; omega)) (by first | assumption | omega | (rw [sz_zero]; omega))) ?_)
      rintro _ w76_4 ⟨hE76_4, rfl⟩
      have hz76_4 := hE76_4.1
      try simp only [size_alloc, size_setB, size_drew] at hz76_4
      refine WO_guardT rfl rfl hb4.h ?_
      refine WO_p (PS_eql rfl rfl) ?_
      refine WO_p (PS_pickT rfl hb4.h rfl) ?_
      refine WO_nil ?_
      refine thn_normal ?_
      refine W_if rfl (fun hb7 => ?_) (fun hb7 => ?_)
      · have hb7p := hb7.h; try simp only [al_ete, al_dfn, Bool.not_eq_true', Bool.not_eq_false', al_ne, Bool.not_not, al_nn] at hb7p
        have hhit : y2.1 = A ∧ y2.2.1 = k := ⟨by rw [hadx]; exact hsa, cmpI_eq.1 hb7p⟩
        refine W_seq ?_
        refine W_region rfl ?_
        refine WO_p (PS_fieldAddr 21 Hvac.runUnderlying254 rfl Hvac.sizeOf92 rfl rfl) ?_
        refine WO_load (.slice _ _ _) Hvac.isAgg92 rfl (Hb.h (by repeat (first | assumption | exact Hb.newY _ _ | refine Hb.alloc ?_ | refine Hb.drew ?_ | refine Hb.ext (by assumption) ?_ | exact Hb.setSameL (by first | omega | (simp only [size_alloc, size_setB, size_drew]; omega)) | exact Hb.setSame (by assumption) | refine Hb.set (by first | omega | (simp only [size_alloc, size_setB, size_drew]; omega)) ?_ ))) (Ce.h (by first | assumption | exact ⟨rfl⟩)) ?_
        refine WO_p (PS_assign_slice rfl) ?_
        refine WO_nil ?_
        refine thn_normal ?_
        refine W_ret ?_
        refine inBlk_ret ?_
        refine thn_ret ?_
        refine thn_ret ?_
        refine inBlk_ret ?_
        refine thn_ret ?_
        refine bodyQ_ret1 Hvac.results207 rfl (.slice _ _ _) rfl ?_
        first
        | (rw [ytl_hit hno hy2 hhit]
           exact ⟨(by repeat (first | assumption | exact Ext.refl _ | refine Ext.alloc ?_ _ | refine Ext.drew ?_ | refine Ext.setB ?_ (by first | omega | (simp only [size_alloc, size_setB, size_drew]; omega)) _ | refine Ext.trans ?_ (by assumption))), x2.val, rfl, NN.ext hvn (by repeat (first | assumption | exact Ext.refl _ | refine Ext.alloc ?_ _ | refine Ext.drew ?_ | refine Ext.setB ?_ (by first | omega | (simp only [size_alloc, size_setB, size_drew]; omega)) _ | refine Ext.trans ?_ (by assumption))), hvz⟩)
        | (rw [ytl_miss (fun j z hz => hno j z (by have := lt_of_getElem? hz; omega) hz)]
           exact ⟨(by repeat (first | assumption | exact Ext.refl _ | refine Ext.alloc ?_ _ | refine Ext.drew ?_ | refine Ext.setB ?_ (by first | omega | (simp only [size_alloc, size_setB, size_drew]; omega)) _ | refine Ext.trans ?_ (by assumption))), (none, 0, 0), rfl, NN.nil _, by rw [sz_zero]; omega⟩)
      · have hb7p := hb7.h; try simp only [al_ete, al_dfn, Bool.not_eq_true', Bool.not_eq_false', al_ne, Bool.not_not, al_nn] at hb7p
        have hne : ¬ (y2.1 = A ∧ y2.2.1 = k) := fun h9 => hb7p (cmpI_eq.2 h9.2)
        refine W_skip ?_
        refine inBlk_normal ?_
        refine thn_normal ?_
        refine W_region rfl ?_
        refine WO_p (PS_add_i64n rfl rfl (by omega) (by omega)) ?_
        refine WO_p (PS_move_int rfl) ?_
        refine WO_nil ?_
        refine thn_normal ?_
        exact ⟨k2 - 1, by omega, i + 1, by omega, fun j z hj hz => by
          rcases Nat.lt_or_ge j i with h3 | h3
          · exact hno j z h3 hz
          · rw [show j = i by omega, hy2] at hz; rw [← Option.some.inj hz]; exact hne, ⟨rfl, rfl, rfl, rfl, congrArg (Value.int .i64) (by omega), trivial⟩, (by repeat (first | assumption | exact Ext.refl _ | refine Ext.alloc ?_ _ | refine Ext.drew ?_ | refine Ext.setB ?_ (by first | omega | (simp only [size_alloc, size_setB, size_drew]; omega)) _ | refine Ext.trans ?_ (by assumption))), Hb.mk (Hb.h (by repeat (first | assumption | exact Hb.newY _ _ | refine Hb.alloc ?_ | refine Hb.drew ?_ | refine Hb.ext (by assumption) ?_ | exact Hb.setSameL (by first | omega | (simp only [size_alloc, size_setB, size_drew]; omega)) | exact Hb.setSame (by assumption) | refine Hb.set (by first | omega | (simp only [size_alloc, size_setB, size_drew]; omega)) ?_ )))⟩
    · have hb4p := hb4.h; try simp only [al_ete, al_dfn, Bool.not_eq_true', Bool.not_eq_false', al_ne, Bool.not_not, al_nn] at hb4p
      have hne : ¬ (y2.1 = A ∧ y2.2.1 = k) := fun h9 => hb4p (by rw [← hadx]; exact h9.1)
      refine WO_guardF rfl rfl hb4.h ?_
      refine WO_guardF rfl rfl hb4.h ?_
      refine WO_guardF rfl rfl hb4.h ?_
      refine WO_guardF rfl rfl hb4.h ?_
      refine WO_guardF rfl rfl hb4.h ?_
      refine WO_p (PS_pickF rfl hb4.h rfl) ?_
      refine WO_nil ?_
      refine thn_normal ?_
      refine W_condF rfl rfl ?_
      refine W_skip ?_
      refine inBlk_normal ?_
      refine thn_normal ?_
      refine W_region rfl ?_
      refine WO_p (PS_add_i64n rfl rfl (by omega) (by omega)) ?_
      refine WO_p (PS_move_int rfl) ?_
      refine WO_nil ?_
      refine thn_normal ?_
      exact ⟨k2 - 1, by omega, i + 1, by omega, fun j z hj hz => by
        rcases Nat.lt_or_ge j i with h3 | h3
        · exact hno j z h3 hz
        · rw [show j = i by omega, hy2] at hz; rw [← Option.some.inj hz]; exact hne, ⟨rfl, rfl, rfl, rfl, congrArg (Value.int .i64) (by omega), trivial⟩, (by repeat (first | assumption | exact Ext.refl _ | refine Ext.alloc ?_ _ | refine Ext.drew ?_ | refine Ext.setB ?_ (by first | omega | (simp only [size_alloc, size_setB, size_drew]; omega)) _ | refine Ext.trans ?_ (by assumption))), Hb.mk (Hb.h (by repeat (first | assumption | exact Hb.newY _ _ | refine Hb.alloc ?_ | refine Hb.drew ?_ | refine Hb.ext (by assumption) ?_ | exact Hb.setSameL (by first | omega | (simp only [size_alloc, size_setB, size_drew]; omega)) | exact Hb.setSame (by assumption) | refine Hb.set (by first | omega | (simp only [size_alloc, size_setB, size_drew]; omega)) ?_ )))⟩
  · have hb2p := hb2.h; try simp only [al_ete, al_dfn, Bool.not_eq_true', Bool.not_eq_false', al_ne, Bool.not_not, al_nn] at hb2p
    refine W_exit ?_
    refine thn_exit ?_
    refine thn_exit ?_
    refine inBlk_exit ?_
    refine thn_normal ?_
    refine W_seq ?_
    refine W_region rfl ?_
    refine WO_p (PS_assign_slice rfl) ?_
    refine WO_nil ?_
    refine thn_normal ?_
    refine W_ret ?_
    refine bodyQ_ret1 Hvac.results207 rfl (.slice _ _ _) rfl ?_
    first
    | (rw [ytl_hit hno hy2 hhit]
       exact ⟨(by repeat (first | assumption | exact Ext.refl _ | refine Ext.alloc ?_ _ | refine Ext.drew ?_ | refine Ext.setB ?_ (by first | omega | (simp only [size_alloc, size_setB, size_drew]; omega)) _ | refine Ext.trans ?_ (by assumption))), x2.val, rfl, NN.ext hvn (by repeat (first | assumption | exact Ext.refl _ | refine Ext.alloc ?_ _ | refine Ext.drew ?_ | refine Ext.setB ?_ (by first | omega | (simp only [size_alloc, size_setB, size_drew]; omega)) _ | refine Ext.trans ?_ (by assumption))), hvz⟩)
    | (rw [ytl_miss (fun j z hz => hno j z (by have := lt_of_getElem? hz; omega) hz)]
       exact ⟨(by repeat (first | assumption | exact Ext.refl _ | refine Ext.alloc ?_ _ | refine Ext.drew ?_ | refine Ext.setB ?_ (by first | omega | (simp only [size_alloc, size_setB, size_drew]; omega)) _ | refine Ext.trans ?_ (by assumption))), (none, 0, 0), rfl, NN.nil _, by rw [sz_zero]; omega⟩)

set_option maxRecDepth 10000 in
set_option maxHeartbeats 4000000 in
theorem yOrig_spec [Om] (w : World) (hO : OmB w) (S : Nat) (c : Array Value) (T : TypeId) (s : SV) (l : List (List Int × Nat × Nat)) (hS : Hb w S (.cells c T (0, 0))) (hc : Ce c (0 + 8) (.slice s.1 s.2.1 s.2.2)) (hl : TpsR 113 w s l) (hl8 : s.2.1 ≤ 100000000) (A : List Int) (hA : By A 20) (kp : Option Addr) (kn kc k : Nat) (hk : NN w (kp, kn, kc) k) (zk : sz k ≤ 32) : Ret Hvac.prog 354 #[.pointer (some ⟨S, 0, none⟩), .agg (ic .u8 A), .slice kp kn kc] w fun u w' => Ext w w' ∧ ∃ s' : SV, u = .slice s'.1 s'.2.1 s'.2.2 ∧ NN w' s' (ytl l A k) ∧ sz (ytl l A k) ≤ 32 := by
  have hAl := hA.1
  have hSl := hS.lt
  obtain ⟨p, n, cp⟩ := s
  obtain ⟨L, hPL, hR⟩ := hl
  have hn := hPL.len
  dsimp only at hn hc hl8
  have hR1 := hR.1
  
  refine Ret_of_W Hvac.func354 rfl rfl ?_
  refine W_seq ?_
  refine W_region rfl ?_
  refine WO_boxG (.agg _) rfl ?_
  intro b4 v4 hg4 hE4 hH4 hl4
  try simp only [size_alloc, size_setB, size_drew] at hg4
  have hzz4 := hE4.1
  try simp only [size_alloc, size_setB, size_drew] at hzz4
  refine WO_p (PS_assign_slice rfl) ?_
  refine WO_nil ?_
  refine thn_normal ?_
  refine W_seq ?_
  refine W_seq ?_
  refine W_region rfl ?_
  refine WO_p (PS_move_ptr rfl) ?_
  refine WO_p (PS_nilCheck rfl) ?_
  refine WO_p (PS_fieldAddr 8 Hvac.runUnderlying99 rfl Hvac.sizeOf96 rfl rfl) ?_
  refine WO_load (.slice _ _ _) Hvac.isAgg96 rfl (Hb.h (by repeat (first | assumption | exact Hb.newY _ _ | refine Hb.alloc ?_ | refine Hb.drew ?_ | refine Hb.ext (by assumption) ?_ | exact Hb.setSameL (by first | omega | (simp only [size_alloc, size_setB, size_drew]; omega)) | exact Hb.setSame (by assumption) | refine Hb.set (by first | omega | (simp only [size_alloc, size_setB, size_drew]; omega)) ?_ ))) (Ce.h (by first | assumption | exact ⟨rfl⟩)) ?_
  refine WO_p (PS_lenS Hvac.runUnderlying96 rfl) ?_
  refine WO_p (PS_move_int rfl) ?_
  refine WO_nil ?_
  refine thn_normal ?_
  refine W_block ?_
  refine W_loopN (fun k9 ρ w' => ∃ (i : Nat), i + k9 = n ∧ (∀ j z, j < i → l[j]? = some z → ¬ (z.1 = A ∧ z.2.1 = k)) ∧ Fr [(2, .slice kp kn kc), (4, .pointer (some ⟨b4, 0, none⟩)), (12, .slice p n cp), (13, .int .i64 n), (14, .int .i64 i)] ρ ∧ Ext w w' ∧ Hb w' b4 (.cells (ic .u8 A) 25 (0, 0))) n ?_ ?_
  · exact ⟨0, by omega, fun j z h => absurd h (Nat.not_lt_zero j), ⟨rfl, rfl, rfl, rfl, rfl, trivial⟩, (by repeat (first | assumption | exact Ext.refl _ | refine Ext.alloc ?_ _ | refine Ext.drew ?_ | refine Ext.setB ?_ (by first | omega | (simp only [size_alloc, size_setB, size_drew]; omega)) _ | refine Ext.trans ?_ (by assumption))), Hb.mk (Hb.h (by repeat (first | assumption | exact Hb.newY _ _ | refine Hb.alloc ?_ | refine Hb.drew ?_ | refine Hb.ext (by assumption) ?_ | exact Hb.setSameL (by first | omega | (simp only [size_alloc, size_setB, size_drew]; omega)) | exact Hb.setSame (by assumption) | refine Hb.set (by first | omega | (simp only [size_alloc, size_setB, size_drew]; omega)) ?_ )))⟩
  intro k2 ρ2 w2 hI2
  obtain ⟨i, hik, hno, hFr2, hE2, hb4k⟩ := hI2
  refine W_env _ hFr2 ?_
  have hz2 := hE2.1
  have hb4k_l := hb4k.lt
  refine W_seq ?_
  refine W_region rfl ?_
  refine WO_p (PS_lss rfl rfl) ?_
  refine WO_nil ?_
  refine thn_normal ?_
  refine W_seq ?_
  refine W_if rfl (fun hb2 => ?_) (fun hb2 => ?_)
  · have hb2p := hb2.h; try simp only [al_ete, al_dfn, Bool.not_eq_true', Bool.not_eq_false', al_ne, Bool.not_not, al_nn] at hb2p
    obtain ⟨x2, y2, hx2, hy2, hxy2⟩ := hR.get (i := i) (by omega)
    have hxl2 : x2.addr.length = 20 := by rw [hxy2.addr]; exact hxy2.ab.1
    have hxE2 := encYT_len hxl2
    obtain ⟨b, r, fz2, hp, hb, hrs, hXi⟩ := pl_at (hPL.ext hE2) hx2 hxE2
    subst hp
    have hX2 := encYT_addr hxl2
    have hk1 := encYT_1 hxl2
    have hone2 := one_YT2 x2
    have hsz2 : (encYT x2).toArray.size = 22 := by simpa using hxE2
    have hab2 := hxy2.ab
    rw [← hxy2.addr] at hab2
    have hadx : y2.1 = x2.addr := hxy2.addr.symm
    have hkn := hxy2.key
    have hkz := hxy2.kz
    have hk2 := encYT_2 hxl2
    have hvn := hxy2.val
    have hvz := hxy2.vz
    refine W_skip ?_
    refine thn_normal ?_
    refine W_seq ?_
    refine W_block ?_
    refine W_seq ?_
    refine W_region rfl ?_
    refine WO_p (PS_indexS Hvac.runUnderlying96 Hvac.sizeOf113 rfl rfl (by omega) (by omega)) ?_
    refine WO_loadA _ Hvac.isAgg113 Hvac.sizeOf113 rfl (Hb.h (by repeat (first | assumption | exact Hb.newY _ _ | refine Hb.alloc ?_ | refine Hb.drew ?_ | refine Hb.ext (by assumption) ?_ | exact Hb.setSameL (by first | omega | (simp only [size_alloc, size_setB, size_drew]; omega)) | exact Hb.setSame (by assumption) | refine Hb.set (by first | omega | (simp only [size_alloc, size_setB, size_drew]; omega)) ?_ ))) (by first | omega | assumption | rfl | decide | exact Nat.le_refl _ | (simp only [size_ic, Value.cells]; omega) | (simp; omega) | simp) (Xt.h (by first | assumption | exact Xt.whole rfl rfl | exact Xt.whole rfl (by assumption) | exact Xt.whole rfl (by simp only [size_ic, Value.cells]; omega) | exact ⟨rfl⟩)) ?_
    refine WO_allocG Hvac.zeroValue113 ?_
    intro b8 v8 hg8 hE8 hH8 hl8
    try simp only [size_alloc, size_setB, size_drew] at hg8
    have hzz8 := hE8.1
    try simp only [size_alloc, size_setB, size_drew] at hzz8
    replace hH8 : Hb v8 b8 (.cells ((encYT ⟨List.replicate 20 0, (none, 0, 0), (none, 0, 0)⟩).toArray) 113 (0, 0)) := hH8
    first | refine WO_storeW Hvac.sizeOf113 rfl (v := .agg _) rfl (Hb.h (by repeat (first | assumption | exact Hb.newY _ _ | refine Hb.alloc ?_ | refine Hb.drew ?_ | refine Hb.ext (by assumption) ?_ | exact Hb.setSameL (by first | omega | (simp only [size_alloc, size_setB, size_drew]; omega)) | exact Hb.setSame (by assumption) | refine Hb.set (by first | omega | (simp only [size_alloc, size_setB, size_drew]; omega)) ?_ ))) rfl (by first | omega | assumption | rfl | decide | exact Nat.le_refl _ | (simp only [size_ic, Value.cells]; omega) | (simp; omega) | simp) (by first | omega | assumption | rfl | decide | exact Nat.le_refl _ | (simp only [size_ic, Value.cells]; omega) | (simp; omega) | simp) (by first | exact oneCell_ic | assumption) ?_ | refine WO_store Hvac.sizeOf113 rfl (v := .agg _) rfl (Hb.h (by repeat (first | assumption | exact Hb.newY _ _ | refine Hb.alloc ?_ | refine Hb.drew ?_ | refine Hb.ext (by assumption) ?_ | exact Hb.setSameL (by first | omega | (simp only [size_alloc, size_setB, size_drew]; omega)) | exact Hb.setSame (by assumption) | refine Hb.set (by first | omega | (simp only [size_alloc, size_setB, size_drew]; omega)) ?_ ))) (by first | omega | assumption | rfl | decide | exact Nat.le_refl _ | (simp only [size_ic, Value.cells]; omega) | (simp; omega) | simp) (by first | omega | assumption | rfl | decide | exact Nat.le_refl _ | (simp only [size_ic, Value.cells]; omega) | (simp; omega) | simp) (by first | exact oneCell_ic | assumption) ?_
    refine WO_nil ?_
    refine thn_normal ?_
    refine W_seq ?_
    refine W_region rfl ?_
    refine WO_p (PS_fieldAddr 0 Hvac.runUnderlying113 rfl Hvac.sizeOf25 rfl rfl) ?_
    refine WO_loadA _ Hvac.isAgg25 Hvac.sizeOf25 rfl (Hb.h (by repeat (first | assumption | exact Hb.newY _ _ | refine Hb.alloc ?_ | refine Hb.drew ?_ | refine Hb.ext (by assumption) ?_ | exact Hb.setSameL (by first | omega | (simp only [size_alloc, size_setB, size_drew]; omega)) | exact Hb.setSame (by assumption) | refine Hb.set (by first | omega | (simp only [size_alloc, size_setB, size_drew]; omega)) ?_ ))) (by first | omega | assumption | rfl | decide | exact Nat.le_refl _ | (simp only [size_ic, Value.cells]; omega) | (simp; omega) | simp) (Xt.h (by first | assumption | exact Xt.whole rfl rfl | exact Xt.whole rfl (by assumption) | exact Xt.whole rfl (by simp only [size_ic, Value.cells]; omega) | exact ⟨rfl⟩)) ?_
    refine WO_loadA _ Hvac.isAgg25 Hvac.sizeOf25 rfl (Hb.h (by repeat (first | assumption | exact Hb.newY _ _ | refine Hb.alloc ?_ | refine Hb.drew ?_ | refine Hb.ext (by assumption) ?_ | exact Hb.setSameL (by first | omega | (simp only [size_alloc, size_setB, size_drew]; omega)) | exact Hb.setSame (by assumption) | refine Hb.set (by first | omega | (simp only [size_alloc, size_setB, size_drew]; omega)) ?_ ))) (by first | omega | assumption | rfl | decide | exact Nat.le_refl _ | (simp only [size_ic, Value.cells]; omega) | (simp; omega) | simp) (Xt.h (by first | assumption | exact Xt.whole rfl rfl | exact Xt.whole rfl (by assumption) | exact Xt.whole rfl (by simp only [size_ic, Value.cells]; omega) | exact ⟨rfl⟩)) ?_
    refine WO_p (PS_eqlA Hvac.underlying25 Hvac.underlying5 Hvac.sizeOf5 Hvac.eqGuardType25 rfl rfl (by first | omega | assumption | rfl | decide | exact Nat.le_refl _ | (simp only [size_ic, Value.cells]; omega) | (simp; omega) | simp) (by first | omega | assumption | rfl | decide | exact Nat.le_refl _ | (simp only [size_ic, Value.cells]; omega) | (simp; omega) | simp)) ?_
    refine WO_p (PS_move_bool rfl) ?_
    refine WO_if (t := 22) rfl (fun hb4 => ?_) (fun hb4 => ?_)
    · have hb4p := hb4.h; try simp only [al_ete, al_dfn, Bool.not_eq_true', Bool.not_eq_false', al_ne, Bool.not_not, al_nn] at hb4p
      have hsa : x2.addr = A := hb4p
      refine WO_guardT rfl rfl hb4.h ?_
      refine WO_p (PS_fieldAddr 20 Hvac.runUnderlying113 rfl Hvac.sizeOf92 rfl rfl) ?_
      refine WO_guardT rfl rfl hb4.h ?_
      refine WO_load (.slice _ _ _) Hvac.isAgg92 rfl (Hb.h (by repeat (first | assumption | exact Hb.newY _ _ | refine Hb.alloc ?_ | refine Hb.drew ?_ | refine Hb.ext (by assumption) ?_ | exact Hb.setSameL (by first | omega | (simp only [size_alloc, size_setB, size_drew]; omega)) | exact Hb.setSame (by assumption) | refine Hb.set (by first | omega | (simp only [size_alloc, size_setB, size_drew]; omega)) ?_ ))) (Ce.h (by first | assumption | exact ⟨rfl⟩)) ?_
      refine WO_guardT rfl rfl hb4.h ?_
      refine WO_p (PS_move_slice rfl) ?_
      refine WO_guardT rfl rfl hb4.h ?_
      refine WO_call Hvac.call76 (by rfl) (Ret.mono (nCmp_spec (by first | exact NN.nil _ | assumption | exact NN.ext (by assumption) (by repeat (first | assumption | exact Ext.refl _ | refine Ext.alloc ?_ _ | refine Ext.drew ?_ | refine Ext.setB ?_ (by first | omega | (simp only [size_alloc, size_setB, size_drew]; omega)) _ | exact Ext.trans (by assumption) (by assumption) | refine Ext.trans ?_ (by assumption)))) (by first | exact NN.nil _ | assumption | exact NN.ext (by assumption) (by repeat (first | assumption | exact Ext.refl _ | refine Ext.alloc ?_ _ | refine Ext.drew ?_ | refine Ext.setB ?_ (by first | omega | (simp only [size_alloc, size_setB, size_drew]; omega)) _ | exact Ext.trans (by assumption) (by assumption) | refine Ext.trans ?_ (by assumption)))) (by first | assumption | omega | (rw [sz_zero]; omega)) (by first | assumption | omega | (rw [sz_zero]; omega))) ?_)
      rintro _ w76_4 ⟨hE76_4, rfl⟩
      have hz76_4 := hE76_4.1
      try simp only [size_alloc, size_setB, size_drew] at hz76_4
      refine WO_guardT rfl rfl hb4.h ?_
      refine WO_p (PS_eql rfl rfl) ?_
      refine WO_p (PS_pickT rfl hb4.h rfl) ?_
      refine WO_nil ?_
      refine thn_normal ?_
      refine W_if rfl (fun hb7 => ?_) (fun hb7 => ?_)
      · have hb7p := hb7.h; try simp only [al_ete, al_dfn, Bool.not_eq_true', Bool.not_eq_false', al_ne, Bool.not_not, al_nn] at hb7p
        have hhit : y2.1 = A ∧ y2.2.1 = k := ⟨by rw [hadx]; exact hsa, cmpI_eq.1 hb7p⟩
        refine W_seq ?_
        refine W_region rfl ?_
        refine WO_p (PS_fieldAddr 21 Hvac.runUnderlying113 rfl Hvac.sizeOf92 rfl rfl) ?_
        refine WO_load (.slice _ _ _) Hvac.isAgg92 rfl (Hb.h (by repeat (first | assumption | exact Hb.newY _ _ | refine Hb.alloc ?_ | refine Hb.drew ?_ | refine Hb.ext (by assumption) ?_ | exact Hb.setSameL (by first | omega | (simp only [size_alloc, size_setB, size_drew]; omega)) | exact Hb.setSame (by assumption) | refine Hb.set (by first | omega | (simp only [size_alloc, size_setB, size_drew]; omega)) ?_ ))) (Ce.h (by first | assumption | exact ⟨rfl⟩)) ?_
        refine WO_p (PS_assign_slice rfl) ?_
        refine WO_nil ?_
        refine thn_normal ?_
        refine W_ret ?_
        refine inBlk_ret ?_
        refine thn_ret ?_
        refine thn_ret ?_
        refine inBlk_ret ?_
        refine thn_ret ?_
        refine bodyQ_ret1 Hvac.results354 rfl (.slice _ _ _) rfl ?_
        first
        | (rw [ytl_hit hno hy2 hhit]
           exact ⟨(by repeat (first | assumption | exact Ext.refl _ | refine Ext.alloc ?_ _ | refine Ext.drew ?_ | refine Ext.setB ?_ (by first | omega | (simp only [size_alloc, size_setB, size_drew]; omega)) _ | refine Ext.trans ?_ (by assumption))), x2.val, rfl, NN.ext hvn (by repeat (first | assumption | exact Ext.refl _ | refine Ext.alloc ?_ _ | refine Ext.drew ?_ | refine Ext.setB ?_ (by first | omega | (simp only [size_alloc, size_setB, size_drew]; omega)) _ | refine Ext.trans ?_ (by assumption))), hvz⟩)
        | (rw [ytl_miss (fun j z hz => hno j z (by have := lt_of_getElem? hz; omega) hz)]
           exact ⟨(by repeat (first | assumption | exact Ext.refl _ | refine Ext.alloc ?_ _ | refine Ext.drew ?_ | refine Ext.setB ?_ (by first | omega | (simp only [size_alloc, size_setB, size_drew]; omega)) _ | refine Ext.trans ?_ (by assumption))), (none, 0, 0), rfl, NN.nil _, by rw [sz_zero]; omega⟩)
      · have hb7p := hb7.h; try simp only [al_ete, al_dfn, Bool.not_eq_true', Bool.not_eq_false', al_ne, Bool.not_not, al_nn] at hb7p
        have hne : ¬ (y2.1 = A ∧ y2.2.1 = k) := fun h9 => hb7p (cmpI_eq.2 h9.2)
        refine W_skip ?_
        refine inBlk_normal ?_
        refine thn_normal ?_
        refine W_region rfl ?_
        refine WO_p (PS_add_i64n rfl rfl (by omega) (by omega)) ?_
        refine WO_p (PS_move_int rfl) ?_
        refine WO_nil ?_
        refine thn_normal ?_
        exact ⟨k2 - 1, by omega, i + 1, by omega, fun j z hj hz => by
          rcases Nat.lt_or_ge j i with h3 | h3
          · exact hno j z h3 hz
          · rw [show j = i by omega, hy2] at hz; rw [← Option.some.inj hz]; exact hne, ⟨rfl, rfl, rfl, rfl, congrArg (Value.int .i64) (by omega), trivial⟩, (by repeat (first | assumption | exact Ext.refl _ | refine Ext.alloc ?_ _ | refine Ext.drew ?_ | refine Ext.setB ?_ (by first | omega | (simp only [size_alloc, size_setB, size_drew]; omega)) _ | refine Ext.trans ?_ (by assumption))), Hb.mk (Hb.h (by repeat (first | assumption | exact Hb.newY _ _ | refine Hb.alloc ?_ | refine Hb.drew ?_ | refine Hb.ext (by assumption) ?_ | exact Hb.setSameL (by first | omega | (simp only [size_alloc, size_setB, size_drew]; omega)) | exact Hb.setSame (by assumption) | refine Hb.set (by first | omega | (simp only [size_alloc, size_setB, size_drew]; omega)) ?_ )))⟩
    · have hb4p := hb4.h; try simp only [al_ete, al_dfn, Bool.not_eq_true', Bool.not_eq_false', al_ne, Bool.not_not, al_nn] at hb4p
      have hne : ¬ (y2.1 = A ∧ y2.2.1 = k) := fun h9 => hb4p (by rw [← hadx]; exact h9.1)
      refine WO_guardF rfl rfl hb4.h ?_
      refine WO_guardF rfl rfl hb4.h ?_
      refine WO_guardF rfl rfl hb4.h ?_
      refine WO_guardF rfl rfl hb4.h ?_
      refine WO_guardF rfl rfl hb4.h ?_
      refine WO_p (PS_pickF rfl hb4.h rfl) ?_
      refine WO_nil ?_
      refine thn_normal ?_
      refine W_condF rfl rfl ?_
      refine W_skip ?_
      refine inBlk_normal ?_
      refine thn_normal ?_
      refine W_region rfl ?_
      refine WO_p (PS_add_i64n rfl rfl (by omega) (by omega)) ?_
      refine WO_p (PS_move_int rfl) ?_
      refine WO_nil ?_
      refine thn_normal ?_
      exact ⟨k2 - 1, by omega, i + 1, by omega, fun j z hj hz => by
        rcases Nat.lt_or_ge j i with h3 | h3
        · exact hno j z h3 hz
        · rw [show j = i by omega, hy2] at hz; rw [← Option.some.inj hz]; exact hne, ⟨rfl, rfl, rfl, rfl, congrArg (Value.int .i64) (by omega), trivial⟩, (by repeat (first | assumption | exact Ext.refl _ | refine Ext.alloc ?_ _ | refine Ext.drew ?_ | refine Ext.setB ?_ (by first | omega | (simp only [size_alloc, size_setB, size_drew]; omega)) _ | refine Ext.trans ?_ (by assumption))), Hb.mk (Hb.h (by repeat (first | assumption | exact Hb.newY _ _ | refine Hb.alloc ?_ | refine Hb.drew ?_ | refine Hb.ext (by assumption) ?_ | exact Hb.setSameL (by first | omega | (simp only [size_alloc, size_setB, size_drew]; omega)) | exact Hb.setSame (by assumption) | refine Hb.set (by first | omega | (simp only [size_alloc, size_setB, size_drew]; omega)) ?_ )))⟩
  · have hb2p := hb2.h; try simp only [al_ete, al_dfn, Bool.not_eq_true', Bool.not_eq_false', al_ne, Bool.not_not, al_nn] at hb2p
    refine W_exit ?_
    refine thn_exit ?_
    refine thn_exit ?_
    refine inBlk_exit ?_
    refine thn_normal ?_
    refine W_seq ?_
    refine W_region rfl ?_
    refine WO_p (PS_assign_slice rfl) ?_
    refine WO_nil ?_
    refine thn_normal ?_
    refine W_ret ?_
    refine bodyQ_ret1 Hvac.results354 rfl (.slice _ _ _) rfl ?_
    first
    | (rw [ytl_hit hno hy2 hhit]
       exact ⟨(by repeat (first | assumption | exact Ext.refl _ | refine Ext.alloc ?_ _ | refine Ext.drew ?_ | refine Ext.setB ?_ (by first | omega | (simp only [size_alloc, size_setB, size_drew]; omega)) _ | refine Ext.trans ?_ (by assumption))), x2.val, rfl, NN.ext hvn (by repeat (first | assumption | exact Ext.refl _ | refine Ext.alloc ?_ _ | refine Ext.drew ?_ | refine Ext.setB ?_ (by first | omega | (simp only [size_alloc, size_setB, size_drew]; omega)) _ | refine Ext.trans ?_ (by assumption))), hvz⟩)
    | (rw [ytl_miss (fun j z hz => hno j z (by have := lt_of_getElem? hz; omega) hz)]
       exact ⟨(by repeat (first | assumption | exact Ext.refl _ | refine Ext.alloc ?_ _ | refine Ext.drew ?_ | refine Ext.setB ?_ (by first | omega | (simp only [size_alloc, size_setB, size_drew]; omega)) _ | refine Ext.trans ?_ (by assumption))), (none, 0, 0), rfl, NN.nil _, by rw [sz_zero]; omega⟩)

set_option maxRecDepth 10000 in
set_option maxHeartbeats 4000000 in
theorem yWarmS_spec [Om] (w : World) (hO : OmB w) (S : Nat) (c : Array Value) (T : TypeId) (s : SV) (l : List (List Int × Nat)) (hS : Hb w S (.cells c T (0, 0))) (hc : Ce c (0 + 2) (.slice s.1 s.2.1 s.2.2)) (hl : MksR w s l) (hl8 : s.2.1 ≤ 100000000) (A : List Int) (hA : By A 20) (kp : Option Addr) (kn kc k : Nat) (hk : NN w (kp, kn, kc) k) (zk : sz k ≤ 32) (hSo : Om.p S) (hc0 : 2 < c.size) : Ret Hvac.prog 28 #[.pointer (some ⟨S, 0, none⟩), .agg (ic .u8 A), .slice kp kn kc] w fun u w' => u = .tuple #[] ∧ KeepO (fun b => b = S) w w' ∧ ∃ s' : SV, Hb w' S (.cells (c.setIfInBounds (0 + 2) (.slice s'.1 s'.2.1 s'.2.2)) T (0, 0)) ∧ MksR w' s' (ymk l A k) := by
  have hl0 := hl
  have hc00 := hc
  have hl80 := hl8
  have hAl := hA.1
  have hSl := hS.lt
  obtain ⟨p, n, cp⟩ := s
  obtain ⟨L, hPL, hR⟩ := hl
  have hn := hPL.len
  dsimp only at hn hc hl8
  have hR1 := hR.1
  have hKVl : (encYM ⟨A, (kp, kn, kc)⟩).length = 21 := encYM_len hAl
  refine Ret_of_W Hvac.func28 rfl rfl ?_
  refine W_seq ?_
  refine W_region rfl ?_
  refine WO_boxG (.agg _) rfl ?_
  intro b4 v4 hg4 hE4 hH4 hl4
  try simp only [size_alloc, size_setB, size_drew] at hg4
  have hzz4 := hE4.1
  try simp only [size_alloc, size_setB, size_drew] at hzz4
  refine WO_nil ?_
  refine thn_normal ?_
  refine W_seq ?_
  refine W_seq ?_
  refine W_region rfl ?_
  refine WO_p (PS_move_ptr rfl) ?_
  refine WO_loadA _ Hvac.isAgg25 Hvac.sizeOf25 rfl (Hb.h (by repeat (first | assumption | exact Hb.newY _ _ | refine Hb.alloc ?_ | refine Hb.drew ?_ | refine Hb.ext (by assumption) ?_ | exact Hb.setSameL (by first | omega | (simp only [size_alloc, size_setB, size_drew]; omega)) | exact Hb.setSame (by assumption) | refine Hb.set (by first | omega | (simp only [size_alloc, size_setB, size_drew]; omega)) ?_ ))) (by first | omega | assumption | rfl | decide | exact Nat.le_refl _ | (simp only [size_ic, Value.cells]; omega) | (simp; omega) | simp) (Xt.h (by first | assumption | exact Xt.whole rfl rfl | exact Xt.whole rfl (by assumption) | exact Xt.whole rfl (by simp only [size_ic, Value.cells]; omega) | exact ⟨rfl⟩)) ?_
  refine WO_p (PS_move_slice rfl) ?_
  refine WO_call Hvac.call89 (by rfl) (Ret.mono (yIsWarmS_spec _ (OmB.ext hO (by repeat (first | assumption | exact Ext.refl _ | refine Ext.alloc ?_ _ | refine Ext.drew ?_ | refine Ext.setB ?_ (by first | omega | (simp only [size_alloc, size_setB, size_drew]; omega)) _ | exact Ext.trans (by assumption) (by assumption) | refine Ext.trans ?_ (by assumption)))) S c T (p, n, cp) l (Hb.mk (Hb.h (by repeat (first | assumption | exact Hb.newY _ _ | refine Hb.alloc ?_ | refine Hb.drew ?_ | refine Hb.ext (by assumption) ?_ | exact Hb.setSameL (by first | omega | (simp only [size_alloc, size_setB, size_drew]; omega)) | exact Hb.setSame (by assumption) | refine Hb.set (by first | omega | (simp only [size_alloc, size_setB, size_drew]; omega)) ?_ )))) hc00 (MksR.ext hl0 (by repeat (first | assumption | exact Ext.refl _ | refine Ext.alloc ?_ _ | refine Ext.drew ?_ | refine Ext.setB ?_ (by first | omega | (simp only [size_alloc, size_setB, size_drew]; omega)) _ | exact Ext.trans (by assumption) (by assumption) | refine Ext.trans ?_ (by assumption)))) hl80 _ (by assumption) _ _ _ _ (by first | exact NN.nil _ | assumption | exact NN.ext (by assumption) (by repeat (first | assumption | exact Ext.refl _ | refine Ext.alloc ?_ _ | refine Ext.drew ?_ | refine Ext.setB ?_ (by first | omega | (simp only [size_alloc, size_setB, size_drew]; omega)) _ | exact Ext.trans (by assumption) (by assumption) | refine Ext.trans ?_ (by assumption)))) (by first | assumption | omega | (rw [sz_zero]; omega))) ?_)
  rintro _ w89_0 ⟨hE89_0, rfl⟩
  have hz89_0 := hE89_0.1
  try simp only [size_alloc, size_setB, size_drew] at hz89_0
  refine WO_nil ?_
  refine thn_normal ?_
  refine W_if rfl (fun hb2 => ?_) (fun hb2 => ?_)
  · have hb2p := hb2.h; try simp only [al_ete, al_dfn, Bool.not_eq_true', Bool.not_eq_false', al_ne, Bool.not_not, al_nn] at hb2p
    have hmem : (A, k) ∈ l := by simpa using hb2p
    refine W_ret ?_
    refine thn_ret ?_
    first | refine bodyQ_ret0 Hvac.results28 ?_ | refine bodyQ_end0 Hvac.results28 ?_
    first
    | (refine ⟨rfl, Ext.keepO (by repeat (first | assumption | exact Ext.refl _ | refine Ext.alloc ?_ _ | refine Ext.drew ?_ | refine Ext.setB ?_ (by first | omega | (simp only [size_alloc, size_setB, size_drew]; omega)) _ | refine Ext.trans ?_ (by assumption))) _, (p, n, cp), ?_, ?_⟩; (rw [setIf_self hc00]; exact Hb.mk (Hb.h (by repeat (first | assumption | exact Hb.newY _ _ | refine Hb.alloc ?_ | refine Hb.drew ?_ | refine Hb.ext (by assumption) ?_ | exact Hb.setSameL (by first | omega | (simp only [size_alloc, size_setB, size_drew]; omega)) | exact Hb.setSame (by assumption) | refine Hb.set (by first | omega | (simp only [size_alloc, size_setB, size_drew]; omega)) ?_ )))); unfold ymk; rw [if_pos hmem]; exact MksR.ext hl0 (by repeat (first | assumption | exact Ext.refl _ | refine Ext.alloc ?_ _ | refine Ext.drew ?_ | refine Ext.setB ?_ (by first | omega | (simp only [size_alloc, size_setB, size_drew]; omega)) _ | refine Ext.trans ?_ (by assumption))))
    | ($FI)
  · have hb2p := hb2.h; try simp only [al_ete, al_dfn, Bool.not_eq_true', Bool.not_eq_false', al_ne, Bool.not_not, al_nn] at hb2p
    have hmem : (A, k) ∉ l := by simpa using hb2p
    refine W_skip ?_
    refine thn_normal ?_
    refine W_seq ?_
    refine W_region rfl ?_
    refine WO_p (PS_assign_slice rfl) ?_
    refine WO_nil ?_
    refine thn_normal ?_
    refine W_seq ?_
    refine W_region rfl ?_
    refine WO_p (PS_assign_bool rfl) ?_
    refine WO_nil ?_
    refine thn_normal ?_
    refine W_seq ?_
    refine W_seq ?_
    refine W_region rfl ?_
    refine WO_p (PS_move_ptr rfl) ?_
    refine WO_p (PS_nilCheck rfl) ?_
    refine WO_p (PS_fieldAddr 2 Hvac.runUnderlying95 rfl Hvac.sizeOf91 rfl rfl) ?_
    refine WO_load (.slice _ _ _) Hvac.isAgg91 rfl (Hb.h (by repeat (first | assumption | exact Hb.newY _ _ | refine Hb.alloc ?_ | refine Hb.drew ?_ | refine Hb.ext (by assumption) ?_ | exact Hb.setSameL (by first | omega | (simp only [size_alloc, size_setB, size_drew]; omega)) | exact Hb.setSame (by assumption) | refine Hb.set (by first | omega | (simp only [size_alloc, size_setB, size_drew]; omega)) ?_ ))) (Ce.h (by first | assumption | exact ⟨rfl⟩)) ?_
    refine WO_p (PS_lenS Hvac.runUnderlying91 rfl) ?_
    refine WO_p (PS_move_int rfl) ?_
    refine WO_nil ?_
    refine thn_normal ?_
    refine W_block ?_
    refine W_loopN (fun k9 ρ w' => ∃ (i : Nat) (laid : Bool) (so : Option (Nat × Nat)) (K : List YMk) (m : List (List Int × Nat)), i + k9 = n ∧ K.length ≤ 2 * i ∧ R2 (MkR w) K m ∧ m ++ ymkGo A k laid (l.drop i) = ymkGo A k false l ∧ BL encYM 21 181 w [b4] w' so K ∧ Fr [(0, .pointer (some ⟨S, 0, none⟩)), (2, .slice kp kn kc), (4, .pointer (some ⟨b4, 0, none⟩)), (6, .slice (slp so) K.length (slc so)), (7, .bool laid), (17, .slice p n cp), (18, .int .i64 n), (19, .int .i64 i)] ρ ∧ Ext w w' ∧ Hb w' b4 (.cells (ic .u8 A) 25 (0, 0))) n ?_ ?_
    · exact ⟨0, _, none, [], [], by omega, by simp, R2.nil _, rfl, BL.nil _ _ _ _ _ _, ⟨rfl, rfl, rfl, rfl, rfl, rfl, rfl, rfl, trivial⟩, (by repeat (first | assumption | exact Ext.refl _ | refine Ext.alloc ?_ _ | refine Ext.drew ?_ | refine Ext.setB ?_ (by first | omega | (simp only [size_alloc, size_setB, size_drew]; omega)) _ | refine Ext.trans ?_ (by assumption))), Hb.mk (Hb.h (by repeat (first | assumption | exact Hb.newY _ _ | refine Hb.alloc ?_ | refine Hb.drew ?_ | refine Hb.ext (by assumption) ?_ | exact Hb.setSameL (by first | omega | (simp only [size_alloc, size_setB, size_drew]; omega)) | exact Hb.setSame (by assumption) | refine Hb.set (by first | omega | (simp only [size_alloc, size_setB, size_drew]; omega)) ?_ )))⟩
    intro k3 ρ3 w3 hI3
    obtain ⟨i, laid, so, K, m, hik, hK8, hKm, hgo, hBL, hFr3, hE3, hb4k⟩ := hI3
    refine W_env _ hFr3 ?_
    have hz3 := hE3.1
    have hb4k_l := hb4k.lt
    refine W_seq ?_
    refine W_region rfl ?_
    refine WO_p (PS_lss rfl rfl) ?_
    refine WO_nil ?_
    refine thn_normal ?_
    refine W_seq ?_
    refine W_if rfl (fun hb4 => ?_) (fun hb4 => ?_)
    · have hb4p := hb4.h; try simp only [al_ete, al_dfn, Bool.not_eq_true', Bool.not_eq_false', al_ne, Bool.not_not, al_nn] at hb4p
      obtain ⟨x2, y2, hx2, hy2, hxy2⟩ := hR.get (i := i) (by omega)
      have hxl2 : x2.addr.length = 20 := by rw [hxy2.addr]; exact hxy2.ab.1
      have hxE2 := encYM_len hxl2
      obtain ⟨b, r, fz2, hp, hb, hrs, hXi⟩ := pl_at (hPL.ext hE3) hx2 hxE2
      subst hp
      have hX2 := encYM_addr hxl2
      have hk1 := encYM_1 hxl2
      have hone2 := one_YM2 x2
      have hsz2 : (encYM x2).toArray.size = 21 := by simpa using hxE2
      have hab2 := hxy2.ab
      rw [← hxy2.addr] at hab2
      have hadx : y2.1 = x2.addr := hxy2.addr.symm
      have hkn := hxy2.key
      have hkz := hxy2.kz
      refine W_skip ?_
      refine thn_normal ?_
      refine W_seq ?_
      refine W_block ?_
      refine W_seq ?_
      refine W_region rfl ?_
      refine WO_p (PS_indexS Hvac.runUnderlying91 Hvac.sizeOf181 rfl rfl (by omega) (by omega)) ?_
      refine WO_loadA _ Hvac.isAgg181 Hvac.sizeOf181 rfl (Hb.h (by repeat (first | assumption | exact Hb.newY _ _ | refine Hb.alloc ?_ | refine Hb.drew ?_ | refine Hb.ext (by assumption) ?_ | exact Hb.setSameL (by first | omega | (simp only [size_alloc, size_setB, size_drew]; omega)) | exact Hb.setSame (by assumption) | refine Hb.set (by first | omega | (simp only [size_alloc, size_setB, size_drew]; omega)) ?_ ))) (by first | omega | assumption | rfl | decide | exact Nat.le_refl _ | (simp only [size_ic, Value.cells]; omega) | (simp; omega) | simp) (Xt.h (by first | assumption | exact Xt.whole rfl rfl | exact Xt.whole rfl (by assumption) | exact Xt.whole rfl (by simp only [size_ic, Value.cells]; omega) | exact ⟨rfl⟩)) ?_
      refine WO_allocG Hvac.zeroValue181 ?_
      intro b9 v9 hg9 hE9 hH9 hl9
      try simp only [size_alloc, size_setB, size_drew] at hg9
      have hzz9 := hE9.1
      try simp only [size_alloc, size_setB, size_drew] at hzz9
      replace hH9 : Hb v9 b9 (.cells ((encYM ⟨List.replicate 20 0, (none, 0, 0)⟩).toArray) 181 (0, 0)) := hH9
      first | refine WO_storeW Hvac.sizeOf181 rfl (v := .agg _) rfl (Hb.h (by repeat (first | assumption | exact Hb.newY _ _ | refine Hb.alloc ?_ | refine Hb.drew ?_ | refine Hb.ext (by assumption) ?_ | exact Hb.setSameL (by first | omega | (simp only [size_alloc, size_setB, size_drew]; omega)) | exact Hb.setSame (by assumption) | refine Hb.set (by first | omega | (simp only [size_alloc, size_setB, size_drew]; omega)) ?_ ))) rfl (by first | omega | assumption | rfl | decide | exact Nat.le_refl _ | (simp only [size_ic, Value.cells]; omega) | (simp; omega) | simp) (by first | omega | assumption | rfl | decide | exact Nat.le_refl _ | (simp only [size_ic, Value.cells]; omega) | (simp; omega) | simp) (by first | exact oneCell_ic | assumption) ?_ | refine WO_store Hvac.sizeOf181 rfl (v := .agg _) rfl (Hb.h (by repeat (first | assumption | exact Hb.newY _ _ | refine Hb.alloc ?_ | refine Hb.drew ?_ | refine Hb.ext (by assumption) ?_ | exact Hb.setSameL (by first | omega | (simp only [size_alloc, size_setB, size_drew]; omega)) | exact Hb.setSame (by assumption) | refine Hb.set (by first | omega | (simp only [size_alloc, size_setB, size_drew]; omega)) ?_ ))) (by first | omega | assumption | rfl | decide | exact Nat.le_refl _ | (simp only [size_ic, Value.cells]; omega) | (simp; omega) | simp) (by first | omega | assumption | rfl | decide | exact Nat.le_refl _ | (simp only [size_ic, Value.cells]; omega) | (simp; omega) | simp) (by first | exact oneCell_ic | assumption) ?_
      refine WO_nil ?_
      refine thn_normal ?_
      refine W_seqJ (fun ρ w' => ∃ (so2 : Option (Nat × Nat)) (K2 : List YMk) (m2 : List (List Int × Nat)), m2 = m ++ (if (!laid && ymIns A k y2) then [(A, k)] else []) ∧ K2.length ≤ K.length + 1 ∧ R2 (MkR w) K2 m2 ∧ BL encYM 21 181 w [b9, b4] w' so2 K2 ∧ Fr [(0, .pointer (some ⟨S, 0, none⟩)), (2, .slice kp kn kc), (4, .pointer (some ⟨b4, 0, none⟩)), (6, .slice (slp so2) K2.length (slc so2)), (7, .bool (laid || (!laid && ymIns A k y2))), (9, .pointer (some ⟨b9, 0, none⟩)), (17, .slice (some ⟨b, 0, none⟩) n cp), (18, .int .i64 n), (19, .int .i64 i)] ρ ∧ Ext w w' ∧ Hb w' b4 (.cells (ic .u8 A) 25 (0, 0)) ∧ Hb w' b9 (.cells (encYM x2).toArray 181 (0, 0))) ?_ ?_
      · skip
        refine W_seq ?_
        refine W_gen fun w7 hw7 => ?_
        have hBL7 : BL encYM 21 181 w [b9, b4] w7 so K := by rw [hw7]; exact ((hBL.cons hg9).ext hE9).set (Or.inl (by simp)) _
        have hb4_7 : Hb w7 b4 (.cells (ic .u8 A) 25 (0, 0)) := by rw [hw7]; exact Hb.set (by omega) (hb4k.ext hE9)
        have hb9_7 : Hb w7 b9 (.cells (encYM x2).toArray 181 (0, 0)) := by rw [hw7]; exact Hb.setSame hH9
        have hE37 : Ext w3 w7 := by rw [hw7]; exact Ext.setB hE9 (by omega) _
        have hE7 : Ext w w7 := hE3.trans hE37
        have hz7 := hE7.1
        have hb9l7 := hb9_7.lt
        have hb4l7 := hb4_7.lt
        clear hw7
        refine W_region rfl ?_
        refine WO_p (PS_move_bool rfl) ?_
        refine WO_p (PS_not rfl) ?_
        refine WO_p (PS_move_bool rfl) ?_
        refine WO_if (t := 25) rfl (fun hb7 => ?_) (fun hb7 => ?_)
        · have hb7p := hb7.h; try simp only [al_ete, al_dfn, Bool.not_eq_true', Bool.not_eq_false', al_ne, Bool.not_not, al_nn] at hb7p
          have hlaid : laid = false := by simpa using hb7p
          refine WO_guardT rfl rfl hb7.h ?_
          refine WO_loadA _ Hvac.isAgg25 Hvac.sizeOf25 rfl (Hb.h (by repeat (first | assumption | exact Hb.newY _ _ | refine Hb.alloc ?_ | refine Hb.drew ?_ | refine Hb.ext (by assumption) ?_ | exact Hb.setSameL (by first | omega | (simp only [size_alloc, size_setB, size_drew]; omega)) | exact Hb.setSame (by assumption) | refine Hb.set (by first | omega | (simp only [size_alloc, size_setB, size_drew]; omega)) ?_ ))) (by first | omega | assumption | rfl | decide | exact Nat.le_refl _ | (simp only [size_ic, Value.cells]; omega) | (simp; omega) | simp) (Xt.h (by first | assumption | exact Xt.whole rfl rfl | exact Xt.whole rfl (by assumption) | exact Xt.whole rfl (by simp only [size_ic, Value.cells]; omega) | exact ⟨rfl⟩)) ?_
          refine WO_guardT rfl rfl hb7.h ?_
          refine WO_p (PS_fieldAddr 0 Hvac.runUnderlying181 rfl Hvac.sizeOf25 rfl rfl) ?_
          refine WO_guardT rfl rfl hb7.h ?_
          refine WO_loadA _ Hvac.isAgg25 Hvac.sizeOf25 rfl (Hb.h (by repeat (first | assumption | exact Hb.newY _ _ | refine Hb.alloc ?_ | refine Hb.drew ?_ | refine Hb.ext (by assumption) ?_ | exact Hb.setSameL (by first | omega | (simp only [size_alloc, size_setB, size_drew]; omega)) | exact Hb.setSame (by assumption) | refine Hb.set (by first | omega | (simp only [size_alloc, size_setB, size_drew]; omega)) ?_ ))) (by first | omega | assumption | rfl | decide | exact Nat.le_refl _ | (simp only [size_ic, Value.cells]; omega) | (simp; omega) | simp) (Xt.h (by first | assumption | exact Xt.whole rfl rfl | exact Xt.whole rfl (by assumption) | exact Xt.whole rfl (by simp only [size_ic, Value.cells]; omega) | exact ⟨rfl⟩)) ?_
          refine WO_guardT rfl rfl hb7.h ?_
          refine WO_call Hvac.call90 (by rfl) (Ret.mono (yBefore_spec _ (OmB.ext hO (by repeat (first | assumption | exact Ext.refl _ | refine Ext.alloc ?_ _ | refine Ext.drew ?_ | refine Ext.setB ?_ (by first | omega | (simp only [size_alloc, size_setB, size_drew]; omega)) _ | exact Ext.trans (by assumption) (by assumption) | refine Ext.trans ?_ (by assumption)))) _ _ (by assumption) (by assumption)) ?_)
          rintro _ w90_7 ⟨hE90_7, rfl⟩
          have hz90_7 := hE90_7.1
          try simp only [size_alloc, size_setB, size_drew] at hz90_7
          refine WO_guardT rfl rfl hb7.h ?_
          refine WO_p (PS_move_bool rfl) ?_
          refine WO_if (t := 30) rfl (fun hb10 => ?_) (fun hb10 => ?_)
          · have hb10p := hb10.h; try simp only [al_ete, al_dfn, Bool.not_eq_true', Bool.not_eq_false', al_ne, Bool.not_not, al_nn] at hb10p
            have hb30 : yless A x2.addr = true := hb10p
            have hbf : ymIns A k y2 = true := by unfold ymIns; rw [hadx, hb30]; rfl
            refine WO_guardF rfl rfl hb10.h ?_
            refine WO_guardF rfl rfl hb10.h ?_
            refine WO_guardF rfl rfl hb10.h ?_
            refine WO_guardF rfl rfl hb10.h ?_
            refine WO_guardF rfl rfl hb10.h ?_
            refine WO_guardU rfl rfl ?_
            refine WO_guardU rfl rfl ?_
            refine WO_guardU rfl rfl ?_
            refine WO_guardU rfl rfl ?_
            refine WO_guardU rfl rfl ?_
            refine WO_guardF rfl rfl hb10.h ?_
            refine WO_guardT rfl rfl hb7.h ?_
            refine WO_p (PS_pickT rfl hb10.h rfl) ?_
            refine WO_p (PS_pickT rfl hb7.h rfl) ?_
            refine WO_nil ?_
            refine thn_normal ?_
            refine W_condT rfl rfl ?_
            refine W_seq ?_
            refine W_region rfl ?_
            refine WO_p (PS_move_slice rfl) ?_
            refine WO_loadA _ Hvac.isAgg25 Hvac.sizeOf25 rfl (Hb.h (by repeat (first | assumption | exact Hb.newY _ _ | refine Hb.alloc ?_ | refine Hb.drew ?_ | refine Hb.ext (by assumption) ?_ | exact Hb.setSameL (by first | omega | (simp only [size_alloc, size_setB, size_drew]; omega)) | exact Hb.setSame (by assumption) | refine Hb.set (by first | omega | (simp only [size_alloc, size_setB, size_drew]; omega)) ?_ ))) (by first | omega | assumption | rfl | decide | exact Nat.le_refl _ | (simp only [size_ic, Value.cells]; omega) | (simp; omega) | simp) (Xt.h (by first | assumption | exact Xt.whole rfl rfl | exact Xt.whole rfl (by assumption) | exact Xt.whole rfl (by simp only [size_ic, Value.cells]; omega) | exact ⟨rfl⟩)) ?_
            refine WO_p (PS_move_slice rfl) ?_
            refine WO_p (PS_b181 (A := A) rfl hAl rfl) ?_
            refine WO_buildSlice1 Hvac.runUnderlying91 Hvac.sizeOf181 Hvac.zeroValue181 rfl (by first | omega | assumption | rfl | decide | exact Nat.le_refl _ | (simp only [size_ic, Value.cells]; omega) | (simp; omega) | simp) (by decide) (by decide) ?_
            refine WO_app (YMk.mk A (kp, kn, kc)) ap_YM (BL.ext hBL7 (by repeat (first | assumption | exact Ext.refl _ | refine Ext.alloc ?_ _ | refine Ext.drew ?_ | refine Ext.setB ?_ (by first | omega | (simp only [size_alloc, size_setB, size_drew]; omega)) _ | exact Ext.trans (by assumption) (by assumption) | refine Ext.trans ?_ (by assumption)))) (by repeat (first | assumption | exact Ext.refl _ | refine Ext.alloc ?_ _ | refine Ext.drew ?_ | refine Ext.setB ?_ (by first | omega | (simp only [size_alloc, size_setB, size_drew]; omega)) _ | exact Ext.trans (by assumption) (by assumption) | refine Ext.trans ?_ (by assumption))) (fm2 (by first | omega | (simp only [size_alloc, size_setB, size_drew]; omega)) (by first | omega | (simp only [size_alloc, size_setB, size_drew]; omega))) (by omega) (encYM_len hAl) (Hb.newY _ _) rfl rfl ?_
            intro soA wA hBA hEA hkA hzA
            try simp only [size_alloc, size_setB, size_drew] at hzA
            have hb4_A := hkA b4 _ (by simp) (Hb.mk (Hb.h (by repeat (first | assumption | exact Hb.newY _ _ | refine Hb.alloc ?_ | refine Hb.drew ?_ | refine Hb.ext (by assumption) ?_ | exact Hb.setSameL (by first | omega | (simp only [size_alloc, size_setB, size_drew]; omega)) | exact Hb.setSame (by assumption) | refine Hb.set (by first | omega | (simp only [size_alloc, size_setB, size_drew]; omega)) ?_ ))) : Hb _ b4 (.cells (ic .u8 A) 25 (0, 0)))
            have hb9_A := hkA b9 _ (by simp) (Hb.mk (Hb.h (by repeat (first | assumption | exact Hb.newY _ _ | refine Hb.alloc ?_ | refine Hb.drew ?_ | refine Hb.ext (by assumption) ?_ | exact Hb.setSameL (by first | omega | (simp only [size_alloc, size_setB, size_drew]; omega)) | exact Hb.setSame (by assumption) | refine Hb.set (by first | omega | (simp only [size_alloc, size_setB, size_drew]; omega)) ?_ ))) : Hb _ b9 (.cells (encYM x2).toArray 181 (0, 0)))
            refine WO_p (PS_assign_slice rfl) ?_
            refine WO_nil ?_
            refine thn_normal ?_
            refine W_region rfl ?_
            refine WO_p (PS_assign_bool rfl) ?_
            refine WO_nil ?_
            refine thn_normal ?_
            refine ⟨soA, K ++ [(YMk.mk A (kp, kn, kc))], m ++ [(A, k)], ?_, by simp, hKm.snoc ⟨rfl, hA, hk, zk⟩, hBA, ⟨rfl, rfl, rfl, rfl, ?_, rfl, rfl, rfl, rfl, trivial⟩, hEA, hb4_A, hb9_A⟩; (simp [hlaid, hbf]); (show Value.bool _ = _; simp [hlaid, hbf])
          · have hb10p := hb10.h; try simp only [al_ete, al_dfn, Bool.not_eq_true', Bool.not_eq_false', al_ne, Bool.not_not, al_nn] at hb10p
            have hb30 : yless A x2.addr = false := hb10p
            refine WO_guardT rfl rfl hb10.h ?_
            refine WO_loadA _ Hvac.isAgg25 Hvac.sizeOf25 rfl (Hb.h (by repeat (first | assumption | exact Hb.newY _ _ | refine Hb.alloc ?_ | refine Hb.drew ?_ | refine Hb.ext (by assumption) ?_ | exact Hb.setSameL (by first | omega | (simp only [size_alloc, size_setB, size_drew]; omega)) | exact Hb.setSame (by assumption) | refine Hb.set (by first | omega | (simp only [size_alloc, size_setB, size_drew]; omega)) ?_ ))) (by first | omega | assumption | rfl | decide | exact Nat.le_refl _ | (simp only [size_ic, Value.cells]; omega) | (simp; omega) | simp) (Xt.h (by first | assumption | exact Xt.whole rfl rfl | exact Xt.whole rfl (by assumption) | exact Xt.whole rfl (by simp only [size_ic, Value.cells]; omega) | exact ⟨rfl⟩)) ?_
            refine WO_guardT rfl rfl hb10.h ?_
            refine WO_p (PS_fieldAddr 0 Hvac.runUnderlying181 rfl Hvac.sizeOf25 rfl rfl) ?_
            refine WO_guardT rfl rfl hb10.h ?_
            refine WO_loadA _ Hvac.isAgg25 Hvac.sizeOf25 rfl (Hb.h (by repeat (first | assumption | exact Hb.newY _ _ | refine Hb.alloc ?_ | refine Hb.drew ?_ | refine Hb.ext (by assumption) ?_ | exact Hb.setSameL (by first | omega | (simp only [size_alloc, size_setB, size_drew]; omega)) | exact Hb.setSame (by assumption) | refine Hb.set (by first | omega | (simp only [size_alloc, size_setB, size_drew]; omega)) ?_ ))) (by first | omega | assumption | rfl | decide | exact Nat.le_refl _ | (simp only [size_ic, Value.cells]; omega) | (simp; omega) | simp) (Xt.h (by first | assumption | exact Xt.whole rfl rfl | exact Xt.whole rfl (by assumption) | exact Xt.whole rfl (by simp only [size_ic, Value.cells]; omega) | exact ⟨rfl⟩)) ?_
            refine WO_guardT rfl rfl hb10.h ?_
            refine WO_p (PS_eqlA Hvac.underlying25 Hvac.underlying5 Hvac.sizeOf5 Hvac.eqGuardType25 rfl rfl (by first | omega | assumption | rfl | decide | exact Nat.le_refl _ | (simp only [size_ic, Value.cells]; omega) | (simp; omega) | simp) (by first | omega | assumption | rfl | decide | exact Nat.le_refl _ | (simp only [size_ic, Value.cells]; omega) | (simp; omega) | simp)) ?_
            refine WO_guardT rfl rfl hb10.h ?_
            refine WO_p (PS_move_bool rfl) ?_
            refine WO_if (t := 35) rfl (fun hb12 => ?_) (fun hb12 => ?_)
            · have hb12p := hb12.h; try simp only [al_ete, al_dfn, Bool.not_eq_true', Bool.not_eq_false', al_ne, Bool.not_not, al_nn] at hb12p
              have hb35 : A = x2.addr := hb12p
              refine WO_guardT rfl rfl hb12.h ?_
              refine WO_p (PS_move_slice rfl) ?_
              refine WO_guardT rfl rfl hb12.h ?_
              refine WO_p (PS_fieldAddr 20 Hvac.runUnderlying181 rfl Hvac.sizeOf92 rfl rfl) ?_
              refine WO_guardT rfl rfl hb12.h ?_
              refine WO_load (.slice _ _ _) Hvac.isAgg92 rfl (Hb.h (by repeat (first | assumption | exact Hb.newY _ _ | refine Hb.alloc ?_ | refine Hb.drew ?_ | refine Hb.ext (by assumption) ?_ | exact Hb.setSameL (by first | omega | (simp only [size_alloc, size_setB, size_drew]; omega)) | exact Hb.setSame (by assumption) | refine Hb.set (by first | omega | (simp only [size_alloc, size_setB, size_drew]; omega)) ?_ ))) (Ce.h (by first | assumption | exact ⟨rfl⟩)) ?_
              refine WO_guardT rfl rfl hb12.h ?_
              refine WO_call Hvac.call76 (by rfl) (Ret.mono (nCmp_spec (by first | exact NN.nil _ | assumption | exact NN.ext (by assumption) (by repeat (first | assumption | exact Ext.refl _ | refine Ext.alloc ?_ _ | refine Ext.drew ?_ | refine Ext.setB ?_ (by first | omega | (simp only [size_alloc, size_setB, size_drew]; omega)) _ | exact Ext.trans (by assumption) (by assumption) | refine Ext.trans ?_ (by assumption)))) (by first | exact NN.nil _ | assumption | exact NN.ext (by assumption) (by repeat (first | assumption | exact Ext.refl _ | refine Ext.alloc ?_ _ | refine Ext.drew ?_ | refine Ext.setB ?_ (by first | omega | (simp only [size_alloc, size_setB, size_drew]; omega)) _ | exact Ext.trans (by assumption) (by assumption) | refine Ext.trans ?_ (by assumption)))) (by first | assumption | omega | (rw [sz_zero]; omega)) (by first | assumption | omega | (rw [sz_zero]; omega))) ?_)
              rintro _ w76_12 ⟨hE76_12, rfl⟩
              have hz76_12 := hE76_12.1
              try simp only [size_alloc, size_setB, size_drew] at hz76_12
              refine WO_guardT rfl rfl hb12.h ?_
              refine WO_p (PS_lss rfl rfl) ?_
              refine WO_guardT rfl rfl hb10.h ?_
              refine WO_p (PS_pickT rfl hb12.h rfl) ?_
              refine WO_guardT rfl rfl hb7.h ?_
              refine WO_p (PS_pickF rfl hb10.h rfl) ?_
              refine WO_p (PS_pickT rfl hb7.h rfl) ?_
              refine WO_nil ?_
              refine thn_normal ?_
              refine W_if rfl (fun hb15 => ?_) (fun hb15 => ?_)
              · have hb15p := hb15.h; try simp only [al_ete, al_dfn, Bool.not_eq_true', Bool.not_eq_false', al_ne, Bool.not_not, al_nn] at hb15p
                have hbf : ymIns A k y2 = true := by unfold ymIns; rw [hadx]; simp_all [cmpI_lt2]
                refine W_seq ?_
                refine W_region rfl ?_
                refine WO_p (PS_move_slice rfl) ?_
                refine WO_loadA _ Hvac.isAgg25 Hvac.sizeOf25 rfl (Hb.h (by repeat (first | assumption | exact Hb.newY _ _ | refine Hb.alloc ?_ | refine Hb.drew ?_ | refine Hb.ext (by assumption) ?_ | exact Hb.setSameL (by first | omega | (simp only [size_alloc, size_setB, size_drew]; omega)) | exact Hb.setSame (by assumption) | refine Hb.set (by first | omega | (simp only [size_alloc, size_setB, size_drew]; omega)) ?_ ))) (by first | omega | assumption | rfl | decide | exact Nat.le_refl _ | (simp only [size_ic, Value.cells]; omega) | (simp; omega) | simp) (Xt.h (by first | assumption | exact Xt.whole rfl rfl | exact Xt.whole rfl (by assumption) | exact Xt.whole rfl (by simp only [size_ic, Value.cells]; omega) | exact ⟨rfl⟩)) ?_
                refine WO_p (PS_move_slice rfl) ?_
                refine WO_p (PS_b181 (A := A) rfl hAl rfl) ?_
                refine WO_buildSlice1 Hvac.runUnderlying91 Hvac.sizeOf181 Hvac.zeroValue181 rfl (by first | omega | assumption | rfl | decide | exact Nat.le_refl _ | (simp only [size_ic, Value.cells]; omega) | (simp; omega) | simp) (by decide) (by decide) ?_
                refine WO_app (YMk.mk A (kp, kn, kc)) ap_YM (BL.ext hBL7 (by repeat (first | assumption | exact Ext.refl _ | refine Ext.alloc ?_ _ | refine Ext.drew ?_ | refine Ext.setB ?_ (by first | omega | (simp only [size_alloc, size_setB, size_drew]; omega)) _ | exact Ext.trans (by assumption) (by assumption) | refine Ext.trans ?_ (by assumption)))) (by repeat (first | assumption | exact Ext.refl _ | refine Ext.alloc ?_ _ | refine Ext.drew ?_ | refine Ext.setB ?_ (by first | omega | (simp only [size_alloc, size_setB, size_drew]; omega)) _ | exact Ext.trans (by assumption) (by assumption) | refine Ext.trans ?_ (by assumption))) (fm2 (by first | omega | (simp only [size_alloc, size_setB, size_drew]; omega)) (by first | omega | (simp only [size_alloc, size_setB, size_drew]; omega))) (by omega) (encYM_len hAl) (Hb.newY _ _) rfl rfl ?_
                intro soA wA hBA hEA hkA hzA
                try simp only [size_alloc, size_setB, size_drew] at hzA
                have hb4_A := hkA b4 _ (by simp) (Hb.mk (Hb.h (by repeat (first | assumption | exact Hb.newY _ _ | refine Hb.alloc ?_ | refine Hb.drew ?_ | refine Hb.ext (by assumption) ?_ | exact Hb.setSameL (by first | omega | (simp only [size_alloc, size_setB, size_drew]; omega)) | exact Hb.setSame (by assumption) | refine Hb.set (by first | omega | (simp only [size_alloc, size_setB, size_drew]; omega)) ?_ ))) : Hb _ b4 (.cells (ic .u8 A) 25 (0, 0)))
                have hb9_A := hkA b9 _ (by simp) (Hb.mk (Hb.h (by repeat (first | assumption | exact Hb.newY _ _ | refine Hb.alloc ?_ | refine Hb.drew ?_ | refine Hb.ext (by assumption) ?_ | exact Hb.setSameL (by first | omega | (simp only [size_alloc, size_setB, size_drew]; omega)) | exact Hb.setSame (by assumption) | refine Hb.set (by first | omega | (simp only [size_alloc, size_setB, size_drew]; omega)) ?_ ))) : Hb _ b9 (.cells (encYM x2).toArray 181 (0, 0)))
                refine WO_p (PS_assign_slice rfl) ?_
                refine WO_nil ?_
                refine thn_normal ?_
                refine W_region rfl ?_
                refine WO_p (PS_assign_bool rfl) ?_
                refine WO_nil ?_
                refine thn_normal ?_
                refine ⟨soA, K ++ [(YMk.mk A (kp, kn, kc))], m ++ [(A, k)], ?_, by simp, hKm.snoc ⟨rfl, hA, hk, zk⟩, hBA, ⟨rfl, rfl, rfl, rfl, ?_, rfl, rfl, rfl, rfl, trivial⟩, hEA, hb4_A, hb9_A⟩; (simp [hlaid, hbf]); (show Value.bool _ = _; simp [hlaid, hbf])
              · have hb15p := hb15.h; try simp only [al_ete, al_dfn, Bool.not_eq_true', Bool.not_eq_false', al_ne, Bool.not_not, al_nn] at hb15p
                have hbf : ymIns A k y2 = false := by unfold ymIns; rw [hadx]; simp_all [cmpI_lt2]
                refine W_skip ?_
                refine thn_normal ?_
                refine ⟨so, K, m, ?_, by omega, hKm, hBL7.ext (by repeat (first | assumption | exact Ext.refl _ | refine Ext.alloc ?_ _ | refine Ext.drew ?_ | refine Ext.setB ?_ (by first | omega | (simp only [size_alloc, size_setB, size_drew]; omega)) _ | exact Ext.trans (by assumption) (by assumption) | refine Ext.trans ?_ (by assumption))), ⟨rfl, rfl, rfl, rfl, ?_, rfl, rfl, rfl, rfl, trivial⟩, (by repeat (first | assumption | exact Ext.refl _ | refine Ext.alloc ?_ _ | refine Ext.drew ?_ | refine Ext.setB ?_ (by first | omega | (simp only [size_alloc, size_setB, size_drew]; omega)) _ | exact Ext.trans (by assumption) (by assumption) | refine Ext.trans ?_ (by assumption))), Hb.mk (Hb.h (by repeat (first | assumption | exact Hb.newY _ _ | refine Hb.alloc ?_ | refine Hb.drew ?_ | refine Hb.ext (by assumption) ?_ | exact Hb.setSameL (by first | omega | (simp only [size_alloc, size_setB, size_drew]; omega)) | exact Hb.setSame (by assumption) | refine Hb.set (by first | omega | (simp only [size_alloc, size_setB, size_drew]; omega)) ?_ ))), Hb.mk (Hb.h (by repeat (first | assumption | exact Hb.newY _ _ | refine Hb.alloc ?_ | refine Hb.drew ?_ | refine Hb.ext (by assumption) ?_ | exact Hb.setSameL (by first | omega | (simp only [size_alloc, size_setB, size_drew]; omega)) | exact Hb.setSame (by assumption) | refine Hb.set (by first | omega | (simp only [size_alloc, size_setB, size_drew]; omega)) ?_ )))⟩; (simp [hlaid, hbf]); (show Value.bool _ = _; simp [hlaid, hbf])
            · have hb12p := hb12.h; try simp only [al_ete, al_dfn, Bool.not_eq_true', Bool.not_eq_false', al_ne, Bool.not_not, al_nn] at hb12p
              have hb35 : A ≠ x2.addr := hb12p
              have hbf : ymIns A k y2 = false := by unfold ymIns; rw [hadx, hb30]; simp [hb35]
              refine WO_guardF rfl rfl hb12.h ?_
              refine WO_guardF rfl rfl hb12.h ?_
              refine WO_guardF rfl rfl hb12.h ?_
              refine WO_guardF rfl rfl hb12.h ?_
              refine WO_guardF rfl rfl hb12.h ?_
              refine WO_guardT rfl rfl hb10.h ?_
              refine WO_p (PS_pickF rfl hb12.h rfl) ?_
              refine WO_guardT rfl rfl hb7.h ?_
              refine WO_p (PS_pickF rfl hb10.h rfl) ?_
              refine WO_p (PS_pickT rfl hb7.h rfl) ?_
              refine WO_nil ?_
              refine thn_normal ?_
              refine W_condF rfl rfl ?_
              refine W_skip ?_
              refine thn_normal ?_
              refine ⟨so, K, m, ?_, by omega, hKm, hBL7.ext (by repeat (first | assumption | exact Ext.refl _ | refine Ext.alloc ?_ _ | refine Ext.drew ?_ | refine Ext.setB ?_ (by first | omega | (simp only [size_alloc, size_setB, size_drew]; omega)) _ | exact Ext.trans (by assumption) (by assumption) | refine Ext.trans ?_ (by assumption))), ⟨rfl, rfl, rfl, rfl, ?_, rfl, rfl, rfl, rfl, trivial⟩, (by repeat (first | assumption | exact Ext.refl _ | refine Ext.alloc ?_ _ | refine Ext.drew ?_ | refine Ext.setB ?_ (by first | omega | (simp only [size_alloc, size_setB, size_drew]; omega)) _ | exact Ext.trans (by assumption) (by assumption) | refine Ext.trans ?_ (by assumption))), Hb.mk (Hb.h (by repeat (first | assumption | exact Hb.newY _ _ | refine Hb.alloc ?_ | refine Hb.drew ?_ | refine Hb.ext (by assumption) ?_ | exact Hb.setSameL (by first | omega | (simp only [size_alloc, size_setB, size_drew]; omega)) | exact Hb.setSame (by assumption) | refine Hb.set (by first | omega | (simp only [size_alloc, size_setB, size_drew]; omega)) ?_ ))), Hb.mk (Hb.h (by repeat (first | assumption | exact Hb.newY _ _ | refine Hb.alloc ?_ | refine Hb.drew ?_ | refine Hb.ext (by assumption) ?_ | exact Hb.setSameL (by first | omega | (simp only [size_alloc, size_setB, size_drew]; omega)) | exact Hb.setSame (by assumption) | refine Hb.set (by first | omega | (simp only [size_alloc, size_setB, size_drew]; omega)) ?_ )))⟩; (simp [hlaid, hbf]); (show Value.bool _ = _; simp [hlaid, hbf])
        · have hb7p := hb7.h; try simp only [al_ete, al_dfn, Bool.not_eq_true', Bool.not_eq_false', al_ne, Bool.not_not, al_nn] at hb7p
          have hlaid : laid = true := by simpa using hb7p
          have hbf : True := trivial
          refine WO_guardF rfl rfl hb7.h ?_
          refine WO_guardF rfl rfl hb7.h ?_
          refine WO_guardF rfl rfl hb7.h ?_
          refine WO_guardF rfl rfl hb7.h ?_
          refine WO_guardF rfl rfl hb7.h ?_
          refine WO_guardU rfl rfl ?_
          refine WO_guardU rfl rfl ?_
          refine WO_guardU rfl rfl ?_
          refine WO_guardU rfl rfl ?_
          refine WO_guardU rfl rfl ?_
          refine WO_guardU rfl rfl ?_
          refine WO_guardU rfl rfl ?_
          refine WO_guardU rfl rfl ?_
          refine WO_guardU rfl rfl ?_
          refine WO_guardU rfl rfl ?_
          refine WO_guardU rfl rfl ?_
          refine WO_guardF rfl rfl hb7.h ?_
          refine WO_p (PS_pickF rfl hb7.h rfl) ?_
          refine WO_nil ?_
          refine thn_normal ?_
          refine W_condF rfl rfl ?_
          refine W_skip ?_
          refine thn_normal ?_
          refine ⟨so, K, m, ?_, by omega, hKm, hBL7.ext (by repeat (first | assumption | exact Ext.refl _ | refine Ext.alloc ?_ _ | refine Ext.drew ?_ | refine Ext.setB ?_ (by first | omega | (simp only [size_alloc, size_setB, size_drew]; omega)) _ | exact Ext.trans (by assumption) (by assumption) | refine Ext.trans ?_ (by assumption))), ⟨rfl, rfl, rfl, rfl, ?_, rfl, rfl, rfl, rfl, trivial⟩, (by repeat (first | assumption | exact Ext.refl _ | refine Ext.alloc ?_ _ | refine Ext.drew ?_ | refine Ext.setB ?_ (by first | omega | (simp only [size_alloc, size_setB, size_drew]; omega)) _ | exact Ext.trans (by assumption) (by assumption) | refine Ext.trans ?_ (by assumption))), Hb.mk (Hb.h (by repeat (first | assumption | exact Hb.newY _ _ | refine Hb.alloc ?_ | refine Hb.drew ?_ | refine Hb.ext (by assumption) ?_ | exact Hb.setSameL (by first | omega | (simp only [size_alloc, size_setB, size_drew]; omega)) | exact Hb.setSame (by assumption) | refine Hb.set (by first | omega | (simp only [size_alloc, size_setB, size_drew]; omega)) ?_ ))), Hb.mk (Hb.h (by repeat (first | assumption | exact Hb.newY _ _ | refine Hb.alloc ?_ | refine Hb.drew ?_ | refine Hb.ext (by assumption) ?_ | exact Hb.setSameL (by first | omega | (simp only [size_alloc, size_setB, size_drew]; omega)) | exact Hb.setSame (by assumption) | refine Hb.set (by first | omega | (simp only [size_alloc, size_setB, size_drew]; omega)) ?_ )))⟩; (simp [hlaid, hbf]); (show Value.bool _ = _; simp [hlaid, hbf])
      · rintro ρ5 w5 ⟨so2, K2, m2, hm2, hK2, hKm2, hBL5, hFr5, hE5, hb45, hb95⟩
        refine W_env _ hFr5 ?_
        have hz5 := hE5.1
        have hb9l5 := hb95.lt
        have hb4l5 := hb45.lt
        refine W_region rfl ?_
        refine WO_p (PS_move_slice rfl) ?_
        refine WO_loadA _ Hvac.isAgg181 Hvac.sizeOf181 rfl (Hb.h (by repeat (first | assumption | exact Hb.newY _ _ | refine Hb.alloc ?_ | refine Hb.drew ?_ | refine Hb.ext (by assumption) ?_ | exact Hb.setSameL (by first | omega | (simp only [size_alloc, size_setB, size_drew]; omega)) | exact Hb.setSame (by assumption) | refine Hb.set (by first | omega | (simp only [size_alloc, size_setB, size_drew]; omega)) ?_ ))) (by first | omega | assumption | rfl | decide | exact Nat.le_refl _ | (simp only [size_ic, Value.cells]; omega) | (simp; omega) | simp) (Xt.h (by first | assumption | exact Xt.whole rfl rfl | exact Xt.whole rfl (by assumption) | exact Xt.whole rfl (by simp only [size_ic, Value.cells]; omega) | exact ⟨rfl⟩)) ?_
        refine WO_buildSlice1 Hvac.runUnderlying91 Hvac.sizeOf181 Hvac.zeroValue181 rfl (by first | omega | assumption | rfl | decide | exact Nat.le_refl _ | (simp only [size_ic, Value.cells]; omega) | (simp; omega) | simp) (by decide) (by decide) ?_
        refine WO_app x2 ap_YM (BL.ext hBL5 (by repeat (first | assumption | exact Ext.refl _ | refine Ext.alloc ?_ _ | refine Ext.drew ?_ | refine Ext.setB ?_ (by first | omega | (simp only [size_alloc, size_setB, size_drew]; omega)) _ | exact Ext.trans (by assumption) (by assumption) | refine Ext.trans ?_ (by assumption)))) (by repeat (first | assumption | exact Ext.refl _ | refine Ext.alloc ?_ _ | refine Ext.drew ?_ | refine Ext.setB ?_ (by first | omega | (simp only [size_alloc, size_setB, size_drew]; omega)) _ | exact Ext.trans (by assumption) (by assumption) | refine Ext.trans ?_ (by assumption))) (fm2 (by first | omega | (simp only [size_alloc, size_setB, size_drew]; omega)) (by first | omega | (simp only [size_alloc, size_setB, size_drew]; omega))) (by omega) hxE2 (Hb.newY _ _) rfl rfl ?_
        intro so6 w6 hB6 hE6 hk6 hz6
        try simp only [size_alloc, size_setB, size_drew] at hz6
        have hb4_6 := hk6 b4 _ (by simp) (Hb.mk (Hb.h (by repeat (first | assumption | exact Hb.newY _ _ | refine Hb.alloc ?_ | refine Hb.drew ?_ | refine Hb.ext (by assumption) ?_ | exact Hb.setSameL (by first | omega | (simp only [size_alloc, size_setB, size_drew]; omega)) | exact Hb.setSame (by assumption) | refine Hb.set (by first | omega | (simp only [size_alloc, size_setB, size_drew]; omega)) ?_ ))) : Hb _ b4 (.cells (ic .u8 A) 25 (0, 0)))
        refine WO_p (PS_assign_slice rfl) ?_
        refine WO_nil ?_
        refine inBlk_normal ?_
        refine thn_normal ?_
        refine W_region rfl ?_
        refine WO_p (PS_add_i64n rfl rfl (by omega) (by omega)) ?_
        refine WO_p (PS_move_int rfl) ?_
        refine WO_nil ?_
        refine thn_normal ?_
        refine ⟨k3 - 1, by omega, i + 1, _, so6, K2 ++ [x2], m2 ++ [y2], by omega, ?_, hKm2.snoc hxy2, ?_, hB6.tail (by simp), ⟨rfl, rfl, rfl, rfl, rfl, rfl, rfl, congrArg (Value.int .i64) (by omega), trivial⟩, hE6, hb4_6⟩
        · simp; omega
        · rw [← hgo, ymk_go A k laid _ i y2 hy2, hm2]; simp only [List.append_assoc, List.cons_append, List.nil_append]
    · have hb4p := hb4.h; try simp only [al_ete, al_dfn, Bool.not_eq_true', Bool.not_eq_false', al_ne, Bool.not_not, al_nn] at hb4p
      refine W_exit ?_
      refine thn_exit ?_
      refine thn_exit ?_
      refine inBlk_exit ?_
      refine thn_normal ?_
      refine W_seq ?_
      refine W_seq ?_
      refine W_region rfl ?_
      refine WO_p (PS_move_bool rfl) ?_
      refine WO_p (PS_not rfl) ?_
      refine WO_nil ?_
      refine thn_normal ?_
      refine W_if rfl (fun hb18 => ?_) (fun hb18 => ?_)
      · have hb18p := hb18.h; try simp only [al_ete, al_dfn, Bool.not_eq_true', Bool.not_eq_false', al_ne, Bool.not_not, al_nn] at hb18p
        have hlaid : laid = false := by simpa using hb18p
        refine W_region rfl ?_
        refine WO_p (PS_move_slice rfl) ?_
        refine WO_loadA _ Hvac.isAgg25 Hvac.sizeOf25 rfl (Hb.h (by repeat (first | assumption | exact Hb.newY _ _ | refine Hb.alloc ?_ | refine Hb.drew ?_ | refine Hb.ext (by assumption) ?_ | exact Hb.setSameL (by first | omega | (simp only [size_alloc, size_setB, size_drew]; omega)) | exact Hb.setSame (by assumption) | refine Hb.set (by first | omega | (simp only [size_alloc, size_setB, size_drew]; omega)) ?_ ))) (by first | omega | assumption | rfl | decide | exact Nat.le_refl _ | (simp only [size_ic, Value.cells]; omega) | (simp; omega) | simp) (Xt.h (by first | assumption | exact Xt.whole rfl rfl | exact Xt.whole rfl (by assumption) | exact Xt.whole rfl (by simp only [size_ic, Value.cells]; omega) | exact ⟨rfl⟩)) ?_
        refine WO_p (PS_move_slice rfl) ?_
        refine WO_p (PS_b181 (A := A) rfl hAl rfl) ?_
        refine WO_buildSlice1 Hvac.runUnderlying91 Hvac.sizeOf181 Hvac.zeroValue181 rfl (by first | omega | assumption | rfl | decide | exact Nat.le_refl _ | (simp only [size_ic, Value.cells]; omega) | (simp; omega) | simp) (by decide) (by decide) ?_
        refine WO_app (YMk.mk A (kp, kn, kc)) ap_YM (BL.ext hBL (by repeat (first | assumption | exact Ext.refl _ | refine Ext.alloc ?_ _ | refine Ext.drew ?_ | refine Ext.setB ?_ (by first | omega | (simp only [size_alloc, size_setB, size_drew]; omega)) _ | exact Ext.trans (by assumption) (by assumption) | refine Ext.trans ?_ (by assumption)))) (by repeat (first | assumption | exact Ext.refl _ | refine Ext.alloc ?_ _ | refine Ext.drew ?_ | refine Ext.setB ?_ (by first | omega | (simp only [size_alloc, size_setB, size_drew]; omega)) _ | exact Ext.trans (by assumption) (by assumption) | refine Ext.trans ?_ (by assumption))) (fm1 (by first | omega | (simp only [size_alloc, size_setB, size_drew]; omega))) (by omega) (encYM_len hAl) (Hb.newY _ _) rfl rfl ?_
        intro so9 w9 hB9 hE9 hk9 hz9
        try simp only [size_alloc, size_setB, size_drew] at hz9
        refine WO_p (PS_assign_slice rfl) ?_
        refine WO_nil ?_
        refine thn_normal ?_
        refine W_region rfl ?_
        refine WO_p (PS_move_ptr rfl) ?_
        refine WO_p (PS_move_slice rfl) ?_
        refine WO_p (PS_nilCheck rfl) ?_
        refine WO_p (PS_fieldAddr 2 Hvac.runUnderlying95 rfl Hvac.sizeOf91 rfl rfl) ?_
        refine WO_store1 Hvac.sizeOf91 rfl (v := (.slice _ _ _)) rfl (Hb.h (by repeat (first | assumption | exact Hb.newY _ _ | refine Hb.alloc ?_ | refine Hb.drew ?_ | refine Hb.ext (by assumption) ?_ | exact Hb.setSameL (by first | omega | (simp only [size_alloc, size_setB, size_drew]; omega)) | exact Hb.setSame (by assumption) | refine Hb.set (by first | omega | (simp only [size_alloc, size_setB, size_drew]; omega)) ?_ ))) rfl (by first | omega | assumption | rfl | decide | exact Nat.le_refl _ | (simp only [size_ic, Value.cells]; omega) | (simp; omega) | simp) rfl ?_
        refine WO_nil ?_
        first | refine bodyQ_ret0 Hvac.results28 ?_ | refine bodyQ_end0 Hvac.results28 ?_
        first
        | (refine ⟨rfl, Ext.keepO (by repeat (first | assumption | exact Ext.refl _ | refine Ext.alloc ?_ _ | refine Ext.drew ?_ | refine Ext.setB ?_ (by first | omega | (simp only [size_alloc, size_setB, size_drew]; omega)) _ | refine Ext.trans ?_ (by assumption))) _, (p, n, cp), ?_, ?_⟩; (rw [setIf_self hc00]; exact Hb.mk (Hb.h (by repeat (first | assumption | exact Hb.newY _ _ | refine Hb.alloc ?_ | refine Hb.drew ?_ | refine Hb.ext (by assumption) ?_ | exact Hb.setSameL (by first | omega | (simp only [size_alloc, size_setB, size_drew]; omega)) | exact Hb.setSame (by assumption) | refine Hb.set (by first | omega | (simp only [size_alloc, size_setB, size_drew]; omega)) ?_ )))); unfold ymk; rw [if_pos hmem]; exact MksR.ext hl0 (by repeat (first | assumption | exact Ext.refl _ | refine Ext.alloc ?_ _ | refine Ext.drew ?_ | refine Ext.setB ?_ (by first | omega | (simp only [size_alloc, size_setB, size_drew]; omega)) _ | refine Ext.trans ?_ (by assumption))))
        | (refine ⟨rfl, keepS (by repeat (first | assumption | exact Ext.refl _ | refine Ext.alloc ?_ _ | refine Ext.drew ?_ | refine Ext.setB ?_ (by first | omega | (simp only [size_alloc, size_setB, size_drew]; omega)) _ | exact Ext.trans (by assumption) (by assumption) | refine Ext.trans ?_ (by assumption))) _ _, (slp so9, (K ++ [(YMk.mk A (kp, kn, kc))]).length, slc so9), Hb.setSame (hS.ext (by repeat (first | assumption | exact Ext.refl _ | refine Ext.alloc ?_ _ | refine Ext.drew ?_ | refine Ext.setB ?_ (by first | omega | (simp only [size_alloc, size_setB, size_drew]; omega)) _ | exact Ext.trans (by assumption) (by assumption) | refine Ext.trans ?_ (by assumption)))), K ++ [(YMk.mk A (kp, kn, kc))], (hB9.set (Or.inr hSl) _).pl hO, ?_⟩; unfold ymk; rw [if_neg hmem, ← hgo, ymk_end A k laid l i (by omega), hlaid]; simpa using (hKm.snoc ⟨rfl, hA, hk, zk⟩).mono fun _ _ h => MkR.keep h (keepSO (by repeat (first | assumption | exact Ext.refl _ | refine Ext.alloc ?_ _ | refine Ext.drew ?_ | refine Ext.setB ?_ (by first | omega | (simp only [size_alloc, size_setB, size_drew]; omega)) _ | exact Ext.trans (by assumption) (by assumption) | refine Ext.trans ?_ (by assumption))) hSo _))
      · have hb18p := hb18.h; try simp only [al_ete, al_dfn, Bool.not_eq_true', Bool.not_eq_false', al_ne, Bool.not_not, al_nn] at hb18p
        have hlaid : laid = true := by simpa using hb18p
        refine W_skip ?_
        refine thn_normal ?_
        refine W_region rfl ?_
        refine WO_p (PS_move_ptr rfl) ?_
        refine WO_p (PS_move_slice rfl) ?_
        refine WO_p (PS_nilCheck rfl) ?_
        refine WO_p (PS_fieldAddr 2 Hvac.runUnderlying95 rfl Hvac.sizeOf91 rfl rfl) ?_
        refine WO_store1 Hvac.sizeOf91 rfl (v := (.slice _ _ _)) rfl (Hb.h (by repeat (first | assumption | exact Hb.newY _ _ | refine Hb.alloc ?_ | refine Hb.drew ?_ | refine Hb.ext (by assumption) ?_ | exact Hb.setSameL (by first | omega | (simp only [size_alloc, size_setB, size_drew]; omega)) | exact Hb.setSame (by assumption) | refine Hb.set (by first | omega | (simp only [size_alloc, size_setB, size_drew]; omega)) ?_ ))) rfl (by first | omega | assumption | rfl | decide | exact Nat.le_refl _ | (simp only [size_ic, Value.cells]; omega) | (simp; omega) | simp) rfl ?_
        refine WO_nil ?_
        first | refine bodyQ_ret0 Hvac.results28 ?_ | refine bodyQ_end0 Hvac.results28 ?_
        first
        | (refine ⟨rfl, Ext.keepO (by repeat (first | assumption | exact Ext.refl _ | refine Ext.alloc ?_ _ | refine Ext.drew ?_ | refine Ext.setB ?_ (by first | omega | (simp only [size_alloc, size_setB, size_drew]; omega)) _ | refine Ext.trans ?_ (by assumption))) _, (p, n, cp), ?_, ?_⟩; (rw [setIf_self hc00]; exact Hb.mk (Hb.h (by repeat (first | assumption | exact Hb.newY _ _ | refine Hb.alloc ?_ | refine Hb.drew ?_ | refine Hb.ext (by assumption) ?_ | exact Hb.setSameL (by first | omega | (simp only [size_alloc, size_setB, size_drew]; omega)) | exact Hb.setSame (by assumption) | refine Hb.set (by first | omega | (simp only [size_alloc, size_setB, size_drew]; omega)) ?_ )))); unfold ymk; rw [if_pos hmem]; exact MksR.ext hl0 (by repeat (first | assumption | exact Ext.refl _ | refine Ext.alloc ?_ _ | refine Ext.drew ?_ | refine Ext.setB ?_ (by first | omega | (simp only [size_alloc, size_setB, size_drew]; omega)) _ | refine Ext.trans ?_ (by assumption))))
        | (refine ⟨rfl, keepS (by repeat (first | assumption | exact Ext.refl _ | refine Ext.alloc ?_ _ | refine Ext.drew ?_ | refine Ext.setB ?_ (by first | omega | (simp only [size_alloc, size_setB, size_drew]; omega)) _ | exact Ext.trans (by assumption) (by assumption) | refine Ext.trans ?_ (by assumption))) _ _, (slp so, (K).length, slc so), Hb.setSame (hS.ext (by repeat (first | assumption | exact Ext.refl _ | refine Ext.alloc ?_ _ | refine Ext.drew ?_ | refine Ext.setB ?_ (by first | omega | (simp only [size_alloc, size_setB, size_drew]; omega)) _ | exact Ext.trans (by assumption) (by assumption) | refine Ext.trans ?_ (by assumption)))), K, (hBL.set (Or.inr hSl) _).pl hO, ?_⟩; unfold ymk; rw [if_neg hmem, ← hgo, ymk_end A k laid l i (by omega), hlaid]; simpa using (hKm).mono fun _ _ h => MkR.keep h (keepSO (by repeat (first | assumption | exact Ext.refl _ | refine Ext.alloc ?_ _ | refine Ext.drew ?_ | refine Ext.setB ?_ (by first | omega | (simp only [size_alloc, size_setB, size_drew]; omega)) _ | exact Ext.trans (by assumption) (by assumption) | refine Ext.trans ?_ (by assumption))) hSo _))

end Go.Proofs.YgvacwGreat
