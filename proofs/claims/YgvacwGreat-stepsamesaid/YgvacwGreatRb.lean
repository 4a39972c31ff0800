import Derived.Test.YgvacwGreatRa
namespace Go.Proofs.YgvacwGreat
set_option linter.unusedSimpArgs false
set_option linter.unusedVariables false
/-! cells of the records -/
theorem gl {A : List Int} {n : Nat} (h : A.length = n) (R : List Value) (k : Nat) : (A.map (Value.int .u8) ++ R)[n + k]? = R[k]? := by
  rw [List.getElem?_append_right (by simp [h])]; simp [h]
theorem gx {A : List Int} {n : Nat} (h : A.length = n) (R : List Value) : Xt (A.map (Value.int .u8) ++ R).toArray (0 + 0) (0 + 0 + n) (ic .u8 A) := ⟨by
  refine Array.ext_getElem? fun i => ?_
  simp only [Array.getElem?_extract, ic, List.getElem?_toArray, List.size_toArray, List.length_append, List.length_map, h]
  by_cases hi : i < n
  · rw [if_pos (by omega), List.getElem?_append_left (by simp [h]; omega)]
    congr 1; omega
  · rw [if_neg (by omega), List.getElem?_eq_none (by simp [h]; omega)]⟩
abbrev ac0 (A : List Int) : YAc := ⟨A, (none, 0, 0), (none, 0, 0), (none, 0, 0), (none, 0, 0)⟩
theorem encYA_len {x : YAc} (h : x.addr.length = 20) : (encYA x).length = 24 := by simp [encYA, h]
theorem encYA_addr {x : YAc} (h : x.addr.length = 20) : Xt (encYA x).toArray (0 + 0) (0 + 0 + 20) (ic .u8 x.addr) := gx h _
theorem encYA_1 {x : YAc} (h : x.addr.length = 20) : Ce (encYA x).toArray (0 + 20) (.slice x.nonce.1 x.nonce.2.1 x.nonce.2.2) := ⟨by rw [List.getElem?_toArray]; exact gl h _ 0⟩
theorem encYA_2 {x : YAc} (h : x.addr.length = 20) : Ce (encYA x).toArray (0 + 21) (.slice x.bal.1 x.bal.2.1 x.bal.2.2) := ⟨by rw [List.getElem?_toArray]; exact gl h _ 1⟩
theorem encYA_3 {x : YAc} (h : x.addr.length = 20) : Ce (encYA x).toArray (0 + 22) (.slice x.code.1 x.code.2.1 x.code.2.2) := ⟨by rw [List.getElem?_toArray]; exact gl h _ 2⟩
theorem encYA_4 {x : YAc} (h : x.addr.length = 20) : Ce (encYA x).toArray (0 + 23) (.slice x.slots.1 x.slots.2.1 x.slots.2.2) := ⟨by rw [List.getElem?_toArray]; exact gl h _ 3⟩
theorem one_ad {A : List Int} {R : List Value} (h : ∀ u ∈ R, u.oneCell' = true) : ∀ u ∈ A.map (Value.int .u8) ++ R, u.oneCell' = true := by
  intro u hu
  rcases List.mem_append.1 hu with hu | hu
  · obtain ⟨a, _, rfl⟩ := List.mem_map.1 hu; rfl
  · exact h u hu
theorem one_YA (x : YAc) : ∀ u ∈ encYA x, u.oneCell' = true := one_ad (by intro u hu; simp at hu; rcases hu with rfl | rfl | rfl | rfl <;> rfl)
theorem one_YA2 (x : YAc) : ∀ u ∈ (encYA x).toArray.toList, u.oneCell' = true := by intro u hu; exact one_YA x u (by simpa using hu)
theorem info104 : Hvac.prog.info? 104 = some Hvac.t104 := by kernel_rfl
theorem Row.ext {α : Type} {enc : α → List Value} {u : Nat} {T : TypeId} {w w' : World} {s : Option (Nat × Nat)} {l : List α} (h : Row enc u T w s l) (he : Ext w w') : Row enc u T w' s l := h.keep fun _ _ _ _ hb => hb.ext he
theorem Row.lt {α : Type} {enc : α → List Value} {u : Nat} {T : TypeId} {w : World} {s : Option (Nat × Nat)} {l : List α} (h : Row enc u T w s l) {b : Nat} (hb : blkOf s b) : b < w.heap.size := by
  obtain ⟨cap, rfl⟩ := hb
  obtain ⟨_, r, h2, _⟩ := h
  exact h2.lt
theorem ext_app {w0 w w' : World} {s : Option (Nat × Nat)} (he : Ext w0 w) (hk : KeepO (blkOf s) w w') (hs : ∀ b, blkOf s b → w0.heap.size ≤ b) : Ext w0 w' :=
  ⟨Nat.le_trans he.1 hk.sz, fun b hb => (hk.old b (Nat.lt_of_lt_of_le hb he.1) (fun hh => by have := hs b hh; omega)).trans (he.2 b hb), hk.en.1.trans he.3.1, hk.en.2.1.trans he.3.2.1, hk.en.2.2.trans he.3.2.2⟩
theorem app_YA {w : World} {s : Option (Nat × Nat)} {l : List YAc} {x : YAc} {b1 : Nat} {T : TypeId} {fz : Nat × Nat} (hrow : Row encYA 24 104 w s l) (hx : x.addr.length = 20) (hsrc : Hb w b1 (.cells (encYA x).toArray T fz)) (hl : l.length ≤ 1000000) :
    ∃ s' w', (Builtin.append_ #[89, 89] 89 #[slv s l.length, .slice (some ⟨b1, 0, none⟩) 1 1]).run Hvac.prog w = .ok (slv s' (l.length + 1)) w' ∧ Row encYA 24 104 w' s' (l ++ [x]) ∧ KeepO (blkOf s) w w' ∧ (∀ b, blkOf s' b → blkOf s b ∨ w.heap.size ≤ b) :=
  run_append_row (e := 104) Hvac.underlying89 info104 rfl rfl rfl rfl hrow (encYA_len hx) (one_YA x) hsrc (by show (l.length + 1) * Hvac.t104.bytes ≤ _; have : Hvac.t104.bytes = 120 := rfl; rw [this]; omega) (by omega)
theorem pl_at {α : Type} [Om] {enc : α → List Value} {u : Nat} {T : TypeId} {w : World} {p : Option Addr} {n c i : Nat} {L : List α} {x : α} (h : PL enc u T w (p, n, c) L) (hx : L[i]? = some x) (hlen : (enc x).length = u) :
    ∃ b r fz, p = some ⟨b, 0, none⟩ ∧ Hb w b (.cells r T fz) ∧ 0 + i * u + u ≤ r.size ∧ Xt r (0 + i * u) (0 + i * u + u) (enc x).toArray := by
  have hl := lt_of_getElem? hx
  have h2 := h.len
  dsimp only at h2
  obtain ⟨b, r, fz, h1, h3, h4⟩ := h.at_ (by omega)
  refine ⟨b, r, fz, h1, h3, h4.bd hx, ?_⟩
  have := h4.ext hx (k := 0) (n := u) (by omega) (vs := enc x) (by rw [List.drop_zero, List.take_of_length_le (by omega)]) (by omega)
  simpa using this
theorem yacct_by {l : List PA} {A : List Int} : (yacct l A).addr = A := by
  unfold yacct
  split
  · rename_i h; have := List.find?_some h; simpa using this
  · rfl
theorem PS_lssstr {P : Program} {ρ : Nat → Value} {x y : Operand} {t yt : TypeId} {a b : ByteArray} (hx : ev ρ x = .string a) (hy : ev ρ y = .string b) : PS P (.binOp .lss t x y yt) ρ (.bool (Op.bytesLess a.toList b.toList)) :=
  PS_binG hx hy (fun _ => rfl) (fun w => rfl)
theorem yacct_hit {l : List PA} {A : List Int} {i : Nat} {y : PA} (hl : ∀ j z, j < i → l[j]? = some z → z.addr ≠ A) (hy : l[i]? = some y) (ha : y.addr = A) : yacct l A = y := by
  have : l.find? (fun x => x.addr = A) = some y := by
    rw [List.find?_eq_some_iff_getElem]
    have h1 := lt_of_getElem? hy
    refine ⟨by simpa using ha, i, h1, ?_, fun j hj => ?_⟩
    · rw [List.getElem?_eq_getElem h1] at hy; exact Option.some.inj hy
    · have := hl j _ hj (List.getElem?_eq_getElem (by omega))
      simpa using this
  unfold yacct; rw [this]
theorem yacct_miss {l : List PA} {A : List Int} (hl : ∀ (j : Nat) z, l[j]? = some z → z.addr ≠ A) : yacct l A = ⟨A, 0, 0, [], []⟩ := by
  have : l.find? (fun x => x.addr = A) = none := by
    rw [List.find?_eq_none]
    intro x hx
    obtain ⟨j, hj, he⟩ := List.mem_iff_getElem.1 hx
    have := hl j x (by rw [List.getElem?_eq_getElem hj, he])
    simpa using this
  unfold yacct; rw [this]
theorem AcR.zero [Om] (w : World) {A : List Int} (h : By A 20) : AcR w (ac0 A) ⟨A, 0, 0, [], []⟩ :=
  ⟨rfl, h, NN.nil _, NN.nil _, by rw [sz_zero]; decide, by rw [sz_zero]; decide, PB.nil _, SlsR.nil _⟩
theorem PS_b104_0 {ρ : Nat → Value} {x0 : Operand} {A : List Int} (h0 : ev ρ x0 = .agg (ic .u8 A)) (hA : A.length = 20) :
    PS Hvac.prog (.build 104 #[(0, x0)]) ρ (.agg (encYA (ac0 A)).toArray) := by
  obtain ⟨a0, a1, a2, a3, a4, a5, a6, a7, a8, a9, b0, b1, b2, b3, b4, b5, b6, b7, b8, b9, rfl⟩ := len20 hA
  exact PS_buildS Hvac.zeroValue104 Hvac.runUnderlying104 (places_run (pl := [(0, 20), (20, 1), (21, 1), (22, 1), (23, 1)]) ⟨rfl, Hvac.sizeOf25, rfl, Hvac.sizeOf92, rfl, Hvac.sizeOf92, rfl, Hvac.sizeOf32, rfl, Hvac.sizeOf102, trivial⟩) (ps := [(0, .agg (ic .u8 [a0, a1, a2, a3, a4, a5, a6, a7, a8, a9, b0, b1, b2, b3, b4, b5, b6, b7, b8, b9]))]) (by simp only [List.map, h0]) (by kernel_rfl)

set_option maxRecDepth 10000 in
set_option maxHeartbeats 4000000 in
theorem account_spec [Om] (w : World) (hO : OmB w) (S : Nat) (c : Array Value) (T : TypeId) (fz : Nat × Nat) (s : SV) (l : List PA) (hS : Hb w S (.cells c T fz)) (hc : Ce c (0 + 0) (.slice s.1 s.2.1 s.2.2)) (hl : AcsR w s l) (hln : l.length ≤ 100000000) (A : List Int) (hA : By A 20) : Ret Hvac.prog 17 #[.pointer (some ⟨S, 0, none⟩), .agg (ic .u8 A)] w fun u w' => Ext w w' ∧ ∃ x, u = .agg (encYA x).toArray ∧ x.addr = A ∧ AcR w' x (yacct l A) := by
  obtain ⟨p, n, cp⟩ := s
  obtain ⟨L, hPL, hR⟩ := hl
  have hAl := hA.1
  have hSl := hS.lt
  have hn := hPL.len
  dsimp only at hn hc
  have hR1 := hR.1
  have honeA := one_YA2 (ac0 A)
  have hszA : (encYA (ac0 A)).toArray.size = 24 := by simpa using encYA_len (x := ac0 A) hAl
  refine Ret_of_W Hvac.func17 rfl rfl ?_
  refine W_seq ?_
  refine W_region rfl ?_
  refine WO_boxG (.agg _) rfl ?_
  intro b3 v3 hg3 hE3 hH3 hl3
  try simp only [size_alloc, size_setB, size_drew] at hg3
  have hzz3 := hE3.1
  try simp only [size_alloc, size_setB, size_drew] at hzz3
  refine WO_allocG Hvac.zeroValue104 ?_
  intro b4 v4 hg4 hE4 hH4 hl4
  try simp only [size_alloc, size_setB, size_drew] at hg4
  have hzz4 := hE4.1
  try simp only [size_alloc, size_setB, size_drew] at hzz4
  replace hH4 : Hb v4 b4 (.cells ((encYA (ac0 (List.replicate 20 0))).toArray) 104 (0, 0)) := hH4
  refine WO_nil ?_
  refine thn_normal ?_
  refine W_seq ?_
  refine W_seq ?_
  refine W_region rfl ?_
  refine WO_p (PS_move_ptr rfl) ?_
  refine WO_p (PS_nilCheck rfl) ?_
  refine WO_p (PS_fieldAddr 0 Hvac.runUnderlying95 rfl Hvac.sizeOf89 rfl rfl) ?_
  refine WO_load (.slice _ _ _) Hvac.isAgg89 rfl (Hb.h (by repeat (first | assumption | exact Hb.newY _ _ | refine Hb.alloc ?_ | refine Hb.drew ?_ | refine Hb.ext (by assumption) ?_ | exact Hb.setSameL (by first | omega | (simp only [size_alloc, size_setB, size_drew]; omega)) | exact Hb.setSame (by assumption) | refine Hb.set (by first | omega | (simp only [size_alloc, size_setB, size_drew]; omega)) ?_ ))) (Ce.h (by first | assumption | exact ⟨rfl⟩)) ?_
  refine WO_p (PS_lenS Hvac.runUnderlying89 rfl) ?_
  refine WO_p (PS_move_int rfl) ?_
  refine WO_nil ?_
  refine thn_normal ?_
  refine W_block ?_
  refine W_loopN (fun k ρ w' => ∃ (i : Nat), i + k = n ∧ (∀ j z, j < i → l[j]? = some z → z.addr ≠ A) ∧ Fr [(3, .pointer (some ⟨b3, 0, none⟩)), (4, .pointer (some ⟨b4, 0, none⟩)), (10, .slice p n cp), (11, .int .i64 n), (12, .int .i64 i)] ρ ∧ Ext w w' ∧ Hb w' b3 (.cells (ic .u8 A) 25 (0, 0)) ∧ Hb w' b4 (.cells (encYA (ac0 (List.replicate 20 0))).toArray 104 (0, 0))) n ?_ ?_
  · exact ⟨0, by omega, fun j z h => absurd h (Nat.not_lt_zero j), ⟨rfl, rfl, rfl, rfl, rfl, trivial⟩, (by repeat (first | assumption | exact Ext.refl _ | refine Ext.alloc ?_ _ | refine Ext.drew ?_ | refine Ext.setB ?_ (by first | omega | (simp only [size_alloc, size_setB, size_drew]; omega)) _ | refine Ext.trans ?_ (by assumption))), Hb.mk (Hb.h (by repeat (first | assumption | exact Hb.newY _ _ | refine Hb.alloc ?_ | refine Hb.drew ?_ | refine Hb.ext (by assumption) ?_ | exact Hb.setSameL (by first | omega | (simp only [size_alloc, size_setB, size_drew]; omega)) | exact Hb.setSame (by assumption) | refine Hb.set (by first | omega | (simp only [size_alloc, size_setB, size_drew]; omega)) ?_ ))), Hb.mk (Hb.h (by repeat (first | assumption | exact Hb.newY _ _ | refine Hb.alloc ?_ | refine Hb.drew ?_ | refine Hb.ext (by assumption) ?_ | exact Hb.setSameL (by first | omega | (simp only [size_alloc, size_setB, size_drew]; omega)) | exact Hb.setSame (by assumption) | refine Hb.set (by first | omega | (simp only [size_alloc, size_setB, size_drew]; omega)) ?_ )))⟩
  intro k2 ρ2 w2 hI2
  obtain ⟨i, hik, hno, hFr2, hE2, hb3k, hb4k⟩ := hI2
  refine W_env _ hFr2 ?_
  have hz2 := hE2.1
  have hb3k_l := hb3k.lt
  have hb4k_l := hb4k.lt
  refine W_seq ?_
  refine W_region rfl ?_
  refine WO_p (PS_lss rfl rfl) ?_
  refine WO_nil ?_
  refine thn_normal ?_
  refine W_seq ?_
  refine W_if rfl (fun hb2 => ?_) (fun hb2 => ?_)
  · have hb2p := hb2.h; try simp only [al_ete, al_dfn, Bool.not_eq_true', Bool.not_eq_false', al_ne, Bool.not_not, al_nn] at hb2p
    obtain ⟨x, y, hx, hy, hxy⟩ := hR.get (i := i) (by omega)
    have hxl : x.addr.length = 20 := by rw [hxy.addr]; exact hxy.ab.1
    have hxE := encYA_len hxl
    obtain ⟨b, r, fz2, hp, hb, hrs, hXi⟩ := pl_at (hPL.ext hE2) hx hxE
    subst hp
    have hX1 := encYA_addr hxl
    have hone := one_YA2 x
    have hsz24 : (encYA x).toArray.size = 24 := by simpa using hxE
    refine W_skip ?_
    refine thn_normal ?_
    refine W_seq ?_
    refine W_block ?_
    refine W_seq ?_
    refine W_region rfl ?_
    refine WO_p (PS_indexS Hvac.runUnderlying89 Hvac.sizeOf104 rfl rfl (by omega) (by omega)) ?_
    refine WO_loadA _ Hvac.isAgg104 Hvac.sizeOf104 rfl (Hb.h (by repeat (first | assumption | exact Hb.newY _ _ | refine Hb.alloc ?_ | refine Hb.drew ?_ | refine Hb.ext (by assumption) ?_ | exact Hb.setSameL (by first | omega | (simp only [size_alloc, size_setB, size_drew]; omega)) | exact Hb.setSame (by assumption) | refine Hb.set (by first | omega | (simp only [size_alloc, size_setB, size_drew]; omega)) ?_ ))) (by first | omega | assumption | rfl | decide | exact Nat.le_refl _ | (simp only [size_ic, Value.cells]; omega) | (simp; omega) | simp) (Xt.h (by first | assumption | exact Xt.whole rfl rfl | exact Xt.whole rfl (by assumption) | exact Xt.whole rfl (by simp only [size_ic, Value.cells]; omega) | exact ⟨rfl⟩)) ?_
    refine WO_allocG Hvac.zeroValue104 ?_
    intro b6 v6 hg6 hE6 hH6 hl6
    try simp only [size_alloc, size_setB, size_drew] at hg6
    have hzz6 := hE6.1
    try simp only [size_alloc, size_setB, size_drew] at hzz6
    replace hH6 : Hb v6 b6 (.cells ((encYA (ac0 (List.replicate 20 0))).toArray) 104 (0, 0)) := hH6
    first | refine WO_storeW Hvac.sizeOf104 rfl (v := .agg _) rfl (Hb.h (by repeat (first | assumption | exact Hb.newY _ _ | refine Hb.alloc ?_ | refine Hb.drew ?_ | refine Hb.ext (by assumption) ?_ | exact Hb.setSameL (by first | omega | (simp only [size_alloc, size_setB, size_drew]; omega)) | exact Hb.setSame (by assumption) | refine Hb.set (by first | omega | (simp only [size_alloc, size_setB, size_drew]; omega)) ?_ ))) rfl (by first | omega | assumption | rfl | decide | exact Nat.le_refl _ | (simp only [size_ic, Value.cells]; omega) | (simp; omega) | simp) (by first | omega | assumption | rfl | decide | exact Nat.le_refl _ | (simp only [size_ic, Value.cells]; omega) | (simp; omega) | simp) (by first | exact oneCell_ic | assumption) ?_ | refine WO_store Hvac.sizeOf104 rfl (v := .agg _) rfl (Hb.h (by repeat (first | assumption | exact Hb.newY _ _ | refine Hb.alloc ?_ | refine Hb.drew ?_ | refine Hb.ext (by assumption) ?_ | exact Hb.setSameL (by first | omega | (simp only [size_alloc, size_setB, size_drew]; omega)) | exact Hb.setSame (by assumption) | refine Hb.set (by first | omega | (simp only [size_alloc, size_setB, size_drew]; omega)) ?_ ))) (by first | omega | assumption | rfl | decide | exact Nat.le_refl _ | (simp only [size_ic, Value.cells]; omega) | (simp; omega) | simp) (by first | omega | assumption | rfl | decide | exact Nat.le_refl _ | (simp only [size_ic, Value.cells]; omega) | (simp; omega) | simp) (by first | exact oneCell_ic | assumption) ?_
    refine WO_nil ?_
    refine thn_normal ?_
    refine W_seq ?_
    refine W_region rfl ?_
    refine WO_p (PS_fieldAddr 0 Hvac.runUnderlying104 rfl Hvac.sizeOf25 rfl rfl) ?_
    refine WO_loadA _ Hvac.isAgg25 Hvac.sizeOf25 rfl (Hb.h (by repeat (first | assumption | exact Hb.newY _ _ | refine Hb.alloc ?_ | refine Hb.drew ?_ | refine Hb.ext (by assumption) ?_ | exact Hb.setSameL (by first | omega | (simp only [size_alloc, size_setB, size_drew]; omega)) | exact Hb.setSame (by assumption) | refine Hb.set (by first | omega | (simp only [size_alloc, size_setB, size_drew]; omega)) ?_ ))) (by first | omega | assumption | rfl | decide | exact Nat.le_refl _ | (simp only [size_ic, Value.cells]; omega) | (simp; omega) | simp) (Xt.h (by first | assumption | exact Xt.whole rfl rfl | exact Xt.whole rfl (by assumption) | exact Xt.whole rfl (by simp only [size_ic, Value.cells]; omega) | exact ⟨rfl⟩)) ?_
    refine WO_loadA _ Hvac.isAgg25 Hvac.sizeOf25 rfl (Hb.h (by repeat (first | assumption | exact Hb.newY _ _ | refine Hb.alloc ?_ | refine Hb.drew ?_ | refine Hb.ext (by assumption) ?_ | exact Hb.setSameL (by first | omega | (simp only [size_alloc, size_setB, size_drew]; omega)) | exact Hb.setSame (by assumption) | refine Hb.set (by first | omega | (simp only [size_alloc, size_setB, size_drew]; omega)) ?_ ))) (by first | omega | assumption | rfl | decide | exact Nat.le_refl _ | (simp only [size_ic, Value.cells]; omega) | (simp; omega) | simp) (Xt.h (by first | assumption | exact Xt.whole rfl rfl | exact Xt.whole rfl (by assumption) | exact Xt.whole rfl (by simp only [size_ic, Value.cells]; omega) | exact ⟨rfl⟩)) ?_
    refine WO_p (PS_eqlA Hvac.underlying25 Hvac.underlying5 Hvac.sizeOf5 Hvac.eqGuardType25 rfl rfl (by first | omega | assumption | rfl | decide | exact Nat.le_refl _ | (simp only [size_ic, Value.cells]; omega) | (simp; omega) | simp) (by first | omega | assumption | rfl | decide | exact Nat.le_refl _ | (simp only [size_ic, Value.cells]; omega) | (simp; omega) | simp)) ?_
    refine WO_nil ?_
    refine thn_normal ?_
    refine W_if rfl (fun hb4 => ?_) (fun hb4 => ?_)
    · have hb4p := hb4.h; try simp only [al_ete, al_dfn, Bool.not_eq_true', Bool.not_eq_false', al_ne, Bool.not_not, al_nn] at hb4p
      have hhit : x.addr = A := hb4p
      refine W_seq ?_
      refine W_region rfl ?_
      refine WO_loadA _ Hvac.isAgg104 Hvac.sizeOf104 rfl (Hb.h (by repeat (first | assumption | exact Hb.newY _ _ | refine Hb.alloc ?_ | refine Hb.drew ?_ | refine Hb.ext (by assumption) ?_ | exact Hb.setSameL (by first | omega | (simp only [size_alloc, size_setB, size_drew]; omega)) | exact Hb.setSame (by assumption) | refine Hb.set (by first | omega | (simp only [size_alloc, size_setB, size_drew]; omega)) ?_ ))) (by first | omega | assumption | rfl | decide | exact Nat.le_refl _ | (simp only [size_ic, Value.cells]; omega) | (simp; omega) | simp) (Xt.h (by first | assumption | exact Xt.whole rfl rfl | exact Xt.whole rfl (by assumption) | exact Xt.whole rfl (by simp only [size_ic, Value.cells]; omega) | exact ⟨rfl⟩)) ?_
      first | refine WO_storeW Hvac.sizeOf104 rfl (v := .agg _) rfl (Hb.h (by repeat (first | assumption | exact Hb.newY _ _ | refine Hb.alloc ?_ | refine Hb.drew ?_ | refine Hb.ext (by assumption) ?_ | exact Hb.setSameL (by first | omega | (simp only [size_alloc, size_setB, size_drew]; omega)) | exact Hb.setSame (by assumption) | refine Hb.set (by first | omega | (simp only [size_alloc, size_setB, size_drew]; omega)) ?_ ))) rfl (by first | omega | assumption | rfl | decide | exact Nat.le_refl _ | (simp only [size_ic, Value.cells]; omega) | (simp; omega) | simp) (by first | omega | assumption | rfl | decide | exact Nat.le_refl _ | (simp only [size_ic, Value.cells]; omega) | (simp; omega) | simp) (by first | exact oneCell_ic | assumption) ?_ | refine WO_store Hvac.sizeOf104 rfl (v := .agg _) rfl (Hb.h (by repeat (first | assumption | exact Hb.newY _ _ | refine Hb.alloc ?_ | refine Hb.drew ?_ | refine Hb.ext (by assumption) ?_ | exact Hb.setSameL (by first | omega | (simp only [size_alloc, size_setB, size_drew]; omega)) | exact Hb.setSame (by assumption) | refine Hb.set (by first | omega | (simp only [size_alloc, size_setB, size_drew]; omega)) ?_ ))) (by first | omega | assumption | rfl | decide | exact Nat.le_refl _ | (simp only [size_ic, Value.cells]; omega) | (simp; omega) | simp) (by first | omega | assumption | rfl | decide | exact Nat.le_refl _ | (simp only [size_ic, Value.cells]; omega) | (simp; omega) | simp) (by first | exact oneCell_ic | assumption) ?_
      refine WO_nil ?_
      refine thn_normal ?_
      refine W_ret ?_
      refine inBlk_ret ?_
      refine thn_ret ?_
      refine thn_ret ?_
      refine inBlk_ret ?_
      refine thn_ret ?_
      refine bodyQ_cell1 Hvac.results17 rfl Hvac.isAgg104 Hvac.sizeOf104 rfl (Hb.h (by repeat (first | assumption | exact Hb.newY _ _ | refine Hb.alloc ?_ | refine Hb.drew ?_ | refine Hb.ext (by assumption) ?_ | exact Hb.setSameL (by first | omega | (simp only [size_alloc, size_setB, size_drew]; omega)) | exact Hb.setSame (by assumption) | refine Hb.set (by first | omega | (simp only [size_alloc, size_setB, size_drew]; omega)) ?_ ))) (by first | omega | assumption | rfl | decide | exact Nat.le_refl _ | (simp only [size_ic, Value.cells]; omega) | (simp; omega) | simp) ?_
      first
      | (refine ⟨(by repeat (first | assumption | exact Ext.refl _ | refine Ext.alloc ?_ _ | refine Ext.drew ?_ | refine Ext.setB ?_ (by first | omega | (simp only [size_alloc, size_setB, size_drew]; omega)) _ | refine Ext.trans ?_ (by assumption))), x, rfl, hhit, ?_⟩
         rw [yacct_hit hno hy (by rw [← hxy.addr]; exact hhit)]
         exact AcR.ext hxy (by repeat (first | assumption | exact Ext.refl _ | refine Ext.alloc ?_ _ | refine Ext.drew ?_ | refine Ext.setB ?_ (by first | omega | (simp only [size_alloc, size_setB, size_drew]; omega)) _ | refine Ext.trans ?_ (by assumption))))
      | (refine ⟨(by repeat (first | assumption | exact Ext.refl _ | refine Ext.alloc ?_ _ | refine Ext.drew ?_ | refine Ext.setB ?_ (by first | omega | (simp only [size_alloc, size_setB, size_drew]; omega)) _ | refine Ext.trans ?_ (by assumption))), ac0 A, rfl, rfl, ?_⟩
         rw [yacct_miss (fun j z hz => hno j z (by have := lt_of_getElem? hz; omega) hz)]
         exact AcR.zero _ hA)
    · have hb4p := hb4.h; try simp only [al_ete, al_dfn, Bool.not_eq_true', Bool.not_eq_false', al_ne, Bool.not_not, al_nn] at hb4p
      have hne : x.addr ≠ A := hb4p
      refine W_skip ?_
      refine inBlk_normal ?_
      refine thn_normal ?_
      refine W_region rfl ?_
      refine WO_p (PS_add_i64n rfl rfl (by omega) (by omega)) ?_
      refine WO_p (PS_move_int rfl) ?_
      refine WO_nil ?_
      refine thn_normal ?_
      exact ⟨k2 - 1, by omega, i + 1, by omega, fun j z hj hz => by
        rcases Nat.lt_or_ge j i with h3 | h3
        · exact hno j z h3 hz
        · rw [show j = i by omega, hy] at hz; rw [← Option.some.inj hz, ← hxy.addr]; exact hne, ⟨rfl, rfl, rfl, rfl, congrArg (Value.int .i64) (by omega), trivial⟩, (by repeat (first | assumption | exact Ext.refl _ | refine Ext.alloc ?_ _ | refine Ext.drew ?_ | refine Ext.setB ?_ (by first | omega | (simp only [size_alloc, size_setB, size_drew]; omega)) _ | refine Ext.trans ?_ (by assumption))), Hb.mk (Hb.h (by repeat (first | assumption | exact Hb.newY _ _ | refine Hb.alloc ?_ | refine Hb.drew ?_ | refine Hb.ext (by assumption) ?_ | exact Hb.setSameL (by first | omega | (simp only [size_alloc, size_setB, size_drew]; omega)) | exact Hb.setSame (by assumption) | refine Hb.set (by first | omega | (simp only [size_alloc, size_setB, size_drew]; omega)) ?_ ))), Hb.mk (Hb.h (by repeat (first | assumption | exact Hb.newY _ _ | refine Hb.alloc ?_ | refine Hb.drew ?_ | refine Hb.ext (by assumption) ?_ | exact Hb.setSameL (by first | omega | (simp only [size_alloc, size_setB, size_drew]; omega)) | exact Hb.setSame (by assumption) | refine Hb.set (by first | omega | (simp only [size_alloc, size_setB, size_drew]; omega)) ?_ )))⟩
  · have hb2p := hb2.h; try simp only [al_ete, al_dfn, Bool.not_eq_true', Bool.not_eq_false', al_ne, Bool.not_not, al_nn] at hb2p
    refine W_exit ?_
    refine thn_exit ?_
    refine thn_exit ?_
    refine inBlk_exit ?_
    refine thn_normal ?_
    refine W_seq ?_
    refine W_region rfl ?_
    refine WO_loadA _ Hvac.isAgg25 Hvac.sizeOf25 rfl (Hb.h (by repeat (first | assumption | exact Hb.newY _ _ | refine Hb.alloc ?_ | refine Hb.drew ?_ | refine Hb.ext (by assumption) ?_ | exact Hb.setSameL (by first | omega | (simp only [size_alloc, size_setB, size_drew]; omega)) | exact Hb.setSame (by assumption) | refine Hb.set (by first | omega | (simp only [size_alloc, size_setB, size_drew]; omega)) ?_ ))) (by first | omega | assumption | rfl | decide | exact Nat.le_refl _ | (simp only [size_ic, Value.cells]; omega) | (simp; omega) | simp) (Xt.h (by first | assumption | exact Xt.whole rfl rfl | exact Xt.whole rfl (by assumption) | exact Xt.whole rfl (by simp only [size_ic, Value.cells]; omega) | exact ⟨rfl⟩)) ?_
    refine WO_p (PS_b104_0 (A := A) rfl hAl) ?_
    first | refine WO_storeW Hvac.sizeOf104 rfl (v := .agg _) rfl (Hb.h (by repeat (first | assumption | exact Hb.newY _ _ | refine Hb.alloc ?_ | refine Hb.drew ?_ | refine Hb.ext (by assumption) ?_ | exact Hb.setSameL (by first | omega | (simp only [size_alloc, size_setB, size_drew]; omega)) | exact Hb.setSame (by assumption) | refine Hb.set (by first | omega | (simp only [size_alloc, size_setB, size_drew]; omega)) ?_ ))) rfl (by first | omega | assumption | rfl | decide | exact Nat.le_refl _ | (simp only [size_ic, Value.cells]; omega) | (simp; omega) | simp) (by first | omega | assumption | rfl | decide | exact Nat.le_refl _ | (simp only [size_ic, Value.cells]; omega) | (simp; omega) | simp) (by first | exact oneCell_ic | assumption) ?_ | refine WO_store Hvac.sizeOf104 rfl (v := .agg _) rfl (Hb.h (by repeat (first | assumption | exact Hb.newY _ _ | refine Hb.alloc ?_ | refine Hb.drew ?_ | refine Hb.ext (by assumption) ?_ | exact Hb.setSameL (by first | omega | (simp only [size_alloc, size_setB, size_drew]; omega)) | exact Hb.setSame (by assumption) | refine Hb.set (by first | omega | (simp only [size_alloc, size_setB, size_drew]; omega)) ?_ ))) (by first | omega | assumption | rfl | decide | exact Nat.le_refl _ | (simp only [size_ic, Value.cells]; omega) | (simp; omega) | simp) (by first | omega | assumption | rfl | decide | exact Nat.le_refl _ | (simp only [size_ic, Value.cells]; omega) | (simp; omega) | simp) (by first | exact oneCell_ic | assumption) ?_
    refine WO_nil ?_
    refine thn_normal ?_
    refine W_ret ?_
    refine bodyQ_cell1 Hvac.results17 rfl Hvac.isAgg104 Hvac.sizeOf104 rfl (Hb.h (by repeat (first | assumption | exact Hb.newY _ _ | refine Hb.alloc ?_ | refine Hb.drew ?_ | refine Hb.ext (by assumption) ?_ | exact Hb.setSameL (by first | omega | (simp only [size_alloc, size_setB, size_drew]; omega)) | exact Hb.setSame (by assumption) | refine Hb.set (by first | omega | (simp only [size_alloc, size_setB, size_drew]; omega)) ?_ ))) (by first | omega | assumption | rfl | decide | exact Nat.le_refl _ | (simp only [size_ic, Value.cells]; omega) | (simp; omega) | simp) ?_
    first
    | (refine ⟨(by repeat (first | assumption | exact Ext.refl _ | refine Ext.alloc ?_ _ | refine Ext.drew ?_ | refine Ext.setB ?_ (by first | omega | (simp only [size_alloc, size_setB, size_drew]; omega)) _ | refine Ext.trans ?_ (by assumption))), x, rfl, hhit, ?_⟩
       rw [yacct_hit hno hy (by rw [← hxy.addr]; exact hhit)]
       exact AcR.ext hxy (by repeat (first | assumption | exact Ext.refl _ | refine Ext.alloc ?_ _ | refine Ext.drew ?_ | refine Ext.setB ?_ (by first | omega | (simp only [size_alloc, size_setB, size_drew]; omega)) _ | refine Ext.trans ?_ (by assumption))))
    | (refine ⟨(by repeat (first | assumption | exact Ext.refl _ | refine Ext.alloc ?_ _ | refine Ext.drew ?_ | refine Ext.setB ?_ (by first | omega | (simp only [size_alloc, size_setB, size_drew]; omega)) _ | refine Ext.trans ?_ (by assumption))), ac0 A, rfl, rfl, ?_⟩
       rw [yacct_miss (fun j z hz => hno j z (by have := lt_of_getElem? hz; omega) hz)]
       exact AcR.zero _ hA)

end Go.Proofs.YgvacwGreat
