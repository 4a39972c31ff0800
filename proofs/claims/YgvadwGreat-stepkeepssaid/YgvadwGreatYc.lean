import Derived.Test.YgvadwGreatYb
import Derived.Test.YgvadwGreatXg
namespace Go.Proofs.YgvadwGreat
set_option linter.unusedSimpArgs false
set_option linter.unusedVariables false
/-! the specification's chain: only that it is made -/
def encY (A : List Int) (n b c s : SV) : List Value := A.map (Value.int .u8) ++ [sv n, sv b, sv c, sv s]
def encY2 (k v : SV) : List Value := [sv k, sv v]
theorem PS_b114 {ρ : Nat → Value} {x0 x1 x2 x3 : Operand} {A : List Int} {p1 p2 p3 : Option Addr} {n1 n2 n3 c1 c2 c3 : Nat} (h0 : ev ρ x0 = .agg (ic .u8 A)) (hA : A.length = 20) (h1 : ev ρ x1 = .slice p1 n1 c1) (h2 : ev ρ x2 = .slice p2 n2 c2) (h3 : ev ρ x3 = .slice p3 n3 c3) :
    PS Hvad.prog (.build 114 #[(0, x0), (1, x1), (2, x2), (3, x3)]) ρ (.agg (encY A (p1, n1, c1) (p2, n2, c2) (p3, n3, c3) (none, 0, 0)).toArray) := by
  obtain ⟨a0, a1, a2, a3, a4, a5, a6, a7, a8, a9, b0, b1, b2, b3, b4, b5, b6, b7, b8, b9, rfl⟩ := len20 hA
  exact PS_buildS Hvad.zeroValue114 Hvad.runUnderlying114 (places_run (pl := [(0, 20), (20, 1), (21, 1), (22, 1), (23, 1)]) ⟨rfl, Hvad.sizeOf25, rfl, Hvad.sizeOf95, rfl, Hvad.sizeOf95, rfl, Hvad.sizeOf32, rfl, Hvad.sizeOf112, trivial⟩) (ps := [(0, .agg (ic .u8 [a0, a1, a2, a3, a4, a5, a6, a7, a8, a9, b0, b1, b2, b3, b4, b5, b6, b7, b8, b9])), (1, .slice p1 n1 c1), (2, .slice p2 n2 c2), (3, .slice p3 n3 c3)]) (by simp only [List.map, h0, h1, h2, h3]) (by kernel_rfl)
theorem PS_b118 {ρ : Nat → Value} {x0 x1 : Operand} {p1 p2 : Option Addr} {n1 n2 c1 c2 : Nat} (h0 : ev ρ x0 = .slice p1 n1 c1) (h1 : ev ρ x1 = .slice p2 n2 c2) :
    PS Hvad.prog (.build 118 #[(0, x0), (1, x1)]) ρ (.agg (encY2 (p1, n1, c1) (p2, n2, c2)).toArray) :=
  PS_buildS Hvad.zeroValue118 Hvad.runUnderlying118 (places_run (pl := [(0, 1), (1, 1)]) ⟨rfl, Hvad.sizeOf95, rfl, Hvad.sizeOf95, trivial⟩) (ps := [(0, .slice p1 n1 c1), (1, .slice p2 n2 c2)]) (by simp only [List.map, h0, h1]) (by kernel_rfl)
theorem info114 : Hvad.prog.info? 114 = some Hvad.t114 := by kernel_rfl
theorem info118 : Hvad.prog.info? 118 = some Hvad.t118 := by kernel_rfl
theorem one_encY (A : List Int) (n b c s : SV) : ∀ u ∈ encY A n b c s, u.oneCell' = true := by
  intro u hu
  simp only [encY, List.mem_append, List.mem_map, List.mem_cons, List.not_mem_nil, al_of] at hu
  rcases hu with ⟨a, _, rfl⟩ | rfl | rfl | rfl | rfl <;> rfl
theorem one_encAc (x : Ac) : ∀ u ∈ (encAc x).toArray.toList, u.oneCell' = true := by
  intro u hu
  simp only [encAc, List.mem_append, List.mem_map, List.mem_cons, List.not_mem_nil, al_of] at hu
  rcases hu with ⟨a, _, rfl⟩ | rfl | ⟨a, _, rfl⟩ | rfl | rfl <;> rfl
abbrev RowV (n : Nat) (T : TypeId) (w : World) (s : Option (Nat × Nat)) (l : List (List Value)) : Prop := Row (fun x : List Value => x) n T w s l
theorem app_yA {w : World} {s : Option (Nat × Nat)} {l : List (List Value)} {x : List Value} {b1 : Nat} {T : TypeId} (hrow : RowV 24 114 w s l) (hx : x.length = 24) (hone : ∀ u ∈ x, u.oneCell' = true) (hsrc : Hb w b1 (.cells x.toArray T (0, 0))) (hl : l.length ≤ 100) :
    ∃ s' w', (Builtin.append_ #[92, 92] 92 #[slv s l.length, .slice (some ⟨b1, 0, none⟩) 1 1]).run Hvad.prog w = .ok (slv s' (l.length + 1)) w' ∧ RowV 24 114 w' s' (l ++ [x]) ∧ KeepO (blkOf s) w w' ∧ (∀ b, blkOf s' b → blkOf s b ∨ w.heap.size ≤ b) :=
  run_append_row (enc := fun x : List Value => x) (bytes := Hvad.t114.bytes) Hvad.underlying92 info114 rfl rfl rfl rfl hrow hx hone hsrc (Nat.le_trans (Nat.mul_le_mul (show l.length + 1 ≤ 70000 by omega) (show Hvad.t114.bytes ≤ 400 by decide)) (by decide)) (by omega)
theorem app_yS {w : World} {s : Option (Nat × Nat)} {l : List (List Value)} {x : List Value} {b1 : Nat} {T : TypeId} (hrow : RowV 2 118 w s l) (hx : x.length = 2) (hone : ∀ u ∈ x, u.oneCell' = true) (hsrc : Hb w b1 (.cells x.toArray T (0, 0))) (hl : l.length ≤ 100) :
    ∃ s' w', (Builtin.append_ #[112, 112] 112 #[slv s l.length, .slice (some ⟨b1, 0, none⟩) 1 1]).run Hvad.prog w = .ok (slv s' (l.length + 1)) w' ∧ RowV 2 118 w' s' (l ++ [x]) ∧ KeepO (blkOf s) w w' ∧ (∀ b, blkOf s' b → blkOf s b ∨ w.heap.size ≤ b) :=
  run_append_row (enc := fun x : List Value => x) (bytes := Hvad.t118.bytes) Hvad.underlying112 info118 rfl rfl rfl rfl hrow hx hone hsrc (Nat.le_trans (Nat.mul_le_mul (show l.length + 1 ≤ 70000 by omega) (show Hvad.t118.bytes ≤ 400 by decide)) (by decide)) (by omega)
/-- the specification's chain as far as New reads it -/
structure YS (w0 w : World) (b : Nat) (c : Array Value) (sA : Option (Nat × Nat)) (lA : List (List Value)) (T : SV) (m : Nat) : Prop where
  blk : Hb w b (.cells c 104 (0, 0))
  sz : c.size = 179
  ca : Ce c 0 (.slice (slp sA) lA.length (slc sA))
  row : RowV 24 114 w sA lA
  low : ∀ x, blkOf sA x → w0.heap.size ≤ x
  ct : Ce c 18 (.slice T.1 T.2.1 T.2.2)
  ns : NS 5 w T m
theorem YS.kt {w0 w w' : World} {b : Nat} {c : Array Value} {sA : Option (Nat × Nat)} {lA : List (List Value)} {T : SV} {m : Nat} (h : YS w0 w b c sA lA T m) (h1 : KT 104 w w') (h2 : ∀ x o, blkOf sA x → Hb w x o → Hb w' x o) (h3 : KT 5 w w') : YS w0 w' b c sA lA T m :=
  { h with blk := h1 _ _ _ h.blk, row := h.row.keep fun b cap o e hb => h2 b o ⟨cap, e⟩ hb, ns := h.ns.kt h3 }
theorem YS.ext {w0 w w' : World} {b : Nat} {c : Array Value} {sA : Option (Nat × Nat)} {lA : List (List Value)} {T : SV} {m : Nat} (h : YS w0 w b c sA lA T m) (he : Ext w w') : YS w0 w' b c sA lA T m :=
  h.kt (KT.ext he) (fun x o _ hb => hb.ext he) (KT.ext he)
/-- the account in the making -/
structure YA (w0 w : World) (b : Nat) (A : List Int) (n bl c : SV) (sS : Option (Nat × Nat)) (lS : List (List Value)) : Prop where
  blk : Hb w b (.cells (encY A n bl c (slp sS, lS.length, slc sS)).toArray 114 (0, 0))
  row : RowV 2 118 w sS lS
  low : ∀ x, blkOf sS x → w0.heap.size ≤ x
  ns : NS 5 w bl 32
theorem encY_len {A : List Int} (h : A.length = 20) (n b c s : SV) : (encY A n b c s).length = 24 := by simp [encY, h]
theorem encY_set {A : List Int} (h : A.length = 20) (n b c s s' : SV) : (encY A n b c s).toArray.setIfInBounds (0 + 23) (.slice s'.1 s'.2.1 s'.2.2) = (encY A n b c s').toArray := by
  obtain ⟨a0, a1, a2, a3, a4, a5, a6, a7, a8, a9, b0, b1, b2, b3, b4, b5, b6, b7, b8, b9, rfl⟩ := len20 h
  rfl
theorem encY_s {A : List Int} (h : A.length = 20) (n b c s : SV) : Ce (encY A n b c s).toArray (0 + 23) (.slice s.1 s.2.1 s.2.2) := ⟨by
  obtain ⟨a0, a1, a2, a3, a4, a5, a6, a7, a8, a9, b0, b1, b2, b3, b4, b5, b6, b7, b8, b9, rfl⟩ := len20 h
  rfl⟩
theorem encY_b {A : List Int} (h : A.length = 20) (n b c s : SV) : Ce (encY A n b c s).toArray (0 + 21) (.slice b.1 b.2.1 b.2.2) := ⟨by
  obtain ⟨a0, a1, a2, a3, a4, a5, a6, a7, a8, a9, b0, b1, b2, b3, b4, b5, b6, b7, b8, b9, rfl⟩ := len20 h
  rfl⟩
theorem z104_size : Hvad.zeroCells104.size = 179 := by kernel_rfl
theorem z104_0 : Ce Hvad.zeroCells104 0 (.slice none 0 0) := ⟨by kernel_rfl⟩
theorem z104_18 : Ce Hvad.zeroCells104 18 (.slice none 0 0) := ⟨by kernel_rfl⟩
theorem ac_whole {w : World} {x : Ac} (h : AcOK w x) : ((encAc x).drop 0).take 55 = encAc x := by rw [List.drop_zero, List.take_of_length_le (by rw [encAc_len h]; omega)]

set_option maxRecDepth 10000 in
set_option maxHeartbeats 4000000 in
theorem newY_spec (s : SV) (l : List Ac) (e : Ev) (w : World) (hin : InW w s l) (hev : EvOK w e) : Ret Hvad.prog 11 #[.slice s.1 s.2.1 s.2.2, .agg (encEv e).toArray] w fun u w' => Ext w w' ∧ ∃ p, u = .tuple #[.pointer p, .bool (wok l && decide (e.hash.2.1 ≤ 4))] := by
  have hel := encEv_len hev
  have hel2 : (encEv e).toArray.size = 120 := by simpa using hel
  have hxe : Xt (encEv e).toArray 0 (0 + 120) (encEv e).toArray := Xt.whole rfl hel2
  have hce := encEv_hash hev
  obtain ⟨p, n, cp⟩ := s
  have hsl := hin.row.len
  dsimp only at hsl ⊢
  subst hsl
  refine Ret_of_W Hvad.func11 rfl rfl ?_
  refine W_seq ?_
  refine W_region rfl ?_
  refine WO_boxG (.agg _) rfl ?_
  intro b3 v3 hg3 hE3 hH3 hl3
  try simp only [size_alloc, size_setB, size_drew] at hg3
  have hzz3 := hE3.1
  try simp only [size_alloc, size_setB, size_drew] at hzz3
  refine WO_p (PS_assign_ptr rfl) ?_
  refine WO_p (PS_assign_bool rfl) ?_
  refine WO_nil ?_
  refine thn_normal ?_
  refine W_seq ?_
  refine W_seq ?_
  refine W_region rfl ?_
  refine WO_p (PS_move_slice rfl) ?_
  refine WO_call Hvad.call21 (by rfl) (Ret.mono (worldOK_spec (p, l.length, cp) l _ (hin.ext (by repeat (first | assumption | exact Ext.refl _ | refine Ext.alloc ?_ _ | refine Ext.drew ?_ | refine Ext.setB ?_ (by first | omega | (simp only [size_alloc, size_setB, size_drew]; omega)) _ | exact Ext.trans (by assumption) (by assumption) | refine Ext.trans ?_ (by assumption))))) ?_)
  rintro _ w21_0 ⟨rfl, hE21_0⟩
  have hz21_0 := hE21_0.1
  try simp only [size_alloc, size_setB, size_drew] at hz21_0
  refine WO_p (PS_not rfl) ?_
  refine WO_p (PS_move_bool rfl) ?_
  refine WO_if (t := 15) rfl (fun hb4 => ?_) (fun hb4 => ?_)
  · have hb4p := hb4.h; try simp only [al_ete, al_dfn, Bool.not_eq_true', Bool.not_eq_false', al_ne, Bool.not_not, al_nn] at hb4p
    have hwk : wok l = false := by simpa using hb4p
    refine WO_guardF rfl rfl hb4.h ?_
    refine WO_guardF rfl rfl hb4.h ?_
    refine WO_guardF rfl rfl hb4.h ?_
    refine WO_p (PS_pickT rfl hb4.h rfl) ?_
    refine WO_nil ?_
    refine thn_normal ?_
    refine W_condT rfl rfl ?_
    refine W_seq ?_
    refine W_region rfl ?_
    refine WO_p (PS_assign_ptr rfl) ?_
    refine WO_p (PS_assign_bool rfl) ?_
    refine WO_nil ?_
    refine thn_normal ?_
    refine W_ret ?_
    refine thn_ret ?_
    refine bodyQ_ret2 Hvad.results11 rfl rfl (.pointer _) (.bool _) rfl rfl ?_
    first
    | exact ⟨hE2, some ⟨b20, 0, none⟩, by rw [hwk, al_et h4]; rfl⟩
    | exact ⟨(by repeat (first | assumption | exact Ext.refl _ | refine Ext.alloc ?_ _ | refine Ext.drew ?_ | refine Ext.setB ?_ (by first | omega | (simp only [size_alloc, size_setB, size_drew]; omega)) _ | refine Ext.trans ?_ (by assumption))), none, by rw [hwk]; rfl⟩
    | exact ⟨(by repeat (first | assumption | exact Ext.refl _ | refine Ext.alloc ?_ _ | refine Ext.drew ?_ | refine Ext.setB ?_ (by first | omega | (simp only [size_alloc, size_setB, size_drew]; omega)) _ | refine Ext.trans ?_ (by assumption))), none, by rw [hwk, al_ef h4]; rfl⟩
  · have hb4p := hb4.h; try simp only [al_ete, al_dfn, Bool.not_eq_true', Bool.not_eq_false', al_ne, Bool.not_not, al_nn] at hb4p
    have hwk : wok l = true := by simpa using hb4p
    have hl8 := wok_len hwk
    refine WO_guardT rfl rfl hb4.h ?_
    refine WO_loadA _ Hvad.isAgg31 Hvad.sizeOf31 rfl (Hb.h (by repeat (first | assumption | exact Hb.newY _ _ | refine Hb.alloc ?_ | refine Hb.drew ?_ | refine Hb.ext (by assumption) ?_ | exact Hb.setSameL (by first | omega | (simp only [size_alloc, size_setB, size_drew]; omega)) | exact Hb.setSame (by assumption) | refine Hb.set (by first | omega | (simp only [size_alloc, size_setB, size_drew]; omega)) ?_ ))) (by first | omega | assumption | rfl | decide | exact Nat.le_refl _ | (simp only [size_ic, Value.cells]; omega) | simp) (Xt.h (by first | assumption | exact Xt.whole rfl rfl | exact Xt.whole rfl (by simp only [size_ic, Value.cells]; omega) | exact ⟨rfl⟩)) ?_
    refine WO_guardT rfl rfl hb4.h ?_
    refine WO_call Hvad.call18 (by rfl) (Ret.mono (envOK_spec e _ (hev.ext (by repeat (first | assumption | exact Ext.refl _ | refine Ext.alloc ?_ _ | refine Ext.drew ?_ | refine Ext.setB ?_ (by first | omega | (simp only [size_alloc, size_setB, size_drew]; omega)) _ | exact Ext.trans (by assumption) (by assumption) | refine Ext.trans ?_ (by assumption))))) ?_)
    rintro _ w18_4 ⟨rfl, hE18_4⟩
    have hz18_4 := hE18_4.1
    try simp only [size_alloc, size_setB, size_drew] at hz18_4
    refine WO_guardT rfl rfl hb4.h ?_
    refine WO_p (PS_not rfl) ?_
    refine WO_p (PS_pickF rfl hb4.h rfl) ?_
    refine WO_nil ?_
    refine thn_normal ?_
    refine W_if rfl (fun hb8 => ?_) (fun hb8 => ?_)
    · have hb8p := hb8.h; try simp only [al_ete, al_dfn, Bool.not_eq_true', Bool.not_eq_false', al_ne, Bool.not_not, al_nn] at hb8p
      have h4 : ¬ e.hash.2.1 ≤ 4 := by simpa using hb8p
      refine W_seq ?_
      refine W_region rfl ?_
      refine WO_p (PS_assign_ptr rfl) ?_
      refine WO_p (PS_assign_bool rfl) ?_
      refine WO_nil ?_
      refine thn_normal ?_
      refine W_ret ?_
      refine thn_ret ?_
      refine bodyQ_ret2 Hvad.results11 rfl rfl (.pointer _) (.bool _) rfl rfl ?_
      first
      | exact ⟨hE2, some ⟨b20, 0, none⟩, by rw [hwk, al_et h4]; rfl⟩
      | exact ⟨(by repeat (first | assumption | exact Ext.refl _ | refine Ext.alloc ?_ _ | refine Ext.drew ?_ | refine Ext.setB ?_ (by first | omega | (simp only [size_alloc, size_setB, size_drew]; omega)) _ | refine Ext.trans ?_ (by assumption))), none, by rw [hwk]; rfl⟩
      | exact ⟨(by repeat (first | assumption | exact Ext.refl _ | refine Ext.alloc ?_ _ | refine Ext.drew ?_ | refine Ext.setB ?_ (by first | omega | (simp only [size_alloc, size_setB, size_drew]; omega)) _ | refine Ext.trans ?_ (by assumption))), none, by rw [hwk, al_ef h4]; rfl⟩
    · have hb8p := hb8.h; try simp only [al_ete, al_dfn, Bool.not_eq_true', Bool.not_eq_false', al_ne, Bool.not_not, al_nn] at hb8p
      have h4 : e.hash.2.1 ≤ 4 := by simpa using hb8p
      refine W_skip ?_
      refine thn_normal ?_
      refine W_seq ?_
      refine W_region rfl ?_
      refine WO_allocG Hvad.zeroValue104 ?_
      intro b20 v20 hg20 hE20 hH20 hl20
      try simp only [size_alloc, size_setB, size_drew] at hg20
      have hzz20 := hE20.1
      try simp only [size_alloc, size_setB, size_drew] at hzz20
      replace hH20 : Hb v20 b20 (.cells (Hvad.zeroCells104) 104 (0, 0)) := hH20
      refine WO_p (PS_assign_ptr rfl) ?_
      refine WO_nil ?_
      refine thn_normal ?_
      refine W_seq ?_
      refine W_region rfl ?_
      refine WO_p (PS_move_ptr rfl) ?_
      refine WO_loadA _ Hvad.isAgg31 Hvad.sizeOf31 rfl (Hb.h (by repeat (first | assumption | exact Hb.newY _ _ | refine Hb.alloc ?_ | refine Hb.drew ?_ | refine Hb.ext (by assumption) ?_ | exact Hb.setSameL (by first | omega | (simp only [size_alloc, size_setB, size_drew]; omega)) | exact Hb.setSame (by assumption) | refine Hb.set (by first | omega | (simp only [size_alloc, size_setB, size_drew]; omega)) ?_ ))) (by first | omega | assumption | rfl | decide | exact Nat.le_refl _ | (simp only [size_ic, Value.cells]; omega) | simp) (Xt.h (by first | assumption | exact Xt.whole rfl rfl | exact Xt.whole rfl (by simp only [size_ic, Value.cells]; omega) | exact ⟨rfl⟩)) ?_
      refine WO_p (PS_nilCheck rfl) ?_
      refine WO_p (PS_fieldAddr 0 Hvad.runUnderlying104 rfl Hvad.sizeOf102 rfl rfl) ?_
      refine WO_p (PS_fieldAddr 59 Hvad.runUnderlying102 rfl Hvad.sizeOf31 rfl rfl) ?_
      refine WO_store Hvad.sizeOf31 rfl (v := .agg (encEv e).toArray) rfl (Hb.h (by repeat (first | assumption | exact Hb.newY _ _ | refine Hb.alloc ?_ | refine Hb.drew ?_ | refine Hb.ext (by assumption) ?_ | exact Hb.setSameL (by first | omega | (simp only [size_alloc, size_setB, size_drew]; omega)) | exact Hb.setSame (by assumption) | refine Hb.set (by first | omega | (simp only [size_alloc, size_setB, size_drew]; omega)) ?_ ))) hel2 (by rw [z104_size]; decide) (one_encEv e) ?_
      refine WO_nil ?_
      refine thn_normal ?_
      refine W_seq ?_
      refine W_gen2 fun w4 hw4 => ?_
      have hs4 : (splice Hvad.zeroCells104 (0 + 0 + 59) (encEv e)).size = 179 := by rw [size_splice, z104_size]
      have hb4 : Hb w4 b20 (.cells (splice Hvad.zeroCells104 (0 + 0 + 59) (encEv e)) 104 (0, 0)) := by rw [hw4]; exact Hb.setSame (Hb.mk (Hb.h (by repeat (first | assumption | exact Hb.newY _ _ | refine Hb.alloc ?_ | refine Hb.drew ?_ | refine Hb.ext (by assumption) ?_ | exact Hb.setSameL (by first | omega | (simp only [size_alloc, size_setB, size_drew]; omega)) | exact Hb.setSame (by assumption) | refine Hb.set (by first | omega | (simp only [size_alloc, size_setB, size_drew]; omega)) ?_ ))))
      have hb34 : Hb w4 b3 (.cells (encEv e).toArray 31 (0, 0)) := by rw [hw4]; exact Hb.mk (Hb.h (by repeat (first | assumption | exact Hb.newY _ _ | refine Hb.alloc ?_ | refine Hb.drew ?_ | refine Hb.ext (by assumption) ?_ | exact Hb.setSameL (by first | omega | (simp only [size_alloc, size_setB, size_drew]; omega)) | exact Hb.setSame (by assumption) | refine Hb.set (by first | omega | (simp only [size_alloc, size_setB, size_drew]; omega)) ?_ )))
      have hE4 : Ext w w4 := by rw [hw4]; exact (by repeat (first | assumption | exact Ext.refl _ | refine Ext.alloc ?_ _ | refine Ext.drew ?_ | refine Ext.setB ?_ (by first | omega | (simp only [size_alloc, size_setB, size_drew]; omega)) _ | exact Ext.trans (by assumption) (by assumption) | refine Ext.trans ?_ (by assumption)))
      have hc40 : Ce (splice Hvad.zeroCells104 (0 + 0 + 59) (encEv e)) 0 (.slice none 0 0) := Ce.splice_ne z104_0 (by rw [z104_size, hel]; decide) (Or.inl (by decide))
      have hc418 : Ce (splice Hvad.zeroCells104 (0 + 0 + 59) (encEv e)) 18 (.slice none 0 0) := Ce.splice_ne z104_18 (by rw [z104_size, hel]; decide) (Or.inl (by decide))
      generalize splice Hvad.zeroCells104 (0 + 0 + 59) (encEv e) = c4 at *
      clear hw4
      refine W_region rfl ?_
      refine WO_p (PS_move_ptr rfl) ?_
      refine WO_p (PS_fieldAddr 119 Hvad.runUnderlying31 rfl Hvad.sizeOf29 rfl rfl) ?_
      refine WO_load (.slice _ _ _) Hvad.isAgg29 rfl (Hb.h (by repeat (first | assumption | exact Hb.newY _ _ | refine Hb.alloc ?_ | refine Hb.drew ?_ | refine Hb.ext (by assumption) ?_ | exact Hb.setSameL (by first | omega | (simp only [size_alloc, size_setB, size_drew]; omega)) | exact Hb.setSame (by assumption) | refine Hb.set (by first | omega | (simp only [size_alloc, size_setB, size_drew]; omega)) ?_ ))) (Ce.h (by first | assumption | exact ⟨rfl⟩)) ?_
      refine WO_call Hvad.call22 (by rfl) (Ret.mono (wordsOf9_spec e.hash e.hl _ (hev.ha.ext (by repeat (first | assumption | exact Ext.refl _ | refine Ext.alloc ?_ _ | refine Ext.drew ?_ | refine Ext.setB ?_ (by first | omega | (simp only [size_alloc, size_setB, size_drew]; omega)) _ | exact Ext.trans (by assumption) (by assumption) | refine Ext.trans ?_ (by assumption)))) (by omega)) ?_)
      rintro _ w22 ⟨hE22, s22, rfl⟩
      refine WO_p (PS_nilCheck rfl) ?_
      refine WO_p (PS_fieldAddr 0 Hvad.runUnderlying104 rfl Hvad.sizeOf102 rfl rfl) ?_
      refine WO_p (PS_fieldAddr 59 Hvad.runUnderlying102 rfl Hvad.sizeOf31 rfl rfl) ?_
      refine WO_p (PS_fieldAddr 119 Hvad.runUnderlying31 rfl Hvad.sizeOf29 rfl rfl) ?_
      refine WO_store1 Hvad.sizeOf29 rfl (v := .slice _ _ _) rfl (Hb.h (Hb.ext hE22 hb4)) rfl (by rw [hs4]; decide) rfl ?_
      refine WO_nil ?_
      refine thn_normal ?_
      refine W_seq ?_
      refine W_seq ?_
      refine W_gen2 fun w6 hw6 => ?_
      have hb6 : Hb w6 b20 (.cells (c4.setIfInBounds (0 + 0 + 59 + 119) (.slice s22.1 s22.2.1 s22.2.2)) 104 (0, 0)) := by rw [hw6]; exact Hb.setSame (Hb.ext hE22 hb4)
      have hE6 : Ext w w6 := by rw [hw6]; exact Ext.setB (Ext.trans hE4 hE22) (by omega) _
      have hY6 : YS w w6 b20 (c4.setIfInBounds (0 + 0 + 59 + 119) (.slice s22.1 s22.2.1 s22.2.2)) none [] (none, 0, 0) 32 := ⟨hb6, by rw [Array.size_setIfInBounds]; exact hs4, hc40.set_ne (by decide), rfl, (fun x hx => by obtain ⟨_, hx⟩ := hx; cases hx), hc418.set_ne (by decide), NS.nil _ _ _⟩
      clear hw6
      refine W_region rfl ?_
      refine WO_p (PS_move_slice rfl) ?_
      refine WO_p (PS_lenS Hvad.runUnderlying23 rfl) ?_
      refine WO_p (PS_move_int rfl) ?_
      refine WO_nil ?_
      refine thn_normal ?_
      refine W_block ?_
      refine W_loopN (fun k ρ w' => ∃ (i : Nat) (c2 : Array Value) (sA : Option (Nat × Nat)) (lA : List (List Value)) (T2 : SV), i + k = l.length ∧ lA.length = i ∧ YS w w' b20 c2 sA lA T2 (32 + i) ∧ Ext w w' ∧ Fr [(0, .slice p l.length cp), (6, .pointer (some ⟨b20, 0, none⟩)), (34, .slice p l.length cp), (35, .int .i64 l.length), (36, .int .i64 i)] ρ) l.length ?_ ?_
      · exact ⟨0, _, none, [], (none, 0, 0), by omega, rfl, hY6, hE6, ⟨rfl, rfl, rfl, rfl, rfl, trivial⟩⟩
      intro k ρ w2 hI2
      obtain ⟨i, c2, sA, lA, T2, hik, hlA, hY2, hE2, hFr⟩ := hI2
      refine W_env _ hFr ?_
      have hz2 := hE2.1
      have hAlt2 : ∀ q, blkOf sA q → q < w2.heap.size := fun q hq => by obtain ⟨r, hr⟩ := hY2.row.ty_of hq; exact hr.lt
      have hlt20 := hY2.blk.lt
      refine W_seq ?_
      refine W_region rfl ?_
      refine WO_p (PS_lss rfl rfl) ?_
      refine WO_nil ?_
      refine thn_normal ?_
      refine W_seq ?_
      refine W_if rfl (fun hb11 => ?_) (fun hb11 => ?_)
      · have hb11p := hb11.h; try simp only [al_ete, al_dfn, Bool.not_eq_true', Bool.not_eq_false', al_ne, Bool.not_not, al_nn] at hb11p
        obtain ⟨bb, o, r, T, fz, hp, hbb, hrl0⟩ := hin.row.row (by omega)
        dsimp only at hp
        subst hp
        have hiz : i < l.length := by omega
        obtain ⟨x, hx⟩ : ∃ x, l[i]? = some x := ⟨_, List.getElem?_eq_getElem hiz⟩
        have hk := hin.ok x (List.mem_of_getElem? hx)
        have hbd := (hrl0.acY hx hk).bd
        have hxw := hrl0.ext hx (k := 0) (n := 55) (by decide) (ac_whole hk) (encAc_len hk)
        have hel55 : (encAc x).toArray.size = 55 := by simpa using encAc_len hk
        have hat : AcAt (encAc x).toArray 0 x := by
          have hr1 : RowL encAc 55 0 (encAc x).toArray [x] := ⟨by rw [hel55]; simp, fun i y hy k hk => by
            cases i with
            | zero => simp at hy; subst hy; simp
            | succ i => simp at hy⟩
          exact hr1.acY (i := 0) rfl hk
        have hba : Xt (encAc x).toArray (0 + 21) (0 + 21 + 32) (ic .u8 x.bal) := hat.ba
        have had : Xt (encAc x).toArray (0 + 0) (0 + 0 + 20) (ic .u8 x.addr) := hat.ad
        have hno : Ce (encAc x).toArray (0 + 20) (.int .u64 x.nonce) := hat.no
        have hcd : Ce (encAc x).toArray (0 + 53) (.slice x.code.1 x.code.2.1 x.code.2.2) := hat.cd
        have hso : Ce (encAc x).toArray (0 + 54) (.slice x.sto.1 x.sto.2.1 x.sto.2.2) := hat.so
        generalize hpst : x.sto.1 = pst at hso
        have hadl := hk.ad.1
        obtain ⟨hcb, hslx⟩ := wok_acc hwk hx
        have hcl := hk.cd.len
        have hbb2 := hbb.ext hE2
        refine W_skip ?_
        refine thn_normal ?_
        refine W_seq ?_
        refine W_block ?_
        refine W_seq ?_
        refine W_region rfl ?_
        refine WO_p (PS_indexS Hvad.runUnderlying23 Hvad.sizeOf108 rfl rfl (by omega) (by omega)) ?_
        refine WO_loadA _ Hvad.isAgg108 Hvad.sizeOf108 rfl (Hb.h (by repeat (first | assumption | exact Hb.newY _ _ | refine Hb.alloc ?_ | refine Hb.drew ?_ | refine Hb.ext (by assumption) ?_ | exact Hb.setSameL (by first | omega | (simp only [size_alloc, size_setB, size_drew]; omega)) | exact Hb.setSame (by assumption) | refine Hb.set (by first | omega | (simp only [size_alloc, size_setB, size_drew]; omega)) ?_ ))) (by first | omega | assumption | rfl | decide | exact Nat.le_refl _ | (simp only [size_ic, Value.cells]; omega) | simp) (Xt.h (by first | assumption | exact Xt.whole rfl rfl | exact Xt.whole rfl (by simp only [size_ic, Value.cells]; omega) | exact ⟨rfl⟩)) ?_
        refine WO_allocG Hvad.zeroValue108 ?_
        intro b8 v8 hg8 hE8 hH8 hl8
        try simp only [size_alloc, size_setB, size_drew] at hg8
        have hzz8 := hE8.1
        try simp only [size_alloc, size_setB, size_drew] at hzz8
        refine WO_storeW Hvad.sizeOf108 rfl (v := .agg (encAc x).toArray) rfl hH8.h rfl hel55 (by rfl) (one_encAc x) ?_
        apply WO_gen4; intro w8 hw8
        have hb8 : Hb w8 b8 (.cells (encAc x).toArray 108 (0, 0)) := by rw [hw8]; exact Hb.setSame hH8
        have hE8w : Ext w2 w8 := by rw [hw8]; exact Ext.setB hE8 hg8 _
        have hEw8 : Ext w w8 := hE2.trans hE8w
        have hY8 := hY2.ext hE8w
        have hz8 := hE8w.1
        clear hw8 hE8 hH8 hl8 hzz8
        refine WO_nil ?_
        refine thn_normal ?_
        refine W_seqJ (fun ρ w' => ∃ (b9 : Nat) (sn sb sc : SV), Fr [(0, .slice (some ⟨bb, o, none⟩) l.length cp), (6, .pointer (some ⟨b20, 0, none⟩)), (8, .pointer (some ⟨b8, 0, none⟩)), (9, .pointer (some ⟨b9, 0, none⟩)), (34, .slice (some ⟨bb, o, none⟩) l.length cp), (35, .int .i64 l.length), (36, .int .i64 i)] ρ ∧ Ext w8 w' ∧ w8.heap.size ≤ b9 ∧ YA w w' b9 x.addr sn sb sc none []) ?_ ?_
        · skip
          refine W_drawF [false, false, false, false, true, false, false, true, false, false, true, false, true, false] [12] [0, 1, 2, 3, 4, 5, 6, 7, 8, 9, 10, 11, 13] hmix (by kernel_rfl) rfl rfl rfl ?_
          refine F_q (i := 0) rfl (by kernel_rfl) ?_
          refine WH_p (PS_fieldAddr 0 Hvad.runUnderlying108 rfl Hvad.sizeOf25 rfl rfl) rfl ?_
          refine WH_nil ?_
          refine F_q (i := 1) rfl (by kernel_rfl) ?_
          refine WH_loadA _ Hvad.isAgg25 Hvad.sizeOf25 rfl (Hb.h (by repeat (first | assumption | exact Hb.newY _ _ | refine Hb.alloc ?_ | refine Hb.drew ?_ | refine Hb.ext (by assumption) ?_ | exact Hb.setSameL (by first | omega | (simp only [size_alloc, size_setB, size_drew]; omega)) | exact Hb.setSame (by assumption) | refine Hb.set (by first | omega | (simp only [size_alloc, size_setB, size_drew]; omega)) ?_ ))) (by first | omega | assumption | rfl | decide | exact Nat.le_refl _ | (simp only [size_ic, Value.cells]; omega) | simp) (Xt.h (by first | assumption | exact Xt.whole rfl rfl | exact Xt.whole rfl (by simp only [size_ic, Value.cells]; omega) | exact ⟨rfl⟩)) ?_
          refine WH_nil ?_
          refine F_q (i := 2) rfl (by kernel_rfl) ?_
          refine WH_p (PS_fieldAddr 20 Hvad.runUnderlying108 rfl Hvad.sizeOf26 rfl rfl) rfl ?_
          refine WH_nil ?_
          refine F_q (i := 3) rfl (by kernel_rfl) ?_
          refine WH_load (.int _ _) Hvad.isAgg26 rfl (Hb.h (by repeat (first | assumption | exact Hb.newY _ _ | refine Hb.alloc ?_ | refine Hb.drew ?_ | refine Hb.ext (by assumption) ?_ | exact Hb.setSameL (by first | omega | (simp only [size_alloc, size_setB, size_drew]; omega)) | exact Hb.setSame (by assumption) | refine Hb.set (by first | omega | (simp only [size_alloc, size_setB, size_drew]; omega)) ?_ ))) (Ce.h (by first | assumption | exact ⟨rfl⟩)) ?_
          refine WH_nil ?_
          refine F_fork1 (i := 4) rfl rfl ?_ ?_
          · refine WH_call Hvad.call23 (by rfl) (Ret.mono (num_spec x.nonce _ hk.no) ?_)
            rintro _ w44 ⟨hE44, s44, rfl, hs44⟩
            refine ⟨fun _ => (by repeat (first | assumption | exact Ext.refl _ | refine Ext.alloc ?_ _ | refine Ext.drew ?_ | refine Ext.setB ?_ (by first | omega | (simp only [size_alloc, size_setB, size_drew]; omega)) _ | exact Ext.trans (by assumption) (by assumption) | refine Ext.trans ?_ (by assumption))), ?_⟩
            have hz44 := hE44.1
            try simp only [size_alloc, size_setB, size_drew] at hz44
            refine WH_nil ?_
            refine F_q (i := 5) rfl (by kernel_rfl) ?_
            refine WH_p (PS_fieldAddr 21 Hvad.runUnderlying108 rfl Hvad.sizeOf28 rfl rfl) rfl ?_
            refine WH_nil ?_
            refine F_q (i := 6) rfl (by kernel_rfl) ?_
            refine WH_p (PS_slA Hvad.runUnderlying28 Hvad.sizeOf5 rfl (by omega)) rfl ?_
            refine WH_nil ?_
            refine F_fork1 (i := 7) rfl rfl ?_ ?_
            · refine WH_call Hvad.call24 (by rfl) (Ret.mono (fromBE_spec b8 (0 + 21) (encAc x).toArray 108 (0, 0) x.bal 32 _ (Hb.mk (Hb.h (by repeat (first | assumption | exact Hb.newY _ _ | refine Hb.alloc ?_ | refine Hb.drew ?_ | refine Hb.ext (by assumption) ?_ | exact Hb.setSameL (by first | omega | (simp only [size_alloc, size_setB, size_drew]; omega)) | exact Hb.setSame (by assumption) | refine Hb.set (by first | omega | (simp only [size_alloc, size_setB, size_drew]; omega)) ?_ )))) hba hk.ba) ?_)
              rintro _ w47 ⟨hE47, s47, rfl, hs47⟩
              refine ⟨fun _ => (by repeat (first | assumption | exact Ext.refl _ | refine Ext.alloc ?_ _ | refine Ext.drew ?_ | refine Ext.setB ?_ (by first | omega | (simp only [size_alloc, size_setB, size_drew]; omega)) _ | exact Ext.trans (by assumption) (by assumption) | refine Ext.trans ?_ (by assumption))), ?_⟩
              have hz47 := hE47.1
              try simp only [size_alloc, size_setB, size_drew] at hz47
              refine WH_nil ?_
              refine F_q (i := 8) rfl (by kernel_rfl) ?_
              refine WH_p (PS_fieldAddr 53 Hvad.runUnderlying108 rfl Hvad.sizeOf32 rfl rfl) rfl ?_
              refine WH_nil ?_
              refine F_q (i := 9) rfl (by kernel_rfl) ?_
              refine WH_load (.slice _ _ _) Hvad.isAgg32 rfl (Hb.h (by repeat (first | assumption | exact Hb.newY _ _ | refine Hb.alloc ?_ | refine Hb.drew ?_ | refine Hb.ext (by assumption) ?_ | exact Hb.setSameL (by first | omega | (simp only [size_alloc, size_setB, size_drew]; omega)) | exact Hb.setSame (by assumption) | refine Hb.set (by first | omega | (simp only [size_alloc, size_setB, size_drew]; omega)) ?_ ))) (Ce.h (by first | assumption | exact ⟨rfl⟩)) ?_
              refine WH_nil ?_
              refine F_fork1 (i := 10) rfl rfl ?_ ?_
              · refine WH_call Hvad.call25 (by rfl) (Ret.mono (bytesOf9_spec x.code x.cb _ (hk.cd.ext (by repeat (first | assumption | exact Ext.refl _ | refine Ext.alloc ?_ _ | refine Ext.drew ?_ | refine Ext.setB ?_ (by first | omega | (simp only [size_alloc, size_setB, size_drew]; omega)) _ | exact Ext.trans (by assumption) (by assumption) | refine Ext.trans ?_ (by assumption)))) (by omega)) ?_)
                rintro _ w50 ⟨hE50, s50, rfl⟩
                refine ⟨fun _ => (by repeat (first | assumption | exact Ext.refl _ | refine Ext.alloc ?_ _ | refine Ext.drew ?_ | refine Ext.setB ?_ (by first | omega | (simp only [size_alloc, size_setB, size_drew]; omega)) _ | exact Ext.trans (by assumption) (by assumption) | refine Ext.trans ?_ (by assumption))), ?_⟩
                have hz50 := hE50.1
                try simp only [size_alloc, size_setB, size_drew] at hz50
                refine WH_nil ?_
                refine F_q (i := 11) rfl (by kernel_rfl) ?_
                refine WH_p (PS_b114 (A := x.addr) rfl hadl rfl rfl rfl) rfl ?_
                refine WH_nil ?_
                refine F_fork1B (i := 13) (by kernel_rfl) rfl ?_
                · refine WH_allocG Hvad.zeroValue114 ?_
                  intro b9 v9 hg9 hE9 hH9 hl9
                  try simp only [size_alloc, size_setB, size_drew] at hg9
                  have hzz9 := hE9.1
                  try simp only [size_alloc, size_setB, size_drew] at hzz9
                  refine ⟨fun _ => (by repeat (first | assumption | exact Ext.refl _ | refine Ext.alloc ?_ _ | refine Ext.drew ?_ | refine Ext.setB ?_ (by first | omega | (simp only [size_alloc, size_setB, size_drew]; omega)) _ | exact Ext.trans (by assumption) (by assumption) | refine Ext.trans ?_ (by assumption))), ?_⟩
                  refine WH_nil ?_
                  refine F_q (i := 13) rfl (by kernel_rfl) ?_
                  refine WH_storeW Hvad.sizeOf114 rfl (v := .agg (encY x.addr _ _ _ (none, 0, 0)).toArray) rfl (Hb.h (by repeat (first | assumption | exact Hb.newY _ _ | refine Hb.alloc ?_ | refine Hb.drew ?_ | refine Hb.ext (by assumption) ?_ | exact Hb.setSameL (by first | omega | (simp only [size_alloc, size_setB, size_drew]; omega)) | exact Hb.setSame (by assumption) | refine Hb.set (by first | omega | (simp only [size_alloc, size_setB, size_drew]; omega)) ?_ ))) rfl (by show (encY _ _ _ _ _).toArray.size = 24; simp [encY, hadl]) (by rfl) (one_encY _ _ _ _ _) (fun h => by cases h) ?_
                  refine WH_nil ?_
                  refine F_end ?_
                  refine thn_normal ?_
                  exact ⟨b9, s44, s47, s50, ⟨rfl, rfl, rfl, rfl, rfl, rfl, rfl, trivial⟩, (by repeat (first | assumption | exact Ext.refl _ | refine Ext.alloc ?_ _ | refine Ext.drew ?_ | refine Ext.setB ?_ (by first | omega | (simp only [size_alloc, size_setB, size_drew]; omega)) _ | exact Ext.trans (by assumption) (by assumption) | refine Ext.trans ?_ (by assumption))), (by omega), ⟨Hb.mk (Hb.h (by repeat (first | assumption | exact Hb.newY _ _ | refine Hb.alloc ?_ | refine Hb.drew ?_ | refine Hb.ext (by assumption) ?_ | exact Hb.setSameL (by first | omega | (simp only [size_alloc, size_setB, size_drew]; omega)) | exact Hb.setSame (by assumption) | refine Hb.set (by first | omega | (simp only [size_alloc, size_setB, size_drew]; omega)) ?_ ))), rfl, (fun x hx => by obtain ⟨_, hx⟩ := hx; cases hx), (by refine NS.kt (w := _) ?_ (KT.setB (T' := 114) (fz := (0, 0)) (Hb.mk (Hb.h (by repeat (first | assumption | exact Hb.newY _ _ | refine Hb.alloc ?_ | refine Hb.drew ?_ | refine Hb.ext (by assumption) ?_ | exact Hb.setSameL (by first | omega | (simp only [size_alloc, size_setB, size_drew]; omega)) | exact Hb.setSame (by assumption) | refine Hb.set (by first | omega | (simp only [size_alloc, size_setB, size_drew]; omega)) ?_ )))) (by decide)); exact NS.ext hs47 (by repeat (first | assumption | exact Ext.refl _ | refine Ext.alloc ?_ _ | refine Ext.drew ?_ | refine Ext.setB ?_ (by first | omega | (simp only [size_alloc, size_setB, size_drew]; omega)) _ | exact Ext.trans (by assumption) (by assumption) | refine Ext.trans ?_ (by assumption))))⟩⟩
              · refine WH_allocG Hvad.zeroValue114 ?_
                intro b9 v9 hg9 hE9 hH9 hl9
                try simp only [size_alloc, size_setB, size_drew] at hg9
                have hzz9 := hE9.1
                try simp only [size_alloc, size_setB, size_drew] at hzz9
                refine ⟨fun _ => (by repeat (first | assumption | exact Ext.refl _ | refine Ext.alloc ?_ _ | refine Ext.drew ?_ | refine Ext.setB ?_ (by first | omega | (simp only [size_alloc, size_setB, size_drew]; omega)) _ | exact Ext.trans (by assumption) (by assumption) | refine Ext.trans ?_ (by assumption))), ?_⟩
                refine WH_nil ?_
                refine F_q (i := 10) rfl (by kernel_rfl) ?_
                refine WH_call Hvad.call25 (by rfl) (Ret.mono (bytesOf9_spec x.code x.cb _ (hk.cd.ext (by repeat (first | assumption | exact Ext.refl _ | refine Ext.alloc ?_ _ | refine Ext.drew ?_ | refine Ext.setB ?_ (by first | omega | (simp only [size_alloc, size_setB, size_drew]; omega)) _ | exact Ext.trans (by assumption) (by assumption) | refine Ext.trans ?_ (by assumption)))) (by omega)) ?_)
                rintro _ w50 ⟨hE50, s50, rfl⟩
                refine ⟨fun _ => (by repeat (first | assumption | exact Ext.refl _ | refine Ext.alloc ?_ _ | refine Ext.drew ?_ | refine Ext.setB ?_ (by first | omega | (simp only [size_alloc, size_setB, size_drew]; omega)) _ | exact Ext.trans (by assumption) (by assumption) | refine Ext.trans ?_ (by assumption))), ?_⟩
                have hz50 := hE50.1
                try simp only [size_alloc, size_setB, size_drew] at hz50
                refine WH_nil ?_
                refine F_q (i := 11) rfl (by kernel_rfl) ?_
                refine WH_p (PS_b114 (A := x.addr) rfl hadl rfl rfl rfl) rfl ?_
                refine WH_nil ?_
                refine F_q (i := 13) rfl (by kernel_rfl) ?_
                refine WH_storeW Hvad.sizeOf114 rfl (v := .agg (encY x.addr _ _ _ (none, 0, 0)).toArray) rfl (Hb.h (by repeat (first | assumption | exact Hb.newY _ _ | refine Hb.alloc ?_ | refine Hb.drew ?_ | refine Hb.ext (by assumption) ?_ | exact Hb.setSameL (by first | omega | (simp only [size_alloc, size_setB, size_drew]; omega)) | exact Hb.setSame (by assumption) | refine Hb.set (by first | omega | (simp only [size_alloc, size_setB, size_drew]; omega)) ?_ ))) rfl (by show (encY _ _ _ _ _).toArray.size = 24; simp [encY, hadl]) (by rfl) (one_encY _ _ _ _ _) (fun h => by cases h) ?_
                refine WH_nil ?_
                refine F_end ?_
                refine thn_normal ?_
                exact ⟨b9, s44, s47, s50, ⟨rfl, rfl, rfl, rfl, rfl, rfl, rfl, trivial⟩, (by repeat (first | assumption | exact Ext.refl _ | refine Ext.alloc ?_ _ | refine Ext.drew ?_ | refine Ext.setB ?_ (by first | omega | (simp only [size_alloc, size_setB, size_drew]; omega)) _ | exact Ext.trans (by assumption) (by assumption) | refine Ext.trans ?_ (by assumption))), (by omega), ⟨Hb.mk (Hb.h (by repeat (first | assumption | exact Hb.newY _ _ | refine Hb.alloc ?_ | refine Hb.drew ?_ | refine Hb.ext (by assumption) ?_ | exact Hb.setSameL (by first | omega | (simp only [size_alloc, size_setB, size_drew]; omega)) | exact Hb.setSame (by assumption) | refine Hb.set (by first | omega | (simp only [size_alloc, size_setB, size_drew]; omega)) ?_ ))), rfl, (fun x hx => by obtain ⟨_, hx⟩ := hx; cases hx), (by refine NS.kt (w := _) ?_ (KT.setB (T' := 114) (fz := (0, 0)) (Hb.mk (Hb.h (by repeat (first | assumption | exact Hb.newY _ _ | refine Hb.alloc ?_ | refine Hb.drew ?_ | refine Hb.ext (by assumption) ?_ | exact Hb.setSameL (by first | omega | (simp only [size_alloc, size_setB, size_drew]; omega)) | exact Hb.setSame (by assumption) | refine Hb.set (by first | omega | (simp only [size_alloc, size_setB, size_drew]; omega)) ?_ )))) (by decide)); exact NS.ext hs47 (by repeat (first | assumption | exact Ext.refl _ | refine Ext.alloc ?_ _ | refine Ext.drew ?_ | refine Ext.setB ?_ (by first | omega | (simp only [size_alloc, size_setB, size_drew]; omega)) _ | exact Ext.trans (by assumption) (by assumption) | refine Ext.trans ?_ (by assumption))))⟩⟩
            · refine WH_allocG Hvad.zeroValue114 ?_
              intro b9 v9 hg9 hE9 hH9 hl9
              try simp only [size_alloc, size_setB, size_drew] at hg9
              have hzz9 := hE9.1
              try simp only [size_alloc, size_setB, size_drew] at hzz9
              refine ⟨fun _ => (by repeat (first | assumption | exact Ext.refl _ | refine Ext.alloc ?_ _ | refine Ext.drew ?_ | refine Ext.setB ?_ (by first | omega | (simp only [size_alloc, size_setB, size_drew]; omega)) _ | exact Ext.trans (by assumption) (by assumption) | refine Ext.trans ?_ (by assumption))), ?_⟩
              refine WH_nil ?_
              refine F_q (i := 7) rfl (by kernel_rfl) ?_
              refine WH_call Hvad.call24 (by rfl) (Ret.mono (fromBE_spec b8 (0 + 21) (encAc x).toArray 108 (0, 0) x.bal 32 _ (Hb.mk (Hb.h (by repeat (first | assumption | exact Hb.newY _ _ | refine Hb.alloc ?_ | refine Hb.drew ?_ | refine Hb.ext (by assumption) ?_ | exact Hb.setSameL (by first | omega | (simp only [size_alloc, size_setB, size_drew]; omega)) | exact Hb.setSame (by assumption) | refine Hb.set (by first | omega | (simp only [size_alloc, size_setB, size_drew]; omega)) ?_ )))) hba hk.ba) ?_)
              rintro _ w47 ⟨hE47, s47, rfl, hs47⟩
              refine ⟨fun _ => (by repeat (first | assumption | exact Ext.refl _ | refine Ext.alloc ?_ _ | refine Ext.drew ?_ | refine Ext.setB ?_ (by first | omega | (simp only [size_alloc, size_setB, size_drew]; omega)) _ | exact Ext.trans (by assumption) (by assumption) | refine Ext.trans ?_ (by assumption))), ?_⟩
              have hz47 := hE47.1
              try simp only [size_alloc, size_setB, size_drew] at hz47
              refine WH_nil ?_
              refine F_q (i := 8) rfl (by kernel_rfl) ?_
              refine WH_p (PS_fieldAddr 53 Hvad.runUnderlying108 rfl Hvad.sizeOf32 rfl rfl) rfl ?_
              refine WH_nil ?_
              refine F_q (i := 9) rfl (by kernel_rfl) ?_
              refine WH_load (.slice _ _ _) Hvad.isAgg32 rfl (Hb.h (by repeat (first | assumption | exact Hb.newY _ _ | refine Hb.alloc ?_ | refine Hb.drew ?_ | refine Hb.ext (by assumption) ?_ | exact Hb.setSameL (by first | omega | (simp only [size_alloc, size_setB, size_drew]; omega)) | exact Hb.setSame (by assumption) | refine Hb.set (by first | omega | (simp only [size_alloc, size_setB, size_drew]; omega)) ?_ ))) (Ce.h (by first | assumption | exact ⟨rfl⟩)) ?_
              refine WH_nil ?_
              refine F_q (i := 10) rfl (by kernel_rfl) ?_
              refine WH_call Hvad.call25 (by rfl) (Ret.mono (bytesOf9_spec x.code x.cb _ (hk.cd.ext (by repeat (first | assumption | exact Ext.refl _ | refine Ext.alloc ?_ _ | refine Ext.drew ?_ | refine Ext.setB ?_ (by first | omega | (simp only [size_alloc, size_setB, size_drew]; omega)) _ | exact Ext.trans (by assumption) (by assumption) | refine Ext.trans ?_ (by assumption)))) (by omega)) ?_)
              rintro _ w50 ⟨hE50, s50, rfl⟩
              refine ⟨fun _ => (by repeat (first | assumption | exact Ext.refl _ | refine Ext.alloc ?_ _ | refine Ext.drew ?_ | refine Ext.setB ?_ (by first | omega | (simp only [size_alloc, size_setB, size_drew]; omega)) _ | exact Ext.trans (by assumption) (by assumption) | refine Ext.trans ?_ (by assumption))), ?_⟩
              have hz50 := hE50.1
              try simp only [size_alloc, size_setB, size_drew] at hz50
              refine WH_nil ?_
              refine F_q (i := 11) rfl (by kernel_rfl) ?_
              refine WH_p (PS_b114 (A := x.addr) rfl hadl rfl rfl rfl) rfl ?_
              refine WH_nil ?_
              refine F_q (i := 13) rfl (by kernel_rfl) ?_
              refine WH_storeW Hvad.sizeOf114 rfl (v := .agg (encY x.addr _ _ _ (none, 0, 0)).toArray) rfl (Hb.h (by repeat (first | assumption | exact Hb.newY _ _ | refine Hb.alloc ?_ | refine Hb.drew ?_ | refine Hb.ext (by assumption) ?_ | exact Hb.setSameL (by first | omega | (simp only [size_alloc, size_setB, size_drew]; omega)) | exact Hb.setSame (by assumption) | refine Hb.set (by first | omega | (simp only [size_alloc, size_setB, size_drew]; omega)) ?_ ))) rfl (by show (encY _ _ _ _ _).toArray.size = 24; simp [encY, hadl]) (by rfl) (one_encY _ _ _ _ _) (fun h => by cases h) ?_
              refine WH_nil ?_
              refine F_end ?_
              refine thn_normal ?_
              exact ⟨b9, s44, s47, s50, ⟨rfl, rfl, rfl, rfl, rfl, rfl, rfl, trivial⟩, (by repeat (first | assumption | exact Ext.refl _ | refine Ext.alloc ?_ _ | refine Ext.drew ?_ | refine Ext.setB ?_ (by first | omega | (simp only [size_alloc, size_setB, size_drew]; omega)) _ | exact Ext.trans (by assumption) (by assumption) | refine Ext.trans ?_ (by assumption))), (by omega), ⟨Hb.mk (Hb.h (by repeat (first | assumption | exact Hb.newY _ _ | refine Hb.alloc ?_ | refine Hb.drew ?_ | refine Hb.ext (by assumption) ?_ | exact Hb.setSameL (by first | omega | (simp only [size_alloc, size_setB, size_drew]; omega)) | exact Hb.setSame (by assumption) | refine Hb.set (by first | omega | (simp only [size_alloc, size_setB, size_drew]; omega)) ?_ ))), rfl, (fun x hx => by obtain ⟨_, hx⟩ := hx; cases hx), (by refine NS.kt (w := _) ?_ (KT.setB (T' := 114) (fz := (0, 0)) (Hb.mk (Hb.h (by repeat (first | assumption | exact Hb.newY _ _ | refine Hb.alloc ?_ | refine Hb.drew ?_ | refine Hb.ext (by assumption) ?_ | exact Hb.setSameL (by first | omega | (simp only [size_alloc, size_setB, size_drew]; omega)) | exact Hb.setSame (by assumption) | refine Hb.set (by first | omega | (simp only [size_alloc, size_setB, size_drew]; omega)) ?_ )))) (by decide)); exact NS.ext hs47 (by repeat (first | assumption | exact Ext.refl _ | refine Ext.alloc ?_ _ | refine Ext.drew ?_ | refine Ext.setB ?_ (by first | omega | (simp only [size_alloc, size_setB, size_drew]; omega)) _ | exact Ext.trans (by assumption) (by assumption) | refine Ext.trans ?_ (by assumption))))⟩⟩
          · refine WH_allocG Hvad.zeroValue114 ?_
            intro b9 v9 hg9 hE9 hH9 hl9
            try simp only [size_alloc, size_setB, size_drew] at hg9
            have hzz9 := hE9.1
            try simp only [size_alloc, size_setB, size_drew] at hzz9
            refine ⟨fun _ => (by repeat (first | assumption | exact Ext.refl _ | refine Ext.alloc ?_ _ | refine Ext.drew ?_ | refine Ext.setB ?_ (by first | omega | (simp only [size_alloc, size_setB, size_drew]; omega)) _ | exact Ext.trans (by assumption) (by assumption) | refine Ext.trans ?_ (by assumption))), ?_⟩
            refine WH_nil ?_
            refine F_q (i := 4) rfl (by kernel_rfl) ?_
            refine WH_call Hvad.call23 (by rfl) (Ret.mono (num_spec x.nonce _ hk.no) ?_)
            rintro _ w44 ⟨hE44, s44, rfl, hs44⟩
            refine ⟨fun _ => (by repeat (first | assumption | exact Ext.refl _ | refine Ext.alloc ?_ _ | refine Ext.drew ?_ | refine Ext.setB ?_ (by first | omega | (simp only [size_alloc, size_setB, size_drew]; omega)) _ | exact Ext.trans (by assumption) (by assumption) | refine Ext.trans ?_ (by assumption))), ?_⟩
            have hz44 := hE44.1
            try simp only [size_alloc, size_setB, size_drew] at hz44
            refine WH_nil ?_
            refine F_q (i := 5) rfl (by kernel_rfl) ?_
            refine WH_p (PS_fieldAddr 21 Hvad.runUnderlying108 rfl Hvad.sizeOf28 rfl rfl) rfl ?_
            refine WH_nil ?_
            refine F_q (i := 6) rfl (by kernel_rfl) ?_
            refine WH_p (PS_slA Hvad.runUnderlying28 Hvad.sizeOf5 rfl (by omega)) rfl ?_
            refine WH_nil ?_
            refine F_q (i := 7) rfl (by kernel_rfl) ?_
            refine WH_call Hvad.call24 (by rfl) (Ret.mono (fromBE_spec b8 (0 + 21) (encAc x).toArray 108 (0, 0) x.bal 32 _ (Hb.mk (Hb.h (by repeat (first | assumption | exact Hb.newY _ _ | refine Hb.alloc ?_ | refine Hb.drew ?_ | refine Hb.ext (by assumption) ?_ | exact Hb.setSameL (by first | omega | (simp only [size_alloc, size_setB, size_drew]; omega)) | exact Hb.setSame (by assumption) | refine Hb.set (by first | omega | (simp only [size_alloc, size_setB, size_drew]; omega)) ?_ )))) hba hk.ba) ?_)
            rintro _ w47 ⟨hE47, s47, rfl, hs47⟩
            refine ⟨fun _ => (by repeat (first | assumption | exact Ext.refl _ | refine Ext.alloc ?_ _ | refine Ext.drew ?_ | refine Ext.setB ?_ (by first | omega | (simp only [size_alloc, size_setB, size_drew]; omega)) _ | exact Ext.trans (by assumption) (by assumption) | refine Ext.trans ?_ (by assumption))), ?_⟩
            have hz47 := hE47.1
            try simp only [size_alloc, size_setB, size_drew] at hz47
            refine WH_nil ?_
            refine F_q (i := 8) rfl (by kernel_rfl) ?_
            refine WH_p (PS_fieldAddr 53 Hvad.runUnderlying108 rfl Hvad.sizeOf32 rfl rfl) rfl ?_
            refine WH_nil ?_
            refine F_q (i := 9) rfl (by kernel_rfl) ?_
            refine WH_load (.slice _ _ _) Hvad.isAgg32 rfl (Hb.h (by repeat (first | assumption | exact Hb.newY _ _ | refine Hb.alloc ?_ | refine Hb.drew ?_ | refine Hb.ext (by assumption) ?_ | exact Hb.setSameL (by first | omega | (simp only [size_alloc, size_setB, size_drew]; omega)) | exact Hb.setSame (by assumption) | refine Hb.set (by first | omega | (simp only [size_alloc, size_setB, size_drew]; omega)) ?_ ))) (Ce.h (by first | assumption | exact ⟨rfl⟩)) ?_
            refine WH_nil ?_
            refine F_q (i := 10) rfl (by kernel_rfl) ?_
            refine WH_call Hvad.call25 (by rfl) (Ret.mono (bytesOf9_spec x.code x.cb _ (hk.cd.ext (by repeat (first | assumption | exact Ext.refl _ | refine Ext.alloc ?_ _ | refine Ext.drew ?_ | refine Ext.setB ?_ (by first | omega | (simp only [size_alloc, size_setB, size_drew]; omega)) _ | exact Ext.trans (by assumption) (by assumption) | refine Ext.trans ?_ (by assumption)))) (by omega)) ?_)
            rintro _ w50 ⟨hE50, s50, rfl⟩
            refine ⟨fun _ => (by repeat (first | assumption | exact Ext.refl _ | refine Ext.alloc ?_ _ | refine Ext.drew ?_ | refine Ext.setB ?_ (by first | omega | (simp only [size_alloc, size_setB, size_drew]; omega)) _ | exact Ext.trans (by assumption) (by assumption) | refine Ext.trans ?_ (by assumption))), ?_⟩
            have hz50 := hE50.1
            try simp only [size_alloc, size_setB, size_drew] at hz50
            refine WH_nil ?_
            refine F_q (i := 11) rfl (by kernel_rfl) ?_
            refine WH_p (PS_b114 (A := x.addr) rfl hadl rfl rfl rfl) rfl ?_
            refine WH_nil ?_
            refine F_q (i := 13) rfl (by kernel_rfl) ?_
            refine WH_storeW Hvad.sizeOf114 rfl (v := .agg (encY x.addr _ _ _ (none, 0, 0)).toArray) rfl (Hb.h (by repeat (first | assumption | exact Hb.newY _ _ | refine Hb.alloc ?_ | refine Hb.drew ?_ | refine Hb.ext (by assumption) ?_ | exact Hb.setSameL (by first | omega | (simp only [size_alloc, size_setB, size_drew]; omega)) | exact Hb.setSame (by assumption) | refine Hb.set (by first | omega | (simp only [size_alloc, size_setB, size_drew]; omega)) ?_ ))) rfl (by show (encY _ _ _ _ _).toArray.size = 24; simp [encY, hadl]) (by rfl) (one_encY _ _ _ _ _) (fun h => by cases h) ?_
            refine WH_nil ?_
            refine F_end ?_
            refine thn_normal ?_
            exact ⟨b9, s44, s47, s50, ⟨rfl, rfl, rfl, rfl, rfl, rfl, rfl, trivial⟩, (by repeat (first | assumption | exact Ext.refl _ | refine Ext.alloc ?_ _ | refine Ext.drew ?_ | refine Ext.setB ?_ (by first | omega | (simp only [size_alloc, size_setB, size_drew]; omega)) _ | exact Ext.trans (by assumption) (by assumption) | refine Ext.trans ?_ (by assumption))), (by omega), ⟨Hb.mk (Hb.h (by repeat (first | assumption | exact Hb.newY _ _ | refine Hb.alloc ?_ | refine Hb.drew ?_ | refine Hb.ext (by assumption) ?_ | exact Hb.setSameL (by first | omega | (simp only [size_alloc, size_setB, size_drew]; omega)) | exact Hb.setSame (by assumption) | refine Hb.set (by first | omega | (simp only [size_alloc, size_setB, size_drew]; omega)) ?_ ))), rfl, (fun x hx => by obtain ⟨_, hx⟩ := hx; cases hx), (by refine NS.kt (w := _) ?_ (KT.setB (T' := 114) (fz := (0, 0)) (Hb.mk (Hb.h (by repeat (first | assumption | exact Hb.newY _ _ | refine Hb.alloc ?_ | refine Hb.drew ?_ | refine Hb.ext (by assumption) ?_ | exact Hb.setSameL (by first | omega | (simp only [size_alloc, size_setB, size_drew]; omega)) | exact Hb.setSame (by assumption) | refine Hb.set (by first | omega | (simp only [size_alloc, size_setB, size_drew]; omega)) ?_ )))) (by decide)); exact NS.ext hs47 (by repeat (first | assumption | exact Ext.refl _ | refine Ext.alloc ?_ _ | refine Ext.drew ?_ | refine Ext.setB ?_ (by first | omega | (simp only [size_alloc, size_setB, size_drew]; omega)) _ | exact Ext.trans (by assumption) (by assumption) | refine Ext.trans ?_ (by assumption))))⟩⟩
        · intro ρ9 w9 hJ9
          obtain ⟨b9, sn, sb, sc, hFr9, hE9, hg9, hYA⟩ := hJ9
          refine W_env _ hFr9 ?_
          have hz9 := hE9.1
          have hY9 := hY8.ext hE9
          have hb89 := hb8.ext hE9
          refine W_seq ?_
          refine W_seq ?_
          refine W_region rfl ?_
          refine WO_p (PS_fieldAddr 54 Hvad.runUnderlying108 rfl Hvad.sizeOf106 rfl rfl) ?_
          refine WO_load (.slice _ _ _) Hvad.isAgg106 rfl (Hb.h (by repeat (first | assumption | exact Hb.newY _ _ | refine Hb.alloc ?_ | refine Hb.drew ?_ | refine Hb.ext (by assumption) ?_ | exact Hb.setSameL (by first | omega | (simp only [size_alloc, size_setB, size_drew]; omega)) | exact Hb.setSame (by assumption) | refine Hb.set (by first | omega | (simp only [size_alloc, size_setB, size_drew]; omega)) ?_ ))) (Ce.h (by first | assumption | exact ⟨rfl⟩)) ?_
          refine WO_p (PS_lenS Hvad.runUnderlying106 rfl) ?_
          refine WO_p (PS_move_int rfl) ?_
          refine WO_nil ?_
          refine thn_normal ?_
          refine W_block ?_
          have hsol := hk.so.len
          have hAlt : ∀ q, blkOf sA q → q < b9 := fun q hq => by have := hAlt2 q hq; omega
          refine W_loopN (fun k ρ w' => ∃ (j : Nat) (sS : Option (Nat × Nat)) (lS : List (List Value)), j + k = x.sl.length ∧ lS.length = j ∧ YS w w' b20 c2 sA lA T2 (32 + i) ∧ YA w w' b9 x.addr sn sb sc sS lS ∧ Ext w w' ∧ Hb w' b8 (.cells (encAc x).toArray 108 (0, 0)) ∧ Fr [(0, .slice (some ⟨bb, o, none⟩) l.length cp), (6, .pointer (some ⟨b20, 0, none⟩)), (8, .pointer (some ⟨b8, 0, none⟩)), (9, .pointer (some ⟨b9, 0, none⟩)), (34, .slice (some ⟨bb, o, none⟩) l.length cp), (35, .int .i64 l.length), (36, .int .i64 i), (53, .slice pst x.sto.2.1 x.sto.2.2), (54, .int .i64 x.sto.2.1), (55, .int .i64 j)] ρ) x.sl.length ?_ ?_
          · exact ⟨0, none, [], by omega, rfl, hY9, hYA, hEw8.trans hE9, hb89, ⟨rfl, rfl, rfl, rfl, rfl, rfl, rfl, rfl, rfl, rfl, trivial⟩⟩
          intro k2 ρ2 w7 hI7
          obtain ⟨j, sS, lS, hjk, hlS, hY7, hYA7, hEw7, hb87, hFr7⟩ := hI7
          refine W_env _ hFr7 ?_
          have hlb9 := hYA7.blk.lt
          have hzw7 := hEw7.1
          refine W_seq ?_
          refine W_region rfl ?_
          refine WO_p (PS_lss rfl rfl) ?_
          refine WO_nil ?_
          refine thn_normal ?_
          refine W_seq ?_
          refine W_if rfl (fun hb22 => ?_) (fun hb22 => ?_)
          · have hb22p := hb22.h; try simp only [al_ete, al_dfn, Bool.not_eq_true', Bool.not_eq_false', al_ne, Bool.not_not, al_nn] at hb22p
            have hjz : j < x.sl.length := by omega
            obtain ⟨z, hz9⟩ : ∃ z, x.sl[j]? = some z := ⟨_, List.getElem?_eq_getElem hjz⟩
            obtain ⟨bb2, o2, r2, Tz2, fz2, hp2, hbx2, hrl2⟩ := hk.so.get hz9
            have hzk := hk.sr z (List.mem_of_getElem? hz9)
            rw [hpst] at hp2
            subst hp2
            have hza := (hrl2.sl hz9 hzk).bd
            have hzw := hrl2.ext hz9 (k := 0) (n := 64) (by decide) (sl_whole hzk) (encSl_len hzk)
            have hxk := xt_slk hzk
            have hxv := xt_slv hzk
            have hze2 : (encSl z).toArray.size = 64 := by simpa using encSl_len hzk
            have hbx7 := hbx2.ext hEw7
            have hys7 := encY_s hadl sn sb sc (slp sS, lS.length, slc sS)
            have hb97 := hYA7.blk
            refine W_skip ?_
            refine thn_normal ?_
            refine W_seq ?_
            refine W_block ?_
            refine W_seq ?_
            refine W_region rfl ?_
            refine WO_p (PS_indexS Hvad.runUnderlying106 Hvad.sizeOf116 rfl rfl (by omega) (by omega)) ?_
            refine WO_loadA _ Hvad.isAgg116 Hvad.sizeOf116 rfl (Hb.h (by repeat (first | assumption | exact Hb.newY _ _ | refine Hb.alloc ?_ | refine Hb.drew ?_ | refine Hb.ext (by assumption) ?_ | exact Hb.setSameL (by first | omega | (simp only [size_alloc, size_setB, size_drew]; omega)) | exact Hb.setSame (by assumption) | refine Hb.set (by first | omega | (simp only [size_alloc, size_setB, size_drew]; omega)) ?_ ))) (by first | omega | assumption | rfl | decide | exact Nat.le_refl _ | (simp only [size_ic, Value.cells]; omega) | simp) (Xt.h (by first | assumption | exact Xt.whole rfl rfl | exact Xt.whole rfl (by simp only [size_ic, Value.cells]; omega) | exact ⟨rfl⟩)) ?_
            refine WO_allocG Hvad.zeroValue116 ?_
            intro b11 v11 hg11 hE11 hH11 hl11
            try simp only [size_alloc, size_setB, size_drew] at hg11
            have hzz11 := hE11.1
            try simp only [size_alloc, size_setB, size_drew] at hzz11
            replace hH11 : Hb v11 b11 (.cells ((List.replicate 64 (Value.int .u8 0)).toArray) 116 (0, 0)) := hH11
            refine WO_storeW Hvad.sizeOf116 rfl (v := .agg (encSl z).toArray) rfl hH11.h rfl hze2 (by simp) (one_encSl z) ?_
            refine WO_nil ?_
            refine thn_normal ?_
            refine W_gen2 fun w12 hw12 => ?_
            have hb11 : Hb w12 b11 (.cells (encSl z).toArray 116 (0, 0)) := by rw [hw12]; exact Hb.setSame hH11
            have hE12 : Ext w7 w12 := by rw [hw12]; exact Ext.setB hE11 hg11 _
            have hb912 := hb97.ext hE12
            have hz12 := hE12.1
            clear hw12
            refine W_drawE [false, false, false, false, true, false, false, true, false, true, false, false, false] hmix (by kernel_rfl) rfl ?_
            refine WH_p (PS_fieldAddr 23 Hvad.runUnderlying114 rfl Hvad.sizeOf112 rfl rfl) rfl ?_
            refine WH_load (.slice _ _ _) Hvad.isAgg112 rfl (Hb.h (by repeat (first | assumption | exact Hb.newY _ _ | refine Hb.alloc ?_ | refine Hb.drew ?_ | refine Hb.ext (by assumption) ?_ | exact Hb.setSameL (by first | omega | (simp only [size_alloc, size_setB, size_drew]; omega)) | exact Hb.setSame (by assumption) | refine Hb.set (by first | omega | (simp only [size_alloc, size_setB, size_drew]; omega)) ?_ ))) (Ce.h (by first | assumption | exact ⟨rfl⟩)) ?_
            refine WH_p (PS_fieldAddr 0 Hvad.runUnderlying116 rfl Hvad.sizeOf28 rfl rfl) rfl ?_
            refine WH_p (PS_slA Hvad.runUnderlying28 Hvad.sizeOf5 rfl (by omega)) rfl ?_
            refine WH_call Hvad.call24 (by rfl) (Ret.mono (fromBE_spec b11 (0 + 0) (encSl z).toArray 116 (0, 0) z.key 32 _ (Hb.mk (Hb.h (by repeat (first | assumption | exact Hb.newY _ _ | refine Hb.alloc ?_ | refine Hb.drew ?_ | refine Hb.ext (by assumption) ?_ | exact Hb.setSameL (by first | omega | (simp only [size_alloc, size_setB, size_drew]; omega)) | exact Hb.setSame (by assumption) | refine Hb.set (by first | omega | (simp only [size_alloc, size_setB, size_drew]; omega)) ?_ )))) hxk hzk.k) ?_)
            rintro _ w63 ⟨hE63, s63, rfl, hs63⟩
            refine ⟨fun _ => (by repeat (first | assumption | exact Ext.refl _ | refine Ext.alloc ?_ _ | refine Ext.drew ?_ | refine Ext.setB ?_ (by first | omega | (simp only [size_alloc, size_setB, size_drew]; omega)) _ | exact Ext.trans (by assumption) (by assumption) | refine Ext.trans ?_ (by assumption))), ?_⟩
            refine WH_p (PS_fieldAddr 32 Hvad.runUnderlying116 rfl Hvad.sizeOf28 rfl rfl) rfl ?_
            refine WH_p (PS_slA Hvad.runUnderlying28 Hvad.sizeOf5 rfl (by omega)) rfl ?_
            refine WH_call Hvad.call24 (by rfl) (Ret.mono (fromBE_spec b11 (0 + 32) (encSl z).toArray 116 (0, 0) z.val 32 _ (Hb.mk (Hb.h (by repeat (first | assumption | exact Hb.newY _ _ | refine Hb.alloc ?_ | refine Hb.drew ?_ | refine Hb.ext (by assumption) ?_ | exact Hb.setSameL (by first | omega | (simp only [size_alloc, size_setB, size_drew]; omega)) | exact Hb.setSame (by assumption) | refine Hb.set (by first | omega | (simp only [size_alloc, size_setB, size_drew]; omega)) ?_ )))) hxv hzk.v) ?_)
            rintro _ w66 ⟨hE66, s66, rfl, hs66⟩
            refine ⟨fun _ => (by repeat (first | assumption | exact Ext.refl _ | refine Ext.alloc ?_ _ | refine Ext.drew ?_ | refine Ext.setB ?_ (by first | omega | (simp only [size_alloc, size_setB, size_drew]; omega)) _ | exact Ext.trans (by assumption) (by assumption) | refine Ext.trans ?_ (by assumption))), ?_⟩
            have hz63 := hE63.1
            have hz66 := hE66.1
            try simp only [size_alloc, size_setB, size_drew] at hz63 hz66
            refine WH_p (PS_b118 rfl rfl) rfl ?_
            refine WH_buildSlice1 Hvad.runUnderlying112 Hvad.sizeOf118 Hvad.zeroValue118 rfl (by first | omega | assumption | rfl | decide | exact Nat.le_refl _ | (simp only [size_ic, Value.cells]; omega) | simp) (by decide) (by decide) (fun _ => (by repeat (first | assumption | exact Ext.refl _ | refine Ext.alloc ?_ _ | refine Ext.drew ?_ | refine Ext.setB ?_ (by first | omega | (simp only [size_alloc, size_setB, size_drew]; omega)) _ | exact Ext.trans (by assumption) (by assumption) | refine Ext.trans ?_ (by assumption)))) ?_
            have hrow3 : RowV 2 118 (w66.alloc (.cells (encY2 s63 s66).toArray 118 (0, 0))) sS lS := hYA7.row.kt (KT.ext (by repeat (first | assumption | exact Ext.refl _ | refine Ext.alloc ?_ _ | refine Ext.drew ?_ | refine Ext.setB ?_ (by first | omega | (simp only [size_alloc, size_setB, size_drew]; omega)) _ | exact Ext.trans (by assumption) (by assumption) | refine Ext.trans ?_ (by assumption))))
            obtain ⟨s4, w4, hrun4, hrow4, hkeep4, hnew4⟩ := app_yS (w := w66.alloc (.cells (encY2 s63 s66).toArray 118 (0, 0))) (x := encY2 s63 s66) (b1 := w66.heap.size) (T := 118) hrow3 rfl (by intro u hu; simp only [encY2, List.mem_cons, List.not_mem_nil, al_of] at hu; rcases hu with rfl | rfl <;> rfl) (Hb.newY _ _) (by omega)
            have hz4 := hkeep4.sz
            simp only [size_alloc] at hz4
            have hEp4 : Ext w7 (w66.alloc (.cells (encY2 s63 s66).toArray 118 (0, 0))) := (by repeat (first | assumption | exact Ext.refl _ | refine Ext.alloc ?_ _ | refine Ext.drew ?_ | refine Ext.setB ?_ (by first | omega | (simp only [size_alloc, size_setB, size_drew]; omega)) _ | exact Ext.trans (by assumption) (by assumption) | refine Ext.trans ?_ (by assumption)))
            have hty4 : ∀ b, blkOf sS b → ∃ r fz, Hb (w66.alloc (.cells (encY2 s63 s66).toArray 118 (0, 0))) b (.cells r 118 fz) := fun b hb => by obtain ⟨r, hr⟩ := hrow3.ty_of hb; exact ⟨r, _, hr⟩
            have hb94 : Hb w4 b9 (.cells (encY x.addr sn sb sc (slp sS, lS.length, slc sS)).toArray 114 (0, 0)) := KT.keepO hkeep4 hty4 (by decide) _ _ _ (hb97.ext hEp4)
            have hb84 : Hb w4 b8 (.cells (encAc x).toArray 108 (0, 0)) := KT.keepO hkeep4 hty4 (by decide) _ _ _ (hb87.ext hEp4)
            have hY4 : YS w w4 b20 c2 sA lA T2 (32 + i) := (hY7.ext hEp4).kt (KT.keepO hkeep4 hty4 (by decide)) (fun q o hq hb => by
              obtain ⟨rq, hrq⟩ := (hY7.ext hEp4).row.ty_of hq
              exact hb.keepO hkeep4 (fun hs => by obtain ⟨r5, fz5, h5⟩ := hty4 q hs; exact absurd (hrq.type_eq h5) (by decide))) (KT.keepO hkeep4 hty4 (by decide))
            have hns4 : NS 5 w4 sb 32 := ((hYA7.ns.ext hEp4)).kt (KT.keepO hkeep4 hty4 (by decide))
            have hE4w : Ext w w4 := Ext.keepC (Ext.trans hEw7 hEp4) hkeep4 hYA7.low
            refine WH_append rfl rfl hrun4 (fun h => by cases h) ?_
            refine WH_p (PS_fieldAddr 23 Hvad.runUnderlying114 rfl Hvad.sizeOf112 rfl rfl) rfl ?_
            refine WH_store1 Hvad.sizeOf112 rfl (v := .slice _ _ _) rfl hb94.h rfl (by show 0 + 23 < (encY _ _ _ _ _).toArray.size; simp [encY, hadl]) rfl (fun h => by cases h) ?_
            refine WH_nil ?_
            refine inBlk_normal ?_
            refine thn_normal ?_
            refine W_gen2 fun w14 hw14 => ?_
            have hb914 : Hb w14 b9 (.cells (encY x.addr sn sb sc (slp s4, lS.length + 1, slc s4)).toArray 114 (0, 0)) := by
              rw [hw14, ← encY_set hadl sn sb sc (slp sS, lS.length, slc sS) (slp s4, lS.length + 1, slc s4)]
              exact Hb.setSame hb94
            have hY14 : YS w w14 b20 c2 sA lA T2 (32 + i) := by
              rw [hw14]
              exact hY4.kt (KT.setB hb94 (by decide)) (fun q o hq hb => hb.set (fun e => by have := hAlt q hq; omega)) (KT.setB hb94 (by decide))
            have hYA14 : YA w w14 b9 x.addr sn sb sc s4 (lS ++ [encY2 s63 s66]) := by
              refine ⟨by rw [List.length_append]; exact hb914, ?_, ?_, ?_⟩
              · rw [hw14]; exact hrow4.kt (KT.setB hb94 (by decide))
              · intro q hq
                rcases hnew4 q hq with h | h
                · exact hYA7.low q h
                · simp only [size_alloc] at h; have := hEw7.1; omega
              · rw [hw14]; exact hns4.kt (KT.setB hb94 (by decide))
            have hE14w : Ext w w14 := by rw [hw14]; exact Ext.setB hE4w (by omega) _
            have hb814 : Hb w14 b8 (.cells (encAc x).toArray 108 (0, 0)) := by rw [hw14]; exact KT.setB hb94 (by decide) _ _ _ hb84
            have hz14 : w7.heap.size ≤ w14.heap.size := by rw [hw14, size_setB]; omega
            clear hw14
            refine W_region rfl ?_
            refine WO_p (PS_add_i64n rfl rfl (by omega) (by omega)) ?_
            refine WO_p (PS_move_int rfl) ?_
            refine WO_nil ?_
            refine thn_normal ?_
            exact ⟨k2 - 1, by omega, j + 1, s4, _, by omega, by rw [List.length_append, hlS]; rfl, hY14, hYA14, hE14w, hb814, ⟨rfl, rfl, rfl, rfl, rfl, rfl, rfl, rfl, rfl, congrArg (Value.int .i64) (by omega), trivial⟩⟩
          · have hb22p := hb22.h; try simp only [al_ete, al_dfn, Bool.not_eq_true', Bool.not_eq_false', al_ne, Bool.not_not, al_nn] at hb22p
            refine W_exit ?_
            refine thn_exit ?_
            refine thn_exit ?_
            refine inBlk_exit ?_
            refine thn_normal ?_
            refine W_seq ?_
            have hys15 := encY_b hadl sn sb sc (slp sS, lS.length, slc sS)
            have hb97 := hYA7.blk
            have hca7 := hY7.ca
            have hb207 := hY7.blk
            have hen24 : (encY x.addr sn sb sc (slp sS, lS.length, slc sS)).toArray.size = 24 := by simpa using encY_len hadl _ _ _ _
            have hxy : Xt (encY x.addr sn sb sc (slp sS, lS.length, slc sS)).toArray 0 (0 + 24) (encY x.addr sn sb sc (slp sS, lS.length, slc sS)).toArray := Xt.whole rfl hen24
            refine W_drawE [false, false, false, false, false, false, false, false, true, false, false, false, false, false, false] hmix (by kernel_rfl) rfl ?_
            refine WH_p (PS_move_ptr rfl) rfl ?_
            refine WH_p (PS_move_ptr rfl) rfl ?_
            refine WH_p (PS_nilCheck rfl) rfl ?_
            refine WH_p (PS_fieldAddr 0 Hvad.runUnderlying104 rfl Hvad.sizeOf102 rfl rfl) rfl ?_
            refine WH_p (PS_fieldAddr 0 Hvad.runUnderlying102 rfl Hvad.sizeOf98 rfl rfl) rfl ?_
            refine WH_p (PS_fieldAddr 0 Hvad.runUnderlying98 rfl Hvad.sizeOf92 rfl rfl) rfl ?_
            refine WH_load (.slice _ _ _) Hvad.isAgg92 rfl (Hb.h (by repeat (first | assumption | exact Hb.newY _ _ | refine Hb.alloc ?_ | refine Hb.drew ?_ | refine Hb.ext (by assumption) ?_ | exact Hb.setSameL (by first | omega | (simp only [size_alloc, size_setB, size_drew]; omega)) | exact Hb.setSame (by assumption) | refine Hb.set (by first | omega | (simp only [size_alloc, size_setB, size_drew]; omega)) ?_ ))) (Ce.h (by first | assumption | exact ⟨rfl⟩)) ?_
            refine WH_loadA _ Hvad.isAgg114 Hvad.sizeOf114 rfl (Hb.h (by repeat (first | assumption | exact Hb.newY _ _ | refine Hb.alloc ?_ | refine Hb.drew ?_ | refine Hb.ext (by assumption) ?_ | exact Hb.setSameL (by first | omega | (simp only [size_alloc, size_setB, size_drew]; omega)) | exact Hb.setSame (by assumption) | refine Hb.set (by first | omega | (simp only [size_alloc, size_setB, size_drew]; omega)) ?_ ))) (by first | omega | assumption | rfl | decide | exact Nat.le_refl _ | (simp only [size_ic, Value.cells]; omega) | simp) (Xt.h (by first | assumption | exact Xt.whole rfl rfl | exact Xt.whole rfl (by simp only [size_ic, Value.cells]; omega) | exact ⟨rfl⟩)) ?_
            refine WH_buildSlice1 Hvad.runUnderlying92 Hvad.sizeOf114 Hvad.zeroValue114 rfl (by first | omega | assumption | rfl | decide | exact Nat.le_refl _ | (simp only [size_ic, Value.cells]; omega) | simp) (by decide) (by decide) (fun _ => (by repeat (first | assumption | exact Ext.refl _ | refine Ext.alloc ?_ _ | refine Ext.drew ?_ | refine Ext.setB ?_ (by first | omega | (simp only [size_alloc, size_setB, size_drew]; omega)) _ | exact Ext.trans (by assumption) (by assumption) | refine Ext.trans ?_ (by assumption)))) ?_
            have hEp5 : Ext w7 (w7.drew.alloc (.cells (encY x.addr sn sb sc (slp sS, lS.length, slc sS)).toArray 114 (0, 0))) := (by repeat (first | assumption | exact Ext.refl _ | refine Ext.alloc ?_ _ | refine Ext.drew ?_ | refine Ext.setB ?_ (by first | omega | (simp only [size_alloc, size_setB, size_drew]; omega)) _ | exact Ext.trans (by assumption) (by assumption) | refine Ext.trans ?_ (by assumption)))
            have hYp5 := hY7.ext hEp5
            obtain ⟨s5, w5, hrun5, hrow5, hkeep5, hnew5⟩ := app_yA (w := w7.drew.alloc (.cells (encY x.addr sn sb sc (slp sS, lS.length, slc sS)).toArray 114 (0, 0))) (x := encY x.addr sn sb sc (slp sS, lS.length, slc sS)) (b1 := w7.drew.heap.size) (T := 114) hYp5.row (encY_len hadl _ _ _ _) (one_encY _ _ _ _ _) (Hb.newY _ _) (by omega)
            have hz5 := hkeep5.sz
            simp only [size_alloc, size_drew] at hz5
            have hty5 : ∀ b, blkOf sA b → ∃ r fz, Hb (w7.drew.alloc (.cells (encY x.addr sn sb sc (slp sS, lS.length, slc sS)).toArray 114 (0, 0))) b (.cells r 114 fz) := fun b hb => by obtain ⟨r, hr⟩ := hYp5.row.ty_of hb; exact ⟨r, _, hr⟩
            have hb205 : Hb w5 b20 (.cells c2 104 (0, 0)) := KT.keepO hkeep5 hty5 (by decide) _ _ _ hYp5.blk
            have hns5 : NS 5 w5 T2 (32 + i) := hYp5.ns.kt (KT.keepO hkeep5 hty5 (by decide))
            have hnsb5 : NS 5 w5 sb 32 := (hYA7.ns.ext hEp5).kt (KT.keepO hkeep5 hty5 (by decide))
            have hb95 : Hb w5 b9 (.cells (encY x.addr sn sb sc (slp sS, lS.length, slc sS)).toArray 114 (0, 0)) := (hb97.ext hEp5).keepO hkeep5 (fun hq => by have := hAlt b9 hq; omega)
            have hE5w : Ext w w5 := Ext.keepC (Ext.trans hEw7 hEp5) hkeep5 hY7.low
            refine WH_append rfl rfl hrun5 (fun h => by cases h) ?_
            refine WH_p (PS_nilCheck rfl) rfl ?_
            refine WH_p (PS_fieldAddr 0 Hvad.runUnderlying104 rfl Hvad.sizeOf102 rfl rfl) rfl ?_
            refine WH_p (PS_fieldAddr 0 Hvad.runUnderlying102 rfl Hvad.sizeOf98 rfl rfl) rfl ?_
            refine WH_p (PS_fieldAddr 0 Hvad.runUnderlying98 rfl Hvad.sizeOf92 rfl rfl) rfl ?_
            refine WH_store1 Hvad.sizeOf92 rfl (v := slv _ _) rfl hb205.h rfl (by rw [hY7.sz]; decide) rfl (fun h => by cases h) ?_
            refine WH_nil ?_
            refine thn_normal ?_
            refine W_gen2 fun w15 hw15 => ?_
            have hb9f : Hb w15 b9 (.cells (encY x.addr sn sb sc (slp sS, lS.length, slc sS)).toArray 114 (0, 0)) := by rw [hw15]; exact KT.setB hb205 (by decide) _ _ _ hb95
            have hns15 : NS 5 w15 sb 32 := by rw [hw15]; exact hnsb5.kt (KT.setB hb205 (by decide))
            have hE15w : Ext w w15 := by rw [hw15]; exact Ext.setB hE5w (by omega) _
            obtain ⟨T15, hT15⟩ : ∃ T15, T15 = T2 := ⟨_, rfl⟩
            have hY15 : YS w w15 b20 (c2.setIfInBounds 0 (slv s5 (lA.length + 1))) s5 (lA ++ [encY x.addr sn sb sc (slp sS, lS.length, slc sS)]) T15 (32 + i) := by
              rw [hT15]
              refine ⟨by rw [hw15]; exact Hb.setSame hb205, by rw [Array.size_setIfInBounds]; exact hY7.sz, by rw [List.length_append]; exact Ce.set_same (by rw [hY7.sz]; decide), by rw [hw15]; exact hrow5.kt (KT.setB hb205 (by decide)), ?_, hY7.ct.set_ne (by decide), by rw [hw15]; exact hns5.kt (KT.setB hb205 (by decide))⟩
              intro q hq
              rcases hnew5 q hq with h | h
              · exact hY7.low q h
              · simp only [size_alloc, size_drew] at h; have := hEw7.1; omega
            have hct15 := hY15.ct
            have hb2015 := hY15.blk
            have hz15 : w7.heap.size ≤ w15.heap.size := by rw [hw15, size_setB]; omega
            clear hw15
            refine W_drawE [false, false, false, false, false, false, false, false, false, false, false, false, false] hmix (by kernel_rfl) rfl ?_
            refine WH_p (PS_move_ptr rfl) rfl ?_
            refine WH_p (PS_move_ptr rfl) rfl ?_
            refine WH_p (PS_nilCheck rfl) rfl ?_
            refine WH_p (PS_fieldAddr 0 Hvad.runUnderlying104 rfl Hvad.sizeOf102 rfl rfl) rfl ?_
            refine WH_p (PS_fieldAddr 18 Hvad.runUnderlying102 rfl Hvad.sizeOf95 rfl rfl) rfl ?_
            refine WH_load (.slice _ _ _) Hvad.isAgg95 rfl (Hb.h (by repeat (first | assumption | exact Hb.newY _ _ | refine Hb.alloc ?_ | refine Hb.drew ?_ | refine Hb.ext (by assumption) ?_ | exact Hb.setSameL (by first | omega | (simp only [size_alloc, size_setB, size_drew]; omega)) | exact Hb.setSame (by assumption) | refine Hb.set (by first | omega | (simp only [size_alloc, size_setB, size_drew]; omega)) ?_ ))) (Ce.h (by first | assumption | exact ⟨rfl⟩)) ?_
            refine WH_p (PS_fieldAddr 21 Hvad.runUnderlying114 rfl Hvad.sizeOf95 rfl rfl) rfl ?_
            refine WH_load (.slice _ _ _) Hvad.isAgg95 rfl (Hb.h (by repeat (first | assumption | exact Hb.newY _ _ | refine Hb.alloc ?_ | refine Hb.drew ?_ | refine Hb.ext (by assumption) ?_ | exact Hb.setSameL (by first | omega | (simp only [size_alloc, size_setB, size_drew]; omega)) | exact Hb.setSame (by assumption) | refine Hb.set (by first | omega | (simp only [size_alloc, size_setB, size_drew]; omega)) ?_ ))) (Ce.h (by first | assumption | exact ⟨rfl⟩)) ?_
            refine WH_call Hvad.call26 (by rfl) (Ret.mono (add_spec9 T15 sb (32 + i) _ (NS.ext hY15.ns (by repeat (first | assumption | exact Ext.refl _ | refine Ext.alloc ?_ _ | refine Ext.drew ?_ | refine Ext.setB ?_ (by first | omega | (simp only [size_alloc, size_setB, size_drew]; omega)) _ | exact Ext.trans (by assumption) (by assumption) | refine Ext.trans ?_ (by assumption)))) (NS.mono (NS.ext hns15 (by repeat (first | assumption | exact Ext.refl _ | refine Ext.alloc ?_ _ | refine Ext.drew ?_ | refine Ext.setB ?_ (by first | omega | (simp only [size_alloc, size_setB, size_drew]; omega)) _ | exact Ext.trans (by assumption) (by assumption) | refine Ext.trans ?_ (by assumption)))) (by omega)) (by omega)) ?_)
            rintro _ w94 ⟨hE94, s94, rfl, hs94⟩
            refine ⟨(fun h => by cases h), ?_⟩
            refine WH_p (PS_nilCheck rfl) rfl ?_
            refine WH_p (PS_fieldAddr 0 Hvad.runUnderlying104 rfl Hvad.sizeOf102 rfl rfl) rfl ?_
            refine WH_p (PS_fieldAddr 18 Hvad.runUnderlying102 rfl Hvad.sizeOf95 rfl rfl) rfl ?_
            refine WH_store1 Hvad.sizeOf95 rfl (v := .slice _ _ _) rfl (Hb.h (Hb.ext hE94 (Hb.drew hY15.blk))) rfl (by rw [hY15.sz]; decide) rfl (fun h => by cases h) ?_
            refine WH_nil ?_
            refine inBlk_normal ?_
            refine thn_normal ?_
            refine W_gen2 fun w17 hw17 => ?_
            have hEd : Ext w15 w94 := Ext.trans (Ext.drew (Ext.refl _)) hE94
            have hY94 := hY15.ext hEd
            have hY17 : YS w w17 b20 ((c2.setIfInBounds 0 (slv s5 (lA.length + 1))).setIfInBounds 18 (.slice s94.1 s94.2.1 s94.2.2)) s5 (lA ++ [encY x.addr sn sb sc (slp sS, lS.length, slc sS)]) s94 (32 + (i + 1)) := by
              refine ⟨by rw [hw17]; exact Hb.setSame hY94.blk, by rw [Array.size_setIfInBounds]; exact hY15.sz, hY15.ca.set_ne (by decide), ?_, hY15.low, Ce.set_same (by rw [hY15.sz]; decide), ?_⟩
              · rw [hw17]; exact hY94.row.kt (KT.setB hY94.blk (by decide))
              · rw [hw17]; exact hs94.kt (KT.setB hY94.blk (by decide))
            have hE17w : Ext w w17 := by rw [hw17]; exact Ext.setB (Ext.trans hE15w hEd) (by omega) _
            clear hw17
            refine W_region rfl ?_
            refine WO_p (PS_add_i64n rfl rfl (by omega) (by omega)) ?_
            refine WO_p (PS_move_int rfl) ?_
            refine WO_nil ?_
            refine thn_normal ?_
            exact ⟨k - 1, by omega, i + 1, _, s5, _, s94, by omega, by rw [List.length_append, hlA]; rfl, hY17, hE17w, ⟨rfl, rfl, rfl, rfl, congrArg (Value.int .i64) (by omega), trivial⟩⟩
      · have hb11p := hb11.h; try simp only [al_ete, al_dfn, Bool.not_eq_true', Bool.not_eq_false', al_ne, Bool.not_not, al_nn] at hb11p
        refine W_exit ?_
        refine thn_exit ?_
        refine thn_exit ?_
        refine inBlk_exit ?_
        refine thn_normal ?_
        refine W_seq ?_
        refine W_region rfl ?_
        refine WO_p (PS_move_ptr rfl) ?_
        refine WO_p (PS_assign_ptr rfl) ?_
        refine WO_p (PS_assign_bool rfl) ?_
        refine WO_nil ?_
        refine thn_normal ?_
        refine W_ret ?_
        refine bodyQ_ret2 Hvad.results11 rfl rfl (.pointer _) (.bool _) rfl rfl ?_
        first
        | exact ⟨hE2, some ⟨b20, 0, none⟩, by rw [hwk, al_et h4]; rfl⟩
        | exact ⟨(by repeat (first | assumption | exact Ext.refl _ | refine Ext.alloc ?_ _ | refine Ext.drew ?_ | refine Ext.setB ?_ (by first | omega | (simp only [size_alloc, size_setB, size_drew]; omega)) _ | refine Ext.trans ?_ (by assumption))), none, by rw [hwk]; rfl⟩
        | exact ⟨(by repeat (first | assumption | exact Ext.refl _ | refine Ext.alloc ?_ _ | refine Ext.drew ?_ | refine Ext.setB ?_ (by first | omega | (simp only [size_alloc, size_setB, size_drew]; omega)) _ | refine Ext.trans ?_ (by assumption))), none, by rw [hwk, al_ef h4]; rfl⟩

end Go.Proofs.YgvadwGreat
