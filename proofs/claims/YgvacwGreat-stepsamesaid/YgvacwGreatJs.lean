import Derived.Test.YgvacwGreatJr
import Derived.Test.YgvacwGreatJl
namespace Go.Proofs.YgvacwGreat
set_option linter.unusedSimpArgs false
set_option linter.unusedVariables false
theorem bc_splice {N n o : Nat} {g f : Nat → Bool} (h : o + n ≤ N) : splice (bc N g) o (bc n f).toList = bc N (fun i => if o ≤ i ∧ i < o + n then f (i - o) else g i) := by
  have hl : (bc n f).toList.length = n := by simp [bc]
  refine Array.ext_getElem? fun j => ?_
  rw [splice_get _ _ _ _ (by rw [hl, size_bc]; exact h), hl, bc_get N (fun i => if o ≤ i ∧ i < o + n then f (i - o) else g i)]
  by_cases h1 : o ≤ j ∧ j < o + n
  · rw [if_pos h1, if_pos (by omega)]
    have : (bc n f).toList[j - o]? = (bc n f)[j - o]? := by simp
    rw [this, bc_get, if_pos (by omega), if_pos h1]
  · rw [if_neg h1, bc_get, if_neg h1]
theorem bc_extract {N n o : Nat} {g : Nat → Bool} (h : o + n ≤ N) : (bc N g).extract o (o + n) = bc n (fun z => g (o + z)) := by
  refine Array.ext_getElem? fun j => ?_
  rw [Array.getElem?_extract, size_bc, bc_get, bc_get]
  by_cases h1 : j < n
  · rw [if_pos (by omega), if_pos h1, if_pos (by omega)]
  · rw [if_neg (by omega), if_neg h1]
theorem oneCell_bcl {n : Nat} {g : Nat → Bool} : ∀ u ∈ (bc n g).toList, u.oneCell' = true := by
  intro u hu
  simp [bc] at hu
  obtain ⟨a, _, rfl⟩ := hu
  rfl
section
variable {P : Program} {ρ : Nat → Value} {w : World} {ops : Array Oper} {Q : Post} {os : List Oper} {x y xl : Operand} {ty t e dT sT : TypeId} {S : World → Prop} {os' : List (Oper × Bool)} {tg : Bool} {dd : Option Nat} {pos : _} {af : _} {n o b : Nat} {s : Nat} {l : Int} {kl : IntKind}
theorem PS_slA_lx (hU : ∀ w, (underlying t).run P w = .ok (.array n e) w) (hS : ∀ w, (Go.sizeOf e).run P w = .ok s w) (hx : ev ρ x = .pointer (some ⟨b, o, none⟩)) (hl : ev ρ xl = .int kl l) (hl0 : 0 ≤ l) (hl1 : l ≤ n) : PS P (.slice t x (some xl) none none) ρ (.slice (some ⟨b, if n = l.toNat then o else o + l.toNat * s, none⟩) (n - l.toNat) (n - l.toNat)) :=
  ⟨fun oo w hop => by
    have bl := fun code => bound_ok (P := P) (k := kl) (code := code) w hl0 (show l ≤ ((n : Nat) : Int) by omega)
    by_cases hne : n = l.toNat
    · rw [hne] at bl
      simp [execOp, hop, Instr.sliceAt, hU, hx, Instr.sliceBounds, hS, Instr.sureAddr, hl, bl, hne, add_mk]
    · simp [execOp, hop, Instr.sliceAt, hU, hx, Instr.sliceBounds, hS, Instr.sureAddr, hl, bl, hne, add_mk]⟩
theorem WH_copyQ {b2 o2 dl dc sl sc N M : Nat} {T T2 : TypeId} {g a : Nat → Bool} (hU : ∀ w, (underlying dT).run P w = .ok (.slice e) w) (hS : ∀ w, (Go.sizeOf e).run P w = .ok 1 w) (hx : ev ρ x = .slice (some ⟨b, o, none⟩) dl dc) (hy : ev ρ y = .slice (some ⟨b2, o2, none⟩) sl sc)
    (hb : Hb w b (.cells (bc N g) T (0, 0))) (hb2 : Hb w b2 (.cells (bc M a) T2 (0, 0))) (hn : Nat.min sl dl = n) (hk : o + n ≤ N) (hk2 : o2 + n ≤ M)
    (h : ∀ w' g', BT b T N w w' g' → (∀ i, g' i = if o ≤ i ∧ i < o + n then a (o2 + (i - o)) else g i) → (tg = true → S w') ∧ WH P ops S Q os' (updo ρ dd (Value.int .i64 n)) w') : WH P ops S Q ((⟨dd, .call ⟨.builtin .copy, #[x, y], #[dT, sT]⟩, ty, pos, af, none⟩, tg) :: os') ρ w := by
  have e1 : splice (bc N g) o (bc n (fun z => a (o2 + z))).toList = bc N (fun i => if o ≤ i ∧ i < o + n then a (o2 + (i - o)) else g i) := bc_splice hk
  have hB : BT b T N w (setB w b (.cells (splice (bc N g) o (bc n (fun z => a (o2 + z))).toList) T (0, 0))) (fun i => if o ≤ i ∧ i < o + n then a (o2 + (i - o)) else g i) := by
    rw [e1]
    exact ⟨Hb.setSame hb, (KeepO.refl (fun x => x = b) w).setB (fun _ => rfl) _⟩
  have hh := h _ _ hB (fun _ => rfl)
  exact WH_copy n (sz := 1) hU hS hx hy hb.h hb2.h hn (by rw [size_bc, Nat.mul_one]; exact hk) (by rw [size_bc, Nat.mul_one]; exact hk2) (by rw [Nat.mul_one]; exact bc_extract hk2) oneCell_bcl hh.1 hh.2
theorem WH_storeQA {k N : Nat} {T : TypeId} {g f : Nat → Bool} (hS : ∀ w, (Go.sizeOf t).run P w = .ok k w) (hx : ev ρ x = .pointer (some ⟨b, o, none⟩)) (hy : ev ρ y = .agg (bc k f))
    (hb : Hb w b (.cells (bc N g) T (0, 0))) (hk : o + k ≤ N)
    (h : ∀ w' g', BT b T N w w' g' → (∀ i, g' i = if o ≤ i ∧ i < o + k then f (i - o) else g i) → (tg = true → S w') ∧ WH P ops S Q os' ρ w') : WH P ops S Q ((⟨none, .store t x y, ty, pos, af, none⟩, tg) :: os') ρ w := by
  have e1 : splice (bc N g) o (Value.agg (bc k f)).cells.toList = bc N (fun i => if o ≤ i ∧ i < o + k then f (i - o) else g i) := bc_splice hk
  have hB : BT b T N w (setB w b (.cells (splice (bc N g) o (Value.agg (bc k f)).cells.toList) T (0, 0))) (fun i => if o ≤ i ∧ i < o + k then f (i - o) else g i) := by
    rw [e1]
    exact ⟨Hb.setSame hb, (KeepO.refl (fun x => x = b) w).setB (fun _ => rfl) _⟩
  have hh := h _ _ hB (fun _ => rfl)
  exact WH_store hS hx hy hb.h (by simp [Value.cells, size_bc]) (by rw [size_bc]; exact hk) oneCell_bc hh.1 hh.2
end
theorem krc_lt : ∀ r, r < 24 → krcs.getD r 0 < 2 ^ 64 := by decide
theorem iota_bit {c z : Nat} (hc : c < 2 ^ 64) (hz : z < 64) {p : Bool} : (p != decide (bAnd (((c : Nat) : Int) / 2 ^ (min ((z : Nat) : Int).toNat 64)) 1 = 1)) = (p != Nat.testBit c z) := by
  have h := bit_eq1 (x := (c : Int)) (by omega) z
  rw [Int.toNat_natCast] at h
  congr 1
  rw [show min ((z : Nat) : Int).toNat 64 = z by omega, al_bi, al_ete]
  exact h
theorem chi_bit {a : Nat → Bool} {x y z : Nat} (hx : x < 5) (hy : y < 5) (hz : z < 64) : (a (kat x y z) != decide ((if a (kat ((x + 1) % 5) y z) = true then (1 : Int) else 0) < if a (kat ((x + 2) % 5) y z) = true then 1 else 0)) = kchi a (x * 320 + y * 64 + z) := by
  obtain ⟨e1, e2, e3, e4, e5⟩ := kat_x hx hy hz
  rw [show x * 320 + y * 64 + z = kat x y z by unfold kat; omega]
  unfold kchi
  rw [e1, e2, e3]
  cases a (kat ((x + 1) % 5) y z) <;> cases a (kat ((x + 2) % 5) y z) <;> rfl
theorem krho_lane {a g1 g2 g3 : Nat → Bool} {x y k p : Nat} (hx : x < 5) (hy : y < 5) (hk : k = koff x y) (hp : p = x * 320 + y * 64) (h1 : ∀ i, g1 i = if i < p then krho a i else false) (h2 : ∀ i, p + k ≤ i ∧ i < p + 64 → g2 i = a (p + (i - (p + k)))) (h2' : ∀ i, ¬ (p + k ≤ i ∧ i < p + 64) → g2 i = g1 i) (h3 : ∀ i, p ≤ i ∧ i < p + k → g3 i = a (p + (64 - k) + (i - p))) (h3' : ∀ i, ¬ (p ≤ i ∧ i < p + k) → g3 i = g2 i) (i : Nat) : g3 i = if i < p + 64 then krho a i else false := by
  have hk64 : k < 64 := by rw [hk]; exact koff_lt x y
  by_cases hi : i < p
  · rw [h3' i (by omega), h2' i (by omega), h1, if_pos hi, if_pos (by omega)]
  · by_cases hi2 : i < p + 64
    · rw [if_pos hi2]
      have e1 : i / 320 = x := by omega
      have e2 : i / 64 % 5 = y := by omega
      unfold krho
      rw [e1, e2, ← hk]
      by_cases h9 : i < p + k
      · rw [h3 i (by omega)]
        congr 1
        omega
      · rw [h3' i (by omega), h2 i (by omega)]
        congr 1
        omega
    · rw [h3' i (by omega), h2' i (by omega), h1, if_neg hi, if_neg hi2]

set_option maxRecDepth 100000 in
set_option maxHeartbeats 2000000 in
theorem rho_ex (b : Nat) (T : TypeId) (a : Nat → Bool) (w : World) (hb : Hb w b (.cells (bc 1600 a) T (0, 0))) : Ret Hvac.prog 322 #[.pointer (some ⟨b, 0, none⟩)] w fun u w' => Ext w w' ∧ u = .agg (bc 1600 (krho a)) := by
  have hbl := hb.lt
  refine Ret_of_W Hvac.func322 rfl rfl ?_
  refine W_seq ?_
  refine W_region rfl ?_
  refine WO_allocG Hvac.zeroValue361 ?_
  intro b2 v2 hg2 hE2 hH2 hl2
  try simp only [size_alloc, size_setB, size_drew] at hg2
  have hzz2 := hE2.1
  try simp only [size_alloc, size_setB, size_drew] at hzz2
  replace hH2 : Hb v2 b2 (.cells (bc 1600 (fun _ => false)) 361 (0, 0)) := hH2
  refine WO_nil ?_
  refine thn_normal ?_
  refine W_seq ?_
  refine W_seq ?_
  refine W_region rfl ?_
  refine WO_p (PS_move_int rfl) ?_
  refine WO_nil ?_
  refine thn_normal ?_
  refine W_block ?_
  refine W_loopN (fun m ρ w' => ∃ (x : Nat) (g : Nat → Bool), x + m = 5 ∧ (∀ i, g i = if i < x * 320 then krho a i else false) ∧ Fr [(0, .pointer (some ⟨b, 0, none⟩)), (2, .pointer (some ⟨b2, 0, none⟩)), (6, .int .i64 x)] ρ ∧ Ext w w' ∧ v2.heap.size ≤ w'.heap.size ∧ Hb w' b2 (.cells (bc 1600 g) 361 (0, 0))) 5 ?_ ?_
  · exact ⟨0, fun _ => false, by omega, fun i => by rw [if_neg (by omega)], ⟨rfl, rfl, rfl, trivial⟩, (by repeat (first | assumption | exact Ext.refl _ | refine Ext.alloc ?_ _ | refine Ext.drew ?_ | refine Ext.setB ?_ (by first | omega | (simp only [size_alloc, size_setB, size_drew]; omega)) _ | refine Ext.trans ?_ (by assumption))), Nat.le_refl _, Hb.mk (Hb.h (by repeat (first | assumption | exact Hb.newY _ _ | refine Hb.alloc ?_ | refine Hb.drew ?_ | refine Hb.ext (by assumption) ?_ | exact Hb.setSameL (by first | omega | (simp only [size_alloc, size_setB, size_drew]; omega)) | exact Hb.setSame (by assumption) | refine Hb.set (by first | omega | (simp only [size_alloc, size_setB, size_drew]; omega)) ?_ )))⟩
  intro m ρ w3 hI
  obtain ⟨x, g, hxm, hg, hF, hE3, hz3, hc3⟩ := hI
  refine W_env _ hF ?_
  refine W_seq ?_
  refine W_region rfl ?_
  refine WO_p (PS_lss rfl rfl) ?_
  refine WO_nil ?_
  refine thn_normal ?_
  refine W_seq ?_
  refine W_if rfl (fun hb2 => ?_) (fun hb2 => ?_)
  · have hb2p := hb2.h; try simp only [al_ete, al_dfn, Bool.not_eq_true', Bool.not_eq_false', al_ne, Bool.not_not, al_nn] at hb2p
    refine W_skip ?_
    refine thn_normal ?_
    refine W_seq ?_
    refine W_block ?_
    refine W_seq ?_
    refine W_region rfl ?_
    refine WO_p (PS_move_int rfl) ?_
    refine WO_p (PS_assign_int rfl) ?_
    refine WO_nil ?_
    refine thn_normal ?_
    refine W_seq ?_
    refine W_region rfl ?_
    refine WO_p (PS_move_int rfl) ?_
    refine WO_nil ?_
    refine thn_normal ?_
    refine W_block ?_
    refine W_loopN (fun m ρ w' => ∃ (y : Nat) (g : Nat → Bool), y + m = 5 ∧ (∀ i, g i = if i < x * 320 + y * 64 then krho a i else false) ∧ Fr [(0, .pointer (some ⟨b, 0, none⟩)), (2, .pointer (some ⟨b2, 0, none⟩)), (3, .int .i64 x), (6, .int .i64 x), (9, .int .i64 y)] ρ ∧ Ext w w' ∧ v2.heap.size ≤ w'.heap.size ∧ Hb w' b2 (.cells (bc 1600 g) 361 (0, 0))) 5 ?_ ?_
    · exact ⟨0, g, by omega, fun i => by rw [hg, show x * 320 + 0 * 64 = x * 320 by omega], ⟨rfl, rfl, rfl, rfl, rfl, trivial⟩, hE3, hz3, hc3⟩
    intro m5 ρ5 w5 hI
    obtain ⟨y, g5, hym, hg5, hF5, hE5, hz5, hc5⟩ := hI
    refine W_env _ hF5 ?_
    have hb5 := hb.ext hE5
    refine W_seq ?_
    refine W_region rfl ?_
    refine WO_p (PS_lss rfl rfl) ?_
    refine WO_nil ?_
    refine thn_normal ?_
    refine W_seq ?_
    refine W_if rfl (fun hb4 => ?_) (fun hb4 => ?_)
    · have hb4p := hb4.h; try simp only [al_ete, al_dfn, Bool.not_eq_true', Bool.not_eq_false', al_ne, Bool.not_not, al_nn] at hb4p
      refine W_skip ?_
      refine thn_normal ?_
      refine W_seq ?_
      refine W_block ?_
      refine W_seq ?_
      refine W_region rfl ?_
      refine WO_p (PS_move_int rfl) ?_
      refine WO_p (PS_assign_int rfl) ?_
      refine WO_nil ?_
      refine thn_normal ?_
      refine W_seq ?_
      refine W_region rfl ?_
      refine WO_p (PS_move_int rfl) ?_
      refine WO_p (PS_conv_u8n Hvac.runUnderlying3 Hvac.runUnderlying5 rfl (by omega) (by omega)) ?_
      refine WO_p (PS_move_int rfl) ?_
      refine WO_p (PS_conv_u8n Hvac.runUnderlying3 Hvac.runUnderlying5 rfl (by omega) (by omega)) ?_
      refine WO_call Hvac.call360 (by rfl) (Ret.mono (koffset_ex x y _ (by omega) (by omega)) ?_)
      rintro _ w7 ⟨hE7, rfl⟩
      have hz7 := hE7.1
      have hk7 := koff_lt x y
      have hc7 := hc5.ext hE7
      have hb7 := hb5.ext hE7
      have hEE7 := hE5.trans hE7
      have hkm : ((koff x y : Nat) : Int) % 64 = ((koff x y : Nat) : Int) := by omega
      refine WO_p (PS_rem_u8 rfl rfl (by omega) (by omega)) ?_
      refine WO_p (PS_assign_int rfl) ?_
      refine WO_nil ?_
      refine thn_normal ?_
      refine W_seq ?_
      rw [hkm]
      refine W_drawE [false, false, false, false, false, false, false, false, false, false, false, false, false, false, false, false] hmix (by kernel_rfl) rfl ?_
      refine WH_p (PS_move_int rfl) rfl ?_
      refine WH_p (PS_move_int rfl) rfl ?_
      refine WH_p (PS_indexA Hvac.runUnderlying361 Hvac.sizeOf359 rfl rfl (by omega) (by omega)) rfl ?_
      refine WH_p (PS_indexA Hvac.runUnderlying359 Hvac.sizeOf358 rfl rfl (by omega) (by omega)) rfl ?_
      refine WH_p (PS_move_int rfl) rfl ?_
      refine WH_p (PS_slA_l Hvac.runUnderlying358 Hvac.sizeOf4 rfl rfl (by omega) (by omega) (by omega)) rfl ?_
      refine WH_p (PS_move_ptr rfl) rfl ?_
      refine WH_p (PS_move_int rfl) rfl ?_
      refine WH_p (PS_move_int rfl) rfl ?_
      refine WH_p (PS_nilCheck rfl) rfl ?_
      refine WH_p (PS_indexA Hvac.runUnderlying361 Hvac.sizeOf359 rfl rfl (by omega) (by omega)) rfl ?_
      refine WH_p (PS_indexA Hvac.runUnderlying359 Hvac.sizeOf358 rfl rfl (by omega) (by omega)) rfl ?_
      refine WH_p (PS_move_int rfl) rfl ?_
      refine WH_p (PS_sub_u8n rfl rfl (by omega) (by omega)) rfl ?_
      refine WH_p (PS_slA_h Hvac.runUnderlying358 Hvac.sizeOf4 rfl rfl (by omega) (by omega) (by decide)) rfl ?_
      refine WH_copyQ (n := 64 - koff x y) (N := 1600) (M := 1600) Hvac.runUnderlying291 Hvac.sizeOf4 rfl rfl (Hb.drew hc7) (Hb.drew hb7) (by show min _ _ = _; omega) (by simp only [Int.toNat_natCast]; omega) (by simp only [Int.toNat_natCast]; omega) ?_
      intro w8 g8 hB8 hg8
      have hz8 := hB8.keep.sz
      simp only [size_drew] at hz8
      have hb8 := hB8.other (Hb.drew hb7) (by omega)
      have hE8 : Ext w w8 := hB8.ext0 (hEE7.trans (Ext.drew (Ext.refl _))) (by omega)
      refine ⟨(fun h => by cases h), ?_⟩
      refine WH_nil ?_
      refine thn_normal ?_
      refine W_drawE [false, false, false, false, false, false, false, false, false, false, false, false, false, false, false, false] hmix (by kernel_rfl) rfl ?_
      refine WH_p (PS_move_int rfl) rfl ?_
      refine WH_p (PS_move_int rfl) rfl ?_
      refine WH_p (PS_indexA Hvac.runUnderlying361 Hvac.sizeOf359 rfl rfl (by omega) (by omega)) rfl ?_
      refine WH_p (PS_indexA Hvac.runUnderlying359 Hvac.sizeOf358 rfl rfl (by omega) (by omega)) rfl ?_
      refine WH_p (PS_move_int rfl) rfl ?_
      refine WH_p (PS_slA_h Hvac.runUnderlying358 Hvac.sizeOf4 rfl rfl (by omega) (by omega) (by decide)) rfl ?_
      refine WH_p (PS_move_ptr rfl) rfl ?_
      refine WH_p (PS_move_int rfl) rfl ?_
      refine WH_p (PS_move_int rfl) rfl ?_
      refine WH_p (PS_nilCheck rfl) rfl ?_
      refine WH_p (PS_indexA Hvac.runUnderlying361 Hvac.sizeOf359 rfl rfl (by omega) (by omega)) rfl ?_
      refine WH_p (PS_indexA Hvac.runUnderlying359 Hvac.sizeOf358 rfl rfl (by omega) (by omega)) rfl ?_
      refine WH_p (PS_move_int rfl) rfl ?_
      refine WH_p (PS_sub_u8n rfl rfl (by omega) (by omega)) rfl ?_
      refine WH_p (PS_slA_lx Hvac.runUnderlying358 Hvac.sizeOf4 rfl rfl (by omega) (by omega)) rfl ?_
      refine WH_copyQ (n := koff x y) (N := 1600) (M := 1600) Hvac.runUnderlying291 Hvac.sizeOf4 rfl rfl (Hb.drew hB8.hb) (Hb.drew hb8) (by show min _ _ = _; omega) (by simp only [Int.toNat_natCast]; omega) (by split <;> simp only [Int.toNat_natCast] <;> omega) ?_
      intro w9 g9 hB9 hg9x
      have hz9 := hB9.keep.sz
      simp only [size_drew] at hz9
      have hE9 : Ext w w9 := hB9.ext0 (hE8.trans (Ext.drew (Ext.refl _))) (by omega)
      have hc9 := hB9.hb
      replace hz9 : v2.heap.size ≤ w9.heap.size := by omega
      have hg9 : ∀ i, g9 i = if i < x * 320 + y * 64 + 64 then krho a i else false := krho_lane (g1 := g5) (g2 := g8) (g3 := g9) (k := koff x y) (by omega) (by omega) rfl rfl hg5 (fun i hi => by rw [hg8, if_pos (by simp only [Int.toNat_natCast]; omega)]; congr 1; simp only [Int.toNat_natCast]; omega) (fun i hi => by rw [hg8, if_neg (by simp only [Int.toNat_natCast]; omega)]) (fun i hi => by rw [hg9x, if_pos (by simp only [Int.toNat_natCast]; omega), if_neg (by omega)]; congr 1; simp only [Int.toNat_natCast]; omega) (fun i hi => by rw [hg9x, if_neg (by simp only [Int.toNat_natCast]; omega)])
      refine ⟨(fun h => by cases h), ?_⟩
      refine WH_nil ?_
      refine inBlk_normal ?_
      refine thn_normal ?_
      refine W_region rfl ?_
      refine WO_p (PS_add_i64n rfl rfl (by omega) (by omega)) ?_
      refine WO_p (PS_move_int rfl) ?_
      refine WO_nil ?_
      refine thn_normal ?_
      exact ⟨m5 - 1, by omega, y + 1, g9, by omega, fun i => by rw [hg9, show x * 320 + y * 64 + 64 = x * 320 + (y + 1) * 64 by omega], ⟨rfl, rfl, rfl, rfl, congrArg (Value.int .i64) (by omega), trivial⟩, hE9, hz9, hc9⟩
    · have hb4p := hb4.h; try simp only [al_ete, al_dfn, Bool.not_eq_true', Bool.not_eq_false', al_ne, Bool.not_not, al_nn] at hb4p
      refine W_exit ?_
      refine thn_exit ?_
      refine thn_exit ?_
      refine inBlk_exit ?_
      refine inBlk_normal ?_
      refine thn_normal ?_
      refine W_region rfl ?_
      refine WO_p (PS_add_i64n rfl rfl (by omega) (by omega)) ?_
      refine WO_p (PS_move_int rfl) ?_
      refine WO_nil ?_
      refine thn_normal ?_
      exact ⟨m - 1, by omega, x + 1, g5, by omega, fun i => by rw [hg5, show y = 5 by omega, show x * 320 + 5 * 64 = (x + 1) * 320 by omega], ⟨rfl, rfl, congrArg (Value.int .i64) (by omega), trivial⟩, hE5, hz5, hc5⟩
  · have hb2p := hb2.h; try simp only [al_ete, al_dfn, Bool.not_eq_true', Bool.not_eq_false', al_ne, Bool.not_not, al_nn] at hb2p
    refine W_exit ?_
    refine thn_exit ?_
    refine thn_exit ?_
    refine inBlk_exit ?_
    refine thn_normal ?_
    refine W_seq ?_
    have hxw : Xt (bc 1600 g) 0 (0 + 1600) (bc 1600 g) := Xt.whole rfl (by rw [size_bc])
    have hsw : (Value.agg (bc 1600 g)).cells.size = 1600 := by simp only [Value.cells, size_bc]
    refine W_region rfl ?_
    refine WO_loadA _ Hvac.isAgg361 Hvac.sizeOf361 rfl (Hb.h hc3) (by rw [size_bc]; decide) hxw.h ?_
    refine WO_storeW Hvac.sizeOf361 rfl (v := .agg _) rfl (Hb.h hc3) rfl hsw (by rw [size_bc]) oneCell_bc ?_
    refine WO_nil ?_
    refine thn_normal ?_
    refine W_ret ?_
    refine bodyQ_cell1 Hvac.results322 rfl Hvac.isAgg361 Hvac.sizeOf361 rfl (Hb.h (by repeat (first | assumption | exact Hb.newY _ _ | refine Hb.alloc ?_ | refine Hb.drew ?_ | refine Hb.ext (by assumption) ?_ | exact Hb.setSameL (by first | omega | (simp only [size_alloc, size_setB, size_drew]; omega)) | exact Hb.setSame (by assumption) | refine Hb.set (by first | omega | (simp only [size_alloc, size_setB, size_drew]; omega)) ?_ ))) (by first | omega | assumption | rfl | decide | exact Nat.le_refl _ | (simp only [size_ic, Value.cells]; omega) | (simp; omega) | simp) ?_
    exact ⟨Ext.setB hE3 (by omega) _, congrArg Value.agg (bc_congr (fun i hi => by rw [hg, if_pos (by omega)]))⟩

theorem lane_put {a f g1 g2 : Nat → Bool} {p : Nat} (h1 : ∀ i, g1 i = if i < p then f i else false) (h2 : ∀ i, p ≤ i ∧ i < p + 64 → g2 i = f i) (h2' : ∀ i, ¬ (p ≤ i ∧ i < p + 64) → g2 i = g1 i) (i : Nat) : g2 i = if i < p + 64 then f i else false := by
  by_cases hi : i < p
  · rw [h2' i (by omega), h1, if_pos hi, if_pos (by omega)]
  · by_cases hi2 : i < p + 64
    · rw [if_pos hi2, h2 i (by omega)]
    · rw [h2' i (by omega), h1, if_neg hi, if_neg hi2]

set_option maxRecDepth 100000 in
set_option maxHeartbeats 2000000 in
theorem pi_ex (b : Nat) (T : TypeId) (a : Nat → Bool) (w : World) (hb : Hb w b (.cells (bc 1600 a) T (0, 0))) : Ret Hvac.prog 323 #[.pointer (some ⟨b, 0, none⟩)] w fun u w' => Ext w w' ∧ u = .agg (bc 1600 (kpi a)) := by
  have hbl := hb.lt
  refine Ret_of_W Hvac.func323 rfl rfl ?_
  refine W_seq ?_
  refine W_region rfl ?_
  refine WO_allocG Hvac.zeroValue361 ?_
  intro b2 v2 hg2 hE2 hH2 hl2
  try simp only [size_alloc, size_setB, size_drew] at hg2
  have hzz2 := hE2.1
  try simp only [size_alloc, size_setB, size_drew] at hzz2
  replace hH2 : Hb v2 b2 (.cells (bc 1600 (fun _ => false)) 361 (0, 0)) := hH2
  refine WO_nil ?_
  refine thn_normal ?_
  refine W_seq ?_
  refine W_seq ?_
  refine W_region rfl ?_
  refine WO_p (PS_move_int rfl) ?_
  refine WO_nil ?_
  refine thn_normal ?_
  refine W_block ?_
  refine W_loopN (fun m ρ w' => ∃ (x : Nat) (g : Nat → Bool), x + m = 5 ∧ (∀ i, g i = if i < x * 320 then kpi a i else false) ∧ Fr [(0, .pointer (some ⟨b, 0, none⟩)), (2, .pointer (some ⟨b2, 0, none⟩)), (5, .int .i64 x)] ρ ∧ Ext w w' ∧ v2.heap.size ≤ w'.heap.size ∧ Hb w' b2 (.cells (bc 1600 g) 361 (0, 0))) 5 ?_ ?_
  · exact ⟨0, fun _ => false, by omega, fun i => by rw [if_neg (by omega)], ⟨rfl, rfl, rfl, trivial⟩, (by repeat (first | assumption | exact Ext.refl _ | refine Ext.alloc ?_ _ | refine Ext.drew ?_ | refine Ext.setB ?_ (by first | omega | (simp only [size_alloc, size_setB, size_drew]; omega)) _ | refine Ext.trans ?_ (by assumption))), Nat.le_refl _, Hb.mk (Hb.h (by repeat (first | assumption | exact Hb.newY _ _ | refine Hb.alloc ?_ | refine Hb.drew ?_ | refine Hb.ext (by assumption) ?_ | exact Hb.setSameL (by first | omega | (simp only [size_alloc, size_setB, size_drew]; omega)) | exact Hb.setSame (by assumption) | refine Hb.set (by first | omega | (simp only [size_alloc, size_setB, size_drew]; omega)) ?_ )))⟩
  intro m ρ w3 hI
  obtain ⟨x, g, hxm, hg, hF, hE3, hz3, hc3⟩ := hI
  refine W_env _ hF ?_
  refine W_seq ?_
  refine W_region rfl ?_
  refine WO_p (PS_lss rfl rfl) ?_
  refine WO_nil ?_
  refine thn_normal ?_
  refine W_seq ?_
  refine W_if rfl (fun hb2 => ?_) (fun hb2 => ?_)
  · have hb2p := hb2.h; try simp only [al_ete, al_dfn, Bool.not_eq_true', Bool.not_eq_false', al_ne, Bool.not_not, al_nn] at hb2p
    refine W_skip ?_
    refine thn_normal ?_
    refine W_seq ?_
    refine W_block ?_
    refine W_seq ?_
    refine W_region rfl ?_
    refine WO_p (PS_move_int rfl) ?_
    refine WO_p (PS_assign_int rfl) ?_
    refine WO_nil ?_
    refine thn_normal ?_
    refine W_seq ?_
    refine W_region rfl ?_
    refine WO_p (PS_move_int rfl) ?_
    refine WO_nil ?_
    refine thn_normal ?_
    refine W_block ?_
    refine W_loopN (fun m ρ w' => ∃ (y : Nat) (g : Nat → Bool), y + m = 5 ∧ (∀ i, g i = if i < x * 320 + y * 64 then kpi a i else false) ∧ Fr [(0, .pointer (some ⟨b, 0, none⟩)), (2, .pointer (some ⟨b2, 0, none⟩)), (3, .int .i64 x), (5, .int .i64 x), (8, .int .i64 y)] ρ ∧ Ext w w' ∧ v2.heap.size ≤ w'.heap.size ∧ Hb w' b2 (.cells (bc 1600 g) 361 (0, 0))) 5 ?_ ?_
    · exact ⟨0, g, by omega, fun i => by rw [hg, show x * 320 + 0 * 64 = x * 320 by omega], ⟨rfl, rfl, rfl, rfl, rfl, trivial⟩, hE3, hz3, hc3⟩
    intro m5 ρ5 w5 hI
    obtain ⟨y, g5, hym, hg5, hF5, hE5, hz5, hc5⟩ := hI
    refine W_env _ hF5 ?_
    have hb5 := hb.ext hE5
    refine W_seq ?_
    refine W_region rfl ?_
    refine WO_p (PS_lss rfl rfl) ?_
    refine WO_nil ?_
    refine thn_normal ?_
    refine W_seq ?_
    refine W_if rfl (fun hb4 => ?_) (fun hb4 => ?_)
    · have hb4p := hb4.h; try simp only [al_ete, al_dfn, Bool.not_eq_true', Bool.not_eq_false', al_ne, Bool.not_not, al_nn] at hb4p
      refine W_skip ?_
      refine thn_normal ?_
      refine W_seq ?_
      refine W_block ?_
      refine W_seq ?_
      refine W_region rfl ?_
      refine WO_p (PS_move_int rfl) ?_
      refine WO_p (PS_assign_int rfl) ?_
      refine WO_nil ?_
      refine thn_normal ?_
      refine W_drawE [false, false, false, false, false, false, false, false, false, false, false, false, false, false, false, false] hmix (by kernel_rfl) rfl ?_
      refine WH_p (PS_move_int rfl) rfl ?_
      refine WH_p (PS_move_int rfl) rfl ?_
      refine WH_p (PS_move_ptr rfl) rfl ?_
      refine WH_p (PS_move_int rfl) rfl ?_
      refine WH_p (PS_move_int rfl) rfl ?_
      refine WH_p (PS_mul_i64n rfl rfl (by omega) (by omega)) rfl ?_
      refine WH_p (PS_add_i64n rfl rfl (by omega) (by omega)) rfl ?_
      refine WH_p (PS_rem_i64 rfl rfl (by omega) (by omega)) rfl ?_
      refine WH_p (PS_move_int rfl) rfl ?_
      refine WH_p (PS_nilCheck rfl) rfl ?_
      refine WH_p (PS_indexA Hvac.runUnderlying361 Hvac.sizeOf359 rfl rfl (by omega) (by omega)) rfl ?_
      refine WH_p (PS_indexA Hvac.runUnderlying359 Hvac.sizeOf358 rfl rfl (by omega) (by omega)) rfl ?_
      refine WH_loadA (bc 64 (fun z => a (0 + ((((x : Nat) : Int) + 3 * ((y : Nat) : Int)) % 5).toNat * 320 + ((x : Nat) : Int).toNat * 64 + z))) Hvac.isAgg358 Hvac.sizeOf358 rfl (Hb.h (Hb.drew hb5)) (by rw [size_bc]; simp only [Int.toNat_natCast]; omega) (bc_extract (by simp only [Int.toNat_natCast]; omega)) ?_
      refine WH_p (PS_indexA Hvac.runUnderlying361 Hvac.sizeOf359 rfl rfl (by omega) (by omega)) rfl ?_
      refine WH_p (PS_indexA Hvac.runUnderlying359 Hvac.sizeOf358 rfl rfl (by omega) (by omega)) rfl ?_
      refine WH_storeQA (N := 1600) Hvac.sizeOf358 rfl rfl (Hb.drew hc5) (by simp only [Int.toNat_natCast]; omega) ?_
      intro w9 g9 hB9 hg9x
      have hz9 := hB9.keep.sz
      simp only [size_drew] at hz9
      have hE9 : Ext w w9 := hB9.ext0 (hE5.trans (Ext.drew (Ext.refl _))) (by omega)
      have hc9 := hB9.hb
      replace hz9 : v2.heap.size ≤ w9.heap.size := by omega
      have hg9 : ∀ i, g9 i = if i < x * 320 + y * 64 + 64 then kpi a i else false := lane_put (a := a) (g1 := g5) (g2 := g9) hg5 (fun i hi => by rw [hg9x, if_pos (by simp only [Int.toNat_natCast]; omega)]; unfold kpi; rw [show i / 320 = x by omega, show i / 64 % 5 = y by omega]; congr 1; unfold kat; simp only [Int.toNat_natCast]; omega) (fun i hi => by rw [hg9x, if_neg (by simp only [Int.toNat_natCast]; omega)])
      refine ⟨(fun h => by cases h), ?_⟩
      refine WH_nil ?_
      refine inBlk_normal ?_
      refine thn_normal ?_
      refine W_region rfl ?_
      refine WO_p (PS_add_i64n rfl rfl (by omega) (by omega)) ?_
      refine WO_p (PS_move_int rfl) ?_
      refine WO_nil ?_
      refine thn_normal ?_
      exact ⟨m5 - 1, by omega, y + 1, g9, by omega, fun i => by rw [hg9, show x * 320 + y * 64 + 64 = x * 320 + (y + 1) * 64 by omega], ⟨rfl, rfl, rfl, rfl, congrArg (Value.int .i64) (by omega), trivial⟩, hE9, hz9, hc9⟩
    · have hb4p := hb4.h; try simp only [al_ete, al_dfn, Bool.not_eq_true', Bool.not_eq_false', al_ne, Bool.not_not, al_nn] at hb4p
      refine W_exit ?_
      refine thn_exit ?_
      refine thn_exit ?_
      refine inBlk_exit ?_
      refine inBlk_normal ?_
      refine thn_normal ?_
      refine W_region rfl ?_
      refine WO_p (PS_add_i64n rfl rfl (by omega) (by omega)) ?_
      refine WO_p (PS_move_int rfl) ?_
      refine WO_nil ?_
      refine thn_normal ?_
      exact ⟨m - 1, by omega, x + 1, g5, by omega, fun i => by rw [hg5, show y = 5 by omega, show x * 320 + 5 * 64 = (x + 1) * 320 by omega], ⟨rfl, rfl, congrArg (Value.int .i64) (by omega), trivial⟩, hE5, hz5, hc5⟩
  · have hb2p := hb2.h; try simp only [al_ete, al_dfn, Bool.not_eq_true', Bool.not_eq_false', al_ne, Bool.not_not, al_nn] at hb2p
    refine W_exit ?_
    refine thn_exit ?_
    refine thn_exit ?_
    refine inBlk_exit ?_
    refine thn_normal ?_
    refine W_seq ?_
    have hxw : Xt (bc 1600 g) 0 (0 + 1600) (bc 1600 g) := Xt.whole rfl (by rw [size_bc])
    have hsw : (Value.agg (bc 1600 g)).cells.size = 1600 := by simp only [Value.cells, size_bc]
    refine W_region rfl ?_
    refine WO_loadA _ Hvac.isAgg361 Hvac.sizeOf361 rfl (Hb.h hc3) (by rw [size_bc]; decide) hxw.h ?_
    refine WO_storeW Hvac.sizeOf361 rfl (v := .agg _) rfl (Hb.h hc3) rfl hsw (by rw [size_bc]) oneCell_bc ?_
    refine WO_nil ?_
    refine thn_normal ?_
    refine W_ret ?_
    refine bodyQ_cell1 Hvac.results323 rfl Hvac.isAgg361 Hvac.sizeOf361 rfl (Hb.h (by repeat (first | assumption | exact Hb.newY _ _ | refine Hb.alloc ?_ | refine Hb.drew ?_ | refine Hb.ext (by assumption) ?_ | exact Hb.setSameL (by first | omega | (simp only [size_alloc, size_setB, size_drew]; omega)) | exact Hb.setSame (by assumption) | refine Hb.set (by first | omega | (simp only [size_alloc, size_setB, size_drew]; omega)) ?_ ))) (by first | omega | assumption | rfl | decide | exact Nat.le_refl _ | (simp only [size_ic, Value.cells]; omega) | (simp; omega) | simp) ?_
    exact ⟨Ext.setB hE3 (by omega) _, congrArg Value.agg (bc_congr (fun i hi => by rw [hg, if_pos (by omega)]))⟩

set_option maxRecDepth 100000 in
set_option maxHeartbeats 2000000 in
theorem chi_ex (b : Nat) (T : TypeId) (a : Nat → Bool) (w : World) (hb : Hb w b (.cells (bc 1600 a) T (0, 0))) : Ret Hvac.prog 324 #[.pointer (some ⟨b, 0, none⟩)] w fun u w' => Ext w w' ∧ u = .agg (bc 1600 (kchi a)) := by
  have hbl := hb.lt
  refine Ret_of_W Hvac.func324 rfl rfl ?_
  refine W_seq ?_
  refine W_region rfl ?_
  refine WO_allocG Hvac.zeroValue361 ?_
  intro b2 v2 hg2 hE2 hH2 hl2
  try simp only [size_alloc, size_setB, size_drew] at hg2
  have hzz2 := hE2.1
  try simp only [size_alloc, size_setB, size_drew] at hzz2
  replace hH2 : Hb v2 b2 (.cells (bc 1600 (fun _ => false)) 361 (0, 0)) := hH2
  refine WO_nil ?_
  refine thn_normal ?_
  refine W_seq ?_
  refine W_seq ?_
  refine W_region rfl ?_
  refine WO_p (PS_move_int rfl) ?_
  refine WO_nil ?_
  refine thn_normal ?_
  refine W_block ?_
  refine W_loopN (fun m ρ w' => ∃ (x : Nat) (g : Nat → Bool), x + m = 5 ∧ (∀ i, g i = if i < x * 320 then kchi a i else false) ∧ Fr [(0, .pointer (some ⟨b, 0, none⟩)), (2, .pointer (some ⟨b2, 0, none⟩)), (10, .int .i64 x)] ρ ∧ Ext w w' ∧ v2.heap.size ≤ w'.heap.size ∧ Hb w' b2 (.cells (bc 1600 g) 361 (0, 0))) 5 ?_ ?_
  · exact ⟨0, fun _ => false, by omega, fun i => by rw [if_neg (by omega)], ⟨rfl, rfl, rfl, trivial⟩, (by repeat (first | assumption | exact Ext.refl _ | refine Ext.alloc ?_ _ | refine Ext.drew ?_ | refine Ext.setB ?_ (by first | omega | (simp only [size_alloc, size_setB, size_drew]; omega)) _ | refine Ext.trans ?_ (by assumption))), Nat.le_refl _, Hb.mk (Hb.h (by repeat (first | assumption | exact Hb.newY _ _ | refine Hb.alloc ?_ | refine Hb.drew ?_ | refine Hb.ext (by assumption) ?_ | exact Hb.setSameL (by first | omega | (simp only [size_alloc, size_setB, size_drew]; omega)) | exact Hb.setSame (by assumption) | refine Hb.set (by first | omega | (simp only [size_alloc, size_setB, size_drew]; omega)) ?_ )))⟩
  intro m ρ w3 hI
  obtain ⟨x, g, hxm, hg, hF, hE3, hz3, hc3⟩ := hI
  refine W_env _ hF ?_
  refine W_seq ?_
  refine W_region rfl ?_
  refine WO_p (PS_lss rfl rfl) ?_
  refine WO_nil ?_
  refine thn_normal ?_
  refine W_seq ?_
  refine W_if rfl (fun hb2 => ?_) (fun hb2 => ?_)
  · have hb2p := hb2.h; try simp only [al_ete, al_dfn, Bool.not_eq_true', Bool.not_eq_false', al_ne, Bool.not_not, al_nn] at hb2p
    refine W_skip ?_
    refine thn_normal ?_
    refine W_seq ?_
    refine W_block ?_
    refine W_seq ?_
    refine W_region rfl ?_
    refine WO_p (PS_move_int rfl) ?_
    refine WO_p (PS_assign_int rfl) ?_
    refine WO_nil ?_
    refine thn_normal ?_
    refine W_seq ?_
    refine W_region rfl ?_
    refine WO_p (PS_move_int rfl) ?_
    refine WO_nil ?_
    refine thn_normal ?_
    refine W_block ?_
    refine W_loopN (fun m ρ w' => ∃ (y : Nat) (g : Nat → Bool), y + m = 5 ∧ (∀ i, g i = if i < x * 320 + y * 64 then kchi a i else false) ∧ Fr [(0, .pointer (some ⟨b, 0, none⟩)), (2, .pointer (some ⟨b2, 0, none⟩)), (3, .int .i64 x), (10, .int .i64 x), (13, .int .i64 y)] ρ ∧ Ext w w' ∧ v2.heap.size ≤ w'.heap.size ∧ Hb w' b2 (.cells (bc 1600 g) 361 (0, 0))) 5 ?_ ?_
    · exact ⟨0, g, by omega, fun i => by rw [hg, show x * 320 + 0 * 64 = x * 320 by omega], ⟨rfl, rfl, rfl, rfl, rfl, trivial⟩, hE3, hz3, hc3⟩
    intro m5 ρ5 w5 hI
    obtain ⟨y, g5, hym, hg5, hF5, hE5, hz5, hc5⟩ := hI
    refine W_env _ hF5 ?_
    have hb5 := hb.ext hE5
    refine W_seq ?_
    refine W_region rfl ?_
    refine WO_p (PS_lss rfl rfl) ?_
    refine WO_nil ?_
    refine thn_normal ?_
    refine W_seq ?_
    refine W_if rfl (fun hb4 => ?_) (fun hb4 => ?_)
    · have hb4p := hb4.h; try simp only [al_ete, al_dfn, Bool.not_eq_true', Bool.not_eq_false', al_ne, Bool.not_not, al_nn] at hb4p
      refine W_skip ?_
      refine thn_normal ?_
      refine W_seq ?_
      refine W_block ?_
      refine W_seq ?_
      refine W_region rfl ?_
      refine WO_p (PS_move_int rfl) ?_
      refine WO_p (PS_assign_int rfl) ?_
      refine WO_nil ?_
      refine thn_normal ?_
      refine W_seq ?_
      refine W_region rfl ?_
      refine WO_p (PS_move_int rfl) ?_
      refine WO_p (PS_move_int rfl) ?_
      refine WO_p (PS_indexA Hvac.runUnderlying361 Hvac.sizeOf359 rfl rfl (by omega) (by omega)) ?_
      refine WO_p (PS_indexA Hvac.runUnderlying359 Hvac.sizeOf358 rfl rfl (by omega) (by omega)) ?_
      refine WO_p (PS_assign_ptr rfl) ?_
      refine WO_nil ?_
      refine thn_normal ?_
      refine W_seq ?_
      refine W_region rfl ?_
      refine WO_p (PS_move_ptr rfl) ?_
      refine WO_p (PS_move_int rfl) ?_
      refine WO_p (PS_move_int rfl) ?_
      refine WO_p (PS_nilCheck rfl) ?_
      refine WO_p (PS_indexA Hvac.runUnderlying361 Hvac.sizeOf359 rfl rfl (by omega) (by omega)) ?_
      refine WO_p (PS_indexA Hvac.runUnderlying359 Hvac.sizeOf358 rfl rfl (by omega) (by omega)) ?_
      refine WO_p (PS_assign_ptr rfl) ?_
      refine WO_nil ?_
      refine thn_normal ?_
      refine W_seq ?_
      refine W_region rfl ?_
      refine WO_p (PS_move_ptr rfl) ?_
      refine WO_p (PS_move_int rfl) ?_
      refine WO_p (PS_add_i64n rfl rfl (by omega) (by omega)) ?_
      refine WO_p (PS_rem_i64 rfl rfl (by omega) (by omega)) ?_
      refine WO_p (PS_move_int rfl) ?_
      refine WO_p (PS_nilCheck rfl) ?_
      refine WO_p (PS_indexA Hvac.runUnderlying361 Hvac.sizeOf359 rfl rfl (by omega) (by omega)) ?_
      refine WO_p (PS_indexA Hvac.runUnderlying359 Hvac.sizeOf358 rfl rfl (by omega) (by omega)) ?_
      refine WO_p (PS_assign_ptr rfl) ?_
      refine WO_nil ?_
      refine thn_normal ?_
      refine W_seq ?_
      refine W_region rfl ?_
      refine WO_p (PS_move_ptr rfl) ?_
      refine WO_p (PS_move_int rfl) ?_
      refine WO_p (PS_add_i64n rfl rfl (by omega) (by omega)) ?_
      refine WO_p (PS_rem_i64 rfl rfl (by omega) (by omega)) ?_
      refine WO_p (PS_move_int rfl) ?_
      refine WO_p (PS_nilCheck rfl) ?_
      refine WO_p (PS_indexA Hvac.runUnderlying361 Hvac.sizeOf359 rfl rfl (by omega) (by omega)) ?_
      refine WO_p (PS_indexA Hvac.runUnderlying359 Hvac.sizeOf358 rfl rfl (by omega) (by omega)) ?_
      refine WO_p (PS_assign_ptr rfl) ?_
      refine WO_nil ?_
      refine thn_normal ?_
      refine W_seq ?_
      refine W_region rfl ?_
      refine WO_p (PS_move_int rfl) ?_
      refine WO_nil ?_
      refine thn_normal ?_
      refine W_block ?_
      refine W_loopN (fun m ρ w' => ∃ (z : Nat) (g : Nat → Bool), z + m = 64 ∧ (∀ i, g i = if i < x * 320 + y * 64 + z then kchi a i else false) ∧ Fr [(0, .pointer (some ⟨b, 0, none⟩)), (2, .pointer (some ⟨b2, 0, none⟩)), (3, .int .i64 x), (5, .pointer (some ⟨b2, 0 + ((x : Nat) : Int).toNat * 320 + ((y : Nat) : Int).toNat * 64, none⟩)), (6, .pointer (some ⟨b, 0 + ((x : Nat) : Int).toNat * 320 + ((y : Nat) : Int).toNat * 64, none⟩)), (7, .pointer (some ⟨b, 0 + ((((x : Nat) : Int) + 1) % 5).toNat * 320 + ((y : Nat) : Int).toNat * 64, none⟩)), (8, .pointer (some ⟨b, 0 + ((((x : Nat) : Int) + 2) % 5).toNat * 320 + ((y : Nat) : Int).toNat * 64, none⟩)), (10, .int .i64 x), (13, .int .i64 y), (42, .int .i64 z)] ρ ∧ Ext w w' ∧ v2.heap.size ≤ w'.heap.size ∧ Hb w' b2 (.cells (bc 1600 g) 361 (0, 0))) 64 ?_ ?_
      · exact ⟨0, g5, by omega, fun i => by rw [hg5, Nat.add_zero], ⟨rfl, rfl, rfl, rfl, rfl, rfl, rfl, rfl, rfl, rfl, trivial⟩, hE5, hz5, hc5⟩
      intro m7 ρ7 w7 hI
      obtain ⟨z, g7, hzm, hg7, hF7, hE7, hz7, hc7⟩ := hI
      refine W_env _ hF7 ?_
      have hb7 := hb.ext hE7
      refine W_seq ?_
      refine W_region rfl ?_
      refine WO_p (PS_lss rfl rfl) ?_
      refine WO_nil ?_
      refine thn_normal ?_
      refine W_seq ?_
      refine W_if rfl (fun hb6 => ?_) (fun hb6 => ?_)
      · have hb6p := hb6.h; try simp only [al_ete, al_dfn, Bool.not_eq_true', Bool.not_eq_false', al_ne, Bool.not_not, al_nn] at hb6p
        have hceh : Ce (bc 1600 a) (0 + ((x : Nat) : Int).toNat * 320 + ((y : Nat) : Int).toNat * 64 + ((z : Nat) : Int).toNat * 1) (.bool (a (kat x y z))) := by rw [show 0 + ((x : Nat) : Int).toNat * 320 + ((y : Nat) : Int).toNat * 64 + ((z : Nat) : Int).toNat * 1 = kat x y z by (try simp only [kat, Int.toNat_natCast]); omega]; exact ce_bc (by (try simp only [kat]); omega)
        have hcen : Ce (bc 1600 a) (0 + ((((x : Nat) : Int) + 1) % 5).toNat * 320 + ((y : Nat) : Int).toNat * 64 + ((z : Nat) : Int).toNat * 1) (.bool (a (kat ((x + 1) % 5) y z))) := by rw [show 0 + ((((x : Nat) : Int) + 1) % 5).toNat * 320 + ((y : Nat) : Int).toNat * 64 + ((z : Nat) : Int).toNat * 1 = kat ((x + 1) % 5) y z by (try simp only [kat, Int.toNat_natCast]); omega]; exact ce_bc (by (try simp only [kat]); omega)
        have hcel : Ce (bc 1600 a) (0 + ((((x : Nat) : Int) + 2) % 5).toNat * 320 + ((y : Nat) : Int).toNat * 64 + ((z : Nat) : Int).toNat * 1) (.bool (a (kat ((x + 2) % 5) y z))) := by rw [show 0 + ((((x : Nat) : Int) + 2) % 5).toNat * 320 + ((y : Nat) : Int).toNat * 64 + ((z : Nat) : Int).toNat * 1 = kat ((x + 2) % 5) y z by (try simp only [kat, Int.toNat_natCast]); omega]; exact ce_bc (by (try simp only [kat]); omega)
        refine W_skip ?_
        refine thn_normal ?_
        refine W_seq ?_
        refine W_block ?_
        refine W_seq ?_
        refine W_region rfl ?_
        refine WO_p (PS_move_int rfl) ?_
        refine WO_p (PS_assign_int rfl) ?_
        refine WO_nil ?_
        refine thn_normal ?_
        refine W_drawE [false, false, false, false, false, false, false, false, false, false, false, false, true, false, false, false, false, false, true, false, false, false, false, false] hmix (by kernel_rfl) rfl ?_
        refine WH_p (PS_move_ptr rfl) rfl ?_
        refine WH_p (PS_move_int rfl) rfl ?_
        refine WH_p (PS_move_ptr rfl) rfl ?_
        refine WH_p (PS_move_int rfl) rfl ?_
        refine WH_p (PS_nilCheck rfl) rfl ?_
        refine WH_p (PS_indexA Hvac.runUnderlying358 Hvac.sizeOf4 rfl rfl (by omega) (by omega)) rfl ?_
        refine WH_load (.bool _) Hvac.isAgg4 rfl (Hb.h (Hb.mk (Hb.h (by repeat (first | assumption | exact Hb.newY _ _ | refine Hb.alloc ?_ | refine Hb.drew ?_ | refine Hb.ext (by assumption) ?_ | exact Hb.setSameL (by first | omega | (simp only [size_alloc, size_setB, size_drew]; omega)) | exact Hb.setSame (by assumption) | refine Hb.set (by first | omega | (simp only [size_alloc, size_setB, size_drew]; omega)) ?_ ))) : Hb _ b (.cells (bc 1600 a) T (0, 0)))) (Ce.h hceh) ?_
        refine WH_p (PS_move_ptr rfl) rfl ?_
        refine WH_p (PS_move_int rfl) rfl ?_
        refine WH_p (PS_nilCheck rfl) rfl ?_
        refine WH_p (PS_indexA Hvac.runUnderlying358 Hvac.sizeOf4 rfl rfl (by omega) (by omega)) rfl ?_
        refine WH_load (.bool _) Hvac.isAgg4 rfl (Hb.h (Hb.mk (Hb.h (by repeat (first | assumption | exact Hb.newY _ _ | refine Hb.alloc ?_ | refine Hb.drew ?_ | refine Hb.ext (by assumption) ?_ | exact Hb.setSameL (by first | omega | (simp only [size_alloc, size_setB, size_drew]; omega)) | exact Hb.setSame (by assumption) | refine Hb.set (by first | omega | (simp only [size_alloc, size_setB, size_drew]; omega)) ?_ ))) : Hb _ b (.cells (bc 1600 a) T (0, 0)))) (Ce.h hcel) ?_
        refine WH_call Hvac.call361 (by rfl) (Ret.mono (kbit_ex _ _) ?_)
        rintro _ w361_8 ⟨hE361_8, rfl⟩
        refine ⟨fun _ => (by repeat (first | assumption | exact Ext.refl _ | refine Ext.alloc ?_ _ | refine Ext.drew ?_ | refine Ext.setB ?_ (by first | omega | (simp only [size_alloc, size_setB, size_drew]; omega)) _ | exact Ext.trans (by assumption) (by assumption) | refine Ext.trans ?_ (by assumption))), ?_⟩
        have hz361_8 := hE361_8.1
        try simp only [size_alloc, size_setB, size_drew] at hz361_8
        refine WH_p (PS_move_ptr rfl) rfl ?_
        refine WH_p (PS_move_int rfl) rfl ?_
        refine WH_p (PS_nilCheck rfl) rfl ?_
        refine WH_p (PS_indexA Hvac.runUnderlying358 Hvac.sizeOf4 rfl rfl (by omega) (by omega)) rfl ?_
        refine WH_load (.bool _) Hvac.isAgg4 rfl (Hb.h (Hb.mk (Hb.h (by repeat (first | assumption | exact Hb.newY _ _ | refine Hb.alloc ?_ | refine Hb.drew ?_ | refine Hb.ext (by assumption) ?_ | exact Hb.setSameL (by first | omega | (simp only [size_alloc, size_setB, size_drew]; omega)) | exact Hb.setSame (by assumption) | refine Hb.set (by first | omega | (simp only [size_alloc, size_setB, size_drew]; omega)) ?_ ))) : Hb _ b (.cells (bc 1600 a) T (0, 0)))) (Ce.h hcen) ?_
        refine WH_call Hvac.call361 (by rfl) (Ret.mono (kbit_ex _ _) ?_)
        rintro _ w361_10 ⟨hE361_10, rfl⟩
        refine ⟨fun _ => (by repeat (first | assumption | exact Ext.refl _ | refine Ext.alloc ?_ _ | refine Ext.drew ?_ | refine Ext.setB ?_ (by first | omega | (simp only [size_alloc, size_setB, size_drew]; omega)) _ | exact Ext.trans (by assumption) (by assumption) | refine Ext.trans ?_ (by assumption))), ?_⟩
        have hz361_10 := hE361_10.1
        try simp only [size_alloc, size_setB, size_drew] at hz361_10
        refine WH_p (PS_gtr rfl rfl) rfl ?_
        refine WH_p (PS_neqbool Hvac.underlying4 rfl rfl) rfl ?_
        refine WH_p (PS_nilCheck rfl) rfl ?_
        refine WH_p (PS_indexA Hvac.runUnderlying358 Hvac.sizeOf4 rfl rfl (by omega) (by omega)) rfl ?_
        refine WH_storeQ (n := 1600) Hvac.sizeOf4 rfl rfl (Hb.mk (Hb.h (by repeat (first | assumption | exact Hb.newY _ _ | refine Hb.alloc ?_ | refine Hb.drew ?_ | refine Hb.ext (by assumption) ?_ | exact Hb.setSameL (by first | omega | (simp only [size_alloc, size_setB, size_drew]; omega)) | exact Hb.setSame (by assumption) | refine Hb.set (by first | omega | (simp only [size_alloc, size_setB, size_drew]; omega)) ?_ )))) (by simp only [Int.toNat_natCast]; omega) ?_
        intro w14 g14 hB14 hg14
        have hE14 : Ext w w14 := hB14.ext0 (by repeat (first | assumption | exact Ext.refl _ | refine Ext.alloc ?_ _ | refine Ext.drew ?_ | refine Ext.setB ?_ (by first | omega | (simp only [size_alloc, size_setB, size_drew]; omega)) _ | exact Ext.trans (by assumption) (by assumption) | refine Ext.trans ?_ (by assumption))) (by omega)
        have hzz14 := hB14.keep.sz
        have hz14 : v2.heap.size ≤ w14.heap.size := by omega
        have hc14 := hB14.hb
        have hu14 : ∀ i, g14 i = if i < x * 320 + y * 64 + (z + 1) then kchi a i else false := upto_step (a := fun _ => false) (f := kchi a) (p := x * 320 + y * 64 + z) (by simp only [Int.toNat_natCast]; omega) hg7 (chi_bit (by omega) (by omega) (by omega)) hg14
        refine ⟨(fun h => by cases h), ?_⟩
        refine WH_nil ?_
        refine inBlk_normal ?_
        refine thn_normal ?_
        refine W_region rfl ?_
        refine WO_p (PS_add_i64n rfl rfl (by omega) (by omega)) ?_
        refine WO_p (PS_move_int rfl) ?_
        refine WO_nil ?_
        refine thn_normal ?_
        exact ⟨m7 - 1, by omega, z + 1, g14, by omega, hu14, ⟨rfl, rfl, rfl, rfl, rfl, rfl, rfl, rfl, rfl, congrArg (Value.int .i64) (by omega), trivial⟩, hE14, hz14, hc14⟩
      · have hb6p := hb6.h; try simp only [al_ete, al_dfn, Bool.not_eq_true', Bool.not_eq_false', al_ne, Bool.not_not, al_nn] at hb6p
        refine W_exit ?_
        refine thn_exit ?_
        refine thn_exit ?_
        refine inBlk_exit ?_
        refine inBlk_normal ?_
        refine thn_normal ?_
        refine W_region rfl ?_
        refine WO_p (PS_add_i64n rfl rfl (by omega) (by omega)) ?_
        refine WO_p (PS_move_int rfl) ?_
        refine WO_nil ?_
        refine thn_normal ?_
        exact ⟨m5 - 1, by omega, y + 1, g7, by omega, fun i => by rw [hg7, show z = 64 by omega, show x * 320 + y * 64 + 64 = x * 320 + (y + 1) * 64 by omega], ⟨rfl, rfl, rfl, rfl, congrArg (Value.int .i64) (by omega), trivial⟩, hE7, hz7, hc7⟩
    · have hb4p := hb4.h; try simp only [al_ete, al_dfn, Bool.not_eq_true', Bool.not_eq_false', al_ne, Bool.not_not, al_nn] at hb4p
      refine W_exit ?_
      refine thn_exit ?_
      refine thn_exit ?_
      refine inBlk_exit ?_
      refine inBlk_normal ?_
      refine thn_normal ?_
      refine W_region rfl ?_
      refine WO_p (PS_add_i64n rfl rfl (by omega) (by omega)) ?_
      refine WO_p (PS_move_int rfl) ?_
      refine WO_nil ?_
      refine thn_normal ?_
      exact ⟨m - 1, by omega, x + 1, g5, by omega, fun i => by rw [hg5, show y = 5 by omega, show x * 320 + 5 * 64 = (x + 1) * 320 by omega], ⟨rfl, rfl, congrArg (Value.int .i64) (by omega), trivial⟩, hE5, hz5, hc5⟩
  · have hb2p := hb2.h; try simp only [al_ete, al_dfn, Bool.not_eq_true', Bool.not_eq_false', al_ne, Bool.not_not, al_nn] at hb2p
    refine W_exit ?_
    refine thn_exit ?_
    refine thn_exit ?_
    refine inBlk_exit ?_
    refine thn_normal ?_
    refine W_seq ?_
    have hxw : Xt (bc 1600 g) 0 (0 + 1600) (bc 1600 g) := Xt.whole rfl (by rw [size_bc])
    have hsw : (Value.agg (bc 1600 g)).cells.size = 1600 := by simp only [Value.cells, size_bc]
    refine W_region rfl ?_
    refine WO_loadA _ Hvac.isAgg361 Hvac.sizeOf361 rfl (Hb.h hc3) (by rw [size_bc]; decide) hxw.h ?_
    refine WO_storeW Hvac.sizeOf361 rfl (v := .agg _) rfl (Hb.h hc3) rfl hsw (by rw [size_bc]) oneCell_bc ?_
    refine WO_nil ?_
    refine thn_normal ?_
    refine W_ret ?_
    refine bodyQ_cell1 Hvac.results324 rfl Hvac.isAgg361 Hvac.sizeOf361 rfl (Hb.h (by repeat (first | assumption | exact Hb.newY _ _ | refine Hb.alloc ?_ | refine Hb.drew ?_ | refine Hb.ext (by assumption) ?_ | exact Hb.setSameL (by first | omega | (simp only [size_alloc, size_setB, size_drew]; omega)) | exact Hb.setSame (by assumption) | refine Hb.set (by first | omega | (simp only [size_alloc, size_setB, size_drew]; omega)) ?_ ))) (by first | omega | assumption | rfl | decide | exact Nat.le_refl _ | (simp only [size_ic, Value.cells]; omega) | (simp; omega) | simp) ?_
    exact ⟨Ext.setB hE3 (by omega) _, congrArg Value.agg (bc_congr (fun i hi => by rw [hg, if_pos (by omega)]))⟩

set_option maxRecDepth 100000 in
set_option maxHeartbeats 2000000 in
theorem iota_ex (b : Nat) (T : TypeId) (a : Nat → Bool) (r : Nat) (w : World) (hb : Hb w b (.cells (bc 1600 a) T (0, 0))) (hr : r < 24) : Ret Hvac.prog 325 #[.pointer (some ⟨b, 0, none⟩), .int .u8 (r : Int)] w fun u w' => u = .tuple #[] ∧ BT b T 1600 w w' (kio a (krcs.getD r 0)) := by
  have hbl := hb.lt
  have hkc := krc_lt r hr
  refine Ret_of_W Hvac.func325 rfl rfl ?_
  refine W_seq ?_
  refine W_region rfl ?_
  refine WO_p (PS_move_int rfl) ?_
  refine WO_call Hvac.call362 (by rfl) (Ret.mono (kconst_ex r _ hr) ?_)
  rintro _ w1 ⟨hE1, rfl⟩
  have hz1 := hE1.1
  refine WO_p (PS_assign_int rfl) ?_
  refine WO_nil ?_
  refine thn_normal ?_
  refine W_seq ?_
  refine W_region rfl ?_
  refine WO_p (PS_move_int rfl) ?_
  refine WO_nil ?_
  refine thn_normal ?_
  refine W_block ?_
  refine W_loopN (fun m ρ w' => ∃ (z : Nat) (g : Nat → Bool), z + m = 64 ∧ (∀ i, g i = if i < z then kio a (krcs.getD r 0) i else a i) ∧ Fr [(0, .pointer (some ⟨b, 0, none⟩)), (4, .int .u64 ((krcs.getD r 0 : Nat) : Int)), (8, .int .i64 z)] ρ ∧ BT b T 1600 w w' g) 64 ?_ ?_
  · exact ⟨0, a, by omega, fun i => by rw [if_neg (by omega)], ⟨rfl, rfl, rfl, trivial⟩, ⟨hb.ext hE1, hE1.keepO _⟩⟩
  intro m ρ w2 hI
  obtain ⟨z, g, hzm, hg, hF, hB2⟩ := hI
  refine W_env _ hF ?_
  have hb2 := hB2.hb
  refine W_seq ?_
  refine W_region rfl ?_
  refine WO_p (PS_lss rfl rfl) ?_
  refine WO_nil ?_
  refine thn_normal ?_
  refine W_seq ?_
  refine W_if rfl (fun hb3 => ?_) (fun hb3 => ?_)
  · have hb3p := hb3.h; try simp only [al_ete, al_dfn, Bool.not_eq_true', Bool.not_eq_false', al_ne, Bool.not_not, al_nn] at hb3p
    have hcez : Ce (bc 1600 g) (0 + (0 : Int).toNat * 320 + (0 : Int).toNat * 64 + ((z : Nat) : Int).toNat * 1) (.bool (g (z))) := by rw [show 0 + (0 : Int).toNat * 320 + (0 : Int).toNat * 64 + ((z : Nat) : Int).toNat * 1 = z by (try simp only [kat, Int.toNat_natCast]); omega]; exact ce_bc (by (try simp only [kat]); omega)
    refine W_skip ?_
    refine thn_normal ?_
    refine W_seq ?_
    refine W_block ?_
    refine W_seq ?_
    refine W_region rfl ?_
    refine WO_p (PS_move_int rfl) ?_
    refine WO_p (PS_assign_int rfl) ?_
    refine WO_nil ?_
    refine thn_normal ?_
    refine W_drawE [false, false, false, false, false, false, false, false, false, false, false, false, false, false, false, false, false, false, false, false] hmix (by kernel_rfl) rfl ?_
    refine WH_p (PS_move_ptr rfl) rfl ?_
    refine WH_p (PS_move_int rfl) rfl ?_
    refine WH_p (PS_move_ptr rfl) rfl ?_
    refine WH_p (PS_move_int rfl) rfl ?_
    refine WH_p (PS_nilCheck rfl) rfl ?_
    refine WH_p (PS_indexA Hvac.runUnderlying361 Hvac.sizeOf359 rfl rfl (by omega) (by omega)) rfl ?_
    refine WH_p (PS_indexA Hvac.runUnderlying359 Hvac.sizeOf358 rfl rfl (by omega) (by omega)) rfl ?_
    refine WH_p (PS_indexA Hvac.runUnderlying358 Hvac.sizeOf4 rfl rfl (by omega) (by omega)) rfl ?_
    refine WH_load (.bool _) Hvac.isAgg4 rfl (Hb.h (Hb.drew hb2)) (Ce.h hcez) ?_
    refine WH_p (PS_move_int rfl) rfl ?_
    refine WH_p (PS_move_int rfl) rfl ?_
    refine WH_p (PS_shr_u64 _ rfl rfl (by omega) rfl) rfl ?_
    refine WH_p (PS_and_u64 rfl rfl) rfl ?_
    refine WH_p (PS_eql rfl rfl) rfl ?_
    refine WH_p (PS_neqbool Hvac.underlying4 rfl rfl) rfl ?_
    refine WH_p (PS_nilCheck rfl) rfl ?_
    refine WH_p (PS_indexA Hvac.runUnderlying361 Hvac.sizeOf359 rfl rfl (by omega) (by omega)) rfl ?_
    refine WH_p (PS_indexA Hvac.runUnderlying359 Hvac.sizeOf358 rfl rfl (by omega) (by omega)) rfl ?_
    refine WH_p (PS_indexA Hvac.runUnderlying358 Hvac.sizeOf4 rfl rfl (by omega) (by omega)) rfl ?_
    refine WH_storeQ (n := 1600) Hvac.sizeOf4 rfl rfl (Hb.drew hb2) (by simp only [Int.toNat_natCast]; show 0 + 0 * 320 + 0 * 64 + z * 1 < 1600; omega) ?_
    intro w4 g4 hB4 hg4
    have hu4 : ∀ i, g4 i = if i < z + 1 then kio a (krcs.getD r 0) i else a i := upto_step (f := kio a (krcs.getD r 0)) (p := z) (by simp only [Int.toNat_natCast]; show 0 + 0 * 320 + 0 * 64 + z * 1 = z; omega) hg (by unfold kio; rw [if_pos (by omega), hg z, if_neg (by omega)]; exact iota_bit hkc (by omega)) hg4
    refine ⟨(fun h => by cases h), ?_⟩
    refine WH_nil ?_
    refine inBlk_normal ?_
    refine thn_normal ?_
    refine W_region rfl ?_
    refine WO_p (PS_add_i64n rfl rfl (by omega) (by omega)) ?_
    refine WO_p (PS_move_int rfl) ?_
    refine WO_nil ?_
    refine thn_normal ?_
    exact ⟨m - 1, by omega, z + 1, g4, by omega, hu4, ⟨rfl, rfl, congrArg (Value.int .i64) (by omega), trivial⟩, (hB2.ext (Ext.drew (Ext.refl _))).trans hB4⟩
  · have hb3p := hb3.h; try simp only [al_ete, al_dfn, Bool.not_eq_true', Bool.not_eq_false', al_ne, Bool.not_not, al_nn] at hb3p
    refine W_exit ?_
    refine thn_exit ?_
    refine thn_exit ?_
    refine inBlk_exit ?_
    first | refine bodyQ_ret0 Hvac.results325 ?_ | refine bodyQ_end0 Hvac.results325 ?_
    exact ⟨rfl, hB2.cg (fun i hi => by rw [hg]; by_cases h9 : i < z; (· rw [if_pos h9]); (rw [if_neg h9]; unfold kio; rw [if_neg (by omega)]))⟩

end Go.Proofs.YgvacwGreat
