import Derived.Test.YgvacwGreatJt
import Derived.Test.YgvacwGreatIc
namespace Go.Proofs.YgvacwGreat
set_option linter.unusedSimpArgs false
set_option linter.unusedVariables false
def encQ (x : Bool) : List Value := [.bool x]
theorem info4 : Hvac.prog.info? 4 = some Hvac.t4 := by kernel_rfl
theorem one_Q (x : Bool) : ∀ v ∈ encQ x, v.oneCell' = true := by intro v hv; simp [encQ] at hv; subst hv; rfl
theorem ap_Q : AppI encQ 1 4 291 1 := ⟨Hvac.underlying291, ⟨Hvac.t4, _, info4, rfl, rfl, rfl, rfl⟩, one_Q, by decide⟩
theorem bl_make {w0 w : World} {b c : Nat} {cs : Array Value} (hb : Hb w b (.cells cs 4 (0, 0))) (hs : cs.size = c) (h0 : w0.heap.size ≤ b) : BL encQ 1 4 w0 [] w (some (b, c)) [] :=
  ⟨⟨Nat.zero_le _, cs, hb, by rw [hs, Nat.one_mul], by simp, fun i x hx => by simp at hx⟩, by rintro b' ⟨cap, h⟩; injection h with h; injection h with h1 h2; subst h1; exact ⟨h0, by simp⟩⟩
theorem bit8 {c : Int} {k : Nat} (hc : 0 ≤ c ∧ c ≤ 255) (hk : k < 8) : decide (bAnd8 (c / 2 ^ (min ((k : Nat) : Int).toNat 8)) 1 = 1) = Nat.testBit c.toNat k := by
  rw [show min ((k : Nat) : Int).toNat 8 = k by omega]
  have hp : (0:Int) < 2 ^ k := Int.pow_pos (by decide)
  have h0 : 0 ≤ c / 2 ^ k := Int.ediv_nonneg hc.1 (Int.le_of_lt hp)
  have h1 : c / 2 ^ k ≤ 255 := Int.le_trans (Int.ediv_le_self _ hc.1) hc.2
  rw [bAnd8_one h0 h1, Nat.testBit_eq_decide_div_mod_eq]
  have h3 := Int.toNat_of_nonneg hc.1
  have h2 : (c / 2 ^ k) = ((c.toNat / 2 ^ k : Nat) : Int) := by rw [Int.natCast_ediv, h3]; simp
  rw [h2, al_bi, al_ete, al_ete]
  omega
theorem gd_snoc {K : List Bool} {x : Bool} (j : Nat) : (K ++ [x]).getD j false = if j < K.length then K.getD j false else if j = K.length then x else false := by
  rw [List.getD_eq_getElem?_getD, List.getD_eq_getElem?_getD, List.getElem?_append]
  by_cases h : j < K.length
  · rw [if_pos h, if_pos h]
  · rw [if_neg h, if_neg h]
    by_cases h2 : j = K.length
    · subst h2; rw [if_pos rfl]; simp
    · rw [if_neg h2, List.getElem?_eq_none (by simp; omega)]; rfl
def kpart (L : List Int) (i : Nat) (j : Nat) : Bool := if j < i % 1088 then (kst L (i / 1088) j != kbit L (1088 * (i / 1088) + j)) else kst L (i / 1088) j
theorem kpart_0 (L : List Int) (j : Nat) : kpart L 0 j = false := by unfold kpart; rw [if_neg (by omega)]; rfl
theorem kpart_step {L : List Int} {i o : Nat} {g' : Nat → Bool} {v : Bool} (ho : o = i % 1088) (hi : i % 1088 ≠ 1087) (hv : v = (kpart L i (i % 1088) != kbit L i)) (hg : ∀ j, g' j = if j = o then v else kpart L i j) (j : Nat) : g' j = kpart L (i + 1) j := by
  subst ho
  rw [hg]
  have e1 : (i + 1) / 1088 = i / 1088 := by omega
  have e2 : (i + 1) % 1088 = i % 1088 + 1 := by omega
  by_cases h : j = i % 1088
  · rw [if_pos h, hv]
    unfold kpart
    rw [e1, e2, h, if_neg (by omega), if_pos (by omega), show 1088 * (i / 1088) + i % 1088 = i by omega]
  · rw [if_neg h]
    unfold kpart
    rw [e1, e2]
    by_cases h1 : j < i % 1088
    · rw [if_pos h1, if_pos (by omega)]
    · rw [if_neg h1, if_neg (by omega)]
theorem kpart_full {L : List Int} {i o : Nat} {g' : Nat → Bool} {v : Bool} (ho : o = i % 1088) (hi : i % 1088 = 1087) (hv : v = (kpart L i (i % 1088) != kbit L i)) (hg : ∀ j, g' j = if j = o then v else kpart L i j) (j : Nat) : g' j = if j < 1088 then (kst L (i / 1088) j != kbit L (1088 * (i / 1088) + j)) else kst L (i / 1088) j := by
  subst ho
  rw [hg]
  by_cases h : j = i % 1088
  · rw [if_pos h, hv, if_pos (by omega)]
    unfold kpart
    rw [h, if_neg (by omega), show 1088 * (i / 1088) + i % 1088 = i by omega]
  · rw [if_neg h]
    unfold kpart
    by_cases h1 : j < i % 1088
    · rw [if_pos h1, if_pos (by omega)]
    · rw [if_neg h1, if_neg (by omega)]
theorem kpart_next {L : List Int} {i : Nat} (hi : i % 1088 = 1087) (j : Nat) : kst L (i / 1088 + 1) j = kpart L (i + 1) j := by
  unfold kpart
  rw [show (i + 1) / 1088 = i / 1088 + 1 by omega, show (i + 1) % 1088 = 0 by omega, if_neg (by omega)]
/-- the low m bits of byte k -/
def kby (s : Nat → Bool) (k : Nat) : Nat → Nat
  | 0 => 0
  | m + 1 => kby s k m + (if s (8 * k + m) then 2 ^ m else 0)
theorem kby_lt (s : Nat → Bool) (k : Nat) : ∀ m, kby s k m < 2 ^ m
  | 0 => by simp [kby]
  | m + 1 => by
    have := kby_lt s k m
    show kby s k m + _ < _
    rw [Nat.pow_succ]
    split <;> omega
theorem kby_8 (s : Nat → Bool) (k : Nat) : kby s k 8 = kbyte s k := by simp [kby, kbyte]
theorem or_pow {x m : Nat} (h : x < 2 ^ m) : x ||| 2 ^ m = x + 2 ^ m := by
  have := Nat.shiftLeft_add_eq_or_of_lt h 1
  rw [al_noc, ← Nat.one_shiftLeft, ← this, Nat.add_comm]
theorem out_or {s : Nat → Bool} {k m : Nat} (hm : m < 8) (hb : s (8 * k + m) = true) : bOr8 ((kby s k m : Nat) : Int) (1 * 2 ^ (min ((m : Nat) : Int).toNat 8) % 256) = ((kby s k (m + 1) : Nat) : Int) := by
  have h1 := kby_lt s k m
  have h2 : 2 ^ m ≤ 128 := by have := Nat.pow_le_pow_right (show 0 < 2 by decide) (show m ≤ 7 by omega); simpa using this
  have e : ((1 : Int) * 2 ^ (min ((m : Nat) : Int).toNat 8) % 256) = ((2 ^ m : Nat) : Int) := by
    rw [show min ((m : Nat) : Int).toNat 8 = m by omega, Int.one_mul]
    have : (2:Int) ^ m = ((2 ^ m : Nat) : Int) := by simp
    rw [this]; omega
  rw [e, bOr8_nat (by omega) (by omega) (by omega) (by omega), Int.toNat_natCast, Int.toNat_natCast, or_pow h1]
  show _ = ((kby s k m + _ : Nat) : Int)
  rw [if_pos hb]
def kob (s : Nat → Bool) (i k : Nat) : Nat := kby s k (min 8 (i - 8 * k))
theorem kob_step {s : Nat → Bool} {R R' : List Int} {i : Nat} (hi : i < 256) (hl : R.length = 32) (h : ∀ k, k < 32 → R.getD k 0 = ((kob s i k : Nat) : Int)) (hR : (s i = true ∧ R' = R.set (i / 8) (bOr8 (R.getD (i / 8) 0) (1 * 2 ^ (min (((i % 8 : Nat) : Nat) : Int).toNat 8) % 256))) ∨ (s i = false ∧ R' = R)) (k : Nat) (hk : k < 32) : R'.getD k 0 = ((kob s (i + 1) k : Nat) : Int) := by
  have e8 : 8 * (i / 8) + i % 8 = i := Nat.div_add_mod i 8
  have hm : min 8 (i - 8 * (i / 8)) = i % 8 := by omega
  have hm1 : min 8 (i + 1 - 8 * (i / 8)) = i % 8 + 1 := by omega
  rcases hR with ⟨hs, rfl⟩ | ⟨hs, rfl⟩
  · rw [getD_setI]
    by_cases h9 : i / 8 = k
    · rw [if_pos ⟨h9, by omega⟩, h _ (by omega)]
      subst h9
      unfold kob
      rw [hm, hm1]
      exact out_or (by omega) (by rw [e8]; exact hs)
    · rw [if_neg (by omega), h k hk]
      unfold kob
      rw [show min 8 (i - 8 * k) = min 8 (i + 1 - 8 * k) by omega]
  · rw [h k hk]
    by_cases h9 : i / 8 = k
    · subst h9
      unfold kob
      rw [hm, hm1]
      show _ = ((kby s (i / 8) (i % 8) + _ : Nat) : Int)
      rw [e8, hs]; simp
    · unfold kob
      rw [show min 8 (i - 8 * k) = min 8 (i + 1 - 8 * k) by omega]
section
variable {P : Program} {ρ : Nat → Value} {w : World} {ops : Array Oper} {Q : Post} {x y : Operand} {ty t e : TypeId}
theorem WH_storeBX {S : World → Prop} {os' : List (Oper × Bool)} {tg : Bool} {b o : Nat} {T : TypeId} {L : List Int} {z : Int} {pos : _} {af : _} (hS : ∀ w, (Go.sizeOf t).run P w = .ok 1 w) (hx : ev ρ x = .pointer (some ⟨b, o, none⟩)) (hy : ev ρ y = .int .u8 z)
    (hb : Hb w b (.cells (ic .u8 L) T (0, 0))) (ho : o < L.length) (hz : 0 ≤ z ∧ z ≤ 255)
    (h : ∀ w' L', BufT b T L w w' L' → L' = L.set o z → (tg = true → S w') ∧ WH P ops S Q os' ρ w') : WH P ops S Q ((⟨none, .store t x y, ty, pos, af, none⟩, tg) :: os') ρ w := by
  have hB : BufT b T L w (setB w b (.cells ((ic .u8 L).setIfInBounds o (.int .u8 z)) T (0, 0))) (L.set o z) := by
    rw [ic_setA]
    exact ⟨by simp, fun hl => by
      intro x hx
      rcases List.mem_or_eq_of_mem_set hx with hx | hx
      · exact hl x hx
      · subst hx; exact hz, Hb.setSame hb, (KeepO.refl (fun x => x = b) w).setB (fun _ => rfl) _⟩
  exact WH_store1 hS hx hy hb.h rfl (by rw [size_ic]; exact ho) rfl (h _ _ hB rfl).1 (h _ _ hB rfl).2
end
theorem size_made {n : Nat} : (madeCells (Value.bool false).cells n).size = n := size_madeCells _ _
theorem rowQ {r : Array Value} {K : List Bool} (h : RowL encQ 1 0 r K) {i : Nat} (hi : i < K.length) : Ce r (0 + i * 1) (.bool (K.getD i false)) := by
  have e : K[i]? = some (K.getD i false) := by rw [List.getD_eq_getElem?_getD, List.getElem?_eq_getElem hi]; rfl
  exact h.get e (k := 0) (by decide) rfl
theorem blQ {w0 w : World} {so : Option (Nat × Nat)} {K : List Bool} (h : BL encQ 1 4 w0 [] w so K) (hK : 0 < K.length) : ∃ b cp r, so = some (b, cp) ∧ w0.heap.size ≤ b ∧ Hb w b (.cells r 4 (0, 0)) ∧ K.length ≤ r.size ∧ ∀ i, i < K.length → Ce r (0 + i * 1) (.bool (K.getD i false)) := by
  obtain ⟨hr, hf⟩ := h
  rcases so with _ | ⟨b, cp⟩
  · have : K = [] := hr
    subst this; simp at hK
  · obtain ⟨h1, r, h2, h3, h4⟩ := hr
    exact ⟨b, cp, r, rfl, (hf b ⟨cp, rfl⟩).1, h2, by omega, fun i hi => rowQ h4 hi⟩
theorem kst_next (L : List Int) (k j : Nat) : kFn (fun j => if j < 1088 then (kst L k j != kbit L (1088 * k + j)) else kst L k j) j = kst L (k + 1) j := rfl

set_option maxRecDepth 100000 in
set_option maxHeartbeats 2000000 in
theorem ksum_ex (w : World) (p : Option Addr) (n cp : Nat) (L : List Int) (hA : AB w (p, n, cp) L) (hn : n ≤ 10000000) : Ret Hvac.prog 160 #[.slice p n cp] w fun u w' => Ext w w' ∧ u = .agg (ic .u8 (khash L)) := by
  have hLl : L.length = n := hA.len
  have hLb := hA.by_
  refine Ret_of_W Hvac.func160 rfl rfl ?_
  refine W_seq ?_
  refine W_region rfl ?_
  refine WO_allocG Hvac.zeroValue27 ?_
  intro b2 v2 hg2 hE2 hH2 hl2
  try simp only [size_alloc, size_setB, size_drew] at hg2
  have hzz2 := hE2.1
  try simp only [size_alloc, size_setB, size_drew] at hzz2
  replace hH2 : Hb v2 b2 (.cells (ic .u8 (List.replicate 32 0)) 27 (0, 0)) := hH2
  refine WO_nil ?_
  refine thn_normal ?_
  refine W_seq ?_
  refine W_region rfl ?_
  refine WO_p (PS_move_slice rfl) ?_
  refine WO_p (PS_lenS Hvac.runUnderlying32 rfl) ?_
  refine WO_p (PS_mul_i64n rfl rfl (by omega) (by omega)) ?_
  refine WO_p (PS_add_i64n rfl rfl (by omega) (by omega)) ?_
  refine WO_make Hvac.underlying291 info4 rfl rfl rfl (by omega) (by omega) (by show ((1 : Nat) : Int) * _ ≤ _; omega) (by omega) ?_
  refine WO_p (PS_assign_slice rfl) ?_
  refine WO_nil ?_
  refine thn_normal ?_
  refine W_seq ?_
  refine W_seq ?_
  refine W_region rfl ?_
  refine WO_p (PS_move_slice rfl) ?_
  refine WO_p (PS_lenS Hvac.runUnderlying32 rfl) ?_
  refine WO_p (PS_move_int rfl) ?_
  refine WO_nil ?_
  refine thn_normal ?_
  refine W_block ?_
  refine W_loopN (fun m ρ w' => ∃ (i : Nat) (so : Option (Nat × Nat)) (K : List Bool), i + m = n ∧ K.length = 8 * i ∧ (∀ j, j < 8 * i → K.getD j false = kbit L j) ∧ Fr [(0, .slice p n cp), (2, .pointer (some ⟨b2, 0, none⟩)), (3, .slice (slp so) K.length (slc so)), (17, .slice p n cp), (18, .int .i64 n), (19, .int .i64 i)] ρ ∧ BL encQ 1 4 v2 [] w' so K ∧ Ext v2 w') n ?_ ?_
  · exact ⟨0, some (v2.heap.size, (8 * (n : Int) + 2176).toNat), [], by omega, rfl, fun j hj => by omega, ⟨rfl, rfl, rfl, rfl, rfl, rfl, trivial⟩, bl_make (Hb.newY _ _) (by rw [size_madeCells]; exact Nat.mul_one _) (Nat.le_refl _), Ext.alloc (Ext.refl _) _⟩
  intro m ρ w4 hI
  obtain ⟨i, so, K, him, hKl, hK, hF, hB4, hE4⟩ := hI
  refine W_env _ hF ?_
  refine W_seq ?_
  refine W_region rfl ?_
  refine WO_p (PS_lss rfl rfl) ?_
  refine WO_nil ?_
  refine thn_normal ?_
  refine W_seq ?_
  refine W_if rfl (fun hb2 => ?_) (fun hb2 => ?_)
  · have hb2p := hb2.h; try simp only [al_ete, al_dfn, Bool.not_eq_true', Bool.not_eq_false', al_ne, Bool.not_not, al_nn] at hb2p
    obtain ⟨bd, od, rd, Td, fzd, hpd, hbd, hrd, hatd⟩ := (hA.ext (w' := w4) (by repeat (first | assumption | exact Ext.refl _ | refine Ext.alloc ?_ _ | refine Ext.drew ?_ | refine Ext.setB ?_ (by first | omega | (simp only [size_alloc, size_setB, size_drew]; omega)) _ | exact Ext.trans (by assumption) (by assumption) | refine Ext.trans ?_ (by assumption)))).at_ (by omega)
    subst hpd
    have hced := hatd i (by omega)
    refine W_skip ?_
    refine thn_normal ?_
    refine W_seq ?_
    refine W_block ?_
    refine W_seq ?_
    refine W_region rfl ?_
    refine WO_p (PS_indexS Hvac.runUnderlying32 Hvac.sizeOf5 rfl rfl (by omega) (by omega)) ?_
    refine WO_load (.int .u8 _) Hvac.isAgg5 rfl (Hb.h hbd) (Ce.h hced) ?_
    refine WO_p (PS_assign_int rfl) ?_
    refine WO_nil ?_
    refine thn_normal ?_
    refine W_seq ?_
    refine W_region rfl ?_
    refine WO_p (PS_assign_int rfl) ?_
    refine WO_nil ?_
    refine thn_normal ?_
    refine W_block ?_
    refine W_loopN (fun m ρ w' => ∃ (k : Nat) (so : Option (Nat × Nat)) (K : List Bool), k + m = 8 ∧ K.length = 8 * i + k ∧ (∀ j, j < 8 * i + k → K.getD j false = kbit L j) ∧ Fr [(0, .slice (some ⟨bd, od, none⟩) n cp), (2, .pointer (some ⟨b2, 0, none⟩)), (3, .slice (slp so) K.length (slc so)), (5, .int .u8 (L.getD i 0)), (6, .int .i64 k), (17, .slice (some ⟨bd, od, none⟩) n cp), (18, .int .i64 n), (19, .int .i64 i)] ρ ∧ BL encQ 1 4 v2 [] w' so K ∧ Ext v2 w') 8 ?_ ?_
    · exact ⟨0, so, K, by omega, by omega, fun j hj => hK j (by omega), ⟨rfl, rfl, rfl, rfl, rfl, rfl, rfl, rfl, trivial⟩, hB4, hE4⟩
    intro m6 ρ6 w6 hI
    obtain ⟨k, so6, K6, hkm, hKl6, hK6, hF6, hB6, hE6⟩ := hI
    refine W_env _ hF6 ?_
    have hcb := getD_byte hLb i
    refine W_seq ?_
    refine W_seq ?_
    refine W_region rfl ?_
    refine WO_p (PS_move_int rfl) ?_
    refine WO_p (PS_lss rfl rfl) ?_
    refine WO_nil ?_
    refine thn_normal ?_
    refine W_if rfl (fun hb4 => ?_) (fun hb4 => ?_)
    · have hb4p := hb4.h; try simp only [al_ete, al_dfn, Bool.not_eq_true', Bool.not_eq_false', al_ne, Bool.not_not, al_nn] at hb4p
      refine W_skip ?_
      refine thn_normal ?_
      refine W_seq ?_
      refine W_block ?_
      refine W_region rfl ?_
      refine WO_p (PS_move_slice rfl) ?_
      refine WO_p (PS_move_int rfl) ?_
      refine WO_p (PS_move_int rfl) ?_
      refine WO_p (PS_shr_u8 _ rfl rfl (by omega) rfl) ?_
      refine WO_p (PS_and_u8 rfl rfl) ?_
      refine WO_p (PS_eql rfl rfl) ?_
      refine WO_buildSliceV (.bool _) Hvac.runUnderlying291 Hvac.sizeOf4 Hvac.zeroValue4 rfl rfl (by decide) (by decide) ?_
      refine WO_app _ ap_Q (BL.ext hB6 (by repeat (first | assumption | exact Ext.refl _ | refine Ext.alloc ?_ _ | refine Ext.drew ?_ | refine Ext.setB ?_ (by first | omega | (simp only [size_alloc, size_setB, size_drew]; omega)) _ | exact Ext.trans (by assumption) (by assumption) | refine Ext.trans ?_ (by assumption)))) (by repeat (first | assumption | exact Ext.refl _ | refine Ext.alloc ?_ _ | refine Ext.drew ?_ | refine Ext.setB ?_ (by first | omega | (simp only [size_alloc, size_setB, size_drew]; omega)) _ | exact Ext.trans (by assumption) (by assumption) | refine Ext.trans ?_ (by assumption))) (by simp) (by omega) rfl (Hb.mk (Hb.h (by repeat (first | assumption | exact Hb.newY _ _ | refine Hb.alloc ?_ | refine Hb.drew ?_ | refine Hb.ext (by assumption) ?_ | exact Hb.setSameL (by first | omega | (simp only [size_alloc, size_setB, size_drew]; omega)) | exact Hb.setSame (by assumption) | refine Hb.set (by first | omega | (simp only [size_alloc, size_setB, size_drew]; omega)) ?_ )))) rfl rfl ?_
      intro so8 w8 hB8 hE8 hk8 hz8
      refine WO_p (PS_assign_slice rfl) ?_
      refine WO_nil ?_
      refine inBlk_normal ?_
      refine thn_normal ?_
      refine W_region rfl ?_
      refine WO_p (PS_move_int rfl) ?_
      refine WO_p (PS_add_i64n rfl rfl (by omega) (by omega)) ?_
      refine WO_p (PS_assign_int rfl) ?_
      refine WO_nil ?_
      refine thn_normal ?_
      exact ⟨m6 - 1, by omega, k + 1, so8, K6 ++ [_], by omega, by simp; omega, fun j hj => by rw [gd_snoc]; by_cases h9 : j < K6.length; (· rw [if_pos h9]; exact hK6 j (by omega)); (rw [if_neg h9, if_pos (by omega), bit8 hcb (by omega)]; unfold kbit; rw [if_pos (by omega), show j / 8 = i by omega, show j % 8 = k by omega]), ⟨rfl, rfl, rfl, rfl, congrArg (Value.int .i64) (by omega), rfl, rfl, rfl, trivial⟩, hB8, hE8⟩
    · have hb4p := hb4.h; try simp only [al_ete, al_dfn, Bool.not_eq_true', Bool.not_eq_false', al_ne, Bool.not_not, al_nn] at hb4p
      refine W_exit ?_
      refine thn_exit ?_
      refine thn_exit ?_
      refine inBlk_exit ?_
      refine inBlk_normal ?_
      refine thn_normal ?_
      refine W_region rfl ?_
      refine WO_p (PS_add_i64n rfl rfl (by omega) (by omega)) ?_
      refine WO_p (PS_move_int rfl) ?_
      refine WO_nil ?_
      refine thn_normal ?_
      exact ⟨m - 1, by omega, i + 1, so6, K6, by omega, by omega, fun j hj => hK6 j (by omega), ⟨rfl, rfl, rfl, rfl, rfl, congrArg (Value.int .i64) (by omega), trivial⟩, hB6, hE6⟩
  · have hb2p := hb2.h; try simp only [al_ete, al_dfn, Bool.not_eq_true', Bool.not_eq_false', al_ne, Bool.not_not, al_nn] at hb2p
    refine W_exit ?_
    refine thn_exit ?_
    refine thn_exit ?_
    refine inBlk_exit ?_
    refine thn_normal ?_
    refine W_seq ?_
    refine W_region rfl ?_
    refine WO_p (PS_move_slice rfl) ?_
    refine WO_buildSliceV (.bool _) Hvac.runUnderlying291 Hvac.sizeOf4 Hvac.zeroValue4 rfl rfl (by decide) (by decide) ?_
    refine WO_app true ap_Q (BL.ext hB4 (by repeat (first | assumption | exact Ext.refl _ | refine Ext.alloc ?_ _ | refine Ext.drew ?_ | refine Ext.setB ?_ (by first | omega | (simp only [size_alloc, size_setB, size_drew]; omega)) _ | exact Ext.trans (by assumption) (by assumption) | refine Ext.trans ?_ (by assumption)))) (by repeat (first | assumption | exact Ext.refl _ | refine Ext.alloc ?_ _ | refine Ext.drew ?_ | refine Ext.setB ?_ (by first | omega | (simp only [size_alloc, size_setB, size_drew]; omega)) _ | exact Ext.trans (by assumption) (by assumption) | refine Ext.trans ?_ (by assumption))) (by simp) (by omega) rfl (Hb.mk (Hb.h (by repeat (first | assumption | exact Hb.newY _ _ | refine Hb.alloc ?_ | refine Hb.drew ?_ | refine Hb.ext (by assumption) ?_ | exact Hb.setSameL (by first | omega | (simp only [size_alloc, size_setB, size_drew]; omega)) | exact Hb.setSame (by assumption) | refine Hb.set (by first | omega | (simp only [size_alloc, size_setB, size_drew]; omega)) ?_ )))) rfl rfl ?_
    intro so10 w10 hB10 hE10 hk10 hz10
    refine WO_p (PS_assign_slice rfl) ?_
    refine WO_nil ?_
    refine thn_normal ?_
    refine W_seq ?_
    refine W_block ?_
    refine W_loopN (fun m ρ w' => ∃ (so : Option (Nat × Nat)) (K : List Bool), K.length + m = 1088 * (n / 136 + 1) - 1 ∧ 8 * n + 1 ≤ K.length ∧ (∀ j, j < K.length → K.getD j false = kbit L j) ∧ Fr [(2, .pointer (some ⟨b2, 0, none⟩)), (3, .slice (slp so) K.length (slc so))] ρ ∧ BL encQ 1 4 v2 [] w' so K ∧ Ext v2 w') (1088 * (n / 136 + 1) - 1 - (8 * n + 1)) ?_ ?_
    · exact ⟨so10, K ++ [true], by simp; omega, by simp; omega, fun j hj => by rw [gd_snoc]; by_cases h9 : j < K.length; (· rw [if_pos h9]; exact hK j (by omega)); (rw [if_neg h9, if_pos (by simp at hj; omega)]; unfold kbit; rw [if_neg (by omega)]; exact (al_et (Or.inl (by simp at hj; omega))).symm), ⟨rfl, rfl, trivial⟩, hB10, hE10⟩
    intro mC ρC wC hI
    obtain ⟨soC, KC, hmC, hlC, hKC, hFC, hBC, hEC⟩ := hI
    refine W_env _ hFC ?_
    refine W_seq ?_
    refine W_seq ?_
    refine W_region rfl ?_
    refine WO_p (PS_move_slice rfl) ?_
    refine WO_p (PS_lenS Hvac.runUnderlying291 rfl) ?_
    refine WO_p (PS_rem_i64 rfl rfl (by omega) (by omega)) ?_
    refine WO_p (PS_neq rfl rfl) ?_
    refine WO_nil ?_
    refine thn_normal ?_
    refine W_if rfl (fun hb7 => ?_) (fun hb7 => ?_)
    · have hb7p := hb7.h; try simp only [al_ete, al_dfn, Bool.not_eq_true', Bool.not_eq_false', al_ne, Bool.not_not, al_nn] at hb7p
      refine W_skip ?_
      refine thn_normal ?_
      refine W_block ?_
      refine W_region rfl ?_
      refine WO_p (PS_move_slice rfl) ?_
      refine WO_buildSliceV (.bool _) Hvac.runUnderlying291 Hvac.sizeOf4 Hvac.zeroValue4 rfl rfl (by decide) (by decide) ?_
      refine WO_app false ap_Q (BL.ext hBC (by repeat (first | assumption | exact Ext.refl _ | refine Ext.alloc ?_ _ | refine Ext.drew ?_ | refine Ext.setB ?_ (by first | omega | (simp only [size_alloc, size_setB, size_drew]; omega)) _ | exact Ext.trans (by assumption) (by assumption) | refine Ext.trans ?_ (by assumption)))) (by repeat (first | assumption | exact Ext.refl _ | refine Ext.alloc ?_ _ | refine Ext.drew ?_ | refine Ext.setB ?_ (by first | omega | (simp only [size_alloc, size_setB, size_drew]; omega)) _ | exact Ext.trans (by assumption) (by assumption) | refine Ext.trans ?_ (by assumption))) (by simp) (by omega) rfl (Hb.mk (Hb.h (by repeat (first | assumption | exact Hb.newY _ _ | refine Hb.alloc ?_ | refine Hb.drew ?_ | refine Hb.ext (by assumption) ?_ | exact Hb.setSameL (by first | omega | (simp only [size_alloc, size_setB, size_drew]; omega)) | exact Hb.setSame (by assumption) | refine Hb.set (by first | omega | (simp only [size_alloc, size_setB, size_drew]; omega)) ?_ )))) rfl rfl ?_
      intro so12 w12 hB12 hE12 hk12 hz12
      refine WO_p (PS_assign_slice rfl) ?_
      refine WO_nil ?_
      refine inBlk_normal ?_
      refine thn_normal ?_
      exact ⟨mC - 1, by omega, so12, KC ++ [false], by simp; omega, by simp; omega, fun j hj => by rw [gd_snoc]; by_cases h9 : j < KC.length; (· rw [if_pos h9]; exact hKC j h9); (rw [if_neg h9, if_pos (by simp at hj; omega)]; unfold kbit; rw [if_neg (by omega)]; exact (al_ef (by simp at hj; omega)).symm), ⟨rfl, rfl, trivial⟩, hB12, hE12⟩
    · have hb7p := hb7.h; try simp only [al_ete, al_dfn, Bool.not_eq_true', Bool.not_eq_false', al_ne, Bool.not_not, al_nn] at hb7p
      refine W_exit ?_
      refine thn_exit ?_
      refine thn_exit ?_
      refine inBlk_exit ?_
      refine thn_normal ?_
      refine W_seq ?_
      refine W_region rfl ?_
      refine WO_p (PS_move_slice rfl) ?_
      refine WO_buildSliceV (.bool _) Hvac.runUnderlying291 Hvac.sizeOf4 Hvac.zeroValue4 rfl rfl (by decide) (by decide) ?_
      refine WO_app true ap_Q (BL.ext hBC (by repeat (first | assumption | exact Ext.refl _ | refine Ext.alloc ?_ _ | refine Ext.drew ?_ | refine Ext.setB ?_ (by first | omega | (simp only [size_alloc, size_setB, size_drew]; omega)) _ | exact Ext.trans (by assumption) (by assumption) | refine Ext.trans ?_ (by assumption)))) (by repeat (first | assumption | exact Ext.refl _ | refine Ext.alloc ?_ _ | refine Ext.drew ?_ | refine Ext.setB ?_ (by first | omega | (simp only [size_alloc, size_setB, size_drew]; omega)) _ | exact Ext.trans (by assumption) (by assumption) | refine Ext.trans ?_ (by assumption))) (by simp) (by omega) rfl (Hb.mk (Hb.h (by repeat (first | assumption | exact Hb.newY _ _ | refine Hb.alloc ?_ | refine Hb.drew ?_ | refine Hb.ext (by assumption) ?_ | exact Hb.setSameL (by first | omega | (simp only [size_alloc, size_setB, size_drew]; omega)) | exact Hb.setSame (by assumption) | refine Hb.set (by first | omega | (simp only [size_alloc, size_setB, size_drew]; omega)) ?_ )))) rfl rfl ?_
      intro so13 w13 hB13 hE13 hk13 hz13
      refine WO_p (PS_assign_slice rfl) ?_
      refine WO_nil ?_
      refine thn_normal ?_
      refine W_seq ?_
      refine W_region rfl ?_
      refine WO_allocG Hvac.zeroValue292 ?_
      intro b7 v7 hg7 hE7 hH7 hl7
      try simp only [size_alloc, size_setB, size_drew] at hg7
      have hzz7 := hE7.1
      try simp only [size_alloc, size_setB, size_drew] at hzz7
      replace hH7 : Hb v7 b7 (.cells (bc 1600 (fun _ => false)) 292 (0, 0)) := hH7
      refine WO_nil ?_
      refine thn_normal ?_
      refine W_seq ?_
      refine W_seq ?_
      have hlK : ((KC ++ [true]).length : Int) = ((1088 * (n / 136 + 1) : Nat) : Int) := by simp; omega
      have hlKn : (KC ++ [true]).length = 1088 * (n / 136 + 1) := by omega
      have hKK : ∀ j, j < 1088 * (n / 136 + 1) → (KC ++ [true]).getD j false = kbit L j := by
        intro j hj
        rw [gd_snoc]
        by_cases h9 : j < KC.length
        · rw [if_pos h9]; exact hKC j h9
        · rw [if_neg h9, if_pos (by omega)]
          unfold kbit
          rw [if_neg (by omega)]
          exact (al_et (Or.inr (by omega))).symm
      obtain ⟨bq, cq, rq, hsoq, hbq0, hbq, hrq, hatq⟩ := blQ hB13 (by omega)
      subst hsoq
      have hzv13 := hE13.1
      refine W_region rfl ?_
      refine WO_p (PS_move_slice rfl) ?_
      refine WO_p (PS_lenS Hvac.runUnderlying291 rfl) ?_
      refine WO_p (PS_move_int rfl) ?_
      refine WO_nil ?_
      refine thn_normal ?_
      refine W_block ?_
      refine W_loopN (fun m ρ w' => ∃ (i : Nat), i + m = 1088 * (n / 136 + 1) ∧ Fr [(2, .pointer (some ⟨b2, 0, none⟩)), (7, .pointer (some ⟨b7, 0, none⟩)), (49, .slice (some ⟨bq, 0, none⟩) (KC ++ [true]).length cq), (50, .int .i64 ((1088 * (n / 136 + 1) : Nat) : Int)), (51, .int .i64 i)] ρ ∧ Ext w13 w' ∧ v7.heap.size ≤ w'.heap.size ∧ Hb w' b7 (.cells (bc 1600 (kpart L i)) 292 (0, 0))) (1088 * (n / 136 + 1)) ?_ ?_
      · exact ⟨0, by omega, ⟨rfl, rfl, rfl, congrArg (Value.int .i64) (by rw [hlK]), rfl, trivial⟩, hE7, Nat.le_refl _, by rw [bc_congr (n := 1600) (g := kpart L 0) (g' := fun _ => false) (fun j _ => kpart_0 L j)]; exact hH7⟩
      intro mD ρD wD hI
      obtain ⟨i, hiD, hFD, hED, hzD, hbD⟩ := hI
      refine W_env _ hFD ?_
      refine W_seq ?_
      refine W_region rfl ?_
      refine WO_p (PS_lss rfl rfl) ?_
      refine WO_nil ?_
      refine thn_normal ?_
      refine W_seq ?_
      refine W_if rfl (fun hb9 => ?_) (fun hb9 => ?_)
      · have hb9p := hb9.h; try simp only [al_ete, al_dfn, Bool.not_eq_true', Bool.not_eq_false', al_ne, Bool.not_not, al_nn] at hb9p
        have hceK := hatq i (by omega)
        have hKi : (KC ++ [true]).getD i false = kbit L i := hKK i (by omega)
        have hce61 : Ce (bc 1600 (kpart L i)) (0 + (((i : Nat) : Int) % 1088).toNat * 1) (.bool ((kpart L i) (i % 1088))) := by rw [show 0 + (((i : Nat) : Int) % 1088).toNat * 1 = i % 1088 by (try simp only [kat, Int.toNat_natCast]); omega]; exact ce_bc (by (try simp only [kat]); omega)
        refine W_skip ?_
        refine thn_normal ?_
        refine W_seq ?_
        refine W_block ?_
        refine W_seq ?_
        refine W_region rfl ?_
        refine WO_p (PS_move_int rfl) ?_
        refine WO_p (PS_indexS Hvac.runUnderlying291 Hvac.sizeOf4 rfl rfl (by omega) (by omega)) ?_
        refine WO_load (.bool _) Hvac.isAgg4 rfl (Hb.h (hbq.ext hED)) (Ce.h hceK) ?_
        refine WO_p (PS_assign_int rfl) ?_
        refine WO_p (PS_assign_bool rfl) ?_
        refine WO_nil ?_
        refine thn_normal ?_
        refine W_seq ?_
        refine W_region rfl ?_
        refine WO_p (PS_move_int rfl) ?_
        refine WO_p (PS_rem_i64 rfl rfl (by omega) (by omega)) ?_
        refine WO_p (PS_move_int rfl) ?_
        refine WO_p (PS_rem_i64 rfl rfl (by omega) (by omega)) ?_
        refine WO_p (PS_indexA Hvac.runUnderlying292 Hvac.sizeOf4 rfl rfl (by omega) (by omega)) ?_
        refine WO_load (.bool _) Hvac.isAgg4 rfl (Hb.h hbD) (Ce.h hce61) ?_
        refine WO_p (PS_move_bool rfl) ?_
        refine WO_p (PS_neqbool Hvac.underlying4 rfl rfl) ?_
        refine WO_p (PS_indexA Hvac.runUnderlying292 Hvac.sizeOf4 rfl rfl (by omega) (by omega)) ?_
        refine WO_storeQ (n := 1600) Hvac.sizeOf4 rfl rfl hbD (by omega) ?_
        intro w18 g18 hB18 hg18
        have hz18' := hB18.keep.sz
        have hE18 : Ext w13 w18 := hB18.ext0 hED hg7
        have hz18 : v7.heap.size ≤ w18.heap.size := by omega
        have hof : 0 + (((i : Nat) : Int) % 1088).toNat * 1 = i % 1088 := by omega
        have hv18 : (kpart L i (i % 1088) != (KC ++ [true]).getD i false) = (kpart L i (i % 1088) != kbit L i) := by rw [hKi]
        refine WO_nil ?_
        refine thn_normal ?_
        refine W_seq ?_
        refine W_region rfl ?_
        refine WO_p (PS_move_int rfl) ?_
        refine WO_p (PS_rem_i64 rfl rfl (by omega) (by omega)) ?_
        refine WO_p (PS_eql rfl rfl) ?_
        refine WO_nil ?_
        refine thn_normal ?_
        refine W_if rfl (fun hb14 => ?_) (fun hb14 => ?_)
        · have hb14p := hb14.h; try simp only [al_ete, al_dfn, Bool.not_eq_true', Bool.not_eq_false', al_ne, Bool.not_not, al_nn] at hb14p
          have h67 : i % 1088 = 1087 := by omega
          have hB19 := hB18.cg (fun j _ => kpart_full (L := L) (i := i) hof h67 hv18 hg18 j)
          refine W_region rfl ?_
          refine WO_call Hvac.call224 (by rfl) (Ret.mono (kF_ex b7 292 (fun j => if j < 1088 then (kst L (i / 1088) j != kbit L (1088 * (i / 1088) + j)) else kst L (i / 1088) j) _ hB19.hb) ?_)
          rintro _ w20 ⟨rfl, hB20⟩
          have hz20 := hB20.keep.sz
          have hE20 : Ext w13 w20 := hB20.ext0 hE18 hg7
          refine WO_nil ?_
          refine inBlk_normal ?_
          refine thn_normal ?_
          refine W_region rfl ?_
          refine WO_p (PS_add_i64n rfl rfl (by omega) (by omega)) ?_
          refine WO_p (PS_move_int rfl) ?_
          refine WO_nil ?_
          refine thn_normal ?_
          exact ⟨mD - 1, by omega, i + 1, by omega, ⟨rfl, rfl, rfl, rfl, congrArg (Value.int .i64) (by omega), trivial⟩, hE20, by omega, (hB20.cg (g' := kpart L (i + 1)) (fun j _ => by rw [kst_next]; exact kpart_next h67 j)).hb⟩
        · have hb14p := hb14.h; try simp only [al_ete, al_dfn, Bool.not_eq_true', Bool.not_eq_false', al_ne, Bool.not_not, al_nn] at hb14p
          have h67 : i % 1088 ≠ 1087 := by omega
          refine W_skip ?_
          refine inBlk_normal ?_
          refine thn_normal ?_
          refine W_region rfl ?_
          refine WO_p (PS_add_i64n rfl rfl (by omega) (by omega)) ?_
          refine WO_p (PS_move_int rfl) ?_
          refine WO_nil ?_
          refine thn_normal ?_
          exact ⟨mD - 1, by omega, i + 1, by omega, ⟨rfl, rfl, rfl, rfl, congrArg (Value.int .i64) (by omega), trivial⟩, hE18, hz18, (hB18.cg (g' := kpart L (i + 1)) (fun j _ => kpart_step hof h67 hv18 hg18 j)).hb⟩
      · have hb9p := hb9.h; try simp only [al_ete, al_dfn, Bool.not_eq_true', Bool.not_eq_false', al_ne, Bool.not_not, al_nn] at hb9p
        refine W_exit ?_
        refine thn_exit ?_
        refine thn_exit ?_
        refine inBlk_exit ?_
        refine thn_normal ?_
        refine W_seq ?_
        refine W_region rfl ?_
        refine WO_allocG Hvac.zeroValue27 ?_
        intro b10 v10 hg10 hE10 hH10 hl10
        try simp only [size_alloc, size_setB, size_drew] at hg10
        have hzz10 := hE10.1
        try simp only [size_alloc, size_setB, size_drew] at hzz10
        replace hH10 : Hb v10 b10 (.cells (ic .u8 (List.replicate 32 0)) 27 (0, 0)) := hH10
        refine WO_nil ?_
        refine thn_normal ?_
        refine W_seq ?_
        refine W_seq ?_
        refine W_region rfl ?_
        refine WO_p (PS_assign_int rfl) ?_
        refine WO_nil ?_
        refine thn_normal ?_
        refine W_block ?_
        refine W_loopN (fun m ρ w' => ∃ (q : Nat) (R : List Int), q + m = 256 ∧ By R 32 ∧ (∀ k, k < 32 → R.getD k 0 = ((kob (kst L (n / 136 + 1)) q k : Nat) : Int)) ∧ Fr [(2, .pointer (some ⟨b2, 0, none⟩)), (7, .pointer (some ⟨b7, 0, none⟩)), (10, .pointer (some ⟨b10, 0, none⟩)), (11, .int .i64 q)] ρ ∧ Ext wD w' ∧ v10.heap.size ≤ w'.heap.size ∧ Hb w' b10 (.cells (ic .u8 R) 27 (0, 0))) 256 ?_ ?_
        · exact ⟨0, List.replicate 32 0, by omega, ⟨by simp, by_zero 32⟩, fun k hk => by rw [getD_repI]; unfold kob; rw [show min 8 (0 - 8 * k) = 0 by omega]; rfl, ⟨rfl, rfl, rfl, rfl, trivial⟩, hE10, Nat.le_refl _, hH10⟩
        intro mE ρE wE hI
        obtain ⟨q, R, hqE, hRb, hRk, hFE, hEE, hzE, hbE⟩ := hI
        refine W_env _ hFE ?_
        have hRl := hRb.1
        have hb7E : Hb wE b7 (.cells (bc 1600 (kst L (n / 136 + 1))) 292 (0, 0)) := by
          have e := bc_congr (n := 1600) (g := kpart L i) (g' := kst L (n / 136 + 1)) (fun j _ => by rw [show i = 1088 * (n / 136 + 1) by omega]; unfold kpart; rw [if_neg (by omega), show 1088 * (n / 136 + 1) / 1088 = n / 136 + 1 by omega])
          rw [← e]; exact hbD.ext hEE
        refine W_seq ?_
        refine W_seq ?_
        refine W_region rfl ?_
        refine WO_p (PS_move_int rfl) ?_
        refine WO_p (PS_lss rfl rfl) ?_
        refine WO_nil ?_
        refine thn_normal ?_
        refine W_if rfl (fun hb17 => ?_) (fun hb17 => ?_)
        · have hb17p := hb17.h; try simp only [al_ete, al_dfn, Bool.not_eq_true', Bool.not_eq_false', al_ne, Bool.not_not, al_nn] at hb17p
          have hceq : Ce (bc 1600 (kst L (n / 136 + 1))) (0 + ((q : Nat) : Int).toNat * 1) (.bool ((kst L (n / 136 + 1)) (q))) := by rw [show 0 + ((q : Nat) : Int).toNat * 1 = q by (try simp only [kat, Int.toNat_natCast]); omega]; exact ce_bc (by (try simp only [kat]); omega)
          have hce80 : Ce (ic .u8 R) (0 + (((q : Nat) : Int) / 8).toNat * 1) (.int .u8 (R.getD (q / 8) 0)) := by rw [show 0 + (((q : Nat) : Int) / 8).toNat * 1 = 0 + q / 8 * 1 by omega]; exact ce_ic (by omega)
          refine W_skip ?_
          refine thn_normal ?_
          refine W_seq ?_
          refine W_block ?_
          refine W_seq ?_
          refine W_region rfl ?_
          refine WO_p (PS_move_int rfl) ?_
          refine WO_p (PS_indexA Hvac.runUnderlying292 Hvac.sizeOf4 rfl rfl (by omega) (by omega)) ?_
          refine WO_load (.bool _) Hvac.isAgg4 rfl (Hb.h hb7E) (Ce.h hceq) ?_
          refine WO_nil ?_
          refine thn_normal ?_
          refine W_if rfl (fun hb19 => ?_) (fun hb19 => ?_)
          · have hb19p := hb19.h; try simp only [al_ete, al_dfn, Bool.not_eq_true', Bool.not_eq_false', al_ne, Bool.not_not, al_nn] at hb19p
            have h76 : kst L (n / 136 + 1) q = true := hb19p
            refine W_drawE [false, false, false, false, false, false, false, false, false, false] hmix (by kernel_rfl) rfl ?_
            refine WH_p (PS_move_int rfl) rfl ?_
            refine WH_p (PS_quo_i64 rfl rfl (by omega) (by omega) (by omega)) rfl ?_
            refine WH_p (PS_indexA Hvac.runUnderlying27 Hvac.sizeOf5 rfl rfl (by omega) (by omega)) rfl ?_
            refine WH_load (.int .u8 _) Hvac.isAgg5 rfl (Hb.h (Hb.drew hbE)) (Ce.h hce80) ?_
            refine WH_p (PS_move_int rfl) rfl ?_
            refine WH_p (PS_rem_i64 rfl rfl (by omega) (by omega)) rfl ?_
            refine WH_p (PS_shl_u8 _ rfl rfl (by omega) rfl) rfl ?_
            refine WH_p (PS_or_u8 rfl rfl) rfl ?_
            refine WH_p (PS_indexA Hvac.runUnderlying27 Hvac.sizeOf5 rfl rfl (by omega) (by omega)) rfl ?_
            refine WH_storeBX Hvac.sizeOf5 rfl rfl (Hb.drew hbE) (by omega) (bOr8_bd _ _) ?_
            intro w27 R27 hT27 hR27'
            have hz27 := hT27.keep.sz
            simp only [size_drew] at hz27
            have hRb27 : By R27 32 := ⟨hT27.len.trans hRl, hT27.ty hRb.2⟩
            have hE27 : Ext wD w27 := hT27.ext (hEE.trans (Ext.drew (Ext.refl _))) (by omega)
            have hR27 : R27 = R.set (q / 8) (bOr8 (R.getD (q / 8) 0) (1 * 2 ^ (min (((q % 8 : Nat) : Nat) : Int).toNat 8) % 256)) := by rw [hR27', show 0 + (((q : Nat) : Int) / 8).toNat * 1 = q / 8 by omega]; rfl
            refine ⟨(fun h => by cases h), ?_⟩
            refine WH_nil ?_
            refine inBlk_normal ?_
            refine thn_normal ?_
            refine W_region rfl ?_
            refine WO_p (PS_move_int rfl) ?_
            refine WO_p (PS_add_i64n rfl rfl (by omega) (by omega)) ?_
            refine WO_p (PS_assign_int rfl) ?_
            refine WO_nil ?_
            refine thn_normal ?_
            exact ⟨mE - 1, by omega, q + 1, R27, by omega, hRb27, kob_step (by omega) hRl hRk (Or.inl ⟨h76, hR27⟩), ⟨rfl, rfl, rfl, congrArg (Value.int .i64) (by omega), trivial⟩, hE27, by omega, hT27.hb⟩
          · have hb19p := hb19.h; try simp only [al_ete, al_dfn, Bool.not_eq_true', Bool.not_eq_false', al_ne, Bool.not_not, al_nn] at hb19p
            have h76 : kst L (n / 136 + 1) q = false := by simpa using hb19p
            refine W_skip ?_
            refine inBlk_normal ?_
            refine thn_normal ?_
            refine W_region rfl ?_
            refine WO_p (PS_move_int rfl) ?_
            refine WO_p (PS_add_i64n rfl rfl (by omega) (by omega)) ?_
            refine WO_p (PS_assign_int rfl) ?_
            refine WO_nil ?_
            refine thn_normal ?_
            exact ⟨mE - 1, by omega, q + 1, R, by omega, hRb, kob_step (by omega) hRl hRk (Or.inr ⟨h76, rfl⟩), ⟨rfl, rfl, rfl, congrArg (Value.int .i64) (by omega), trivial⟩, hEE, hzE, hbE⟩
        · have hb17p := hb17.h; try simp only [al_ete, al_dfn, Bool.not_eq_true', Bool.not_eq_false', al_ne, Bool.not_not, al_nn] at hb17p
          refine W_exit ?_
          refine thn_exit ?_
          refine thn_exit ?_
          refine inBlk_exit ?_
          refine thn_normal ?_
          refine W_seq ?_
          refine W_region rfl ?_
          refine WO_loadA _ Hvac.isAgg27 Hvac.sizeOf27 rfl (Hb.h (by repeat (first | assumption | exact Hb.newY _ _ | refine Hb.alloc ?_ | refine Hb.drew ?_ | refine Hb.ext (by assumption) ?_ | exact Hb.setSameL (by first | omega | (simp only [size_alloc, size_setB, size_drew]; omega)) | exact Hb.setSame (by assumption) | refine Hb.set (by first | omega | (simp only [size_alloc, size_setB, size_drew]; omega)) ?_ ))) (by first | omega | assumption | rfl | decide | exact Nat.le_refl _ | (simp only [size_ic, Value.cells]; omega) | (simp; omega) | simp) (Xt.h (by first | assumption | exact Xt.whole rfl rfl | exact Xt.whole rfl (by assumption) | exact Xt.whole rfl (by simp only [size_ic, Value.cells]; omega) | exact ⟨rfl⟩)) ?_
          first | refine WO_storeW Hvac.sizeOf27 rfl (v := .agg _) rfl (Hb.h (by repeat (first | assumption | exact Hb.newY _ _ | refine Hb.alloc ?_ | refine Hb.drew ?_ | refine Hb.ext (by assumption) ?_ | exact Hb.setSameL (by first | omega | (simp only [size_alloc, size_setB, size_drew]; omega)) | exact Hb.setSame (by assumption) | refine Hb.set (by first | omega | (simp only [size_alloc, size_setB, size_drew]; omega)) ?_ ))) rfl (by first | omega | assumption | rfl | decide | exact Nat.le_refl _ | (simp only [size_ic, Value.cells]; omega) | (simp; omega) | simp) (by first | omega | assumption | rfl | decide | exact Nat.le_refl _ | (simp only [size_ic, Value.cells]; omega) | (simp; omega) | simp) (by first | exact oneCell_ic | assumption | exact one_Ws2 _ | exact one_YA2 _ | exact one_YSl2 _ | exact one_YM2 _ | exact one_YT2 _ | exact one_L2 _) ?_ | refine WO_store Hvac.sizeOf27 rfl (v := .agg _) rfl (Hb.h (by repeat (first | assumption | exact Hb.newY _ _ | refine Hb.alloc ?_ | refine Hb.drew ?_ | refine Hb.ext (by assumption) ?_ | exact Hb.setSameL (by first | omega | (simp only [size_alloc, size_setB, size_drew]; omega)) | exact Hb.setSame (by assumption) | refine Hb.set (by first | omega | (simp only [size_alloc, size_setB, size_drew]; omega)) ?_ ))) (by first | omega | assumption | rfl | decide | exact Nat.le_refl _ | (simp only [size_ic, Value.cells]; omega) | (simp; omega) | simp) (by first | omega | assumption | rfl | decide | exact Nat.le_refl _ | (simp only [size_ic, Value.cells]; omega) | (simp; omega) | simp) (by first | exact oneCell_ic | assumption | exact one_Ws2 _ | exact one_YA2 _ | exact one_YSl2 _ | exact one_YM2 _ | exact one_YT2 _ | exact one_L2 _) ?_
          refine WO_nil ?_
          refine thn_normal ?_
          refine W_ret ?_
          refine bodyQ_cell1 Hvac.results160 rfl Hvac.isAgg27 Hvac.sizeOf27 rfl (Hb.h (by repeat (first | assumption | exact Hb.newY _ _ | refine Hb.alloc ?_ | refine Hb.drew ?_ | refine Hb.ext (by assumption) ?_ | exact Hb.setSameL (by first | omega | (simp only [size_alloc, size_setB, size_drew]; omega)) | exact Hb.setSame (by assumption) | refine Hb.set (by first | omega | (simp only [size_alloc, size_setB, size_drew]; omega)) ?_ ))) (by first | omega | assumption | rfl | decide | exact Nat.le_refl _ | (simp only [size_ic, Value.cells]; omega) | (simp; omega) | simp) ?_
          have hks : R = khash L := by
            refine list_gd (by rw [hRl, ksum_len]) fun k hk => ?_
            rw [hRk k (by omega), ksum_gd L (by omega), hLl]
            unfold kob
            rw [show min 8 (q - 8 * k) = 8 by omega, kby_8]
          exact ⟨Ext.setB (hE2.trans (hE13.trans (hED.trans hEE))) (by omega) _, by rw [← hks]; rfl⟩


theorem khash_ksum : KSum khash := ⟨fun L => ⟨ksum_len L, fun x hx => by
  simp only [khash, List.mem_map] at hx
  obtain ⟨k, -, rfl⟩ := hx
  have := kby_lt (kst L (L.length / 136 + 1)) k 8
  rw [kby_8] at this
  omega⟩, ksum_ex⟩

end Go.Proofs.YgvacwGreat
