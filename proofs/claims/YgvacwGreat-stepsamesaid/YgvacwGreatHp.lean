import Derived.Test.YgvacwGreatHo
namespace Go.Proofs.YgvacwGreat
set_option linter.unusedSimpArgs false
set_option linter.unusedVariables false
/-! bytes put together -/
def encBy (x : Int) : List Value := [.int .u8 x]
theorem one_B (x : Int) : ∀ v ∈ encBy x, v.oneCell' = true := by intro v hv; simp [encBy] at hv; subst hv; rfl
theorem ap_B : AppI encBy 1 5 32 1 := ⟨Hvac.underlying32, ⟨Hvac.t5, _, info5, rfl, rfl, rfl, rfl⟩, one_B, by decide⟩
theorem rowB {r : Array Value} {K : List Int} (h : RowL encBy 1 0 r K) : Xt r 0 (0 + K.length) (ic .u8 K) := ⟨by
  have h1 := h.1
  refine Array.ext_getElem? fun i => ?_
  rw [Array.getElem?_extract]
  rcases Nat.lt_or_ge i K.length with hi | hi
  · rw [if_pos (by omega)]
    have h2 := h.2 i K[i] (List.getElem?_eq_getElem hi) 0 (by decide)
    rw [show 0 + i * 1 + 0 = 0 + i by omega] at h2
    rw [h2]; simp [encBy, ic, hi]
  · rw [if_neg (by omega), Array.getElem?_eq_none (by rw [size_ic]; exact hi)]⟩
theorem BL.ab {w0 : World} {X : List Nat} {w : World} {so : Option (Nat × Nat)} {K : List Int} (h : BL encBy 1 5 w0 X w so K) (hb : ∀ x ∈ K, 0 ≤ x ∧ x ≤ 255) : AB w (slp so, K.length, slc so) K := by
  cases so with
  | none => have h1 := h.row; simp only [Row] at h1; subst h1; exact ⟨rfl, Nat.le_refl _, (by intro x hx; cases hx), fun h => absurd h (Nat.lt_irrefl 0)⟩
  | some p =>
    obtain ⟨b, cap⟩ := p
    obtain ⟨h1, r, h2, h3, h4⟩ := h.row
    exact ⟨rfl, h1, hb, fun _ => ⟨b, 0, r, 5, (0, 0), rfl, h2, by have := h4.1; show 0 + K.length ≤ r.size; omega, rowB h4⟩⟩
theorem bl_new {w0 w : World} {X : List Nat} {b : Nat} {L : List Int} (hb : Hb w b (.cells (ic .u8 L) 5 (0, 0))) (h0 : w0.heap.size ≤ b) (hX : b ∉ X) : BL encBy 1 5 w0 X w (some (b, L.length)) L := by
  refine ⟨⟨Nat.le_refl _, _, hb, by rw [size_ic, Nat.one_mul], by rw [size_ic]; omega, fun i x hx k hk => ?_⟩, fun b' h' => ?_⟩
  · have hk0 : k = 0 := by omega
    subst hk0
    rw [show 0 + i * 1 + 0 = i by omega]
    simp only [ic, List.getElem?_toArray, List.getElem?_map, hx]
    rfl
  · obtain ⟨cap, h9⟩ := h'
    injection h9 with h9
    injection h9 with h9 _
    rw [← h9]; exact ⟨h0, hX⟩
theorem run_append_bytes {w : World} {s : Option (Nat × Nat)} {l M : List Int} {rt : TypeId} {a2 : Addr} {c2 : Nat} (hrow : Row encBy 1 5 w s l) (h0 : 0 < l.length) (hcs : ∀ j v, (M.map (Value.int .u8))[j]? = some v → w.cell? (a2.add j) = some v) (hlen : l.length + M.length ≤ 100000000) :
    ∃ s' w', (Builtin.append_ #[32, 32] rt #[slv s l.length, .slice (some a2) M.length c2]).run Hvac.prog w = .ok (slv s' (l.length + M.length)) w' ∧ Row encBy 1 5 w' s' (l ++ M) ∧ KeepO (blkOf s) w w' ∧ (∀ b, blkOf s' b → blkOf s b ∨ w.heap.size ≤ b) := by
  have hnl : (M.map (Value.int .u8)).length = M.length * Hvac.t5.size := by rw [show Hvac.t5.size = 1 from rfl]; simp
  cases s with
  | none => simp only [Row] at hrow; subst hrow; exact absurd h0 (Nat.lt_irrefl 0)
  | some p =>
    obtain ⟨b, cap⟩ := p
    obtain ⟨hcap, r, hr, hrs, hrl⟩ := hrow
    have hX := rowB hrl
    by_cases hroom : l.length + M.length ≤ cap
    · have hst := run_storeCells_hp (P := Hvac.prog) (M.map (Value.int .u8)) r (l.length * 1) 0 w hr.h (by rw [List.length_map]; omega) (by intro u hu; obtain ⟨a, _, rfl⟩ := List.mem_map.1 hu; rfl)
      simp only [Nat.add_zero] at hst
      have hfc := run_firstCells_some (P := Hvac.prog) w 1 M.length a2 M.length c2 (M.map (Value.int .u8)) (by simp) hcs
      have hi1 : Hvac.t5.size = 1 := rfl
      refine ⟨some (b, cap), setB w b (.cells (splice r (l.length * 1) (M.map (Value.int .u8))) 5 (0, 0)), ?_, ?_, (KeepO.refl _ w).setB (fun _ => ⟨cap, rfl⟩) _, fun b hb => Or.inl hb⟩
      · simp [Builtin.append_, slv, slp, slc, run_underlying Hvac.underlying32, Go.sizeOf, typeInfo, info5, hi1, Builtin.lenOf, hroom, hfc, add_mk] at hst ⊢
        rw [hst]; rfl
      · refine ⟨by simpa using hroom, _, Hb.setSame hr, by rw [size_splice]; exact hrs, by rw [size_splice]; simp; omega, fun j y hy k hk => ?_⟩
        have hk0 : k = 0 := by omega
        subst hk0
        rw [splice_get _ _ _ _ (by rw [List.length_map]; omega), List.length_map]
        rcases Nat.lt_or_ge j l.length with hj | hj
        · rw [List.getElem?_append_left hj] at hy
          rw [if_neg (by omega)]
          exact hrl.2 j y hy 0 (by decide)
        · have hjl := lt_of_getElem? hy
          rw [List.length_append] at hjl
          rw [List.getElem?_append_right hj] at hy
          rw [if_pos (by omega), List.getElem?_map, show 0 + j * 1 + 0 - l.length * 1 = j - l.length by omega, hy]; rfl
    · have hg : cap < l.length + M.length := by omega
      have hol : (r.toList.take l.length).length = l.length * Hvac.t5.size := by rw [show Hvac.t5.size = 1 from rfl]; simp; omega
      have holds : ∀ j v, (r.toList.take l.length)[j]? = some v → w.cell? ((Addr.mk b 0 none).add j) = some v := by
        intro j v hv
        rw [add_mk, cell_hp hr.h]
        rw [List.getElem?_take] at hv
        split at hv
        · simpa using hv
        · cases hv
      have hrun := run_append_grow (P := Hvac.prog) w 32 rt 5 Hvac.t5 (.int .u8 0) Hvac.underlying32 info5 rfl ⟨b, 0, none⟩ l.length cap (r.toList.take l.length) hol holds a2 M.length c2 (M.map (Value.int .u8)) hnl hcs hg (by omega) (by
        have : Builtin.nextslicecap (l.length + M.length) cap * Hvac.t5.bytes ≤ 281474976710656 := growslice_fits hg (by show (l.length + M.length) * 1 ≤ _; omega)
        exact this)
      have hgc : l.length + M.length ≤ grownCap w (l.length + M.length) cap 5 := by
        show l.length + M.length ≤ (l.length + M.length) + _ % _
        exact Nat.le_add_right _ _
      refine ⟨some (w.heap.size, grownCap w (l.length + M.length) cap 5), _, hrun, ⟨by simpa using hgc, _, Hb.newY w.drew _, ?_, ?_⟩, ((Ext.refl w).drew.alloc _).keepO _, fun b' hb' => ?_⟩
      · simp [Builtin.zeroCells, Value.cells]; omega
      · refine ⟨by simp [Builtin.zeroCells, Value.cells]; omega, fun j y hy k hk => ?_⟩
        have hk0 : k = 0 := by omega
        subst hk0
        rw [show 0 + j * 1 + 0 = j by omega, Array.append_assoc]
        rcases Nat.lt_or_ge j l.length with hj | hj
        · rw [List.getElem?_append_left hj] at hy
          rw [Array.getElem?_append_left (by simp; omega)]
          have h9 := hrl.2 j y hy 0 (by decide)
          rw [show 0 + j * 1 + 0 = j by omega] at h9
          simp only [List.getElem?_toArray, List.getElem?_take, if_pos hj]
          simpa using h9
        · have hjl := lt_of_getElem? hy
          rw [List.length_append] at hjl
          rw [List.getElem?_append_right hj] at hy
          have hsz : (r.toList.take l.length).toArray.size = l.length := by simp; omega
          rw [Array.getElem?_append_right (by omega), hsz, Array.getElem?_append_left (by simp; omega)]
          simp only [List.getElem?_toArray, List.getElem?_map, hy]
          rfl
      · right
        obtain ⟨cp2, h9⟩ := hb'
        injection h9 with h9
        injection h9 with h9 _
        rw [← h9]; exact Nat.le_refl _
section
variable {ops : Array Oper} {Q : Post} {ty : TypeId} {pos : String} {af : Array Edge} {os : List Oper} {ρ : Nat → Value} {w w0 : World} {xo yo : Operand} {d : Nat}
theorem WO_appY {X : List Nat} {so : Option (Nat × Nat)} {K M : List Int} {p2 : Option Addr} {n2 c2 : Nat} (hB : BL encBy 1 5 w0 X w so K) (hE : Ext w0 w) (hX : ∀ b ∈ X, b < w.heap.size) (hK0 : 0 < K.length) (hM0 : 0 < n2) (hl : K.length + M.length ≤ 100000000) (hM : AB w (p2, n2, c2) M) (hx : ev ρ xo = .slice (slp so) K.length (slc so)) (hy : ev ρ yo = .slice p2 n2 c2)
    (h : ∀ so' w', BL encBy 1 5 w0 X w' so' (K ++ M) → Ext w0 w' → (∀ b o, b ∈ X → Hb w b o → Hb w' b o) → w.heap.size ≤ w'.heap.size → WO Hvac.prog ops Q os (upd ρ d (.slice (slp so') (K ++ M).length (slc so'))) w') :
    WO Hvac.prog ops Q (⟨some d, .call ⟨.builtin .append, #[xo, yo], #[32, 32]⟩, ty, pos, af, none⟩ :: os) ρ w := by
  have hMl := hM.len
  dsimp only at hMl
  obtain ⟨b2, o2, r2, T2, fz2, hp2, hb2, hrs2, hX2⟩ := hM.row hM0
  dsimp only at hp2 hrs2 hX2
  subst hp2; subst hMl
  obtain ⟨s', w', hr, hrow, hk, hb⟩ := run_append_bytes (rt := ty) (a2 := ⟨b2, o2, none⟩) (c2 := c2) (M := M) hB.row hK0 (fun j v hv => by
    have hj := lt_of_getElem? hv
    rw [List.length_map] at hj
    rw [add_mk, cell_hp hb2.h]
    have h9 : (r2.extract o2 (o2 + M.length))[j]? = (ic .u8 M)[j]? := by rw [hX2.h]
    rw [Array.getElem?_extract, if_pos (by omega)] at h9
    rw [h9]; simpa [ic] using hv) hl
  refine WO_append hx hy hr ?_
  have hE' : Ext w0 w' := ext_app hE hk fun b hb => (hB.fr b hb).1
  have := h s' w' ⟨hrow, fun b hbb => by
    rcases hb b hbb with h1 | h1
    · exact hB.fr b h1
    · exact ⟨Nat.le_trans hE.1 h1, fun h2 => by have := hX b h2; omega⟩⟩ hE' (fun b o hbX hh => hh.keepO hk fun h1 => (hB.fr b h1).2 hbX) hk.sz
  rw [show (K ++ M).length = K.length + M.length by simp] at this
  exact this
end
def yhaddr (ks : List Int → List Int) (L : List Int) : List Int := (ks L).drop 12
theorem yhaddr_by {ks : List Int → List Int} (hK : KSum ks) (L : List Int) : By (yhaddr ks L) 20 := ⟨by unfold yhaddr; rw [List.length_drop, (hK.by_ L).1], fun x hx => (hK.by_ L).2 x (List.mem_of_mem_drop hx)⟩
def ycr2 (ks : List Int → List Int) (A : List Int) (salt : Nat) (initY : List Int) : List Int := yhaddr ks ([255] ++ A ++ be32N salt ++ ks initY)

set_option maxRecDepth 10000 in
set_option maxHeartbeats 4000000 in
theorem yHashed_spec (w : World) (ks : List Int → List Int) (hK : KSum ks) (p : Option Addr) (n cp : Nat) (L : List Int) (hL : AB w (p, n, cp) L) (hn : n ≤ 1000000) : Ret Hvac.prog 80 #[.slice p n cp] w fun u w' => Ext w w' ∧ u = .agg (ic .u8 (yhaddr ks L)) := by
  have hkl := (hK.by_ L).1
  have hyl := (yhaddr_by hK L).1
  have hXh : Xt (ic .u8 (ks L)) (0 + Int.toNat 12 * 1) (0 + Int.toNat 12 * 1 + 20) (ic .u8 (yhaddr ks L)) := by
    have h9 := xt_part2 (k := 12) (m := 20) (Xt.whole (c := ic .u8 (ks L)) (o := 0) (k := 32) rfl (by rw [size_ic, hkl])) hkl (by decide)
    have h8 : ((ks L).drop 12).take 20 = yhaddr ks L := by unfold yhaddr; rw [List.take_of_length_le (by rw [List.length_drop, hkl]; decide)]
    rw [h8] at h9
    exact ⟨h9⟩
  refine Ret_of_W Hvac.func80 rfl rfl ?_
  refine W_seq ?_
  refine W_region rfl ?_
  refine WO_allocG Hvac.zeroValue25 ?_
  intro b2 v2 hg2 hE2 hH2 hl2
  try simp only [size_alloc, size_setB, size_drew] at hg2
  have hzz2 := hE2.1
  try simp only [size_alloc, size_setB, size_drew] at hzz2
  replace hH2 : Hb v2 b2 (.cells (ic .u8 (List.replicate 20 0)) 25 (0, 0)) := hH2
  refine WO_nil ?_
  refine thn_normal ?_
  refine W_seq ?_
  refine W_region rfl ?_
  refine WO_p (PS_move_slice rfl) ?_
  refine WO_call Hvac.call160 (by rfl) (Ret.mono (hK.spec _ _ _ _ _ (by first | assumption | exact AB.ext (by assumption) (by repeat (first | assumption | exact Ext.refl _ | refine Ext.alloc ?_ _ | refine Ext.drew ?_ | refine Ext.setB ?_ (by first | omega | (simp only [size_alloc, size_setB, size_drew]; omega)) _ | exact Ext.trans (by assumption) (by assumption) | refine Ext.trans ?_ (by assumption)))) (by omega)) ?_)
  rintro _ w160_0 ⟨hE160_0, rfl⟩
  have hz160_0 := hE160_0.1
  try simp only [size_alloc, size_setB, size_drew] at hz160_0
  refine WO_allocG Hvac.zeroValue27 ?_
  intro b3 v3 hg3 hE3 hH3 hl3
  try simp only [size_alloc, size_setB, size_drew] at hg3
  have hzz3 := hE3.1
  try simp only [size_alloc, size_setB, size_drew] at hzz3
  replace hH3 : Hb v3 b3 (.cells (ic .u8 (List.replicate 32 0)) 27 (0, 0)) := hH3
  first | refine WO_storeW Hvac.sizeOf27 rfl (v := .agg _) rfl (Hb.h (by repeat (first | assumption | exact Hb.newY _ _ | refine Hb.alloc ?_ | refine Hb.drew ?_ | refine Hb.ext (by assumption) ?_ | exact Hb.setSameL (by first | omega | (simp only [size_alloc, size_setB, size_drew]; omega)) | exact Hb.setSame (by assumption) | refine Hb.set (by first | omega | (simp only [size_alloc, size_setB, size_drew]; omega)) ?_ ))) rfl (by first | omega | assumption | rfl | decide | exact Nat.le_refl _ | (simp only [size_ic, Value.cells]; omega) | (simp [encWs]; done) | (simp; omega) | simp | exact encYA_sz (by assumption) | exact encYT_sz (by assumption) | exact encYM_sz (by assumption)) (by first | omega | assumption | rfl | decide | exact Nat.le_refl _ | (simp only [size_ic, Value.cells]; omega) | (simp [encWs]; done) | (simp; omega) | simp | exact encYA_sz (by assumption) | exact encYT_sz (by assumption) | exact encYM_sz (by assumption)) (by first | exact oneCell_ic | assumption | exact one_Ws2 _ | exact one_YA2 _ | exact one_YSl2 _ | exact one_YM2 _ | exact one_YT2 _ | exact one_L2 _) ?_ | refine WO_store Hvac.sizeOf27 rfl (v := .agg _) rfl (Hb.h (by repeat (first | assumption | exact Hb.newY _ _ | refine Hb.alloc ?_ | refine Hb.drew ?_ | refine Hb.ext (by assumption) ?_ | exact Hb.setSameL (by first | omega | (simp only [size_alloc, size_setB, size_drew]; omega)) | exact Hb.setSame (by assumption) | refine Hb.set (by first | omega | (simp only [size_alloc, size_setB, size_drew]; omega)) ?_ ))) (by first | omega | assumption | rfl | decide | exact Nat.le_refl _ | (simp only [size_ic, Value.cells]; omega) | (simp [encWs]; done) | (simp; omega) | simp | exact encYA_sz (by assumption) | exact encYT_sz (by assumption) | exact encYM_sz (by assumption)) (by first | omega | assumption | rfl | decide | exact Nat.le_refl _ | (simp only [size_ic, Value.cells]; omega) | (simp [encWs]; done) | (simp; omega) | simp | exact encYA_sz (by assumption) | exact encYT_sz (by assumption) | exact encYM_sz (by assumption)) (by first | exact oneCell_ic | assumption | exact one_Ws2 _ | exact one_YA2 _ | exact one_YSl2 _ | exact one_YM2 _ | exact one_YT2 _ | exact one_L2 _) ?_
  refine WO_nil ?_
  refine thn_normal ?_
  refine W_seq ?_
  refine W_region rfl ?_
  refine WO_p (PS_slA_l Hvac.runUnderlying27 Hvac.sizeOf5 rfl rfl (by omega) (by omega) (by omega)) ?_
  refine WO_p (PS_arrayAt Hvac.runUnderlying25 rfl (by omega)) ?_
  refine WO_loadA _ Hvac.isAgg25 Hvac.sizeOf25 rfl (Hb.h (by repeat (first | assumption | exact Hb.newY _ _ | refine Hb.alloc ?_ | refine Hb.drew ?_ | refine Hb.ext (by assumption) ?_ | exact Hb.setSameL (by first | omega | (simp only [size_alloc, size_setB, size_drew]; omega)) | exact Hb.setSame (by assumption) | refine Hb.set (by first | omega | (simp only [size_alloc, size_setB, size_drew]; omega)) ?_ ))) (by first | omega | assumption | rfl | decide | exact Nat.le_refl _ | (simp only [size_ic, Value.cells]; omega) | (simp [encWs]; done) | (simp; omega) | simp | exact encYA_sz (by assumption) | exact encYT_sz (by assumption) | exact encYM_sz (by assumption)) (Xt.h (by first | assumption | exact Xt.whole rfl rfl | exact Xt.whole rfl (by assumption) | exact Xt.whole rfl (by simp only [size_ic, Value.cells]; omega) | exact ⟨rfl⟩)) ?_
  first | refine WO_storeW Hvac.sizeOf25 rfl (v := .agg _) rfl (Hb.h (by repeat (first | assumption | exact Hb.newY _ _ | refine Hb.alloc ?_ | refine Hb.drew ?_ | refine Hb.ext (by assumption) ?_ | exact Hb.setSameL (by first | omega | (simp only [size_alloc, size_setB, size_drew]; omega)) | exact Hb.setSame (by assumption) | refine Hb.set (by first | omega | (simp only [size_alloc, size_setB, size_drew]; omega)) ?_ ))) rfl (by first | omega | assumption | rfl | decide | exact Nat.le_refl _ | (simp only [size_ic, Value.cells]; omega) | (simp [encWs]; done) | (simp; omega) | simp | exact encYA_sz (by assumption) | exact encYT_sz (by assumption) | exact encYM_sz (by assumption)) (by first | omega | assumption | rfl | decide | exact Nat.le_refl _ | (simp only [size_ic, Value.cells]; omega) | (simp [encWs]; done) | (simp; omega) | simp | exact encYA_sz (by assumption) | exact encYT_sz (by assumption) | exact encYM_sz (by assumption)) (by first | exact oneCell_ic | assumption | exact one_Ws2 _ | exact one_YA2 _ | exact one_YSl2 _ | exact one_YM2 _ | exact one_YT2 _ | exact one_L2 _) ?_ | refine WO_store Hvac.sizeOf25 rfl (v := .agg _) rfl (Hb.h (by repeat (first | assumption | exact Hb.newY _ _ | refine Hb.alloc ?_ | refine Hb.drew ?_ | refine Hb.ext (by assumption) ?_ | exact Hb.setSameL (by first | omega | (simp only [size_alloc, size_setB, size_drew]; omega)) | exact Hb.setSame (by assumption) | refine Hb.set (by first | omega | (simp only [size_alloc, size_setB, size_drew]; omega)) ?_ ))) (by first | omega | assumption | rfl | decide | exact Nat.le_refl _ | (simp only [size_ic, Value.cells]; omega) | (simp [encWs]; done) | (simp; omega) | simp | exact encYA_sz (by assumption) | exact encYT_sz (by assumption) | exact encYM_sz (by assumption)) (by first | omega | assumption | rfl | decide | exact Nat.le_refl _ | (simp only [size_ic, Value.cells]; omega) | (simp [encWs]; done) | (simp; omega) | simp | exact encYA_sz (by assumption) | exact encYT_sz (by assumption) | exact encYM_sz (by assumption)) (by first | exact oneCell_ic | assumption | exact one_Ws2 _ | exact one_YA2 _ | exact one_YSl2 _ | exact one_YM2 _ | exact one_YT2 _ | exact one_L2 _) ?_
  refine WO_nil ?_
  refine thn_normal ?_
  refine W_ret ?_
  refine bodyQ_cell1 Hvac.results80 rfl Hvac.isAgg25 Hvac.sizeOf25 rfl (Hb.h (by repeat (first | assumption | exact Hb.newY _ _ | refine Hb.alloc ?_ | refine Hb.drew ?_ | refine Hb.ext (by assumption) ?_ | exact Hb.setSameL (by first | omega | (simp only [size_alloc, size_setB, size_drew]; omega)) | exact Hb.setSame (by assumption) | refine Hb.set (by first | omega | (simp only [size_alloc, size_setB, size_drew]; omega)) ?_ ))) (by first | omega | assumption | rfl | decide | exact Nat.le_refl _ | (simp only [size_ic, Value.cells]; omega) | (simp [encWs]; done) | (simp; omega) | simp | exact encYA_sz (by assumption) | exact encYT_sz (by assumption) | exact encYM_sz (by assumption)) ?_
  exact ⟨(by repeat (first | assumption | exact Ext.refl _ | refine Ext.alloc ?_ _ | refine Ext.drew ?_ | refine Ext.setB ?_ (by first | omega | (simp only [size_alloc, size_setB, size_drew]; omega)) _ | refine Ext.trans ?_ (by assumption))), rfl⟩

set_option maxRecDepth 10000 in
set_option maxHeartbeats 4000000 in
theorem yCreate2_spec [Om] (w : World) (hO : OmB w) (ks : List Int → List Int) (hK : KSum ks) (A : List Int) (hA : By A 20) (ap : Option Addr) (an acY a : Nat) (ha : NN w (ap, an, acY) a) (za : sz a ≤ 1000)(p : Option Addr) (n cp : Nat) (I : List Int) (hI : AB w (p, n, cp) I) (hn : n ≤ 1000000) : Ret Hvac.prog 199 #[.agg (ic .u8 A), .slice ap an acY, .slice p n cp] w fun u w' => Ext w w' ∧ u = .agg (ic .u8 (ycr2 ks A a I)) := by
  have hkl := (hK.by_ I).1
  have hAl := hA.1
  have hbl := be32N_len a
  have hbb := (be32N_by a).2
  have hcl := (yhaddr_by hK ([255] ++ A ++ be32N a ++ ks I)).1
  refine Ret_of_W Hvac.func199 rfl rfl ?_
  refine W_seq ?_
  refine W_region rfl ?_
  refine WO_boxG (.agg _) rfl ?_
  intro b3 v3 hg3 hE3 hH3 hl3
  try simp only [size_alloc, size_setB, size_drew] at hg3
  have hzz3 := hE3.1
  try simp only [size_alloc, size_setB, size_drew] at hzz3
  refine WO_allocG Hvac.zeroValue25 ?_
  intro b6 v6 hg6 hE6 hH6 hl6
  try simp only [size_alloc, size_setB, size_drew] at hg6
  have hzz6 := hE6.1
  try simp only [size_alloc, size_setB, size_drew] at hzz6
  replace hH6 : Hb v6 b6 (.cells (ic .u8 (List.replicate 20 0)) 25 (0, 0)) := hH6
  refine WO_nil ?_
  refine thn_normal ?_
  refine W_seq ?_
  refine W_region rfl ?_
  refine WO_p (PS_move_slice rfl) ?_
  refine WO_call Hvac.call102 (by rfl) (Ret.mono (nBE32_spec (by first | exact NN.nil _ | assumption | exact NN.ext (by assumption) (by repeat (first | assumption | exact Ext.refl _ | refine Ext.alloc ?_ _ | refine Ext.drew ?_ | refine Ext.setB ?_ (by first | omega | (simp only [size_alloc, size_setB, size_drew]; omega)) _ | exact Ext.trans (by assumption) (by assumption) | refine Ext.trans ?_ (by assumption)))) (by first | assumption | omega | (rw [sz_zero]; omega))) ?_)
  rintro _ w102_0 ⟨hE102_0, rfl⟩
  have hz102_0 := hE102_0.1
  try simp only [size_alloc, size_setB, size_drew] at hz102_0
  refine WO_p (PS_move_tuple rfl) ?_
  refine WO_p (PS_extract_agg rfl rfl) ?_
  refine WO_p (PS_extract_bool rfl rfl) ?_
  refine WO_allocG Hvac.zeroValue27 ?_
  intro b7 v7 hg7 hE7 hH7 hl7
  try simp only [size_alloc, size_setB, size_drew] at hg7
  have hzz7 := hE7.1
  try simp only [size_alloc, size_setB, size_drew] at hzz7
  replace hH7 : Hb v7 b7 (.cells (ic .u8 (List.replicate 32 0)) 27 (0, 0)) := hH7
  first | refine WO_storeW Hvac.sizeOf27 rfl (v := .agg _) rfl (Hb.h (by repeat (first | assumption | exact Hb.newY _ _ | refine Hb.alloc ?_ | refine Hb.drew ?_ | refine Hb.ext (by assumption) ?_ | exact Hb.setSameL (by first | omega | (simp only [size_alloc, size_setB, size_drew]; omega)) | exact Hb.setSame (by assumption) | refine Hb.set (by first | omega | (simp only [size_alloc, size_setB, size_drew]; omega)) ?_ ))) rfl (by first | omega | assumption | rfl | decide | exact Nat.le_refl _ | (simp only [size_ic, Value.cells]; omega) | (simp [encWs]; done) | (simp; omega) | simp | exact encYA_sz (by assumption) | exact encYT_sz (by assumption) | exact encYM_sz (by assumption)) (by first | omega | assumption | rfl | decide | exact Nat.le_refl _ | (simp only [size_ic, Value.cells]; omega) | (simp [encWs]; done) | (simp; omega) | simp | exact encYA_sz (by assumption) | exact encYT_sz (by assumption) | exact encYM_sz (by assumption)) (by first | exact oneCell_ic | assumption | exact one_Ws2 _ | exact one_YA2 _ | exact one_YSl2 _ | exact one_YM2 _ | exact one_YT2 _ | exact one_L2 _) ?_ | refine WO_store Hvac.sizeOf27 rfl (v := .agg _) rfl (Hb.h (by repeat (first | assumption | exact Hb.newY _ _ | refine Hb.alloc ?_ | refine Hb.drew ?_ | refine Hb.ext (by assumption) ?_ | exact Hb.setSameL (by first | omega | (simp only [size_alloc, size_setB, size_drew]; omega)) | exact Hb.setSame (by assumption) | refine Hb.set (by first | omega | (simp only [size_alloc, size_setB, size_drew]; omega)) ?_ ))) (by first | omega | assumption | rfl | decide | exact Nat.le_refl _ | (simp only [size_ic, Value.cells]; omega) | (simp [encWs]; done) | (simp; omega) | simp | exact encYA_sz (by assumption) | exact encYT_sz (by assumption) | exact encYM_sz (by assumption)) (by first | omega | assumption | rfl | decide | exact Nat.le_refl _ | (simp only [size_ic, Value.cells]; omega) | (simp [encWs]; done) | (simp; omega) | simp | exact encYA_sz (by assumption) | exact encYT_sz (by assumption) | exact encYM_sz (by assumption)) (by first | exact oneCell_ic | assumption | exact one_Ws2 _ | exact one_YA2 _ | exact one_YSl2 _ | exact one_YM2 _ | exact one_YT2 _ | exact one_L2 _) ?_
  refine WO_p (PS_assign_bool rfl) ?_
  refine WO_nil ?_
  refine thn_normal ?_
  refine W_seq ?_
  refine W_region rfl ?_
  refine WO_p (PS_move_slice rfl) ?_
  refine WO_call Hvac.call160 (by rfl) (Ret.mono (hK.spec _ _ _ _ _ (by first | assumption | exact AB.ext (by assumption) (by repeat (first | assumption | exact Ext.refl _ | refine Ext.alloc ?_ _ | refine Ext.drew ?_ | refine Ext.setB ?_ (by first | omega | (simp only [size_alloc, size_setB, size_drew]; omega)) _ | exact Ext.trans (by assumption) (by assumption) | refine Ext.trans ?_ (by assumption)))) (by omega)) ?_)
  rintro _ w160_2 ⟨hE160_2, rfl⟩
  have hz160_2 := hE160_2.1
  try simp only [size_alloc, size_setB, size_drew] at hz160_2
  refine WO_allocG Hvac.zeroValue27 ?_
  intro b9 v9 hg9 hE9 hH9 hl9
  try simp only [size_alloc, size_setB, size_drew] at hg9
  have hzz9 := hE9.1
  try simp only [size_alloc, size_setB, size_drew] at hzz9
  replace hH9 : Hb v9 b9 (.cells (ic .u8 (List.replicate 32 0)) 27 (0, 0)) := hH9
  first | refine WO_storeW Hvac.sizeOf27 rfl (v := .agg _) rfl (Hb.h (by repeat (first | assumption | exact Hb.newY _ _ | refine Hb.alloc ?_ | refine Hb.drew ?_ | refine Hb.ext (by assumption) ?_ | exact Hb.setSameL (by first | omega | (simp only [size_alloc, size_setB, size_drew]; omega)) | exact Hb.setSame (by assumption) | refine Hb.set (by first | omega | (simp only [size_alloc, size_setB, size_drew]; omega)) ?_ ))) rfl (by first | omega | assumption | rfl | decide | exact Nat.le_refl _ | (simp only [size_ic, Value.cells]; omega) | (simp [encWs]; done) | (simp; omega) | simp | exact encYA_sz (by assumption) | exact encYT_sz (by assumption) | exact encYM_sz (by assumption)) (by first | omega | assumption | rfl | decide | exact Nat.le_refl _ | (simp only [size_ic, Value.cells]; omega) | (simp [encWs]; done) | (simp; omega) | simp | exact encYA_sz (by assumption) | exact encYT_sz (by assumption) | exact encYM_sz (by assumption)) (by first | exact oneCell_ic | assumption | exact one_Ws2 _ | exact one_YA2 _ | exact one_YSl2 _ | exact one_YM2 _ | exact one_YT2 _ | exact one_L2 _) ?_ | refine WO_store Hvac.sizeOf27 rfl (v := .agg _) rfl (Hb.h (by repeat (first | assumption | exact Hb.newY _ _ | refine Hb.alloc ?_ | refine Hb.drew ?_ | refine Hb.ext (by assumption) ?_ | exact Hb.setSameL (by first | omega | (simp only [size_alloc, size_setB, size_drew]; omega)) | exact Hb.setSame (by assumption) | refine Hb.set (by first | omega | (simp only [size_alloc, size_setB, size_drew]; omega)) ?_ ))) (by first | omega | assumption | rfl | decide | exact Nat.le_refl _ | (simp only [size_ic, Value.cells]; omega) | (simp [encWs]; done) | (simp; omega) | simp | exact encYA_sz (by assumption) | exact encYT_sz (by assumption) | exact encYM_sz (by assumption)) (by first | omega | assumption | rfl | decide | exact Nat.le_refl _ | (simp only [size_ic, Value.cells]; omega) | (simp [encWs]; done) | (simp; omega) | simp | exact encYA_sz (by assumption) | exact encYT_sz (by assumption) | exact encYM_sz (by assumption)) (by first | exact oneCell_ic | assumption | exact one_Ws2 _ | exact one_YA2 _ | exact one_YSl2 _ | exact one_YM2 _ | exact one_YT2 _ | exact one_L2 _) ?_
  refine WO_nil ?_
  refine thn_normal ?_
  refine W_seq ?_
  refine W_region rfl ?_
  refine WO_buildSliceV (.int _ _) Hvac.runUnderlying32 Hvac.sizeOf5 Hvac.zeroValue5 rfl rfl (by decide) (by decide) ?_
  refine WO_p (PS_slA Hvac.runUnderlying25 Hvac.sizeOf5 rfl (by omega)) ?_
  refine WO_appY (K := [255]) (M := A) (bl_new (w0 := w) (X := [b3, b6, b7, b9]) (L := [255]) (Hb.mk (Hb.h (by repeat (first | assumption | exact Hb.newY _ _ | refine Hb.alloc ?_ | refine Hb.drew ?_ | refine Hb.ext (by assumption) ?_ | exact Hb.setSameL (by first | omega | (simp only [size_alloc, size_setB, size_drew]; omega)) | exact Hb.setSame (by assumption) | refine Hb.set (by first | omega | (simp only [size_alloc, size_setB, size_drew]; omega)) ?_ )))) (by first | omega | (simp only [size_alloc, size_setB, size_drew]; omega)) (by simp [size_alloc, size_setB, size_drew]; omega)) (by repeat (first | assumption | exact Ext.refl _ | refine Ext.alloc ?_ _ | refine Ext.drew ?_ | refine Ext.setB ?_ (by first | omega | (simp only [size_alloc, size_setB, size_drew]; omega)) _ | exact Ext.trans (by assumption) (by assumption) | refine Ext.trans ?_ (by assumption))) (by intro b hb; simp at hb; rcases hb with rfl | rfl | rfl | rfl <;> (first | omega | (simp only [size_alloc, size_setB, size_drew]; omega))) (by simp) (by omega) (by simp [hAl, hbl, hkl]) (AB.all (Hb.mk (Hb.h (by repeat (first | assumption | exact Hb.newY _ _ | refine Hb.alloc ?_ | refine Hb.drew ?_ | refine Hb.ext (by assumption) ?_ | exact Hb.setSameL (by first | omega | (simp only [size_alloc, size_setB, size_drew]; omega)) | exact Hb.setSame (by assumption) | refine Hb.set (by first | omega | (simp only [size_alloc, size_setB, size_drew]; omega)) ?_ )))) hA.2 hAl) rfl rfl ?_
  intro soA wA hBA hEA hkA hzA
  try simp only [size_alloc, size_setB, size_drew] at hzA
  have hb3_A := hkA b3 _ (by simp) (Hb.mk (Hb.h (by repeat (first | assumption | exact Hb.newY _ _ | refine Hb.alloc ?_ | refine Hb.drew ?_ | refine Hb.ext (by assumption) ?_ | exact Hb.setSameL (by first | omega | (simp only [size_alloc, size_setB, size_drew]; omega)) | exact Hb.setSame (by assumption) | refine Hb.set (by first | omega | (simp only [size_alloc, size_setB, size_drew]; omega)) ?_ ))) : Hb _ b3 (.cells (ic .u8 A) 25 (0, 0)))
  have hb6_A := hkA b6 _ (by simp) (Hb.mk (Hb.h (by repeat (first | assumption | exact Hb.newY _ _ | refine Hb.alloc ?_ | refine Hb.drew ?_ | refine Hb.ext (by assumption) ?_ | exact Hb.setSameL (by first | omega | (simp only [size_alloc, size_setB, size_drew]; omega)) | exact Hb.setSame (by assumption) | refine Hb.set (by first | omega | (simp only [size_alloc, size_setB, size_drew]; omega)) ?_ ))) : Hb _ b6 (.cells (ic .u8 (List.replicate 20 0)) 25 (0, 0)))
  have hb7_A := hkA b7 _ (by simp) (Hb.mk (Hb.h (by repeat (first | assumption | exact Hb.newY _ _ | refine Hb.alloc ?_ | refine Hb.drew ?_ | refine Hb.ext (by assumption) ?_ | exact Hb.setSameL (by first | omega | (simp only [size_alloc, size_setB, size_drew]; omega)) | exact Hb.setSame (by assumption) | refine Hb.set (by first | omega | (simp only [size_alloc, size_setB, size_drew]; omega)) ?_ ))) : Hb _ b7 (.cells (ic .u8 (be32N a)) 27 (0, 0)))
  have hb9_A := hkA b9 _ (by simp) (Hb.mk (Hb.h (by repeat (first | assumption | exact Hb.newY _ _ | refine Hb.alloc ?_ | refine Hb.drew ?_ | refine Hb.ext (by assumption) ?_ | exact Hb.setSameL (by first | omega | (simp only [size_alloc, size_setB, size_drew]; omega)) | exact Hb.setSame (by assumption) | refine Hb.set (by first | omega | (simp only [size_alloc, size_setB, size_drew]; omega)) ?_ ))) : Hb _ b9 (.cells (ic .u8 (ks I)) 27 (0, 0)))
  refine WO_p (PS_assign_slice rfl) ?_
  refine WO_nil ?_
  refine thn_normal ?_
  refine W_seq ?_
  refine W_region rfl ?_
  refine WO_p (PS_move_slice rfl) ?_
  refine WO_p (PS_slA Hvac.runUnderlying27 Hvac.sizeOf5 rfl (by omega)) ?_
  refine WO_appY (K := ([255] ++ A)) (M := (be32N a)) hBA (by repeat (first | assumption | exact Ext.refl _ | refine Ext.alloc ?_ _ | refine Ext.drew ?_ | refine Ext.setB ?_ (by first | omega | (simp only [size_alloc, size_setB, size_drew]; omega)) _ | exact Ext.trans (by assumption) (by assumption) | refine Ext.trans ?_ (by assumption))) (by intro b hb; simp at hb; rcases hb with rfl | rfl | rfl | rfl <;> (first | omega | (simp only [size_alloc, size_setB, size_drew]; omega))) (by simp) (by omega) (by simp [hAl, hbl, hkl]) (AB.all (Hb.mk (Hb.h (by repeat (first | assumption | exact Hb.newY _ _ | refine Hb.alloc ?_ | refine Hb.drew ?_ | refine Hb.ext (by assumption) ?_ | exact Hb.setSameL (by first | omega | (simp only [size_alloc, size_setB, size_drew]; omega)) | exact Hb.setSame (by assumption) | refine Hb.set (by first | omega | (simp only [size_alloc, size_setB, size_drew]; omega)) ?_ )))) hbb hbl) rfl rfl ?_
  intro soB wB hBB hEB hkB hzB
  try simp only [size_alloc, size_setB, size_drew] at hzB
  have hb3_B := hkB b3 _ (by simp) (Hb.mk (Hb.h (by repeat (first | assumption | exact Hb.newY _ _ | refine Hb.alloc ?_ | refine Hb.drew ?_ | refine Hb.ext (by assumption) ?_ | exact Hb.setSameL (by first | omega | (simp only [size_alloc, size_setB, size_drew]; omega)) | exact Hb.setSame (by assumption) | refine Hb.set (by first | omega | (simp only [size_alloc, size_setB, size_drew]; omega)) ?_ ))) : Hb _ b3 (.cells (ic .u8 A) 25 (0, 0)))
  have hb6_B := hkB b6 _ (by simp) (Hb.mk (Hb.h (by repeat (first | assumption | exact Hb.newY _ _ | refine Hb.alloc ?_ | refine Hb.drew ?_ | refine Hb.ext (by assumption) ?_ | exact Hb.setSameL (by first | omega | (simp only [size_alloc, size_setB, size_drew]; omega)) | exact Hb.setSame (by assumption) | refine Hb.set (by first | omega | (simp only [size_alloc, size_setB, size_drew]; omega)) ?_ ))) : Hb _ b6 (.cells (ic .u8 (List.replicate 20 0)) 25 (0, 0)))
  have hb7_B := hkB b7 _ (by simp) (Hb.mk (Hb.h (by repeat (first | assumption | exact Hb.newY _ _ | refine Hb.alloc ?_ | refine Hb.drew ?_ | refine Hb.ext (by assumption) ?_ | exact Hb.setSameL (by first | omega | (simp only [size_alloc, size_setB, size_drew]; omega)) | exact Hb.setSame (by assumption) | refine Hb.set (by first | omega | (simp only [size_alloc, size_setB, size_drew]; omega)) ?_ ))) : Hb _ b7 (.cells (ic .u8 (be32N a)) 27 (0, 0)))
  have hb9_B := hkB b9 _ (by simp) (Hb.mk (Hb.h (by repeat (first | assumption | exact Hb.newY _ _ | refine Hb.alloc ?_ | refine Hb.drew ?_ | refine Hb.ext (by assumption) ?_ | exact Hb.setSameL (by first | omega | (simp only [size_alloc, size_setB, size_drew]; omega)) | exact Hb.setSame (by assumption) | refine Hb.set (by first | omega | (simp only [size_alloc, size_setB, size_drew]; omega)) ?_ ))) : Hb _ b9 (.cells (ic .u8 (ks I)) 27 (0, 0)))
  refine WO_p (PS_assign_slice rfl) ?_
  refine WO_nil ?_
  refine thn_normal ?_
  refine W_seq ?_
  refine W_region rfl ?_
  refine WO_p (PS_move_slice rfl) ?_
  refine WO_p (PS_slA Hvac.runUnderlying27 Hvac.sizeOf5 rfl (by omega)) ?_
  refine WO_appY (K := ([255] ++ A ++ be32N a)) (M := (ks I)) hBB (by repeat (first | assumption | exact Ext.refl _ | refine Ext.alloc ?_ _ | refine Ext.drew ?_ | refine Ext.setB ?_ (by first | omega | (simp only [size_alloc, size_setB, size_drew]; omega)) _ | exact Ext.trans (by assumption) (by assumption) | refine Ext.trans ?_ (by assumption))) (by intro b hb; simp at hb; rcases hb with rfl | rfl | rfl | rfl <;> (first | omega | (simp only [size_alloc, size_setB, size_drew]; omega))) (by simp) (by omega) (by simp [hAl, hbl, hkl]) (AB.all (Hb.mk (Hb.h (by repeat (first | assumption | exact Hb.newY _ _ | refine Hb.alloc ?_ | refine Hb.drew ?_ | refine Hb.ext (by assumption) ?_ | exact Hb.setSameL (by first | omega | (simp only [size_alloc, size_setB, size_drew]; omega)) | exact Hb.setSame (by assumption) | refine Hb.set (by first | omega | (simp only [size_alloc, size_setB, size_drew]; omega)) ?_ )))) (hK.by_ I).2 hkl) rfl rfl ?_
  intro soC wC hBC hEC hkC hzC
  try simp only [size_alloc, size_setB, size_drew] at hzC
  have hb3_C := hkC b3 _ (by simp) (Hb.mk (Hb.h (by repeat (first | assumption | exact Hb.newY _ _ | refine Hb.alloc ?_ | refine Hb.drew ?_ | refine Hb.ext (by assumption) ?_ | exact Hb.setSameL (by first | omega | (simp only [size_alloc, size_setB, size_drew]; omega)) | exact Hb.setSame (by assumption) | refine Hb.set (by first | omega | (simp only [size_alloc, size_setB, size_drew]; omega)) ?_ ))) : Hb _ b3 (.cells (ic .u8 A) 25 (0, 0)))
  have hb6_C := hkC b6 _ (by simp) (Hb.mk (Hb.h (by repeat (first | assumption | exact Hb.newY _ _ | refine Hb.alloc ?_ | refine Hb.drew ?_ | refine Hb.ext (by assumption) ?_ | exact Hb.setSameL (by first | omega | (simp only [size_alloc, size_setB, size_drew]; omega)) | exact Hb.setSame (by assumption) | refine Hb.set (by first | omega | (simp only [size_alloc, size_setB, size_drew]; omega)) ?_ ))) : Hb _ b6 (.cells (ic .u8 (List.replicate 20 0)) 25 (0, 0)))
  have hb7_C := hkC b7 _ (by simp) (Hb.mk (Hb.h (by repeat (first | assumption | exact Hb.newY _ _ | refine Hb.alloc ?_ | refine Hb.drew ?_ | refine Hb.ext (by assumption) ?_ | exact Hb.setSameL (by first | omega | (simp only [size_alloc, size_setB, size_drew]; omega)) | exact Hb.setSame (by assumption) | refine Hb.set (by first | omega | (simp only [size_alloc, size_setB, size_drew]; omega)) ?_ ))) : Hb _ b7 (.cells (ic .u8 (be32N a)) 27 (0, 0)))
  have hb9_C := hkC b9 _ (by simp) (Hb.mk (Hb.h (by repeat (first | assumption | exact Hb.newY _ _ | refine Hb.alloc ?_ | refine Hb.drew ?_ | refine Hb.ext (by assumption) ?_ | exact Hb.setSameL (by first | omega | (simp only [size_alloc, size_setB, size_drew]; omega)) | exact Hb.setSame (by assumption) | refine Hb.set (by first | omega | (simp only [size_alloc, size_setB, size_drew]; omega)) ?_ ))) : Hb _ b9 (.cells (ic .u8 (ks I)) 27 (0, 0)))
  have hby : ∀ x ∈ [255] ++ A ++ be32N a ++ ks I, 0 ≤ x ∧ x ≤ 255 := by
    intro x hx
    simp only [List.mem_append, List.mem_singleton] at hx
    rcases hx with ((hx | hx) | hx) | hx
    · omega
    · exact hA.2 x hx
    · exact hbb x hx
    · exact (hK.by_ I).2 x hx
  refine WO_call Hvac.call80 (by rfl) (Ret.mono (yHashed_spec _ ks hK _ _ _ _ (AB.ext (BL.ab hBC hby) (by repeat (first | assumption | exact Ext.refl _ | refine Ext.alloc ?_ _ | refine Ext.drew ?_ | refine Ext.setB ?_ (by first | omega | (simp only [size_alloc, size_setB, size_drew]; omega)) _ | exact Ext.trans (by assumption) (by assumption) | refine Ext.trans ?_ (by assumption)))) (by simp [hAl, hbl, hkl])) ?_)
  rintro _ w80_3 ⟨hE80_3, rfl⟩
  have hz80_3 := hE80_3.1
  try simp only [size_alloc, size_setB, size_drew] at hz80_3
  first | refine WO_storeW Hvac.sizeOf25 rfl (v := .agg _) rfl (Hb.h (by repeat (first | assumption | exact Hb.newY _ _ | refine Hb.alloc ?_ | refine Hb.drew ?_ | refine Hb.ext (by assumption) ?_ | exact Hb.setSameL (by first | omega | (simp only [size_alloc, size_setB, size_drew]; omega)) | exact Hb.setSame (by assumption) | refine Hb.set (by first | omega | (simp only [size_alloc, size_setB, size_drew]; omega)) ?_ ))) rfl (by first | omega | assumption | rfl | decide | exact Nat.le_refl _ | (simp only [size_ic, Value.cells]; omega) | (simp [encWs]; done) | (simp; omega) | simp | exact encYA_sz (by assumption) | exact encYT_sz (by assumption) | exact encYM_sz (by assumption)) (by first | omega | assumption | rfl | decide | exact Nat.le_refl _ | (simp only [size_ic, Value.cells]; omega) | (simp [encWs]; done) | (simp; omega) | simp | exact encYA_sz (by assumption) | exact encYT_sz (by assumption) | exact encYM_sz (by assumption)) (by first | exact oneCell_ic | assumption | exact one_Ws2 _ | exact one_YA2 _ | exact one_YSl2 _ | exact one_YM2 _ | exact one_YT2 _ | exact one_L2 _) ?_ | refine WO_store Hvac.sizeOf25 rfl (v := .agg _) rfl (Hb.h (by repeat (first | assumption | exact Hb.newY _ _ | refine Hb.alloc ?_ | refine Hb.drew ?_ | refine Hb.ext (by assumption) ?_ | exact Hb.setSameL (by first | omega | (simp only [size_alloc, size_setB, size_drew]; omega)) | exact Hb.setSame (by assumption) | refine Hb.set (by first | omega | (simp only [size_alloc, size_setB, size_drew]; omega)) ?_ ))) (by first | omega | assumption | rfl | decide | exact Nat.le_refl _ | (simp only [size_ic, Value.cells]; omega) | (simp [encWs]; done) | (simp; omega) | simp | exact encYA_sz (by assumption) | exact encYT_sz (by assumption) | exact encYM_sz (by assumption)) (by first | omega | assumption | rfl | decide | exact Nat.le_refl _ | (simp only [size_ic, Value.cells]; omega) | (simp [encWs]; done) | (simp; omega) | simp | exact encYA_sz (by assumption) | exact encYT_sz (by assumption) | exact encYM_sz (by assumption)) (by first | exact oneCell_ic | assumption | exact one_Ws2 _ | exact one_YA2 _ | exact one_YSl2 _ | exact one_YM2 _ | exact one_YT2 _ | exact one_L2 _) ?_
  refine WO_nil ?_
  refine thn_normal ?_
  refine W_ret ?_
  refine bodyQ_cell1 Hvac.results199 rfl Hvac.isAgg25 Hvac.sizeOf25 rfl (Hb.h (by repeat (first | assumption | exact Hb.newY _ _ | refine Hb.alloc ?_ | refine Hb.drew ?_ | refine Hb.ext (by assumption) ?_ | exact Hb.setSameL (by first | omega | (simp only [size_alloc, size_setB, size_drew]; omega)) | exact Hb.setSame (by assumption) | refine Hb.set (by first | omega | (simp only [size_alloc, size_setB, size_drew]; omega)) ?_ ))) (by first | omega | assumption | rfl | decide | exact Nat.le_refl _ | (simp only [size_ic, Value.cells]; omega) | (simp [encWs]; done) | (simp; omega) | simp | exact encYA_sz (by assumption) | exact encYT_sz (by assumption) | exact encYM_sz (by assumption)) ?_
  exact ⟨(by repeat (first | assumption | exact Ext.refl _ | refine Ext.alloc ?_ _ | refine Ext.drew ?_ | refine Ext.setB ?_ (by first | omega | (simp only [size_alloc, size_setB, size_drew]; omega)) _ | refine Ext.trans ?_ (by assumption))), rfl⟩

end Go.Proofs.YgvacwGreat
