import Derived.Test.YgvacwGreatHk
namespace Go.Proofs.YgvacwGreat
set_option linter.unusedSimpArgs false
set_option linter.unusedVariables false
/-- the byte that MSTORE8 lays -/
def ylast (n : Nat) : List Int := ((be32N n).drop 31).take 1
def yeff (y : PSt) (f : PF) (o : Int) (l : List Nat) : PSt × PF :=
  if o = 55 then (y, ycopied f (l.getD 0 0) f.inputY (l.getD 1 0) (l.getD 2 0))
  else if o = 57 then (y, ycopied f (l.getD 0 0) f.code (l.getD 1 0) (l.getD 2 0))
  else if o = 62 then (y, ycopied f (l.getD 0 0) y.ret (l.getD 1 0) (l.getD 2 0))
  else if o = 94 then (y, ycopied f (l.getD 0 0) f.mem (l.getD 1 0) (l.getD 2 0))
  else if o = 60 then (ysWarmA y (ywith y.now.warmA (yaddr (l.getD 0 0))), ycopied f (l.getD 1 0) (yacct y.now.accts (yaddr (l.getD 0 0))).code (l.getD 2 0) (l.getD 3 0))
  else if o = 82 then (y, ywrite f (l.getD 0 0) (be32N (l.getD 1 0)))
  else if o = 83 then (y, ywrite f (l.getD 0 0) (ylast (l.getD 1 0)))
  else if o = 85 then (ystores y f (l.getD 0 0) (l.getD 1 0), f)
  else if o = 93 then (ysTemps y (yts y.now.temps f.self (l.getD 0 0) (l.getD 1 0)), f)
  else if 160 ≤ o ∧ o ≤ 164 then (ysLog y, f)
  else (y, f)
theorem YX.wtop [Om] {Y : Nat → Prop} {w w' : World} {C : Nat} {x : YSt} {y : PSt} {xs : List YFr} {rest : List PF} {F o : Nat} {r : Array Value} {xf : YFr} {f f' : PF} (h : YX Y w C x y xs (rest ++ [f])) (hs : x.frames.1 = some ⟨F, o, none⟩) (hx : xs[rest.length]? = some xf) (hM : FrM w F (rest.length * 60) r xf f) (hS : WStep w w' F (rest.length * 60) r xf f') : YX Y w' C x y xs (rest ++ [f']) := by
  have hf : (rest ++ [f])[rest.length]? = some f := by rw [List.getElem?_append_right (Nat.le_refl _), Nat.sub_self]; rfl
  have h2 := h.wstep hs hx hf hM hS
  rw [set_last] at h2
  exact h2
theorem YX.wk [Om] {Y : Nat → Prop} {w w' : World} {C : Nat} {x : YSt} {y : PSt} {xs : List YFr} {rest : List PF} {xf : YFr} {f : PF} (h : YX Y w C x y xs (rest ++ [f])) (hx : xs[rest.length]? = some xf) (hk : KeepO (sblk xf.mem) w w') : KeepO Y w w' :=
  hk.mono fun b hb => (h.frs.rel _ _ _ hx (by rw [List.getElem?_append_right (Nat.le_refl _), Nat.sub_self]; rfl)).ym b hb
theorem AB.part {w : World} {b k m : Nat} {L : List Int} {T : TypeId} {fz : Nat × Nat} (hb : Hb w b (.cells (ic .u8 L) T fz)) (hby : ∀ x ∈ L, 0 ≤ x ∧ x ≤ 255) (h : k + m ≤ L.length) : AB w (some ⟨b, k, none⟩, m, m) ((L.drop k).take m) := by
  refine ⟨by rw [List.length_take, List.length_drop]; dsimp only; omega, Nat.le_refl _, fun x hx => hby x (List.mem_of_mem_drop (List.mem_of_mem_take hx)), fun _ => ⟨b, k, _, T, fz, rfl, hb, by rw [size_ic]; exact h, ?_⟩⟩
  have hX : Xt (ic .u8 L) 0 (0 + L.length) (ic .u8 L) := Xt.whole rfl (size_ic _ _)
  have := xt_part2 (k := k) (m := m) hX rfl h
  exact ⟨by simpa using this⟩
theorem AB.all {w : World} {b n : Nat} {L : List Int} {T : TypeId} {fz : Nat × Nat} (hb : Hb w b (.cells (ic .u8 L) T fz)) (hby : ∀ x ∈ L, 0 ≤ x ∧ x ≤ 255) (h : L.length = n) : AB w (some ⟨b, 0, none⟩, n, n) L := ⟨h, Nat.le_refl _, hby, fun _ => ⟨b, 0, _, T, fz, rfl, hb, by rw [size_ic]; show 0 + n ≤ _; omega, Xt.whole rfl (by rw [size_ic]; exact h)⟩⟩
theorem sz_getD {l : List Nat} (h : ∀ a ∈ l, sz a ≤ 32) (i : Nat) : sz (l.getD i 0) ≤ 32 := by
  rcases Nat.lt_or_ge i l.length with hi | hi
  · rw [getD_ge hi]; exact h _ (List.getElem_mem hi)
  · rw [List.getD_eq_getElem?_getD, List.getElem?_eq_none hi]; show sz 0 ≤ 32; rw [sz_zero]; omega
theorem PS_b277_02 {ρ : Nat → Value} {x0 x2 : Operand} {A : List Int} {p2 : Option Addr} {n2 c2 : Nat} (h0 : ev ρ x0 = .agg (ic .u8 A)) (hA : A.length = 20) (h2 : ev ρ x2 = .slice p2 n2 c2) :
    PS Hvac.prog (.build 277 #[(0, x0), (2, x2)]) ρ (.agg (encL ⟨A, (none, 0, 0), (p2, n2, c2)⟩).toArray) := by
  obtain ⟨a0, a1, a2, a3, a4, a5, a6, a7, a8, a9, b0, b1, b2, b3, b4, b5, b6, b7, b8, b9, rfl⟩ := len20 hA
  exact PS_buildS Hvac.zeroValue277 Hvac.runUnderlying277 (places_run (pl := [(0, 20), (20, 1), (21, 1)]) ⟨rfl, Hvac.sizeOf25, rfl, Hvac.sizeOf29, rfl, Hvac.sizeOf32, trivial⟩) (ps := [(0, .agg (ic .u8 [a0, a1, a2, a3, a4, a5, a6, a7, a8, a9, b0, b1, b2, b3, b4, b5, b6, b7, b8, b9])), (2, .slice p2 n2 c2)]) (by simp only [List.map, h0, h2]) (by kernel_rfl)
theorem PS_slS_lG {P : Program} {ρ : Nat → Value} {t e : TypeId} {s n cp : Nat} {kl : IntKind} {l : Int} {x xl : Operand} {p : Option Addr} (hU : ∀ w, (underlying t).run P w = .ok (.slice e) w) (hS : ∀ w, (Go.sizeOf e).run P w = .ok s w) (hx : ev ρ x = .slice p n cp) (hl : ev ρ xl = .int kl l) (hl0 : 0 ≤ l) (hl1 : l ≤ n) (hc : n ≤ cp) : PS P (.slice t x (some xl) none none) ρ (.slice (if cp = l.toNat then p else p.map (·.add (l.toNat * s))) (n - l.toNat) (cp - l.toNat)) :=
  ⟨fun oo w hop => by
    have bh := fun code => bound_ok (P := P) (k := .i64) (code := code) w (show (0:Int) ≤ (n : Int) by omega) (show (n : Int) ≤ ((cp : Nat) : Int) by omega)
    have bl := fun code => bound_ok (P := P) (k := kl) (code := code) w hl0 (show l ≤ ((n : Nat) : Int) from hl1)
    simp [execOp, hop, Instr.sliceAt, hU, hx, Instr.sliceBounds, hS, Instr.slice, hl, bl]
    try done⟩
theorem encL_t {x : LogR} (h : x.addr.length = 20) (s : SV) : (encL x).toArray.setIfInBounds (0 + 20) (.slice s.1 s.2.1 s.2.2) = (encL { x with topics := s }).toArray := by
  simp [encL, List.set_append, h, sv]
theorem be32N_len (n : Nat) : (be32N n).length = 32 := (be32N_by n).1
theorem PB.blk [Om] {w : World} {s : SV} {L : List Int} {C : Nat} {rC : Array Value} {fC : Nat × Nat} (h : PB w s L) (hC : Hb w C (.cells rC 101 fC)) : ∃ b r T fz, T ≠ 277 ∧ Hb w b (.cells r T fz) ∧ ∀ w2, Hb w2 b (.cells r T fz) → PB w2 s L := by
  rcases Nat.eq_zero_or_pos s.2.1 with h0 | h0
  · exact ⟨C, rC, 101, fC, by decide, hC, fun w2 _ => { h with row := fun h9 => by omega }⟩
  · obtain ⟨b, r, fz, h1, h2, h3, h4⟩ := h.row h0
    exact ⟨b, r, 5, fz, by decide, h3, fun w2 hb => { h with row := fun _ => ⟨b, r, fz, h1, h2, hb, h4⟩ }⟩
theorem encL_t2 {A : List Int} {t d : SV} (h : A.length = 20) (p : Option Addr) (n c : Nat) : (encL ⟨A, t, d⟩).toArray.setIfInBounds (0 + 20) (.slice p n c) = (encL ⟨A, (p, n, c), d⟩).toArray := encL_t (x := ⟨A, t, d⟩) h (p, n, c)
section
variable {ops : Array Oper} {S : World → Prop} {Q : Post} {t ty : TypeId} {pos : String} {af : Array Edge} {os' : List TOp} {ρ : Nat → Value} {w w0 : World} {xo yo : Operand} {d : Nat} {bb : Bool}
theorem WH_appB {α : Type} {enc : α → List Value} {u B : Nat} {e : TypeId} {X : List Nat} {so : Option (Nat × Nat)} {K : List α} (x : α) {b1 : Nat} {T1 : TypeId} {fz : Nat × Nat} (ha : AppI enc u e t B) (hB : BL enc u e w0 X w so K) (hE : Ext w0 w) (hX : ∀ b ∈ X, b < w.heap.size) (hl : K.length ≤ 1000000000)
    (hxl : (enc x).length = u) (hsrc : Hb w b1 (.cells (enc x).toArray T1 fz)) (hx : ev ρ xo = .slice (slp so) K.length (slc so)) (hy : ev ρ yo = .slice (some ⟨b1, 0, none⟩) 1 1)
    (h : ∀ so' w', BL enc u e w0 X w' so' (K ++ [x]) → Ext w0 w' → (∀ b o, b ∈ X → Hb w b o → Hb w' b o) → w.heap.size ≤ w'.heap.size → (bb = true → S w') ∧ WH Hvac.prog ops S Q os' (upd ρ d (.slice (slp so') (K ++ [x]).length (slc so'))) w') :
    WH Hvac.prog ops S Q ((⟨some d, .call ⟨.builtin .append, #[xo, yo], #[t, t]⟩, ty, pos, af, none⟩, bb) :: os') ρ w := by
  obtain ⟨i, z, hi, hz, hs, hby, hzs⟩ := ha.hi
  have hb8 : (K.length + 1) * B ≤ 140737488355328 := by
    have h1 : (K.length + 1) * B ≤ 1000000001 * 1000 := Nat.mul_le_mul (by omega) ha.hB
    omega
  obtain ⟨s', w', hr, hrow, hk, hb⟩ := run_append_row (rt := ty) ha.ht hi hz hs hby hzs hB.row hxl (ha.one x) hsrc hb8 (Nat.lt_of_le_of_lt hl (by decide))
  have hE' : Ext w0 w' := ext_app hE hk fun b hb => (hB.fr b hb).1
  have := h s' w' ⟨hrow, fun b hbb => by
    rcases hb b hbb with h1 | h1
    · exact hB.fr b h1
    · exact ⟨Nat.le_trans hE.1 h1, fun h2 => by have := hX b h2; omega⟩⟩ hE' (fun b o hbX hh => hh.keepO hk fun h1 => (hB.fr b h1).2 hbX) hk.sz
  rw [show (K ++ [x]).length = K.length + 1 by simp] at this
  exact WH_append hx hy hr this.1 this.2
end
theorem info28b : Hvac.prog.info? 28 = some Hvac.t28 := by kernel_rfl
theorem ap_W32 : AppI encW32 32 28 29 32 := ⟨Hvac.underlying29, ⟨Hvac.t28, _, info28b, rfl, rfl, rfl, rfl⟩, one_W32, by decide⟩

set_option maxRecDepth 10000 in
set_option maxHeartbeats 4000000 in
theorem yWord_spec [Om] (w : World) (hO : OmB w) (ap : Option Addr) (an acY a : Nat) (ha : NN w (ap, an, acY) a) (za : sz a ≤ 1000) : Ret Hvac.prog 38 #[.slice ap an acY] w fun u w' => Ext w w' ∧ u = .agg (ic .u8 (be32N a)) := by
  have hbl := be32N_len a
  refine Ret_of_W Hvac.func38 rfl rfl ?_
  refine W_seq ?_
  refine W_region rfl ?_
  refine WO_allocG Hvac.zeroValue28 ?_
  intro b2 v2 hg2 hE2 hH2 hl2
  try simp only [size_alloc, size_setB, size_drew] at hg2
  have hzz2 := hE2.1
  try simp only [size_alloc, size_setB, size_drew] at hzz2
  replace hH2 : Hb v2 b2 (.cells (ic .u8 (List.replicate 32 0)) 28 (0, 0)) := hH2
  refine WO_nil ?_
  refine thn_normal ?_
  refine W_seq ?_
  refine W_region rfl ?_
  refine WO_p (PS_move_slice rfl) ?_
  refine WO_call Hvac.call102 (by rfl) (Ret.mono (nBE32_spec (by first | exact NN.nil _ | assumption | exact NN.ext (by assumption) (by repeat (first | assumption | exact Ext.refl _ | refine Ext.alloc ?_ _ | refine Ext.drew ?_ | refine Ext.setB ?_ (by first | omega | (simp only [size_alloc, size_setB, size_drew]; omega)) _ | exact Ext.trans (by assumption) (by assumption) | refine Ext.trans ?_ (by assumption)))) (by first | assumption | omega | (rw [sz_zero]; omega))) ?_)
  rintro _ w102_0 ⟨hE102_0, rfl⟩
  have hz102_0 := hE102_0.1
  try simp only [size_alloc, size_setB, size_drew] at hz102_0
  refine WO_p (PS_move_tuple rfl) ?_
  refine WO_p (PS_extract_agg rfl rfl) ?_
  refine WO_p (PS_extract_bool rfl rfl) ?_
  refine WO_allocG Hvac.zeroValue27 ?_
  intro b3 v3 hg3 hE3 hH3 hl3
  try simp only [size_alloc, size_setB, size_drew] at hg3
  have hzz3 := hE3.1
  try simp only [size_alloc, size_setB, size_drew] at hzz3
  replace hH3 : Hb v3 b3 (.cells (ic .u8 (List.replicate 32 0)) 27 (0, 0)) := hH3
  first | refine WO_storeW Hvac.sizeOf27 rfl (v := .agg _) rfl (Hb.h (by repeat (first | assumption | exact Hb.newY _ _ | refine Hb.alloc ?_ | refine Hb.drew ?_ | refine Hb.ext (by assumption) ?_ | exact Hb.setSameL (by first | omega | (simp only [size_alloc, size_setB, size_drew]; omega)) | exact Hb.setSame (by assumption) | refine Hb.set (by first | omega | (simp only [size_alloc, size_setB, size_drew]; omega)) ?_ ))) rfl (by first | omega | assumption | rfl | decide | exact Nat.le_refl _ | (simp only [size_ic, Value.cells]; omega) | (simp [encWs]; done) | (simp; omega) | simp | exact encYA_sz (by assumption) | exact encYT_sz (by assumption) | exact encYM_sz (by assumption)) (by first | omega | assumption | rfl | decide | exact Nat.le_refl _ | (simp only [size_ic, Value.cells]; omega) | (simp [encWs]; done) | (simp; omega) | simp | exact encYA_sz (by assumption) | exact encYT_sz (by assumption) | exact encYM_sz (by assumption)) (by first | exact oneCell_ic | assumption | exact one_Ws2 _ | exact one_YA2 _ | exact one_YSl2 _ | exact one_YM2 _ | exact one_YT2 _ | exact one_L2 _) ?_ | refine WO_store Hvac.sizeOf27 rfl (v := .agg _) rfl (Hb.h (by repeat (first | assumption | exact Hb.newY _ _ | refine Hb.alloc ?_ | refine Hb.drew ?_ | refine Hb.ext (by assumption) ?_ | exact Hb.setSameL (by first | omega | (simp only [size_alloc, size_setB, size_drew]; omega)) | exact Hb.setSame (by assumption) | refine Hb.set (by first | omega | (simp only [size_alloc, size_setB, size_drew]; omega)) ?_ ))) (by first | omega | assumption | rfl | decide | exact Nat.le_refl _ | (simp only [size_ic, Value.cells]; omega) | (simp [encWs]; done) | (simp; omega) | simp | exact encYA_sz (by assumption) | exact encYT_sz (by assumption) | exact encYM_sz (by assumption)) (by first | omega | assumption | rfl | decide | exact Nat.le_refl _ | (simp only [size_ic, Value.cells]; omega) | (simp [encWs]; done) | (simp; omega) | simp | exact encYA_sz (by assumption) | exact encYT_sz (by assumption) | exact encYM_sz (by assumption)) (by first | exact oneCell_ic | assumption | exact one_Ws2 _ | exact one_YA2 _ | exact one_YSl2 _ | exact one_YM2 _ | exact one_YT2 _ | exact one_L2 _) ?_
  refine WO_p (PS_assign_bool rfl) ?_
  refine WO_nil ?_
  refine thn_normal ?_
  refine W_seq ?_
  refine W_region rfl ?_
  refine WO_loadA _ Hvac.isAgg27 Hvac.sizeOf27 rfl (Hb.h (by repeat (first | assumption | exact Hb.newY _ _ | refine Hb.alloc ?_ | refine Hb.drew ?_ | refine Hb.ext (by assumption) ?_ | exact Hb.setSameL (by first | omega | (simp only [size_alloc, size_setB, size_drew]; omega)) | exact Hb.setSame (by assumption) | refine Hb.set (by first | omega | (simp only [size_alloc, size_setB, size_drew]; omega)) ?_ ))) (by first | omega | assumption | rfl | decide | exact Nat.le_refl _ | (simp only [size_ic, Value.cells]; omega) | (simp [encWs]; done) | (simp; omega) | simp | exact encYA_sz (by assumption) | exact encYT_sz (by assumption) | exact encYM_sz (by assumption)) (Xt.h (by first | assumption | exact Xt.whole rfl rfl | exact Xt.whole rfl (by assumption) | exact Xt.whole rfl (by simp only [size_ic, Value.cells]; omega) | exact ⟨rfl⟩)) ?_
  first | refine WO_storeW Hvac.sizeOf28 rfl (v := .agg _) rfl (Hb.h (by repeat (first | assumption | exact Hb.newY _ _ | refine Hb.alloc ?_ | refine Hb.drew ?_ | refine Hb.ext (by assumption) ?_ | exact Hb.setSameL (by first | omega | (simp only [size_alloc, size_setB, size_drew]; omega)) | exact Hb.setSame (by assumption) | refine Hb.set (by first | omega | (simp only [size_alloc, size_setB, size_drew]; omega)) ?_ ))) rfl (by first | omega | assumption | rfl | decide | exact Nat.le_refl _ | (simp only [size_ic, Value.cells]; omega) | (simp [encWs]; done) | (simp; omega) | simp | exact encYA_sz (by assumption) | exact encYT_sz (by assumption) | exact encYM_sz (by assumption)) (by first | omega | assumption | rfl | decide | exact Nat.le_refl _ | (simp only [size_ic, Value.cells]; omega) | (simp [encWs]; done) | (simp; omega) | simp | exact encYA_sz (by assumption) | exact encYT_sz (by assumption) | exact encYM_sz (by assumption)) (by first | exact oneCell_ic | assumption | exact one_Ws2 _ | exact one_YA2 _ | exact one_YSl2 _ | exact one_YM2 _ | exact one_YT2 _ | exact one_L2 _) ?_ | refine WO_store Hvac.sizeOf28 rfl (v := .agg _) rfl (Hb.h (by repeat (first | assumption | exact Hb.newY _ _ | refine Hb.alloc ?_ | refine Hb.drew ?_ | refine Hb.ext (by assumption) ?_ | exact Hb.setSameL (by first | omega | (simp only [size_alloc, size_setB, size_drew]; omega)) | exact Hb.setSame (by assumption) | refine Hb.set (by first | omega | (simp only [size_alloc, size_setB, size_drew]; omega)) ?_ ))) (by first | omega | assumption | rfl | decide | exact Nat.le_refl _ | (simp only [size_ic, Value.cells]; omega) | (simp [encWs]; done) | (simp; omega) | simp | exact encYA_sz (by assumption) | exact encYT_sz (by assumption) | exact encYM_sz (by assumption)) (by first | omega | assumption | rfl | decide | exact Nat.le_refl _ | (simp only [size_ic, Value.cells]; omega) | (simp [encWs]; done) | (simp; omega) | simp | exact encYA_sz (by assumption) | exact encYT_sz (by assumption) | exact encYM_sz (by assumption)) (by first | exact oneCell_ic | assumption | exact one_Ws2 _ | exact one_YA2 _ | exact one_YSl2 _ | exact one_YM2 _ | exact one_YT2 _ | exact one_L2 _) ?_
  refine WO_nil ?_
  refine thn_normal ?_
  refine W_ret ?_
  refine bodyQ_cell1 Hvac.results38 rfl Hvac.isAgg28 Hvac.sizeOf28 rfl (Hb.h (by repeat (first | assumption | exact Hb.newY _ _ | refine Hb.alloc ?_ | refine Hb.drew ?_ | refine Hb.ext (by assumption) ?_ | exact Hb.setSameL (by first | omega | (simp only [size_alloc, size_setB, size_drew]; omega)) | exact Hb.setSame (by assumption) | refine Hb.set (by first | omega | (simp only [size_alloc, size_setB, size_drew]; omega)) ?_ ))) (by first | omega | assumption | rfl | decide | exact Nat.le_refl _ | (simp only [size_ic, Value.cells]; omega) | (simp [encWs]; done) | (simp; omega) | simp | exact encYA_sz (by assumption) | exact encYT_sz (by assumption) | exact encYM_sz (by assumption)) ?_
  exact ⟨(by repeat (first | assumption | exact Ext.refl _ | refine Ext.alloc ?_ _ | refine Ext.drew ?_ | refine Ext.setB ?_ (by first | omega | (simp only [size_alloc, size_setB, size_drew]; omega)) _ | refine Ext.trans ?_ (by assumption))), rfl⟩

set_option maxRecDepth 10000 in
set_option maxHeartbeats 4000000 in
theorem yEffect_spec [Om] (w : World) (hO : OmB w) (Y : Nat → Prop) (C : Nat) (x : YSt) (y : PSt) (xs : List YFr) (rest : List PF) (f : PF) (N : Nat) (hX : YX Y w C x y xs (rest ++ [f])) (hB : PSB N y) (hN : N ≤ 99999800) (hYB : YB y) (hP : PFB f) (hPr : ∀ g ∈ rest, PFB g ∧ sz g.gas ≤ 30) (hgf : sz f.gas ≤ 30) (hrl : rest.length ≤ 800) (F : Nat) (hFp : x.frames.1 = some ⟨F, 0, none⟩) (hrz : sz y.now.ref ≤ 30) (o : Int) (ho : 0 ≤ o ∧ o ≤ 255) (p : Option Addr) (n cp : Nat) (l : List Nat) (hl : StR w (p, n, cp) l) (hlz : ∀ a ∈ l, sz a ≤ 32) (hln : n ≤ 20) (hcp : o = 55 ∨ o = 57 ∨ o = 62 ∨ o = 94 → l.getD 2 0 ≤ 1000000) (hcp2 : o = 60 → l.getD 3 0 ≤ 1000000) (hlg : 160 ≤ o ∧ o ≤ 164 → l.getD 1 0 ≤ 1000000 ∧ 2 ≤ l.length ∧ l.length ≤ 6) : Ret Hvac.prog 127 #[.pointer (some ⟨C, 0, none⟩), .pointer (some ⟨F, rest.length * 60, none⟩), .int .u8 o, .slice p n cp] w fun u w' => u = .bool (decide (o = 85 → (ysstA y f).2.2 ≤ y.now.ref)) ∧ ((o = 85 → (ysstA y f).2.2 ≤ y.now.ref) → YRetF Y w w' C (yeff y f o l).1 (rest ++ [(yeff y f o l).2]) x.frames) ∧ (¬ (o = 85 → (ysstA y f).2.2 ≤ y.now.ref) → Ext w w') := by
  have hO0 := hO
  have hSb := hX.ss.blk
  have hSS := hX.ss
  have hSo := hX.ss.om
  have hSl := hSb.lt
  obtain ⟨r, xf, hxf, hFM, hMW, hYF, hlf⟩ := hX.top hFp
  have hFR := hFM.rel
  have hFC := hFM.fc
  have hFb := hFM.blk
  have hFo := hFM.om
  have hFl := hFb.lt
  have hFsz := hFC.size
  have hFS := hFM.s0
  have hk12 := hFC.self
  rw [hFR.self] at hk12
  have hsbl := hFR.sb.1
  have hzs := encYS_size x
  have hfcap := hX.frs.cap
  have hk10 := hFC.code
  have hk11 := hFC.inputY
  have hk9m := hFC.mem
  have hcodep := hFR.code
  have hinp := hFR.inputY
  have hretp := hX.ss.rel.ret
  have hcl := hcodep.len
  have hil := hinp.len
  have hrlen := hretp.len
  have hcb := hP.cl
  have hib := hP.il
  have hrb := hB.rl
  have hmemab := hFR.mem.ab
  have hmll := hFR.mem.len
  have hmlb := hP.ml
  have hlN := hl.len
  dsimp only at hlN
  refine Ret_of_W Hvac.func127 rfl rfl ?_
  refine W_seq ?_
  refine W_region rfl ?_
  refine WO_p (PS_assign_bool rfl) ?_
  refine WO_nil ?_
  refine thn_normal ?_
  refine W_seq ?_
  refine W_region rfl ?_
  refine WO_p (PS_move_slice rfl) ?_
  refine WO_call Hvac.call202 (by rfl) (Ret.mono (yOperand_spec _ (OmB.ext hO (by repeat (first | assumption | exact Ext.refl _ | refine Ext.alloc ?_ _ | refine Ext.drew ?_ | refine Ext.setB ?_ (by first | omega | (simp only [size_alloc, size_setB, size_drew]; omega)) _ | exact Ext.trans (by assumption) (by assumption) | refine Ext.trans ?_ (by assumption)))) _ _ _ _ (by first | assumption | exact StR.ext (by assumption) (by repeat (first | assumption | exact Ext.refl _ | refine Ext.alloc ?_ _ | refine Ext.drew ?_ | refine Ext.setB ?_ (by first | omega | (simp only [size_alloc, size_setB, size_drew]; omega)) _ | exact Ext.trans (by assumption) (by assumption) | refine Ext.trans ?_ (by assumption)))) (by omega) 0 (by omega)) ?_)
  rintro _ w202_0 ⟨hE202_0, sa, rfl, hNsa⟩
  have hz202_0 := hE202_0.1
  try simp only [size_alloc, size_setB, size_drew] at hz202_0
  have hssa := sz_getD hlz 0
  refine WO_p (PS_assign_slice rfl) ?_
  refine WO_nil ?_
  refine thn_normal ?_
  refine W_seq ?_
  refine W_region rfl ?_
  refine WO_p (PS_move_slice rfl) ?_
  refine WO_call Hvac.call202 (by rfl) (Ret.mono (yOperand_spec _ (OmB.ext hO (by repeat (first | assumption | exact Ext.refl _ | refine Ext.alloc ?_ _ | refine Ext.drew ?_ | refine Ext.setB ?_ (by first | omega | (simp only [size_alloc, size_setB, size_drew]; omega)) _ | exact Ext.trans (by assumption) (by assumption) | refine Ext.trans ?_ (by assumption)))) _ _ _ _ (by first | assumption | exact StR.ext (by assumption) (by repeat (first | assumption | exact Ext.refl _ | refine Ext.alloc ?_ _ | refine Ext.drew ?_ | refine Ext.setB ?_ (by first | omega | (simp only [size_alloc, size_setB, size_drew]; omega)) _ | exact Ext.trans (by assumption) (by assumption) | refine Ext.trans ?_ (by assumption)))) (by omega) 1 (by omega)) ?_)
  rintro _ w202_1 ⟨hE202_1, sb, rfl, hNsb⟩
  have hz202_1 := hE202_1.1
  try simp only [size_alloc, size_setB, size_drew] at hz202_1
  have hssb := sz_getD hlz 1
  refine WO_p (PS_assign_slice rfl) ?_
  refine WO_nil ?_
  refine thn_normal ?_
  refine W_seq ?_
  refine W_region rfl ?_
  refine WO_p (PS_move_slice rfl) ?_
  refine WO_call Hvac.call202 (by rfl) (Ret.mono (yOperand_spec _ (OmB.ext hO (by repeat (first | assumption | exact Ext.refl _ | refine Ext.alloc ?_ _ | refine Ext.drew ?_ | refine Ext.setB ?_ (by first | omega | (simp only [size_alloc, size_setB, size_drew]; omega)) _ | exact Ext.trans (by assumption) (by assumption) | refine Ext.trans ?_ (by assumption)))) _ _ _ _ (by first | assumption | exact StR.ext (by assumption) (by repeat (first | assumption | exact Ext.refl _ | refine Ext.alloc ?_ _ | refine Ext.drew ?_ | refine Ext.setB ?_ (by first | omega | (simp only [size_alloc, size_setB, size_drew]; omega)) _ | exact Ext.trans (by assumption) (by assumption) | refine Ext.trans ?_ (by assumption)))) (by omega) 2 (by omega)) ?_)
  rintro _ w202_2 ⟨hE202_2, sc, rfl, hNsc⟩
  have hz202_2 := hE202_2.1
  try simp only [size_alloc, size_setB, size_drew] at hz202_2
  have hssc := sz_getD hlz 2
  refine WO_p (PS_assign_slice rfl) ?_
  refine WO_nil ?_
  refine thn_normal ?_
  refine W_seqJ (fun ρ w' => o ≠ 85 ∧ YRetF Y w w' C (yeff y f o l).1 (rest ++ [(yeff y f o l).2]) x.frames) ?_ ?_
  · skip
    refine W_block ?_
    refine W_seq ?_
    refine W_region rfl ?_
    refine WO_p (PS_move_int rfl) ?_
    refine WO_p (PS_eql rfl rfl) ?_
    refine WO_p (PS_assign_bool rfl) ?_
    refine WO_nil ?_
    refine thn_normal ?_
    refine W_if rfl (fun hb5 => ?_) (fun hb5 => ?_)
    · have hb5p := hb5.h; try simp only [al_ete, al_dfn, Bool.not_eq_true', Bool.not_eq_false', al_ne, Bool.not_not, al_nn] at hb5p
      have hc8 := hcp (by omega)
      have ho5 : o = 55 := by omega
      refine W_region rfl ?_
      refine WO_p (PS_move_ptr rfl) ?_
      refine WO_p (PS_move_slice rfl) ?_
      refine WO_p (PS_move_ptr rfl) ?_
      refine WO_p (PS_nilCheck rfl) ?_
      refine WO_p (PS_fieldAddr 11 Hvac.runUnderlying121 rfl Hvac.sizeOf32 rfl rfl) ?_
      refine WO_load (.slice _ _ _) Hvac.isAgg32 rfl (Hb.h (by repeat (first | assumption | exact Hb.newY _ _ | refine Hb.alloc ?_ | refine Hb.drew ?_ | refine Hb.ext (by assumption) ?_ | exact Hb.setSameL (by first | omega | (simp only [size_alloc, size_setB, size_drew]; omega)) | exact Hb.setSame (by assumption) | refine Hb.set (by first | omega | (simp only [size_alloc, size_setB, size_drew]; omega)) ?_ ))) (Ce.h (by first | assumption | exact ⟨rfl⟩)) ?_
      refine WO_p (PS_move_slice rfl) ?_
      refine WO_p (PS_move_slice rfl) ?_
      refine WO_call Hvac.call208 (by rfl) (Ret.mono (yCopied_spec _ (OmB.ext hO (by repeat (first | assumption | exact Ext.refl _ | refine Ext.alloc ?_ _ | refine Ext.drew ?_ | refine Ext.setB ?_ (by first | omega | (simp only [size_alloc, size_setB, size_drew]; omega)) _ | exact Ext.trans (by assumption) (by assumption) | refine Ext.trans ?_ (by assumption)))) _ _ _ _ _ (FrM.ext hFM (by repeat (first | assumption | exact Ext.refl _ | refine Ext.alloc ?_ _ | refine Ext.drew ?_ | refine Ext.setB ?_ (by first | omega | (simp only [size_alloc, size_setB, size_drew]; omega)) _ | exact Ext.trans (by assumption) (by assumption) | refine Ext.trans ?_ (by assumption)))) hP (MW.ext hMW (by repeat (first | assumption | exact Ext.refl _ | refine Ext.alloc ?_ _ | refine Ext.drew ?_ | refine Ext.setB ?_ (by first | omega | (simp only [size_alloc, size_setB, size_drew]; omega)) _ | exact Ext.trans (by assumption) (by assumption) | refine Ext.trans ?_ (by assumption)))) _ _ _ _ (by first | exact NN.nil _ | assumption | exact NN.ext (by assumption) (by repeat (first | assumption | exact Ext.refl _ | refine Ext.alloc ?_ _ | refine Ext.drew ?_ | refine Ext.setB ?_ (by first | omega | (simp only [size_alloc, size_setB, size_drew]; omega)) _ | exact Ext.trans (by assumption) (by assumption) | refine Ext.trans ?_ (by assumption)))) (by first | assumption | omega | (rw [sz_zero]; omega)) _ _ _ _ (by first | assumption | exact AB.ext (by assumption) (by repeat (first | assumption | exact Ext.refl _ | refine Ext.alloc ?_ _ | refine Ext.drew ?_ | refine Ext.setB ?_ (by first | omega | (simp only [size_alloc, size_setB, size_drew]; omega)) _ | exact Ext.trans (by assumption) (by assumption) | refine Ext.trans ?_ (by assumption))) | exact PB.ab (by assumption) | exact PB.ab (PB.ext (by assumption) (by repeat (first | assumption | exact Ext.refl _ | refine Ext.alloc ?_ _ | refine Ext.drew ?_ | refine Ext.setB ?_ (by first | omega | (simp only [size_alloc, size_setB, size_drew]; omega)) _ | exact Ext.trans (by assumption) (by assumption) | refine Ext.trans ?_ (by assumption))))) (by omega) _ _ _ _ (by first | exact NN.nil _ | assumption | exact NN.ext (by assumption) (by repeat (first | assumption | exact Ext.refl _ | refine Ext.alloc ?_ _ | refine Ext.drew ?_ | refine Ext.setB ?_ (by first | omega | (simp only [size_alloc, size_setB, size_drew]; omega)) _ | exact Ext.trans (by assumption) (by assumption) | refine Ext.trans ?_ (by assumption)))) (by first | assumption | omega | (rw [sz_zero]; omega)) _ _ _ _ (by first | exact NN.nil _ | assumption | exact NN.ext (by assumption) (by repeat (first | assumption | exact Ext.refl _ | refine Ext.alloc ?_ _ | refine Ext.drew ?_ | refine Ext.setB ?_ (by first | omega | (simp only [size_alloc, size_setB, size_drew]; omega)) _ | exact Ext.trans (by assumption) (by assumption) | refine Ext.trans ?_ (by assumption)))) (by first | assumption | omega | (rw [sz_zero]; omega)) (by omega)) ?_)
      rintro _ w5 ⟨rfl, hW5⟩
      refine WO_nil ?_
      refine inBlk_normal ?_
      refine thn_normal ?_
      refine ⟨by omega, ?_⟩; subst ho5; have e9 : yeff y f 55 l = _ := rfl; exact YX.retF ((hX.ext (by repeat (first | assumption | exact Ext.refl _ | refine Ext.alloc ?_ _ | refine Ext.drew ?_ | refine Ext.setB ?_ (by first | omega | (simp only [size_alloc, size_setB, size_drew]; omega)) _ | refine Ext.trans ?_ (by assumption)))).wtop (o := 0) hFp hxf (FrM.ext hFM (by repeat (first | assumption | exact Ext.refl _ | refine Ext.alloc ?_ _ | refine Ext.drew ?_ | refine Ext.setB ?_ (by first | omega | (simp only [size_alloc, size_setB, size_drew]; omega)) _ | refine Ext.trans ?_ (by assumption)))) hW5) ((Ext.keepO (by repeat (first | assumption | exact Ext.refl _ | refine Ext.alloc ?_ _ | refine Ext.drew ?_ | refine Ext.setB ?_ (by first | omega | (simp only [size_alloc, size_setB, size_drew]; omega)) _ | refine Ext.trans ?_ (by assumption))) _).trans ((hX.ext (by repeat (first | assumption | exact Ext.refl _ | refine Ext.alloc ?_ _ | refine Ext.drew ?_ | refine Ext.setB ?_ (by first | omega | (simp only [size_alloc, size_setB, size_drew]; omega)) _ | refine Ext.trans ?_ (by assumption)))).wk hxf hW5.keep) (fun _ _ e => e)) rfl
    · have hb5p := hb5.h; try simp only [al_ete, al_dfn, Bool.not_eq_true', Bool.not_eq_false', al_ne, Bool.not_not, al_nn] at hb5p
      refine W_seq ?_
      refine W_region rfl ?_
      refine WO_p (PS_move_int rfl) ?_
      refine WO_p (PS_eql rfl rfl) ?_
      refine WO_p (PS_assign_bool rfl) ?_
      refine WO_nil ?_
      refine thn_normal ?_
      refine W_if rfl (fun hb8 => ?_) (fun hb8 => ?_)
      · have hb8p := hb8.h; try simp only [al_ete, al_dfn, Bool.not_eq_true', Bool.not_eq_false', al_ne, Bool.not_not, al_nn] at hb8p
        have hc8 := hcp (by omega)
        have ho5 : o = 57 := by omega
        refine W_region rfl ?_
        refine WO_p (PS_move_ptr rfl) ?_
        refine WO_p (PS_move_slice rfl) ?_
        refine WO_p (PS_move_ptr rfl) ?_
        refine WO_p (PS_nilCheck rfl) ?_
        refine WO_p (PS_fieldAddr 10 Hvac.runUnderlying121 rfl Hvac.sizeOf32 rfl rfl) ?_
        refine WO_load (.slice _ _ _) Hvac.isAgg32 rfl (Hb.h (by repeat (first | assumption | exact Hb.newY _ _ | refine Hb.alloc ?_ | refine Hb.drew ?_ | refine Hb.ext (by assumption) ?_ | exact Hb.setSameL (by first | omega | (simp only [size_alloc, size_setB, size_drew]; omega)) | exact Hb.setSame (by assumption) | refine Hb.set (by first | omega | (simp only [size_alloc, size_setB, size_drew]; omega)) ?_ ))) (Ce.h (by first | assumption | exact ⟨rfl⟩)) ?_
        refine WO_p (PS_move_slice rfl) ?_
        refine WO_p (PS_move_slice rfl) ?_
        refine WO_call Hvac.call208 (by rfl) (Ret.mono (yCopied_spec _ (OmB.ext hO (by repeat (first | assumption | exact Ext.refl _ | refine Ext.alloc ?_ _ | refine Ext.drew ?_ | refine Ext.setB ?_ (by first | omega | (simp only [size_alloc, size_setB, size_drew]; omega)) _ | exact Ext.trans (by assumption) (by assumption) | refine Ext.trans ?_ (by assumption)))) _ _ _ _ _ (FrM.ext hFM (by repeat (first | assumption | exact Ext.refl _ | refine Ext.alloc ?_ _ | refine Ext.drew ?_ | refine Ext.setB ?_ (by first | omega | (simp only [size_alloc, size_setB, size_drew]; omega)) _ | exact Ext.trans (by assumption) (by assumption) | refine Ext.trans ?_ (by assumption)))) hP (MW.ext hMW (by repeat (first | assumption | exact Ext.refl _ | refine Ext.alloc ?_ _ | refine Ext.drew ?_ | refine Ext.setB ?_ (by first | omega | (simp only [size_alloc, size_setB, size_drew]; omega)) _ | exact Ext.trans (by assumption) (by assumption) | refine Ext.trans ?_ (by assumption)))) _ _ _ _ (by first | exact NN.nil _ | assumption | exact NN.ext (by assumption) (by repeat (first | assumption | exact Ext.refl _ | refine Ext.alloc ?_ _ | refine Ext.drew ?_ | refine Ext.setB ?_ (by first | omega | (simp only [size_alloc, size_setB, size_drew]; omega)) _ | exact Ext.trans (by assumption) (by assumption) | refine Ext.trans ?_ (by assumption)))) (by first | assumption | omega | (rw [sz_zero]; omega)) _ _ _ _ (by first | assumption | exact AB.ext (by assumption) (by repeat (first | assumption | exact Ext.refl _ | refine Ext.alloc ?_ _ | refine Ext.drew ?_ | refine Ext.setB ?_ (by first | omega | (simp only [size_alloc, size_setB, size_drew]; omega)) _ | exact Ext.trans (by assumption) (by assumption) | refine Ext.trans ?_ (by assumption))) | exact PB.ab (by assumption) | exact PB.ab (PB.ext (by assumption) (by repeat (first | assumption | exact Ext.refl _ | refine Ext.alloc ?_ _ | refine Ext.drew ?_ | refine Ext.setB ?_ (by first | omega | (simp only [size_alloc, size_setB, size_drew]; omega)) _ | exact Ext.trans (by assumption) (by assumption) | refine Ext.trans ?_ (by assumption))))) (by omega) _ _ _ _ (by first | exact NN.nil _ | assumption | exact NN.ext (by assumption) (by repeat (first | assumption | exact Ext.refl _ | refine Ext.alloc ?_ _ | refine Ext.drew ?_ | refine Ext.setB ?_ (by first | omega | (simp only [size_alloc, size_setB, size_drew]; omega)) _ | exact Ext.trans (by assumption) (by assumption) | refine Ext.trans ?_ (by assumption)))) (by first | assumption | omega | (rw [sz_zero]; omega)) _ _ _ _ (by first | exact NN.nil _ | assumption | exact NN.ext (by assumption) (by repeat (first | assumption | exact Ext.refl _ | refine Ext.alloc ?_ _ | refine Ext.drew ?_ | refine Ext.setB ?_ (by first | omega | (simp only [size_alloc, size_setB, size_drew]; omega)) _ | exact Ext.trans (by assumption) (by assumption) | refine Ext.trans ?_ (by assumption)))) (by first | assumption | omega | (rw [sz_zero]; omega)) (by omega)) ?_)
        rintro _ w5 ⟨rfl, hW5⟩
        refine WO_nil ?_
        refine inBlk_normal ?_
        refine thn_normal ?_
        refine ⟨by omega, ?_⟩; subst ho5; have e9 : yeff y f 57 l = _ := rfl; exact YX.retF ((hX.ext (by repeat (first | assumption | exact Ext.refl _ | refine Ext.alloc ?_ _ | refine Ext.drew ?_ | refine Ext.setB ?_ (by first | omega | (simp only [size_alloc, size_setB, size_drew]; omega)) _ | refine Ext.trans ?_ (by assumption)))).wtop (o := 0) hFp hxf (FrM.ext hFM (by repeat (first | assumption | exact Ext.refl _ | refine Ext.alloc ?_ _ | refine Ext.drew ?_ | refine Ext.setB ?_ (by first | omega | (simp only [size_alloc, size_setB, size_drew]; omega)) _ | refine Ext.trans ?_ (by assumption)))) hW5) ((Ext.keepO (by repeat (first | assumption | exact Ext.refl _ | refine Ext.alloc ?_ _ | refine Ext.drew ?_ | refine Ext.setB ?_ (by first | omega | (simp only [size_alloc, size_setB, size_drew]; omega)) _ | refine Ext.trans ?_ (by assumption))) _).trans ((hX.ext (by repeat (first | assumption | exact Ext.refl _ | refine Ext.alloc ?_ _ | refine Ext.drew ?_ | refine Ext.setB ?_ (by first | omega | (simp only [size_alloc, size_setB, size_drew]; omega)) _ | refine Ext.trans ?_ (by assumption)))).wk hxf hW5.keep) (fun _ _ e => e)) rfl
      · have hb8p := hb8.h; try simp only [al_ete, al_dfn, Bool.not_eq_true', Bool.not_eq_false', al_ne, Bool.not_not, al_nn] at hb8p
        refine W_seq ?_
        refine W_region rfl ?_
        refine WO_p (PS_move_int rfl) ?_
        refine WO_p (PS_eql rfl rfl) ?_
        refine WO_p (PS_assign_bool rfl) ?_
        refine WO_nil ?_
        refine thn_normal ?_
        refine W_if rfl (fun hb11 => ?_) (fun hb11 => ?_)
        · have hb11p := hb11.h; try simp only [al_ete, al_dfn, Bool.not_eq_true', Bool.not_eq_false', al_ne, Bool.not_not, al_nn] at hb11p
          have hc8 := hcp (by omega)
          have ho5 : o = 62 := by omega
          refine W_region rfl ?_
          refine WO_p (PS_move_ptr rfl) ?_
          refine WO_p (PS_move_slice rfl) ?_
          refine WO_p (PS_move_ptr rfl) ?_
          refine WO_p (PS_nilCheck rfl) ?_
          refine WO_p (PS_fieldAddr 10 Hvac.runUnderlying99 rfl Hvac.sizeOf32 rfl rfl) ?_
          refine WO_load (.slice _ _ _) Hvac.isAgg32 rfl (Hb.h (by repeat (first | assumption | exact Hb.newY _ _ | refine Hb.alloc ?_ | refine Hb.drew ?_ | refine Hb.ext (by assumption) ?_ | exact Hb.setSameL (by first | omega | (simp only [size_alloc, size_setB, size_drew]; omega)) | exact Hb.setSame (by assumption) | refine Hb.set (by first | omega | (simp only [size_alloc, size_setB, size_drew]; omega)) ?_ ))) (Ce.h (by first | assumption | exact ⟨rfl⟩)) ?_
          refine WO_p (PS_move_slice rfl) ?_
          refine WO_p (PS_move_slice rfl) ?_
          refine WO_call Hvac.call208 (by rfl) (Ret.mono (yCopied_spec _ (OmB.ext hO (by repeat (first | assumption | exact Ext.refl _ | refine Ext.alloc ?_ _ | refine Ext.drew ?_ | refine Ext.setB ?_ (by first | omega | (simp only [size_alloc, size_setB, size_drew]; omega)) _ | exact Ext.trans (by assumption) (by assumption) | refine Ext.trans ?_ (by assumption)))) _ _ _ _ _ (FrM.ext hFM (by repeat (first | assumption | exact Ext.refl _ | refine Ext.alloc ?_ _ | refine Ext.drew ?_ | refine Ext.setB ?_ (by first | omega | (simp only [size_alloc, size_setB, size_drew]; omega)) _ | exact Ext.trans (by assumption) (by assumption) | refine Ext.trans ?_ (by assumption)))) hP (MW.ext hMW (by repeat (first | assumption | exact Ext.refl _ | refine Ext.alloc ?_ _ | refine Ext.drew ?_ | refine Ext.setB ?_ (by first | omega | (simp only [size_alloc, size_setB, size_drew]; omega)) _ | exact Ext.trans (by assumption) (by assumption) | refine Ext.trans ?_ (by assumption)))) _ _ _ _ (by first | exact NN.nil _ | assumption | exact NN.ext (by assumption) (by repeat (first | assumption | exact Ext.refl _ | refine Ext.alloc ?_ _ | refine Ext.drew ?_ | refine Ext.setB ?_ (by first | omega | (simp only [size_alloc, size_setB, size_drew]; omega)) _ | exact Ext.trans (by assumption) (by assumption) | refine Ext.trans ?_ (by assumption)))) (by first | assumption | omega | (rw [sz_zero]; omega)) _ _ _ _ (by first | assumption | exact AB.ext (by assumption) (by repeat (first | assumption | exact Ext.refl _ | refine Ext.alloc ?_ _ | refine Ext.drew ?_ | refine Ext.setB ?_ (by first | omega | (simp only [size_alloc, size_setB, size_drew]; omega)) _ | exact Ext.trans (by assumption) (by assumption) | refine Ext.trans ?_ (by assumption))) | exact PB.ab (by assumption) | exact PB.ab (PB.ext (by assumption) (by repeat (first | assumption | exact Ext.refl _ | refine Ext.alloc ?_ _ | refine Ext.drew ?_ | refine Ext.setB ?_ (by first | omega | (simp only [size_alloc, size_setB, size_drew]; omega)) _ | exact Ext.trans (by assumption) (by assumption) | refine Ext.trans ?_ (by assumption))))) (by omega) _ _ _ _ (by first | exact NN.nil _ | assumption | exact NN.ext (by assumption) (by repeat (first | assumption | exact Ext.refl _ | refine Ext.alloc ?_ _ | refine Ext.drew ?_ | refine Ext.setB ?_ (by first | omega | (simp only [size_alloc, size_setB, size_drew]; omega)) _ | exact Ext.trans (by assumption) (by assumption) | refine Ext.trans ?_ (by assumption)))) (by first | assumption | omega | (rw [sz_zero]; omega)) _ _ _ _ (by first | exact NN.nil _ | assumption | exact NN.ext (by assumption) (by repeat (first | assumption | exact Ext.refl _ | refine Ext.alloc ?_ _ | refine Ext.drew ?_ | refine Ext.setB ?_ (by first | omega | (simp only [size_alloc, size_setB, size_drew]; omega)) _ | exact Ext.trans (by assumption) (by assumption) | refine Ext.trans ?_ (by assumption)))) (by first | assumption | omega | (rw [sz_zero]; omega)) (by omega)) ?_)
          rintro _ w5 ⟨rfl, hW5⟩
          refine WO_nil ?_
          refine inBlk_normal ?_
          refine thn_normal ?_
          refine ⟨by omega, ?_⟩; subst ho5; have e9 : yeff y f 62 l = _ := rfl; exact YX.retF ((hX.ext (by repeat (first | assumption | exact Ext.refl _ | refine Ext.alloc ?_ _ | refine Ext.drew ?_ | refine Ext.setB ?_ (by first | omega | (simp only [size_alloc, size_setB, size_drew]; omega)) _ | refine Ext.trans ?_ (by assumption)))).wtop (o := 0) hFp hxf (FrM.ext hFM (by repeat (first | assumption | exact Ext.refl _ | refine Ext.alloc ?_ _ | refine Ext.drew ?_ | refine Ext.setB ?_ (by first | omega | (simp only [size_alloc, size_setB, size_drew]; omega)) _ | refine Ext.trans ?_ (by assumption)))) hW5) ((Ext.keepO (by repeat (first | assumption | exact Ext.refl _ | refine Ext.alloc ?_ _ | refine Ext.drew ?_ | refine Ext.setB ?_ (by first | omega | (simp only [size_alloc, size_setB, size_drew]; omega)) _ | refine Ext.trans ?_ (by assumption))) _).trans ((hX.ext (by repeat (first | assumption | exact Ext.refl _ | refine Ext.alloc ?_ _ | refine Ext.drew ?_ | refine Ext.setB ?_ (by first | omega | (simp only [size_alloc, size_setB, size_drew]; omega)) _ | refine Ext.trans ?_ (by assumption)))).wk hxf hW5.keep) (fun _ _ e => e)) rfl
        · have hb11p := hb11.h; try simp only [al_ete, al_dfn, Bool.not_eq_true', Bool.not_eq_false', al_ne, Bool.not_not, al_nn] at hb11p
          refine W_seq ?_
          refine W_region rfl ?_
          refine WO_p (PS_move_int rfl) ?_
          refine WO_p (PS_eql rfl rfl) ?_
          refine WO_p (PS_assign_bool rfl) ?_
          refine WO_nil ?_
          refine thn_normal ?_
          refine W_if rfl (fun hb14 => ?_) (fun hb14 => ?_)
          · have hb14p := hb14.h; try simp only [al_ete, al_dfn, Bool.not_eq_true', Bool.not_eq_false', al_ne, Bool.not_not, al_nn] at hb14p
            have hc8 := hcp (by omega)
            have ho5 : o = 94 := by omega
            refine W_region rfl ?_
            refine WO_p (PS_move_ptr rfl) ?_
            refine WO_p (PS_move_slice rfl) ?_
            refine WO_p (PS_move_ptr rfl) ?_
            refine WO_p (PS_nilCheck rfl) ?_
            refine WO_p (PS_fieldAddr 9 Hvac.runUnderlying121 rfl Hvac.sizeOf32 rfl rfl) ?_
            refine WO_load (.slice _ _ _) Hvac.isAgg32 rfl (Hb.h (by repeat (first | assumption | exact Hb.newY _ _ | refine Hb.alloc ?_ | refine Hb.drew ?_ | refine Hb.ext (by assumption) ?_ | exact Hb.setSameL (by first | omega | (simp only [size_alloc, size_setB, size_drew]; omega)) | exact Hb.setSame (by assumption) | refine Hb.set (by first | omega | (simp only [size_alloc, size_setB, size_drew]; omega)) ?_ ))) (Ce.h (by first | assumption | exact ⟨rfl⟩)) ?_
            refine WO_call Hvac.call31 (by rfl) (Ret.mono (yBytesOf_spec _ (OmB.ext hO (by repeat (first | assumption | exact Ext.refl _ | refine Ext.alloc ?_ _ | refine Ext.drew ?_ | refine Ext.setB ?_ (by first | omega | (simp only [size_alloc, size_setB, size_drew]; omega)) _ | exact Ext.trans (by assumption) (by assumption) | refine Ext.trans ?_ (by assumption)))) _ _ _ _ (by first | assumption | exact AB.ext (by assumption) (by repeat (first | assumption | exact Ext.refl _ | refine Ext.alloc ?_ _ | refine Ext.drew ?_ | refine Ext.setB ?_ (by first | omega | (simp only [size_alloc, size_setB, size_drew]; omega)) _ | exact Ext.trans (by assumption) (by assumption) | refine Ext.trans ?_ (by assumption))) | exact PB.ab (by assumption) | exact PB.ab (PB.ext (by assumption) (by repeat (first | assumption | exact Ext.refl _ | refine Ext.alloc ?_ _ | refine Ext.drew ?_ | refine Ext.setB ?_ (by first | omega | (simp only [size_alloc, size_setB, size_drew]; omega)) _ | exact Ext.trans (by assumption) (by assumption) | refine Ext.trans ?_ (by assumption))))) (by omega)) ?_)
            rintro _ w31_14 ⟨hE31_14, s31_14, rfl, hN31_14⟩
            have hz31_14 := hE31_14.1
            try simp only [size_alloc, size_setB, size_drew] at hz31_14
            have hl31_14 := PB.len hN31_14
            refine WO_p (PS_move_slice rfl) ?_
            refine WO_p (PS_move_slice rfl) ?_
            refine WO_call Hvac.call208 (by rfl) (Ret.mono (yCopied_spec _ (OmB.ext hO (by repeat (first | assumption | exact Ext.refl _ | refine Ext.alloc ?_ _ | refine Ext.drew ?_ | refine Ext.setB ?_ (by first | omega | (simp only [size_alloc, size_setB, size_drew]; omega)) _ | exact Ext.trans (by assumption) (by assumption) | refine Ext.trans ?_ (by assumption)))) _ _ _ _ _ (FrM.ext hFM (by repeat (first | assumption | exact Ext.refl _ | refine Ext.alloc ?_ _ | refine Ext.drew ?_ | refine Ext.setB ?_ (by first | omega | (simp only [size_alloc, size_setB, size_drew]; omega)) _ | exact Ext.trans (by assumption) (by assumption) | refine Ext.trans ?_ (by assumption)))) hP (MW.ext hMW (by repeat (first | assumption | exact Ext.refl _ | refine Ext.alloc ?_ _ | refine Ext.drew ?_ | refine Ext.setB ?_ (by first | omega | (simp only [size_alloc, size_setB, size_drew]; omega)) _ | exact Ext.trans (by assumption) (by assumption) | refine Ext.trans ?_ (by assumption)))) _ _ _ _ (by first | exact NN.nil _ | assumption | exact NN.ext (by assumption) (by repeat (first | assumption | exact Ext.refl _ | refine Ext.alloc ?_ _ | refine Ext.drew ?_ | refine Ext.setB ?_ (by first | omega | (simp only [size_alloc, size_setB, size_drew]; omega)) _ | exact Ext.trans (by assumption) (by assumption) | refine Ext.trans ?_ (by assumption)))) (by first | assumption | omega | (rw [sz_zero]; omega)) _ _ _ _ (by first | assumption | exact AB.ext (by assumption) (by repeat (first | assumption | exact Ext.refl _ | refine Ext.alloc ?_ _ | refine Ext.drew ?_ | refine Ext.setB ?_ (by first | omega | (simp only [size_alloc, size_setB, size_drew]; omega)) _ | exact Ext.trans (by assumption) (by assumption) | refine Ext.trans ?_ (by assumption))) | exact PB.ab (by assumption) | exact PB.ab (PB.ext (by assumption) (by repeat (first | assumption | exact Ext.refl _ | refine Ext.alloc ?_ _ | refine Ext.drew ?_ | refine Ext.setB ?_ (by first | omega | (simp only [size_alloc, size_setB, size_drew]; omega)) _ | exact Ext.trans (by assumption) (by assumption) | refine Ext.trans ?_ (by assumption))))) (by omega) _ _ _ _ (by first | exact NN.nil _ | assumption | exact NN.ext (by assumption) (by repeat (first | assumption | exact Ext.refl _ | refine Ext.alloc ?_ _ | refine Ext.drew ?_ | refine Ext.setB ?_ (by first | omega | (simp only [size_alloc, size_setB, size_drew]; omega)) _ | exact Ext.trans (by assumption) (by assumption) | refine Ext.trans ?_ (by assumption)))) (by first | assumption | omega | (rw [sz_zero]; omega)) _ _ _ _ (by first | exact NN.nil _ | assumption | exact NN.ext (by assumption) (by repeat (first | assumption | exact Ext.refl _ | refine Ext.alloc ?_ _ | refine Ext.drew ?_ | refine Ext.setB ?_ (by first | omega | (simp only [size_alloc, size_setB, size_drew]; omega)) _ | exact Ext.trans (by assumption) (by assumption) | refine Ext.trans ?_ (by assumption)))) (by first | assumption | omega | (rw [sz_zero]; omega)) (by omega)) ?_)
            rintro _ w5 ⟨rfl, hW5⟩
            refine WO_nil ?_
            refine inBlk_normal ?_
            refine thn_normal ?_
            refine ⟨by omega, ?_⟩; subst ho5; have e9 : yeff y f 94 l = _ := rfl; exact YX.retF ((hX.ext (by repeat (first | assumption | exact Ext.refl _ | refine Ext.alloc ?_ _ | refine Ext.drew ?_ | refine Ext.setB ?_ (by first | omega | (simp only [size_alloc, size_setB, size_drew]; omega)) _ | refine Ext.trans ?_ (by assumption)))).wtop (o := 0) hFp hxf (FrM.ext hFM (by repeat (first | assumption | exact Ext.refl _ | refine Ext.alloc ?_ _ | refine Ext.drew ?_ | refine Ext.setB ?_ (by first | omega | (simp only [size_alloc, size_setB, size_drew]; omega)) _ | refine Ext.trans ?_ (by assumption)))) hW5) ((Ext.keepO (by repeat (first | assumption | exact Ext.refl _ | refine Ext.alloc ?_ _ | refine Ext.drew ?_ | refine Ext.setB ?_ (by first | omega | (simp only [size_alloc, size_setB, size_drew]; omega)) _ | refine Ext.trans ?_ (by assumption))) _).trans ((hX.ext (by repeat (first | assumption | exact Ext.refl _ | refine Ext.alloc ?_ _ | refine Ext.drew ?_ | refine Ext.setB ?_ (by first | omega | (simp only [size_alloc, size_setB, size_drew]; omega)) _ | refine Ext.trans ?_ (by assumption)))).wk hxf hW5.keep) (fun _ _ e => e)) rfl
          · have hb14p := hb14.h; try simp only [al_ete, al_dfn, Bool.not_eq_true', Bool.not_eq_false', al_ne, Bool.not_not, al_nn] at hb14p
            refine W_seq ?_
            refine W_region rfl ?_
            refine WO_p (PS_move_int rfl) ?_
            refine WO_p (PS_eql rfl rfl) ?_
            refine WO_p (PS_assign_bool rfl) ?_
            refine WO_nil ?_
            refine thn_normal ?_
            refine W_if rfl (fun hb18 => ?_) (fun hb18 => ?_)
            · have hb18p := hb18.h; try simp only [al_ete, al_dfn, Bool.not_eq_true', Bool.not_eq_false', al_ne, Bool.not_not, al_nn] at hb18p
              have hc8 := hcp2 (by omega)
              have ho5 : o = 60 := by omega
              refine W_seq ?_
              refine W_drawE [false, false, false, false, false, false] hmix (by kernel_rfl) rfl ?_
              refine WH_p (PS_move_ptr rfl) rfl ?_
              refine WH_p (PS_nilCheck rfl) rfl ?_
              refine WH_p (PS_fieldAddr 0 Hvac.runUnderlying99 rfl Hvac.sizeOf95 rfl rfl) rfl ?_
              refine WH_p (PS_move_slice rfl) rfl ?_
              refine WH_call Hvac.call121 (by rfl) (Ret.mono (yAddrOf_spec _ (OmB.ext hO (by repeat (first | assumption | exact Ext.refl _ | refine Ext.alloc ?_ _ | refine Ext.drew ?_ | refine Ext.setB ?_ (by first | omega | (simp only [size_alloc, size_setB, size_drew]; omega)) _ | exact Ext.trans (by assumption) (by assumption) | refine Ext.trans ?_ (by assumption)))) _ _ _ _ (by first | exact NN.nil _ | assumption | exact NN.ext (by assumption) (by repeat (first | assumption | exact Ext.refl _ | refine Ext.alloc ?_ _ | refine Ext.drew ?_ | refine Ext.setB ?_ (by first | omega | (simp only [size_alloc, size_setB, size_drew]; omega)) _ | exact Ext.trans (by assumption) (by assumption) | refine Ext.trans ?_ (by assumption)))) (by first | assumption | omega | (rw [sz_zero]; omega))) ?_)
              rintro _ w121_18 ⟨hE121_18, rfl⟩
              refine ⟨(fun h => by cases h), ?_⟩
              have hz121_18 := hE121_18.1
              try simp only [size_alloc, size_setB, size_drew] at hz121_18
              refine WH_call Hvac.call27 (by rfl) (Ret.mono (warmS_ (OmB.ext hO (by repeat (first | assumption | exact Ext.refl _ | refine Ext.alloc ?_ _ | refine Ext.drew ?_ | refine Ext.setB ?_ (by first | omega | (simp only [size_alloc, size_setB, size_drew]; omega)) _ | exact Ext.trans (by assumption) (by assumption) | refine Ext.trans ?_ (by assumption)))) (by first | assumption | exact YSS.ext (by assumption) (by repeat (first | assumption | exact Ext.refl _ | refine Ext.alloc ?_ _ | refine Ext.drew ?_ | refine Ext.setB ?_ (by first | omega | (simp only [size_alloc, size_setB, size_drew]; omega)) _ | exact Ext.trans (by assumption) (by assumption) | refine Ext.trans ?_ (by assumption)))) hB (by omega) (yaddr_by _)) ?_)
              rintro _ w13 ⟨rfl, s13, hT13⟩
              refine ⟨(fun h => by cases h), ?_⟩
              have hTa13 : SStep w w13 C (xsWarmA x s13) (ysWarmA y (ywith y.now.warmA (yaddr (l.getD 0 0)))) := SStep.pre (by repeat (first | assumption | exact Ext.refl _ | refine Ext.alloc ?_ _ | refine Ext.drew ?_ | refine Ext.setB ?_ (by first | omega | (simp only [size_alloc, size_setB, size_drew]; omega)) _ | refine Ext.trans ?_ (by assumption))) hT13
              have hX13 := hX.sstep hTa13 rfl rfl
              have hM13 := hFM.cs hX.ss.blk hX.ss.om hTa13.keep
              have hS13 := hM13.s0
              have hSS13 := hX13.ss
              have hSb13 := hSS13.blk
              have hSl13 := hSb13.lt
              have hFb13 := hM13.blk
              have hFl13 := hFb13.lt
              replace hO := hX13.omb
              have hz13 := hTa13.keep.sz
              have hzs13 := encYS_size (xsWarmA x s13)
              have hMW13 : MW w13 xf.mem f.mem := hMW.keep (fun b r _ hb => KT.kf hX.ss.blk hTa13.keep (by decide) _ _ _ hb)
              have hNsa13 := (NN.ext hNsa (by repeat (first | assumption | exact Ext.refl _ | refine Ext.alloc ?_ _ | refine Ext.drew ?_ | refine Ext.setB ?_ (by first | omega | (simp only [size_alloc, size_setB, size_drew]; omega)) _ | refine Ext.trans ?_ (by assumption)))).keep hT13.ko
              have hNsb13 := (NN.ext hNsb (by repeat (first | assumption | exact Ext.refl _ | refine Ext.alloc ?_ _ | refine Ext.drew ?_ | refine Ext.setB ?_ (by first | omega | (simp only [size_alloc, size_setB, size_drew]; omega)) _ | refine Ext.trans ?_ (by assumption)))).keep hT13.ko
              have hNsc13 := (NN.ext hNsc (by repeat (first | assumption | exact Ext.refl _ | refine Ext.alloc ?_ _ | refine Ext.drew ?_ | refine Ext.setB ?_ (by first | omega | (simp only [size_alloc, size_setB, size_drew]; omega)) _ | refine Ext.trans ?_ (by assumption)))).keep hT13.ko
              have hl13 := (StR.ext hl (by repeat (first | assumption | exact Ext.refl _ | refine Ext.alloc ?_ _ | refine Ext.drew ?_ | refine Ext.setB ?_ (by first | omega | (simp only [size_alloc, size_setB, size_drew]; omega)) _ | refine Ext.trans ?_ (by assumption)))).keep hT13.ko
              have hB13 := hB.warmA (yaddr (l.getD 0 0))
              refine WH_nil ?_
              refine thn_normal ?_
              refine W_drawE [false, false, false, false, false, false, false, false, false, false, false, false, false] hmix (by kernel_rfl) rfl ?_
              refine WH_p (PS_move_ptr rfl) rfl ?_
              refine WH_p (PS_move_slice rfl) rfl ?_
              refine WH_p (PS_move_ptr rfl) rfl ?_
              refine WH_p (PS_nilCheck rfl) rfl ?_
              refine WH_p (PS_fieldAddr 0 Hvac.runUnderlying99 rfl Hvac.sizeOf95 rfl rfl) rfl ?_
              refine WH_p (PS_move_slice rfl) rfl ?_
              refine WH_call Hvac.call121 (by rfl) (Ret.mono (yAddrOf_spec _ (OmB.ext hO (by repeat (first | assumption | exact Ext.refl _ | refine Ext.alloc ?_ _ | refine Ext.drew ?_ | refine Ext.setB ?_ (by first | omega | (simp only [size_alloc, size_setB, size_drew]; omega)) _ | exact Ext.trans (by assumption) (by assumption) | refine Ext.trans ?_ (by assumption)))) _ _ _ _ (by first | exact NN.nil _ | assumption | exact NN.ext (by assumption) (by repeat (first | assumption | exact Ext.refl _ | refine Ext.alloc ?_ _ | refine Ext.drew ?_ | refine Ext.setB ?_ (by first | omega | (simp only [size_alloc, size_setB, size_drew]; omega)) _ | exact Ext.trans (by assumption) (by assumption) | refine Ext.trans ?_ (by assumption)))) (by first | assumption | omega | (rw [sz_zero]; omega))) ?_)
              rintro _ w121_20 ⟨hE121_20, rfl⟩
              refine ⟨(fun h => by cases h), ?_⟩
              have hz121_20 := hE121_20.1
              try simp only [size_alloc, size_setB, size_drew] at hz121_20
              refine WH_call Hvac.call17 (by rfl) (Ret.mono (acctS (OmB.ext hO (by repeat (first | assumption | exact Ext.refl _ | refine Ext.alloc ?_ _ | refine Ext.drew ?_ | refine Ext.setB ?_ (by first | omega | (simp only [size_alloc, size_setB, size_drew]; omega)) _ | exact Ext.trans (by assumption) (by assumption) | refine Ext.trans ?_ (by assumption)))) (by first | assumption | exact YSS.ext (by assumption) (by repeat (first | assumption | exact Ext.refl _ | refine Ext.alloc ?_ _ | refine Ext.drew ?_ | refine Ext.setB ?_ (by first | omega | (simp only [size_alloc, size_setB, size_drew]; omega)) _ | exact Ext.trans (by assumption) (by assumption) | refine Ext.trans ?_ (by assumption)))) hB13 (by omega) (yaddr_by (l.getD 0 0))) ?_)
              rintro _ w17 ⟨hE17, x17, rfl, hxa17, hxr17⟩
              refine ⟨(fun h => by cases h), ?_⟩
              have hz17 := hE17.1
              try simp only [size_alloc, size_setB, size_drew] at hz17
              have hxl17 : x17.addr.length = 20 := by rw [hxa17]; exact (yaddr_by _).1
              have hsz17 : (encYA x17).toArray.size = 24 := by simpa using encYA_len hxl17
              have hc3_17 := encYA_3 hxl17
              have hcp17 : PB w17 x17.code (yacct y.now.accts (yaddr (l.getD 0 0))).code := hxr17.code
              have hcl17 := hB.now.cd.acct (yaddr (l.getD 0 0))
              have hcn17 := PB.len hcp17
              refine WH_p (PS_field (.slice _ _ _) 22 Hvac.runUnderlying104 rfl Hvac.isAgg32 rfl rfl (Ce.h (by first | assumption | exact ⟨rfl⟩))) rfl ?_
              refine WH_p (PS_move_slice rfl) rfl ?_
              refine WH_p (PS_move_slice rfl) rfl ?_
              refine WH_call Hvac.call202 (by rfl) (Ret.mono (yOperand_spec _ (OmB.ext hO (by repeat (first | assumption | exact Ext.refl _ | refine Ext.alloc ?_ _ | refine Ext.drew ?_ | refine Ext.setB ?_ (by first | omega | (simp only [size_alloc, size_setB, size_drew]; omega)) _ | exact Ext.trans (by assumption) (by assumption) | refine Ext.trans ?_ (by assumption)))) _ _ _ _ (by first | assumption | exact StR.ext (by assumption) (by repeat (first | assumption | exact Ext.refl _ | refine Ext.alloc ?_ _ | refine Ext.drew ?_ | refine Ext.setB ?_ (by first | omega | (simp only [size_alloc, size_setB, size_drew]; omega)) _ | exact Ext.trans (by assumption) (by assumption) | refine Ext.trans ?_ (by assumption)))) (by omega) 3 (by omega)) ?_)
              rintro _ w202_22 ⟨hE202_22, sd, rfl, hNsd⟩
              refine ⟨(fun h => by cases h), ?_⟩
              have hz202_22 := hE202_22.1
              try simp only [size_alloc, size_setB, size_drew] at hz202_22
              have hssd := sz_getD hlz 3
              refine WH_call Hvac.call208 (by rfl) (Ret.mono (yCopied_spec _ (OmB.ext hO (by repeat (first | assumption | exact Ext.refl _ | refine Ext.alloc ?_ _ | refine Ext.drew ?_ | refine Ext.setB ?_ (by first | omega | (simp only [size_alloc, size_setB, size_drew]; omega)) _ | exact Ext.trans (by assumption) (by assumption) | refine Ext.trans ?_ (by assumption)))) _ _ _ _ _ (FrM.ext hM13 (by repeat (first | assumption | exact Ext.refl _ | refine Ext.alloc ?_ _ | refine Ext.drew ?_ | refine Ext.setB ?_ (by first | omega | (simp only [size_alloc, size_setB, size_drew]; omega)) _ | exact Ext.trans (by assumption) (by assumption) | refine Ext.trans ?_ (by assumption)))) hP (MW.ext hMW13 (by repeat (first | assumption | exact Ext.refl _ | refine Ext.alloc ?_ _ | refine Ext.drew ?_ | refine Ext.setB ?_ (by first | omega | (simp only [size_alloc, size_setB, size_drew]; omega)) _ | exact Ext.trans (by assumption) (by assumption) | refine Ext.trans ?_ (by assumption)))) _ _ _ _ (by first | exact NN.nil _ | assumption | exact NN.ext (by assumption) (by repeat (first | assumption | exact Ext.refl _ | refine Ext.alloc ?_ _ | refine Ext.drew ?_ | refine Ext.setB ?_ (by first | omega | (simp only [size_alloc, size_setB, size_drew]; omega)) _ | exact Ext.trans (by assumption) (by assumption) | refine Ext.trans ?_ (by assumption)))) (by first | assumption | omega | (rw [sz_zero]; omega)) _ _ _ _ (by first | assumption | exact AB.ext (by assumption) (by repeat (first | assumption | exact Ext.refl _ | refine Ext.alloc ?_ _ | refine Ext.drew ?_ | refine Ext.setB ?_ (by first | omega | (simp only [size_alloc, size_setB, size_drew]; omega)) _ | exact Ext.trans (by assumption) (by assumption) | refine Ext.trans ?_ (by assumption))) | exact PB.ab (by assumption) | exact PB.ab (PB.ext (by assumption) (by repeat (first | assumption | exact Ext.refl _ | refine Ext.alloc ?_ _ | refine Ext.drew ?_ | refine Ext.setB ?_ (by first | omega | (simp only [size_alloc, size_setB, size_drew]; omega)) _ | exact Ext.trans (by assumption) (by assumption) | refine Ext.trans ?_ (by assumption))))) (by omega) _ _ _ _ (by first | exact NN.nil _ | assumption | exact NN.ext (by assumption) (by repeat (first | assumption | exact Ext.refl _ | refine Ext.alloc ?_ _ | refine Ext.drew ?_ | refine Ext.setB ?_ (by first | omega | (simp only [size_alloc, size_setB, size_drew]; omega)) _ | exact Ext.trans (by assumption) (by assumption) | refine Ext.trans ?_ (by assumption)))) (by first | assumption | omega | (rw [sz_zero]; omega)) _ _ _ _ (by first | exact NN.nil _ | assumption | exact NN.ext (by assumption) (by repeat (first | assumption | exact Ext.refl _ | refine Ext.alloc ?_ _ | refine Ext.drew ?_ | refine Ext.setB ?_ (by first | omega | (simp only [size_alloc, size_setB, size_drew]; omega)) _ | exact Ext.trans (by assumption) (by assumption) | refine Ext.trans ?_ (by assumption)))) (by first | assumption | omega | (rw [sz_zero]; omega)) (by omega)) ?_)
              rintro _ w5 ⟨rfl, hW5⟩
              refine ⟨(fun h => by cases h), ?_⟩
              refine WH_nil ?_
              refine inBlk_normal ?_
              refine thn_normal ?_
              refine ⟨by omega, ?_⟩; subst ho5; exact YX.retF ((hX13.ext (by repeat (first | assumption | exact Ext.refl _ | refine Ext.alloc ?_ _ | refine Ext.drew ?_ | refine Ext.setB ?_ (by first | omega | (simp only [size_alloc, size_setB, size_drew]; omega)) _ | refine Ext.trans ?_ (by assumption)))).wtop (o := 0) hFp hxf (FrM.ext hM13 (by repeat (first | assumption | exact Ext.refl _ | refine Ext.alloc ?_ _ | refine Ext.drew ?_ | refine Ext.setB ?_ (by first | omega | (simp only [size_alloc, size_setB, size_drew]; omega)) _ | refine Ext.trans ?_ (by assumption)))) hW5) ((KeepO.mono hTa13.keep (fun b e => e ▸ hX.yc)).trans ((Ext.keepO (by repeat (first | assumption | exact Ext.refl _ | refine Ext.alloc ?_ _ | refine Ext.drew ?_ | refine Ext.setB ?_ (by first | omega | (simp only [size_alloc, size_setB, size_drew]; omega)) _ | refine Ext.trans ?_ (by assumption))) _).trans ((hX13.ext (by repeat (first | assumption | exact Ext.refl _ | refine Ext.alloc ?_ _ | refine Ext.drew ?_ | refine Ext.setB ?_ (by first | omega | (simp only [size_alloc, size_setB, size_drew]; omega)) _ | refine Ext.trans ?_ (by assumption)))).wk hxf hW5.keep) (fun _ _ e => e)) (fun _ _ e => e)) rfl
            · have hb18p := hb18.h; try simp only [al_ete, al_dfn, Bool.not_eq_true', Bool.not_eq_false', al_ne, Bool.not_not, al_nn] at hb18p
              refine W_seq ?_
              refine W_region rfl ?_
              refine WO_p (PS_move_int rfl) ?_
              refine WO_p (PS_eql rfl rfl) ?_
              refine WO_p (PS_assign_bool rfl) ?_
              refine WO_nil ?_
              refine thn_normal ?_
              refine W_if rfl (fun hb26 => ?_) (fun hb26 => ?_)
              · have hb26p := hb26.h; try simp only [al_ete, al_dfn, Bool.not_eq_true', Bool.not_eq_false', al_ne, Bool.not_not, al_nn] at hb26p
                have hbl9 := be32N_len (l.getD 1 0)
                have ho5 : o = 82 := by omega
                refine W_seq ?_
                refine W_region rfl ?_
                refine WO_p (PS_move_slice rfl) ?_
                refine WO_call Hvac.call38 (by rfl) (Ret.mono (yWord_spec _ (OmB.ext hO (by repeat (first | assumption | exact Ext.refl _ | refine Ext.alloc ?_ _ | refine Ext.drew ?_ | refine Ext.setB ?_ (by first | omega | (simp only [size_alloc, size_setB, size_drew]; omega)) _ | exact Ext.trans (by assumption) (by assumption) | refine Ext.trans ?_ (by assumption)))) _ _ _ _ (by first | exact NN.nil _ | assumption | exact NN.ext (by assumption) (by repeat (first | assumption | exact Ext.refl _ | refine Ext.alloc ?_ _ | refine Ext.drew ?_ | refine Ext.setB ?_ (by first | omega | (simp only [size_alloc, size_setB, size_drew]; omega)) _ | exact Ext.trans (by assumption) (by assumption) | refine Ext.trans ?_ (by assumption)))) (by first | assumption | omega | (rw [sz_zero]; omega))) ?_)
                rintro _ w38_26 ⟨hE38_26, rfl⟩
                have hz38_26 := hE38_26.1
                try simp only [size_alloc, size_setB, size_drew] at hz38_26
                refine WO_allocG Hvac.zeroValue28 ?_
                intro b12 v12 hg12 hE12 hH12 hl12
                try simp only [size_alloc, size_setB, size_drew] at hg12
                have hzz12 := hE12.1
                try simp only [size_alloc, size_setB, size_drew] at hzz12
                replace hH12 : Hb v12 b12 (.cells (ic .u8 (List.replicate 32 0)) 28 (0, 0)) := hH12
                first | refine WO_storeW Hvac.sizeOf28 rfl (v := .agg _) rfl (Hb.h (by repeat (first | assumption | exact Hb.newY _ _ | refine Hb.alloc ?_ | refine Hb.drew ?_ | refine Hb.ext (by assumption) ?_ | exact Hb.setSameL (by first | omega | (simp only [size_alloc, size_setB, size_drew]; omega)) | exact Hb.setSame (by assumption) | refine Hb.set (by first | omega | (simp only [size_alloc, size_setB, size_drew]; omega)) ?_ ))) rfl (by first | omega | assumption | rfl | decide | exact Nat.le_refl _ | (simp only [size_ic, Value.cells]; omega) | (simp [encWs]; done) | (simp; omega) | simp | exact encYA_sz (by assumption) | exact encYT_sz (by assumption) | exact encYM_sz (by assumption)) (by first | omega | assumption | rfl | decide | exact Nat.le_refl _ | (simp only [size_ic, Value.cells]; omega) | (simp [encWs]; done) | (simp; omega) | simp | exact encYA_sz (by assumption) | exact encYT_sz (by assumption) | exact encYM_sz (by assumption)) (by first | exact oneCell_ic | assumption | exact one_Ws2 _ | exact one_YA2 _ | exact one_YSl2 _ | exact one_YM2 _ | exact one_YT2 _ | exact one_L2 _) ?_ | refine WO_store Hvac.sizeOf28 rfl (v := .agg _) rfl (Hb.h (by repeat (first | assumption | exact Hb.newY _ _ | refine Hb.alloc ?_ | refine Hb.drew ?_ | refine Hb.ext (by assumption) ?_ | exact Hb.setSameL (by first | omega | (simp only [size_alloc, size_setB, size_drew]; omega)) | exact Hb.setSame (by assumption) | refine Hb.set (by first | omega | (simp only [size_alloc, size_setB, size_drew]; omega)) ?_ ))) (by first | omega | assumption | rfl | decide | exact Nat.le_refl _ | (simp only [size_ic, Value.cells]; omega) | (simp [encWs]; done) | (simp; omega) | simp | exact encYA_sz (by assumption) | exact encYT_sz (by assumption) | exact encYM_sz (by assumption)) (by first | omega | assumption | rfl | decide | exact Nat.le_refl _ | (simp only [size_ic, Value.cells]; omega) | (simp [encWs]; done) | (simp; omega) | simp | exact encYA_sz (by assumption) | exact encYT_sz (by assumption) | exact encYM_sz (by assumption)) (by first | exact oneCell_ic | assumption | exact one_Ws2 _ | exact one_YA2 _ | exact one_YSl2 _ | exact one_YM2 _ | exact one_YT2 _ | exact one_L2 _) ?_
                refine WO_nil ?_
                refine thn_normal ?_
                refine W_region rfl ?_
                refine WO_p (PS_move_ptr rfl) ?_
                refine WO_p (PS_move_slice rfl) ?_
                refine WO_p (PS_slA Hvac.runUnderlying28 Hvac.sizeOf5 rfl (by omega)) ?_
                refine WO_call Hvac.call116 (by rfl) (Ret.mono (yWrite_spec _ (OmB.ext hO (by repeat (first | assumption | exact Ext.refl _ | refine Ext.alloc ?_ _ | refine Ext.drew ?_ | refine Ext.setB ?_ (by first | omega | (simp only [size_alloc, size_setB, size_drew]; omega)) _ | exact Ext.trans (by assumption) (by assumption) | refine Ext.trans ?_ (by assumption)))) _ _ _ _ _ (FrM.ext hFM (by repeat (first | assumption | exact Ext.refl _ | refine Ext.alloc ?_ _ | refine Ext.drew ?_ | refine Ext.setB ?_ (by first | omega | (simp only [size_alloc, size_setB, size_drew]; omega)) _ | exact Ext.trans (by assumption) (by assumption) | refine Ext.trans ?_ (by assumption)))) hP (MW.ext hMW (by repeat (first | assumption | exact Ext.refl _ | refine Ext.alloc ?_ _ | refine Ext.drew ?_ | refine Ext.setB ?_ (by first | omega | (simp only [size_alloc, size_setB, size_drew]; omega)) _ | exact Ext.trans (by assumption) (by assumption) | refine Ext.trans ?_ (by assumption)))) _ _ _ _ (by first | exact NN.nil _ | assumption | exact NN.ext (by assumption) (by repeat (first | assumption | exact Ext.refl _ | refine Ext.alloc ?_ _ | refine Ext.drew ?_ | refine Ext.setB ?_ (by first | omega | (simp only [size_alloc, size_setB, size_drew]; omega)) _ | exact Ext.trans (by assumption) (by assumption) | refine Ext.trans ?_ (by assumption)))) (by first | assumption | omega | (rw [sz_zero]; omega)) _ _ _ _ (AB.all (Hb.mk (Hb.h (by repeat (first | assumption | exact Hb.newY _ _ | refine Hb.alloc ?_ | refine Hb.drew ?_ | refine Hb.ext (by assumption) ?_ | exact Hb.setSameL (by first | omega | (simp only [size_alloc, size_setB, size_drew]; omega)) | exact Hb.setSame (by assumption) | refine Hb.set (by first | omega | (simp only [size_alloc, size_setB, size_drew]; omega)) ?_ )))) (be32N_by _).2 (be32N_len _)) (by omega)) ?_)
                rintro _ w5 ⟨rfl, hW5⟩
                refine WO_nil ?_
                refine inBlk_normal ?_
                refine thn_normal ?_
                refine ⟨by omega, ?_⟩; subst ho5; have e9 : yeff y f 82 l = _ := rfl; exact YX.retF ((hX.ext (by repeat (first | assumption | exact Ext.refl _ | refine Ext.alloc ?_ _ | refine Ext.drew ?_ | refine Ext.setB ?_ (by first | omega | (simp only [size_alloc, size_setB, size_drew]; omega)) _ | refine Ext.trans ?_ (by assumption)))).wtop (o := 0) hFp hxf (FrM.ext hFM (by repeat (first | assumption | exact Ext.refl _ | refine Ext.alloc ?_ _ | refine Ext.drew ?_ | refine Ext.setB ?_ (by first | omega | (simp only [size_alloc, size_setB, size_drew]; omega)) _ | refine Ext.trans ?_ (by assumption)))) hW5) ((Ext.keepO (by repeat (first | assumption | exact Ext.refl _ | refine Ext.alloc ?_ _ | refine Ext.drew ?_ | refine Ext.setB ?_ (by first | omega | (simp only [size_alloc, size_setB, size_drew]; omega)) _ | refine Ext.trans ?_ (by assumption))) _).trans ((hX.ext (by repeat (first | assumption | exact Ext.refl _ | refine Ext.alloc ?_ _ | refine Ext.drew ?_ | refine Ext.setB ?_ (by first | omega | (simp only [size_alloc, size_setB, size_drew]; omega)) _ | refine Ext.trans ?_ (by assumption)))).wk hxf hW5.keep) (fun _ _ e => e)) rfl
              · have hb26p := hb26.h; try simp only [al_ete, al_dfn, Bool.not_eq_true', Bool.not_eq_false', al_ne, Bool.not_not, al_nn] at hb26p
                refine W_seq ?_
                refine W_region rfl ?_
                refine WO_p (PS_move_int rfl) ?_
                refine WO_p (PS_eql rfl rfl) ?_
                refine WO_p (PS_assign_bool rfl) ?_
                refine WO_nil ?_
                refine thn_normal ?_
                refine W_if rfl (fun hb30 => ?_) (fun hb30 => ?_)
                · have hb30p := hb30.h; try simp only [al_ete, al_dfn, Bool.not_eq_true', Bool.not_eq_false', al_ne, Bool.not_not, al_nn] at hb30p
                  have hbl9 := be32N_len (l.getD 1 0)
                  have ho5 : o = 83 := by omega
                  refine W_seq ?_
                  refine W_region rfl ?_
                  refine WO_p (PS_move_slice rfl) ?_
                  refine WO_call Hvac.call38 (by rfl) (Ret.mono (yWord_spec _ (OmB.ext hO (by repeat (first | assumption | exact Ext.refl _ | refine Ext.alloc ?_ _ | refine Ext.drew ?_ | refine Ext.setB ?_ (by first | omega | (simp only [size_alloc, size_setB, size_drew]; omega)) _ | exact Ext.trans (by assumption) (by assumption) | refine Ext.trans ?_ (by assumption)))) _ _ _ _ (by first | exact NN.nil _ | assumption | exact NN.ext (by assumption) (by repeat (first | assumption | exact Ext.refl _ | refine Ext.alloc ?_ _ | refine Ext.drew ?_ | refine Ext.setB ?_ (by first | omega | (simp only [size_alloc, size_setB, size_drew]; omega)) _ | exact Ext.trans (by assumption) (by assumption) | refine Ext.trans ?_ (by assumption)))) (by first | assumption | omega | (rw [sz_zero]; omega))) ?_)
                  rintro _ w38_30 ⟨hE38_30, rfl⟩
                  have hz38_30 := hE38_30.1
                  try simp only [size_alloc, size_setB, size_drew] at hz38_30
                  refine WO_allocG Hvac.zeroValue28 ?_
                  intro b13 v13 hg13 hE13 hH13 hl13
                  try simp only [size_alloc, size_setB, size_drew] at hg13
                  have hzz13 := hE13.1
                  try simp only [size_alloc, size_setB, size_drew] at hzz13
                  replace hH13 : Hb v13 b13 (.cells (ic .u8 (List.replicate 32 0)) 28 (0, 0)) := hH13
                  first | refine WO_storeW Hvac.sizeOf28 rfl (v := .agg _) rfl (Hb.h (by repeat (first | assumption | exact Hb.newY _ _ | refine Hb.alloc ?_ | refine Hb.drew ?_ | refine Hb.ext (by assumption) ?_ | exact Hb.setSameL (by first | omega | (simp only [size_alloc, size_setB, size_drew]; omega)) | exact Hb.setSame (by assumption) | refine Hb.set (by first | omega | (simp only [size_alloc, size_setB, size_drew]; omega)) ?_ ))) rfl (by first | omega | assumption | rfl | decide | exact Nat.le_refl _ | (simp only [size_ic, Value.cells]; omega) | (simp [encWs]; done) | (simp; omega) | simp | exact encYA_sz (by assumption) | exact encYT_sz (by assumption) | exact encYM_sz (by assumption)) (by first | omega | assumption | rfl | decide | exact Nat.le_refl _ | (simp only [size_ic, Value.cells]; omega) | (simp [encWs]; done) | (simp; omega) | simp | exact encYA_sz (by assumption) | exact encYT_sz (by assumption) | exact encYM_sz (by assumption)) (by first | exact oneCell_ic | assumption | exact one_Ws2 _ | exact one_YA2 _ | exact one_YSl2 _ | exact one_YM2 _ | exact one_YT2 _ | exact one_L2 _) ?_ | refine WO_store Hvac.sizeOf28 rfl (v := .agg _) rfl (Hb.h (by repeat (first | assumption | exact Hb.newY _ _ | refine Hb.alloc ?_ | refine Hb.drew ?_ | refine Hb.ext (by assumption) ?_ | exact Hb.setSameL (by first | omega | (simp only [size_alloc, size_setB, size_drew]; omega)) | exact Hb.setSame (by assumption) | refine Hb.set (by first | omega | (simp only [size_alloc, size_setB, size_drew]; omega)) ?_ ))) (by first | omega | assumption | rfl | decide | exact Nat.le_refl _ | (simp only [size_ic, Value.cells]; omega) | (simp [encWs]; done) | (simp; omega) | simp | exact encYA_sz (by assumption) | exact encYT_sz (by assumption) | exact encYM_sz (by assumption)) (by first | omega | assumption | rfl | decide | exact Nat.le_refl _ | (simp only [size_ic, Value.cells]; omega) | (simp [encWs]; done) | (simp; omega) | simp | exact encYA_sz (by assumption) | exact encYT_sz (by assumption) | exact encYM_sz (by assumption)) (by first | exact oneCell_ic | assumption | exact one_Ws2 _ | exact one_YA2 _ | exact one_YSl2 _ | exact one_YM2 _ | exact one_YT2 _ | exact one_L2 _) ?_
                  refine WO_nil ?_
                  refine thn_normal ?_
                  refine W_region rfl ?_
                  refine WO_p (PS_move_ptr rfl) ?_
                  refine WO_p (PS_move_slice rfl) ?_
                  refine WO_p (PS_slA_l Hvac.runUnderlying28 Hvac.sizeOf5 rfl rfl (by omega) (by omega) (by omega)) ?_
                  refine WO_call Hvac.call116 (by rfl) (Ret.mono (yWrite_spec _ (OmB.ext hO (by repeat (first | assumption | exact Ext.refl _ | refine Ext.alloc ?_ _ | refine Ext.drew ?_ | refine Ext.setB ?_ (by first | omega | (simp only [size_alloc, size_setB, size_drew]; omega)) _ | exact Ext.trans (by assumption) (by assumption) | refine Ext.trans ?_ (by assumption)))) _ _ _ _ _ (FrM.ext hFM (by repeat (first | assumption | exact Ext.refl _ | refine Ext.alloc ?_ _ | refine Ext.drew ?_ | refine Ext.setB ?_ (by first | omega | (simp only [size_alloc, size_setB, size_drew]; omega)) _ | exact Ext.trans (by assumption) (by assumption) | refine Ext.trans ?_ (by assumption)))) hP (MW.ext hMW (by repeat (first | assumption | exact Ext.refl _ | refine Ext.alloc ?_ _ | refine Ext.drew ?_ | refine Ext.setB ?_ (by first | omega | (simp only [size_alloc, size_setB, size_drew]; omega)) _ | exact Ext.trans (by assumption) (by assumption) | refine Ext.trans ?_ (by assumption)))) _ _ _ _ (by first | exact NN.nil _ | assumption | exact NN.ext (by assumption) (by repeat (first | assumption | exact Ext.refl _ | refine Ext.alloc ?_ _ | refine Ext.drew ?_ | refine Ext.setB ?_ (by first | omega | (simp only [size_alloc, size_setB, size_drew]; omega)) _ | exact Ext.trans (by assumption) (by assumption) | refine Ext.trans ?_ (by assumption)))) (by first | assumption | omega | (rw [sz_zero]; omega)) _ _ _ _ (AB.part (L := be32N (l.getD 1 0)) (k := 31) (m := 1) (Hb.mk (Hb.h (by repeat (first | assumption | exact Hb.newY _ _ | refine Hb.alloc ?_ | refine Hb.drew ?_ | refine Hb.ext (by assumption) ?_ | exact Hb.setSameL (by first | omega | (simp only [size_alloc, size_setB, size_drew]; omega)) | exact Hb.setSame (by assumption) | refine Hb.set (by first | omega | (simp only [size_alloc, size_setB, size_drew]; omega)) ?_ )))) (be32N_by _).2 (by rw [be32N_len]; omega)) (by omega)) ?_)
                  rintro _ w5 ⟨rfl, hW5⟩
                  refine WO_nil ?_
                  refine inBlk_normal ?_
                  refine thn_normal ?_
                  refine ⟨by omega, ?_⟩; subst ho5; have e9 : yeff y f 83 l = _ := rfl; exact YX.retF ((hX.ext (by repeat (first | assumption | exact Ext.refl _ | refine Ext.alloc ?_ _ | refine Ext.drew ?_ | refine Ext.setB ?_ (by first | omega | (simp only [size_alloc, size_setB, size_drew]; omega)) _ | refine Ext.trans ?_ (by assumption)))).wtop (o := 0) hFp hxf (FrM.ext hFM (by repeat (first | assumption | exact Ext.refl _ | refine Ext.alloc ?_ _ | refine Ext.drew ?_ | refine Ext.setB ?_ (by first | omega | (simp only [size_alloc, size_setB, size_drew]; omega)) _ | refine Ext.trans ?_ (by assumption)))) hW5) ((Ext.keepO (by repeat (first | assumption | exact Ext.refl _ | refine Ext.alloc ?_ _ | refine Ext.drew ?_ | refine Ext.setB ?_ (by first | omega | (simp only [size_alloc, size_setB, size_drew]; omega)) _ | refine Ext.trans ?_ (by assumption))) _).trans ((hX.ext (by repeat (first | assumption | exact Ext.refl _ | refine Ext.alloc ?_ _ | refine Ext.drew ?_ | refine Ext.setB ?_ (by first | omega | (simp only [size_alloc, size_setB, size_drew]; omega)) _ | refine Ext.trans ?_ (by assumption)))).wk hxf hW5.keep) (fun _ _ e => e)) rfl
                · have hb30p := hb30.h; try simp only [al_ete, al_dfn, Bool.not_eq_true', Bool.not_eq_false', al_ne, Bool.not_not, al_nn] at hb30p
                  refine W_seq ?_
                  refine W_region rfl ?_
                  refine WO_p (PS_move_int rfl) ?_
                  refine WO_p (PS_eql rfl rfl) ?_
                  refine WO_p (PS_assign_bool rfl) ?_
                  refine WO_nil ?_
                  refine thn_normal ?_
                  refine W_if rfl (fun hb34 => ?_) (fun hb34 => ?_)
                  · have hb34p := hb34.h; try simp only [al_ete, al_dfn, Bool.not_eq_true', Bool.not_eq_false', al_ne, Bool.not_not, al_nn] at hb34p
                    have ho5 : o = 85 := by omega
                    refine W_seq ?_
                    refine W_region rfl ?_
                    refine WO_p (PS_move_ptr rfl) ?_
                    refine WO_p (PS_move_ptr rfl) ?_
                    refine WO_p (PS_move_slice rfl) ?_
                    refine WO_p (PS_move_slice rfl) ?_
                    refine WO_call Hvac.call209 (by rfl) (Ret.mono (yStores_spec _ (OmB.ext hO (by repeat (first | assumption | exact Ext.refl _ | refine Ext.alloc ?_ _ | refine Ext.drew ?_ | refine Ext.setB ?_ (by first | omega | (simp only [size_alloc, size_setB, size_drew]; omega)) _ | exact Ext.trans (by assumption) (by assumption) | refine Ext.trans ?_ (by assumption)))) Y C x y xs rest f N (YX.ext hX (by repeat (first | assumption | exact Ext.refl _ | refine Ext.alloc ?_ _ | refine Ext.drew ?_ | refine Ext.setB ?_ (by first | omega | (simp only [size_alloc, size_setB, size_drew]; omega)) _ | exact Ext.trans (by assumption) (by assumption) | refine Ext.trans ?_ (by assumption)))) hB hN hYB hP hPr hgf hrl F hFp hrz _ _ _ _ (by first | exact NN.nil _ | assumption | exact NN.ext (by assumption) (by repeat (first | assumption | exact Ext.refl _ | refine Ext.alloc ?_ _ | refine Ext.drew ?_ | refine Ext.setB ?_ (by first | omega | (simp only [size_alloc, size_setB, size_drew]; omega)) _ | exact Ext.trans (by assumption) (by assumption) | refine Ext.trans ?_ (by assumption)))) (by first | assumption | omega | (rw [sz_zero]; omega)) _ _ _ _ (by first | exact NN.nil _ | assumption | exact NN.ext (by assumption) (by repeat (first | assumption | exact Ext.refl _ | refine Ext.alloc ?_ _ | refine Ext.drew ?_ | refine Ext.setB ?_ (by first | omega | (simp only [size_alloc, size_setB, size_drew]; omega)) _ | exact Ext.trans (by assumption) (by assumption) | refine Ext.trans ?_ (by assumption)))) (by first | assumption | omega | (rw [sz_zero]; omega))) ?_)
                    rintro _ w22 ⟨rfl, hst22a, hst22b⟩
                    refine WO_p (PS_assign_bool rfl) ?_
                    refine WO_nil ?_
                    refine thn_normal ?_
                    refine W_ret ?_
                    refine inBlk_ret ?_
                    refine thn_ret ?_
                    refine bodyQ_ret1 Hvac.results127 rfl (.bool _) rfl ?_
                    subst ho5; exact if hm9 : (ysstA y f).2.2 ≤ y.now.ref then (match hst22b hm9 with | ⟨x', hT9, h8, h7⟩ => ⟨congrArg Value.bool (al_dd.2 ⟨fun h9 _ => h9, fun h9 => h9 rfl⟩), fun _ => YX.retF (hX.sstep (SStep.pre (by repeat (first | assumption | exact Ext.refl _ | refine Ext.alloc ?_ _ | refine Ext.drew ?_ | refine Ext.setB ?_ (by first | omega | (simp only [size_alloc, size_setB, size_drew]; omega)) _ | refine Ext.trans ?_ (by assumption))) hT9) h8 h7) (KeepO.mono (SStep.pre (by repeat (first | assumption | exact Ext.refl _ | refine Ext.alloc ?_ _ | refine Ext.drew ?_ | refine Ext.setB ?_ (by first | omega | (simp only [size_alloc, size_setB, size_drew]; omega)) _ | refine Ext.trans ?_ (by assumption))) hT9).keep (fun b e => e ▸ hX.yc)) h8, fun h9 => absurd (fun _ => hm9) h9⟩) else ⟨congrArg Value.bool (al_dd.2 ⟨fun h9 _ => h9, fun h9 => h9 rfl⟩), fun h9 => absurd (h9 rfl) hm9, fun _ => Ext.trans (by repeat (first | assumption | exact Ext.refl _ | refine Ext.alloc ?_ _ | refine Ext.drew ?_ | refine Ext.setB ?_ (by first | omega | (simp only [size_alloc, size_setB, size_drew]; omega)) _ | refine Ext.trans ?_ (by assumption))) (hst22a hm9)⟩
                  · have hb34p := hb34.h; try simp only [al_ete, al_dfn, Bool.not_eq_true', Bool.not_eq_false', al_ne, Bool.not_not, al_nn] at hb34p
                    refine W_seq ?_
                    refine W_region rfl ?_
                    refine WO_p (PS_move_int rfl) ?_
                    refine WO_p (PS_eql rfl rfl) ?_
                    refine WO_p (PS_assign_bool rfl) ?_
                    refine WO_nil ?_
                    refine thn_normal ?_
                    refine W_if rfl (fun hb38 => ?_) (fun hb38 => ?_)
                    · have hb38p := hb38.h; try simp only [al_ete, al_dfn, Bool.not_eq_true', Bool.not_eq_false', al_ne, Bool.not_not, al_nn] at hb38p
                      have ho5 : o = 93 := by omega
                      refine W_drawE [false, false, false, false, false, false, false, false, false, false] hmix (by kernel_rfl) rfl ?_
                      refine WH_p (PS_move_ptr rfl) rfl ?_
                      refine WH_p (PS_nilCheck rfl) rfl ?_
                      refine WH_p (PS_fieldAddr 0 Hvac.runUnderlying99 rfl Hvac.sizeOf95 rfl rfl) rfl ?_
                      refine WH_p (PS_move_ptr rfl) rfl ?_
                      refine WH_p (PS_nilCheck rfl) rfl ?_
                      refine WH_p (PS_fieldAddr 12 Hvac.runUnderlying121 rfl Hvac.sizeOf25 rfl rfl) rfl ?_
                      refine WH_loadA _ Hvac.isAgg25 Hvac.sizeOf25 rfl (Hb.h (by repeat (first | assumption | exact Hb.newY _ _ | refine Hb.alloc ?_ | refine Hb.drew ?_ | refine Hb.ext (by assumption) ?_ | exact Hb.setSameL (by first | omega | (simp only [size_alloc, size_setB, size_drew]; omega)) | exact Hb.setSame (by assumption) | refine Hb.set (by first | omega | (simp only [size_alloc, size_setB, size_drew]; omega)) ?_ ))) (by first | omega | assumption | rfl | decide | exact Nat.le_refl _ | (simp only [size_ic, Value.cells]; omega) | (simp [encWs]; done) | (simp; omega) | simp | exact encYA_sz (by assumption) | exact encYT_sz (by assumption) | exact encYM_sz (by assumption)) (Xt.h (by first | assumption | exact Xt.whole rfl rfl | exact Xt.whole rfl (by assumption) | exact Xt.whole rfl (by simp only [size_ic, Value.cells]; omega) | exact ⟨rfl⟩)) ?_
                      refine WH_p (PS_move_slice rfl) rfl ?_
                      refine WH_p (PS_move_slice rfl) rfl ?_
                      refine WH_call Hvac.call210 (by rfl) (Ret.mono (tstoreS (OmB.ext hO (by repeat (first | assumption | exact Ext.refl _ | refine Ext.alloc ?_ _ | refine Ext.drew ?_ | refine Ext.setB ?_ (by first | omega | (simp only [size_alloc, size_setB, size_drew]; omega)) _ | exact Ext.trans (by assumption) (by assumption) | refine Ext.trans ?_ (by assumption)))) (by first | assumption | exact YSS.ext (by assumption) (by repeat (first | assumption | exact Ext.refl _ | refine Ext.alloc ?_ _ | refine Ext.drew ?_ | refine Ext.setB ?_ (by first | omega | (simp only [size_alloc, size_setB, size_drew]; omega)) _ | exact Ext.trans (by assumption) (by assumption) | refine Ext.trans ?_ (by assumption)))) hB (by omega) hFR.sb (by first | exact NN.nil _ | assumption | exact NN.ext (by assumption) (by repeat (first | assumption | exact Ext.refl _ | refine Ext.alloc ?_ _ | refine Ext.drew ?_ | refine Ext.setB ?_ (by first | omega | (simp only [size_alloc, size_setB, size_drew]; omega)) _ | exact Ext.trans (by assumption) (by assumption) | refine Ext.trans ?_ (by assumption)))) (by first | assumption | omega | (rw [sz_zero]; omega)) (by first | exact NN.nil _ | assumption | exact NN.ext (by assumption) (by repeat (first | assumption | exact Ext.refl _ | refine Ext.alloc ?_ _ | refine Ext.drew ?_ | refine Ext.setB ?_ (by first | omega | (simp only [size_alloc, size_setB, size_drew]; omega)) _ | exact Ext.trans (by assumption) (by assumption) | refine Ext.trans ?_ (by assumption)))) (by first | assumption | omega | (rw [sz_zero]; omega))) ?_)
                      rintro _ w24 ⟨rfl, s24, hT24⟩
                      refine ⟨(fun h => by cases h), ?_⟩
                      refine WH_nil ?_
                      refine inBlk_normal ?_
                      refine thn_normal ?_
                      refine ⟨by omega, ?_⟩; subst ho5; exact YX.retF (hX.sstep (SStep.pre (by repeat (first | assumption | exact Ext.refl _ | refine Ext.alloc ?_ _ | refine Ext.drew ?_ | refine Ext.setB ?_ (by first | omega | (simp only [size_alloc, size_setB, size_drew]; omega)) _ | refine Ext.trans ?_ (by assumption))) hT24) rfl rfl) (KeepO.mono (SStep.pre (by repeat (first | assumption | exact Ext.refl _ | refine Ext.alloc ?_ _ | refine Ext.drew ?_ | refine Ext.setB ?_ (by first | omega | (simp only [size_alloc, size_setB, size_drew]; omega)) _ | refine Ext.trans ?_ (by assumption))) hT24).keep (fun b e => e ▸ hX.yc)) rfl
                    · have hb38p := hb38.h; try simp only [al_ete, al_dfn, Bool.not_eq_true', Bool.not_eq_false', al_ne, Bool.not_not, al_nn] at hb38p
                      refine W_seq ?_
                      refine W_region rfl ?_
                      refine WO_p (PS_move_int rfl) ?_
                      refine WO_p (PS_geq rfl rfl) ?_
                      refine WO_p (PS_move_bool rfl) ?_
                      refine WO_if (t := 136) rfl (fun hb41 => ?_) (fun hb41 => ?_)
                      · have hb41p := hb41.h; try simp only [al_ete, al_dfn, Bool.not_eq_true', Bool.not_eq_false', al_ne, Bool.not_not, al_nn] at hb41p
                        refine WO_guardT rfl rfl hb41.h ?_
                        refine WO_p (PS_move_int rfl) ?_
                        refine WO_guardT rfl rfl hb41.h ?_
                        refine WO_p (PS_leq rfl rfl) ?_
                        refine WO_p (PS_pickT rfl hb41.h rfl) ?_
                        refine WO_p (PS_assign_bool rfl) ?_
                        refine WO_nil ?_
                        refine thn_normal ?_
                        refine W_if rfl (fun hb43 => ?_) (fun hb43 => ?_)
                        · have hb43p := hb43.h; try simp only [al_ete, al_dfn, Bool.not_eq_true', Bool.not_eq_false', al_ne, Bool.not_not, al_nn] at hb43p
                          have hlg0 := (hlg (by omega)).1
                          refine W_seqJ (fun ρ w' => ∃ (b14 : Nat) (s26 : SV) (bD : Nat) (rD : Array Value) (TD : TypeId) (fzD : Nat × Nat), Fr [(0, .pointer (some ⟨C, 0, none⟩)), (3, .slice p n cp), (14, .pointer (some ⟨b14, 0, none⟩))] ρ ∧ Ext w w' ∧ w.heap.size ≤ b14 ∧ Hb w' b14 (.cells (encL ⟨f.self, (none, 0, 0), s26⟩).toArray 277 (0, 0)) ∧ Hb w' bD (.cells rD TD fzD) ∧ TD ≠ 277 ∧ (∀ w2, Hb w2 bD (.cells rD TD fzD) → PB w2 s26 (ycut f.mem (l.getD 0 0) (l.getD 1 0)))) ?_ ?_
                          · skip
                            refine W_drawF [false, false, false, false, false, false, false, true, false, true, false] [9] [0, 1, 2, 3, 4, 5, 6, 7, 8, 10] hmix (by kernel_rfl) rfl rfl rfl ?_
                            refine F_q (i := 0) rfl (by kernel_rfl) ?_
                            refine WH_p (PS_move_ptr rfl) rfl ?_
                            refine WH_nil ?_
                            refine F_q (i := 1) rfl (by kernel_rfl) ?_
                            refine WH_p (PS_nilCheck rfl) rfl ?_
                            refine WH_nil ?_
                            refine F_q (i := 2) rfl (by kernel_rfl) ?_
                            refine WH_p (PS_fieldAddr 12 Hvac.runUnderlying121 rfl Hvac.sizeOf25 rfl rfl) rfl ?_
                            refine WH_nil ?_
                            refine F_q (i := 3) rfl (by kernel_rfl) ?_
                            refine WH_loadA _ Hvac.isAgg25 Hvac.sizeOf25 rfl (Hb.h (by repeat (first | assumption | exact Hb.newY _ _ | refine Hb.alloc ?_ | refine Hb.drew ?_ | refine Hb.ext (by assumption) ?_ | exact Hb.setSameL (by first | omega | (simp only [size_alloc, size_setB, size_drew]; omega)) | exact Hb.setSame (by assumption) | refine Hb.set (by first | omega | (simp only [size_alloc, size_setB, size_drew]; omega)) ?_ ))) (by first | omega | assumption | rfl | decide | exact Nat.le_refl _ | (simp only [size_ic, Value.cells]; omega) | (simp [encWs]; done) | (simp; omega) | simp | exact encYA_sz (by assumption) | exact encYT_sz (by assumption) | exact encYM_sz (by assumption)) (Xt.h (by first | assumption | exact Xt.whole rfl rfl | exact Xt.whole rfl (by assumption) | exact Xt.whole rfl (by simp only [size_ic, Value.cells]; omega) | exact ⟨rfl⟩)) ?_
                            refine WH_nil ?_
                            refine F_q (i := 4) rfl (by kernel_rfl) ?_
                            refine WH_p (PS_move_ptr rfl) rfl ?_
                            refine WH_nil ?_
                            refine F_q (i := 5) rfl (by kernel_rfl) ?_
                            refine WH_p (PS_move_slice rfl) rfl ?_
                            refine WH_nil ?_
                            refine F_q (i := 6) rfl (by kernel_rfl) ?_
                            refine WH_p (PS_move_slice rfl) rfl ?_
                            refine WH_nil ?_
                            refine F_fork1 (i := 7) rfl rfl ?_ ?_
                            · refine WH_call Hvac.call46 (by rfl) (Ret.mono (yRead_spec _ (OmB.ext hO (by repeat (first | assumption | exact Ext.refl _ | refine Ext.alloc ?_ _ | refine Ext.drew ?_ | refine Ext.setB ?_ (by first | omega | (simp only [size_alloc, size_setB, size_drew]; omega)) _ | exact Ext.trans (by assumption) (by assumption) | refine Ext.trans ?_ (by assumption)))) _ _ _ _ (by first | assumption | exact FrS.ext (by assumption) (by repeat (first | assumption | exact Ext.refl _ | refine Ext.alloc ?_ _ | refine Ext.drew ?_ | refine Ext.setB ?_ (by first | omega | (simp only [size_alloc, size_setB, size_drew]; omega)) _ | exact Ext.trans (by assumption) (by assumption) | refine Ext.trans ?_ (by assumption)))) hP _ _ _ _ (by first | exact NN.nil _ | assumption | exact NN.ext (by assumption) (by repeat (first | assumption | exact Ext.refl _ | refine Ext.alloc ?_ _ | refine Ext.drew ?_ | refine Ext.setB ?_ (by first | omega | (simp only [size_alloc, size_setB, size_drew]; omega)) _ | exact Ext.trans (by assumption) (by assumption) | refine Ext.trans ?_ (by assumption)))) (by first | assumption | omega | (rw [sz_zero]; omega)) _ _ _ _ (by first | exact NN.nil _ | assumption | exact NN.ext (by assumption) (by repeat (first | assumption | exact Ext.refl _ | refine Ext.alloc ?_ _ | refine Ext.drew ?_ | refine Ext.setB ?_ (by first | omega | (simp only [size_alloc, size_setB, size_drew]; omega)) _ | exact Ext.trans (by assumption) (by assumption) | refine Ext.trans ?_ (by assumption)))) (by first | assumption | omega | (rw [sz_zero]; omega)) (by omega)) ?_)
                              rintro _ w26 ⟨hE26, s26, rfl, hN26⟩
                              refine ⟨fun _ => (by repeat (first | assumption | exact Ext.refl _ | refine Ext.alloc ?_ _ | refine Ext.drew ?_ | refine Ext.setB ?_ (by first | omega | (simp only [size_alloc, size_setB, size_drew]; omega)) _ | exact Ext.trans (by assumption) (by assumption) | refine Ext.trans ?_ (by assumption))), ?_⟩
                              have hz26 := hE26.1
                              try simp only [size_alloc, size_setB, size_drew] at hz26
                              refine WH_nil ?_
                              refine F_q (i := 8) rfl (by kernel_rfl) ?_
                              refine WH_p (PS_b277_02 rfl hsbl rfl) rfl ?_
                              rw [show ((s26.1, s26.2.1, s26.2.2) : SV) = s26 from rfl]
                              have hsz26 : (encL ⟨f.self, (none, 0, 0), s26⟩).toArray.size = 22 := by simpa using encL_len2 (x := ⟨f.self, (none, 0, 0), s26⟩) hsbl
                              have hone26 := one_L2 ⟨f.self, (none, 0, 0), s26⟩
                              refine WH_nil ?_
                              refine F_fork1B (i := 10) (by kernel_rfl) rfl ?_
                              · refine WH_allocG Hvac.zeroValue277 ?_
                                intro b14 v14 hg14 hE14 hH14 hl14
                                try simp only [size_alloc, size_setB, size_drew] at hg14
                                have hzz14 := hE14.1
                                try simp only [size_alloc, size_setB, size_drew] at hzz14
                                replace hH14 : Hb v14 b14 (.cells ((encL ⟨List.replicate 20 0, (none, 0, 0), (none, 0, 0)⟩).toArray) 277 (0, 0)) := hH14
                                refine ⟨fun _ => (by repeat (first | assumption | exact Ext.refl _ | refine Ext.alloc ?_ _ | refine Ext.drew ?_ | refine Ext.setB ?_ (by first | omega | (simp only [size_alloc, size_setB, size_drew]; omega)) _ | exact Ext.trans (by assumption) (by assumption) | refine Ext.trans ?_ (by assumption))), ?_⟩
                                refine WH_nil ?_
                                refine F_q (i := 10) rfl (by kernel_rfl) ?_
                                first | refine WH_storeW Hvac.sizeOf277 rfl (v := .agg _) rfl (Hb.h (by repeat (first | assumption | exact Hb.newY _ _ | refine Hb.alloc ?_ | refine Hb.drew ?_ | refine Hb.ext (by assumption) ?_ | exact Hb.setSameL (by first | omega | (simp only [size_alloc, size_setB, size_drew]; omega)) | exact Hb.setSame (by assumption) | refine Hb.set (by first | omega | (simp only [size_alloc, size_setB, size_drew]; omega)) ?_ ))) rfl (by first | omega | assumption | rfl | decide | exact Nat.le_refl _ | (simp only [size_ic, Value.cells]; omega) | (simp [encWs]; done) | (simp; omega) | simp | exact encYA_sz (by assumption) | exact encYT_sz (by assumption) | exact encYM_sz (by assumption)) (by first | omega | assumption | rfl | decide | exact Nat.le_refl _ | (simp only [size_ic, Value.cells]; omega) | (simp [encWs]; done) | (simp; omega) | simp | exact encYA_sz (by assumption) | exact encYT_sz (by assumption) | exact encYM_sz (by assumption)) (by first | exact oneCell_ic | assumption | exact one_Ws2 _ | exact one_YA2 _ | exact one_YSl2 _ | exact one_YM2 _ | exact one_YT2 _ | exact one_L2 _) (fun h => by cases h) ?_ | refine WH_store Hvac.sizeOf277 rfl (v := .agg _) rfl (Hb.h (by repeat (first | assumption | exact Hb.newY _ _ | refine Hb.alloc ?_ | refine Hb.drew ?_ | refine Hb.ext (by assumption) ?_ | exact Hb.setSameL (by first | omega | (simp only [size_alloc, size_setB, size_drew]; omega)) | exact Hb.setSame (by assumption) | refine Hb.set (by first | omega | (simp only [size_alloc, size_setB, size_drew]; omega)) ?_ ))) (by first | omega | assumption | rfl | decide | exact Nat.le_refl _ | (simp only [size_ic, Value.cells]; omega) | (simp [encWs]; done) | (simp; omega) | simp | exact encYA_sz (by assumption) | exact encYT_sz (by assumption) | exact encYM_sz (by assumption)) (by first | omega | assumption | rfl | decide | exact Nat.le_refl _ | (simp only [size_ic, Value.cells]; omega) | (simp [encWs]; done) | (simp; omega) | simp | exact encYA_sz (by assumption) | exact encYT_sz (by assumption) | exact encYM_sz (by assumption)) (by first | exact oneCell_ic | assumption | exact one_Ws2 _ | exact one_YA2 _ | exact one_YSl2 _ | exact one_YM2 _ | exact one_YT2 _ | exact one_L2 _) (fun h => by cases h) ?_
                                refine WH_nil ?_
                                refine F_end ?_
                                refine thn_normal ?_
                                refine (fun hPD => (match PB.blk hPD (Hb.mk (Hb.h (by repeat (first | assumption | exact Hb.newY _ _ | refine Hb.alloc ?_ | refine Hb.drew ?_ | refine Hb.ext (by assumption) ?_ | exact Hb.setSameL (by first | omega | (simp only [size_alloc, size_setB, size_drew]; omega)) | exact Hb.setSame (by assumption) | refine Hb.set (by first | omega | (simp only [size_alloc, size_setB, size_drew]; omega)) ?_ ))) : Hb _ C (.cells (encYS x).toArray 101 (0, 0))) with | ⟨bD, rD, TD, fzD, hTD, hbD, hPD2⟩ => ⟨b14, s26, bD, rD, TD, fzD, ⟨rfl, rfl, rfl, trivial⟩, (by repeat (first | assumption | exact Ext.refl _ | refine Ext.alloc ?_ _ | refine Ext.drew ?_ | refine Ext.setB ?_ (by first | omega | (simp only [size_alloc, size_setB, size_drew]; omega)) _ | refine Ext.trans ?_ (by assumption))), by omega, Hb.mk (Hb.h (by repeat (first | assumption | exact Hb.newY _ _ | refine Hb.alloc ?_ | refine Hb.drew ?_ | refine Hb.ext (by assumption) ?_ | exact Hb.setSameL (by first | omega | (simp only [size_alloc, size_setB, size_drew]; omega)) | exact Hb.setSame (by assumption) | refine Hb.set (by first | omega | (simp only [size_alloc, size_setB, size_drew]; omega)) ?_ ))), hbD, hTD, hPD2⟩)) (?_ : PB _ s26 (ycut f.mem (l.getD 0 0) (l.getD 1 0))); first | exact PB.kt hN26 (KT.setB (Hb.mk (Hb.h (by repeat (first | assumption | exact Hb.newY _ _ | refine Hb.alloc ?_ | refine Hb.drew ?_ | refine Hb.ext (by assumption) ?_ | exact Hb.setSameL (by first | omega | (simp only [size_alloc, size_setB, size_drew]; omega)) | exact Hb.setSame (by assumption) | refine Hb.set (by first | omega | (simp only [size_alloc, size_setB, size_drew]; omega)) ?_ )))) (by decide)) | exact PB.ext hN26 (by repeat (first | assumption | exact Ext.refl _ | refine Ext.alloc ?_ _ | refine Ext.drew ?_ | refine Ext.setB ?_ (by first | omega | (simp only [size_alloc, size_setB, size_drew]; omega)) _ | refine Ext.trans ?_ (by assumption)))
                            · refine WH_allocG Hvac.zeroValue277 ?_
                              intro b14 v14 hg14 hE14 hH14 hl14
                              try simp only [size_alloc, size_setB, size_drew] at hg14
                              have hzz14 := hE14.1
                              try simp only [size_alloc, size_setB, size_drew] at hzz14
                              replace hH14 : Hb v14 b14 (.cells ((encL ⟨List.replicate 20 0, (none, 0, 0), (none, 0, 0)⟩).toArray) 277 (0, 0)) := hH14
                              refine ⟨fun _ => (by repeat (first | assumption | exact Ext.refl _ | refine Ext.alloc ?_ _ | refine Ext.drew ?_ | refine Ext.setB ?_ (by first | omega | (simp only [size_alloc, size_setB, size_drew]; omega)) _ | exact Ext.trans (by assumption) (by assumption) | refine Ext.trans ?_ (by assumption))), ?_⟩
                              refine WH_nil ?_
                              refine F_q (i := 7) rfl (by kernel_rfl) ?_
                              refine WH_call Hvac.call46 (by rfl) (Ret.mono (yRead_spec _ (OmB.ext hO (by repeat (first | assumption | exact Ext.refl _ | refine Ext.alloc ?_ _ | refine Ext.drew ?_ | refine Ext.setB ?_ (by first | omega | (simp only [size_alloc, size_setB, size_drew]; omega)) _ | exact Ext.trans (by assumption) (by assumption) | refine Ext.trans ?_ (by assumption)))) _ _ _ _ (by first | assumption | exact FrS.ext (by assumption) (by repeat (first | assumption | exact Ext.refl _ | refine Ext.alloc ?_ _ | refine Ext.drew ?_ | refine Ext.setB ?_ (by first | omega | (simp only [size_alloc, size_setB, size_drew]; omega)) _ | exact Ext.trans (by assumption) (by assumption) | refine Ext.trans ?_ (by assumption)))) hP _ _ _ _ (by first | exact NN.nil _ | assumption | exact NN.ext (by assumption) (by repeat (first | assumption | exact Ext.refl _ | refine Ext.alloc ?_ _ | refine Ext.drew ?_ | refine Ext.setB ?_ (by first | omega | (simp only [size_alloc, size_setB, size_drew]; omega)) _ | exact Ext.trans (by assumption) (by assumption) | refine Ext.trans ?_ (by assumption)))) (by first | assumption | omega | (rw [sz_zero]; omega)) _ _ _ _ (by first | exact NN.nil _ | assumption | exact NN.ext (by assumption) (by repeat (first | assumption | exact Ext.refl _ | refine Ext.alloc ?_ _ | refine Ext.drew ?_ | refine Ext.setB ?_ (by first | omega | (simp only [size_alloc, size_setB, size_drew]; omega)) _ | exact Ext.trans (by assumption) (by assumption) | refine Ext.trans ?_ (by assumption)))) (by first | assumption | omega | (rw [sz_zero]; omega)) (by omega)) ?_)
                              rintro _ w26 ⟨hE26, s26, rfl, hN26⟩
                              refine ⟨fun _ => (by repeat (first | assumption | exact Ext.refl _ | refine Ext.alloc ?_ _ | refine Ext.drew ?_ | refine Ext.setB ?_ (by first | omega | (simp only [size_alloc, size_setB, size_drew]; omega)) _ | exact Ext.trans (by assumption) (by assumption) | refine Ext.trans ?_ (by assumption))), ?_⟩
                              have hz26 := hE26.1
                              try simp only [size_alloc, size_setB, size_drew] at hz26
                              refine WH_nil ?_
                              refine F_q (i := 8) rfl (by kernel_rfl) ?_
                              refine WH_p (PS_b277_02 rfl hsbl rfl) rfl ?_
                              rw [show ((s26.1, s26.2.1, s26.2.2) : SV) = s26 from rfl]
                              have hsz26 : (encL ⟨f.self, (none, 0, 0), s26⟩).toArray.size = 22 := by simpa using encL_len2 (x := ⟨f.self, (none, 0, 0), s26⟩) hsbl
                              have hone26 := one_L2 ⟨f.self, (none, 0, 0), s26⟩
                              refine WH_nil ?_
                              refine F_q (i := 10) rfl (by kernel_rfl) ?_
                              first | refine WH_storeW Hvac.sizeOf277 rfl (v := .agg _) rfl (Hb.h (by repeat (first | assumption | exact Hb.newY _ _ | refine Hb.alloc ?_ | refine Hb.drew ?_ | refine Hb.ext (by assumption) ?_ | exact Hb.setSameL (by first | omega | (simp only [size_alloc, size_setB, size_drew]; omega)) | exact Hb.setSame (by assumption) | refine Hb.set (by first | omega | (simp only [size_alloc, size_setB, size_drew]; omega)) ?_ ))) rfl (by first | omega | assumption | rfl | decide | exact Nat.le_refl _ | (simp only [size_ic, Value.cells]; omega) | (simp [encWs]; done) | (simp; omega) | simp | exact encYA_sz (by assumption) | exact encYT_sz (by assumption) | exact encYM_sz (by assumption)) (by first | omega | assumption | rfl | decide | exact Nat.le_refl _ | (simp only [size_ic, Value.cells]; omega) | (simp [encWs]; done) | (simp; omega) | simp | exact encYA_sz (by assumption) | exact encYT_sz (by assumption) | exact encYM_sz (by assumption)) (by first | exact oneCell_ic | assumption | exact one_Ws2 _ | exact one_YA2 _ | exact one_YSl2 _ | exact one_YM2 _ | exact one_YT2 _ | exact one_L2 _) (fun h => by cases h) ?_ | refine WH_store Hvac.sizeOf277 rfl (v := .agg _) rfl (Hb.h (by repeat (first | assumption | exact Hb.newY _ _ | refine Hb.alloc ?_ | refine Hb.drew ?_ | refine Hb.ext (by assumption) ?_ | exact Hb.setSameL (by first | omega | (simp only [size_alloc, size_setB, size_drew]; omega)) | exact Hb.setSame (by assumption) | refine Hb.set (by first | omega | (simp only [size_alloc, size_setB, size_drew]; omega)) ?_ ))) (by first | omega | assumption | rfl | decide | exact Nat.le_refl _ | (simp only [size_ic, Value.cells]; omega) | (simp [encWs]; done) | (simp; omega) | simp | exact encYA_sz (by assumption) | exact encYT_sz (by assumption) | exact encYM_sz (by assumption)) (by first | omega | assumption | rfl | decide | exact Nat.le_refl _ | (simp only [size_ic, Value.cells]; omega) | (simp [encWs]; done) | (simp; omega) | simp | exact encYA_sz (by assumption) | exact encYT_sz (by assumption) | exact encYM_sz (by assumption)) (by first | exact oneCell_ic | assumption | exact one_Ws2 _ | exact one_YA2 _ | exact one_YSl2 _ | exact one_YM2 _ | exact one_YT2 _ | exact one_L2 _) (fun h => by cases h) ?_
                              refine WH_nil ?_
                              refine F_end ?_
                              refine thn_normal ?_
                              refine (fun hPD => (match PB.blk hPD (Hb.mk (Hb.h (by repeat (first | assumption | exact Hb.newY _ _ | refine Hb.alloc ?_ | refine Hb.drew ?_ | refine Hb.ext (by assumption) ?_ | exact Hb.setSameL (by first | omega | (simp only [size_alloc, size_setB, size_drew]; omega)) | exact Hb.setSame (by assumption) | refine Hb.set (by first | omega | (simp only [size_alloc, size_setB, size_drew]; omega)) ?_ ))) : Hb _ C (.cells (encYS x).toArray 101 (0, 0))) with | ⟨bD, rD, TD, fzD, hTD, hbD, hPD2⟩ => ⟨b14, s26, bD, rD, TD, fzD, ⟨rfl, rfl, rfl, trivial⟩, (by repeat (first | assumption | exact Ext.refl _ | refine Ext.alloc ?_ _ | refine Ext.drew ?_ | refine Ext.setB ?_ (by first | omega | (simp only [size_alloc, size_setB, size_drew]; omega)) _ | refine Ext.trans ?_ (by assumption))), by omega, Hb.mk (Hb.h (by repeat (first | assumption | exact Hb.newY _ _ | refine Hb.alloc ?_ | refine Hb.drew ?_ | refine Hb.ext (by assumption) ?_ | exact Hb.setSameL (by first | omega | (simp only [size_alloc, size_setB, size_drew]; omega)) | exact Hb.setSame (by assumption) | refine Hb.set (by first | omega | (simp only [size_alloc, size_setB, size_drew]; omega)) ?_ ))), hbD, hTD, hPD2⟩)) (?_ : PB _ s26 (ycut f.mem (l.getD 0 0) (l.getD 1 0))); first | exact PB.kt hN26 (KT.setB (Hb.mk (Hb.h (by repeat (first | assumption | exact Hb.newY _ _ | refine Hb.alloc ?_ | refine Hb.drew ?_ | refine Hb.ext (by assumption) ?_ | exact Hb.setSameL (by first | omega | (simp only [size_alloc, size_setB, size_drew]; omega)) | exact Hb.setSame (by assumption) | refine Hb.set (by first | omega | (simp only [size_alloc, size_setB, size_drew]; omega)) ?_ )))) (by decide)) | exact PB.ext hN26 (by repeat (first | assumption | exact Ext.refl _ | refine Ext.alloc ?_ _ | refine Ext.drew ?_ | refine Ext.setB ?_ (by first | omega | (simp only [size_alloc, size_setB, size_drew]; omega)) _ | refine Ext.trans ?_ (by assumption)))
                          · rintro ρ27 w27 ⟨b14, s26, bD, rD, TD, fzD, hFr27, hE27, hg14, hb1427, hbD27, hTD, hPD2⟩
                            refine W_env _ hFr27 ?_
                            have hz27 := hE27.1
                            have hb14l27 := hb1427.lt
                            have hbDl27 := hbD27.lt
                            have hne14 : bD ≠ b14 := fun e => hTD (Hb.type_eq hbD27 (e ▸ hb1427))
                            obtain ⟨Ls, hPL, hRL⟩ := hl
                            have hPLn := hPL.len
                            have hPLc := hPL.cap
                            have hRL1 := hRL.1
                            dsimp only at hPLn hPLc
                            obtain ⟨hlg1, hlg2, hlg3⟩ := hlg (by omega)
                            refine W_seq ?_
                            refine W_seq ?_
                            refine W_region rfl ?_
                            refine WO_p (PS_move_slice rfl) ?_
                            refine WO_p (PS_slS_lG Hvac.runUnderlying119 Hvac.sizeOf92 rfl rfl (by omega) (by omega) (by omega)) ?_
                            obtain ⟨p2, hp2⟩ : ∃ p2 : Option Addr, p2 = (if cp = 2 then p else p.map (fun a => a.add (2 * 1))) := ⟨_, rfl⟩
                            rw [show (if cp = (2:Int).toNat then p else p.map (fun a => a.add ((2:Int).toNat * 1))) = p2 from hp2.symm, show (2:Int).toNat = 2 from rfl]
                            refine WO_p (PS_lenS Hvac.runUnderlying119 rfl) ?_
                            refine WO_p (PS_move_int rfl) ?_
                            refine WO_nil ?_
                            refine thn_normal ?_
                            refine W_block ?_
                            refine W_loopN (fun k9 ρ w' => ∃ (i : Nat) (so : Option (Nat × Nat)) (K : List (List Int)), i + k9 = n - 2 ∧ K.length = i ∧ (∀ W ∈ K, By W 32) ∧ BL encW32 32 28 w [b14, bD] w' so K ∧ Fr [(0, .pointer (some ⟨C, 0, none⟩)), (14, .pointer (some ⟨b14, 0, none⟩)), (150, .slice p2 (n - 2) (cp - 2)), (151, .int .i64 ((n - 2 : Nat) : Int)), (152, .int .i64 i)] ρ ∧ Ext w w' ∧ Hb w' b14 (.cells (encL ⟨f.self, (slp so, K.length, slc so), s26⟩).toArray 277 (0, 0)) ∧ Hb w' bD (.cells rD TD fzD)) (n - 2) ?_ ?_
                            · exact ⟨0, none, [], by omega, rfl, by simp, BL.nil _ _ _ _ _ _, ⟨rfl, rfl, rfl, rfl, rfl, trivial⟩, (by repeat (first | assumption | exact Ext.refl _ | refine Ext.alloc ?_ _ | refine Ext.drew ?_ | refine Ext.setB ?_ (by first | omega | (simp only [size_alloc, size_setB, size_drew]; omega)) _ | refine Ext.trans ?_ (by assumption))), Hb.mk (Hb.h (by repeat (first | assumption | exact Hb.newY _ _ | refine Hb.alloc ?_ | refine Hb.drew ?_ | refine Hb.ext (by assumption) ?_ | exact Hb.setSameL (by first | omega | (simp only [size_alloc, size_setB, size_drew]; omega)) | exact Hb.setSame (by assumption) | refine Hb.set (by first | omega | (simp only [size_alloc, size_setB, size_drew]; omega)) ?_ ))), Hb.mk (Hb.h (by repeat (first | assumption | exact Hb.newY _ _ | refine Hb.alloc ?_ | refine Hb.drew ?_ | refine Hb.ext (by assumption) ?_ | exact Hb.setSameL (by first | omega | (simp only [size_alloc, size_setB, size_drew]; omega)) | exact Hb.setSame (by assumption) | refine Hb.set (by first | omega | (simp only [size_alloc, size_setB, size_drew]; omega)) ?_ )))⟩
                            intro k40 ρ40 w40 hI40
                            obtain ⟨i, so, K, hik, hKi, hKb, hBL, hFr40, hE40, hb14k, hbDk⟩ := hI40
                            refine W_env _ hFr40 ?_
                            have hz40 := hE40.1
                            have hb14k_l := hb14k.lt
                            have hbDk_l := hbDk.lt
                            refine W_seq ?_
                            refine W_region rfl ?_
                            refine WO_p (PS_lss rfl rfl) ?_
                            refine WO_nil ?_
                            refine thn_normal ?_
                            refine W_seq ?_
                            refine W_if rfl (fun hb47 => ?_) (fun hb47 => ?_)
                            · have hb47p := hb47.h; try simp only [al_ete, al_dfn, Bool.not_eq_true', Bool.not_eq_false', al_ne, Bool.not_not, al_nn] at hb47p
                              obtain ⟨a2, y2, ha2, hy2, hay2⟩ := hRL.get (i := 2 + i) (by omega)
                              obtain ⟨bA, rA, fzA, hpA, hbA, hrsA, hXA⟩ := pl_at (hPL.ext hE40) ha2 rfl
                              have hp2b : p2 = some ⟨bA, 0 + 2 * 1, none⟩ := by rw [hp2, if_neg (by omega), hpA]; rfl
                              subst hp2b
                              have hceA : Ce rA (0 + 2 * 1 + (i : Int).toNat * 1) (.slice a2.1 a2.2.1 a2.2.2) := by
                                have h9 := hXA.ce hrsA (k := 0) ⟨rfl⟩ (by decide)
                                rw [show 0 + 2 * 1 + (i : Int).toNat * 1 = 0 + (2 + i) * 1 + 0 by omega]; exact h9
                              have hrsA2 : 0 + 2 * 1 + (i : Int).toNat * 1 < rA.size := by omega
                              have hs2 : sz y2 ≤ 32 := hlz y2 (List.mem_of_getElem? hy2)
                              have hN2 := NN.ext hay2 hE40
                              have htpk : Ce (encL ⟨f.self, (slp so, K.length, slc so), s26⟩).toArray (0 + 20) (.slice (slp so) K.length (slc so)) := encL_1 (x := ⟨f.self, (slp so, K.length, slc so), s26⟩) hsbl
                              have hszl : (encL ⟨f.self, (slp so, K.length, slc so), s26⟩).toArray.size = 22 := by simpa using encL_len2 (x := ⟨f.self, (slp so, K.length, slc so), s26⟩) hsbl
                              have hby2 := be32N_len y2
                              refine W_skip ?_
                              refine thn_normal ?_
                              refine W_seq ?_
                              refine W_block ?_
                              refine W_seq ?_
                              refine W_region rfl ?_
                              refine WO_p (PS_indexS Hvac.runUnderlying119 Hvac.sizeOf92 rfl rfl (by omega) (by omega)) ?_
                              refine WO_load (.slice _ _ _) Hvac.isAgg92 rfl (Hb.h (by repeat (first | assumption | exact Hb.newY _ _ | refine Hb.alloc ?_ | refine Hb.drew ?_ | refine Hb.ext (by assumption) ?_ | exact Hb.setSameL (by first | omega | (simp only [size_alloc, size_setB, size_drew]; omega)) | exact Hb.setSame (by assumption) | refine Hb.set (by first | omega | (simp only [size_alloc, size_setB, size_drew]; omega)) ?_ ))) (Ce.h (by first | assumption | exact ⟨rfl⟩)) ?_
                              refine WO_p (PS_assign_slice rfl) ?_
                              refine WO_nil ?_
                              refine thn_normal ?_
                              refine W_drawE [false, false, false, true, true, false, false, false] hmix (by kernel_rfl) rfl ?_
                              refine WH_p (PS_fieldAddr 20 Hvac.runUnderlying277 rfl Hvac.sizeOf29 rfl rfl) rfl ?_
                              refine WH_load (.slice _ _ _) Hvac.isAgg29 rfl (Hb.h (by repeat (first | assumption | exact Hb.newY _ _ | refine Hb.alloc ?_ | refine Hb.drew ?_ | refine Hb.ext (by assumption) ?_ | exact Hb.setSameL (by first | omega | (simp only [size_alloc, size_setB, size_drew]; omega)) | exact Hb.setSame (by assumption) | refine Hb.set (by first | omega | (simp only [size_alloc, size_setB, size_drew]; omega)) ?_ ))) (Ce.h (by first | assumption | exact ⟨rfl⟩)) ?_
                              refine WH_p (PS_move_slice rfl) rfl ?_
                              refine WH_call Hvac.call38 (by rfl) (Ret.mono (yWord_spec _ (OmB.ext hO (by repeat (first | assumption | exact Ext.refl _ | refine Ext.alloc ?_ _ | refine Ext.drew ?_ | refine Ext.setB ?_ (by first | omega | (simp only [size_alloc, size_setB, size_drew]; omega)) _ | exact Ext.trans (by assumption) (by assumption) | refine Ext.trans ?_ (by assumption)))) _ _ _ _ (by first | exact NN.nil _ | assumption | exact NN.ext (by assumption) (by repeat (first | assumption | exact Ext.refl _ | refine Ext.alloc ?_ _ | refine Ext.drew ?_ | refine Ext.setB ?_ (by first | omega | (simp only [size_alloc, size_setB, size_drew]; omega)) _ | exact Ext.trans (by assumption) (by assumption) | refine Ext.trans ?_ (by assumption)))) (by first | assumption | omega | (rw [sz_zero]; omega))) ?_)
                              rintro _ w38_47 ⟨hE38_47, rfl⟩
                              refine ⟨fun _ => (by repeat (first | assumption | exact Ext.refl _ | refine Ext.alloc ?_ _ | refine Ext.drew ?_ | refine Ext.setB ?_ (by first | omega | (simp only [size_alloc, size_setB, size_drew]; omega)) _ | exact Ext.trans (by assumption) (by assumption) | refine Ext.trans ?_ (by assumption))), ?_⟩
                              have hz38_47 := hE38_47.1
                              try simp only [size_alloc, size_setB, size_drew] at hz38_47
                              refine WH_buildSlice1 Hvac.runUnderlying29 Hvac.sizeOf28 Hvac.zeroValue28 rfl (by first | omega | assumption | rfl | decide | exact Nat.le_refl _ | (simp only [size_ic, Value.cells]; omega) | (simp [encWs]; done) | (simp; omega) | simp | exact encYA_sz (by assumption) | exact encYT_sz (by assumption) | exact encYM_sz (by assumption)) (by decide) (by decide) (fun _ => (by repeat (first | assumption | exact Ext.refl _ | refine Ext.alloc ?_ _ | refine Ext.drew ?_ | refine Ext.setB ?_ (by first | omega | (simp only [size_alloc, size_setB, size_drew]; omega)) _ | exact Ext.trans (by assumption) (by assumption) | refine Ext.trans ?_ (by assumption)))) ?_
                              refine WH_appB (be32N y2) ap_W32 (BL.ext hBL (by repeat (first | assumption | exact Ext.refl _ | refine Ext.alloc ?_ _ | refine Ext.drew ?_ | refine Ext.setB ?_ (by first | omega | (simp only [size_alloc, size_setB, size_drew]; omega)) _ | exact Ext.trans (by assumption) (by assumption) | refine Ext.trans ?_ (by assumption)))) (by repeat (first | assumption | exact Ext.refl _ | refine Ext.alloc ?_ _ | refine Ext.drew ?_ | refine Ext.setB ?_ (by first | omega | (simp only [size_alloc, size_setB, size_drew]; omega)) _ | exact Ext.trans (by assumption) (by assumption) | refine Ext.trans ?_ (by assumption))) (fm2 (by first | omega | (simp only [size_alloc, size_setB, size_drew]; omega)) (by first | omega | (simp only [size_alloc, size_setB, size_drew]; omega))) (by omega) (by simp [encW32, hby2]) (Hb.mk (Hb.h (by repeat (first | assumption | exact Hb.newY _ _ | refine Hb.alloc ?_ | refine Hb.drew ?_ | refine Hb.ext (by assumption) ?_ | exact Hb.setSameL (by first | omega | (simp only [size_alloc, size_setB, size_drew]; omega)) | exact Hb.setSame (by assumption) | refine Hb.set (by first | omega | (simp only [size_alloc, size_setB, size_drew]; omega)) ?_ )))) rfl rfl ?_
                              intro soA wA hBA hEA hkA hzA
                              try simp only [size_alloc, size_setB, size_drew] at hzA
                              have hb14_A := hkA b14 _ (by simp) (Hb.mk (Hb.h (by repeat (first | assumption | exact Hb.newY _ _ | refine Hb.alloc ?_ | refine Hb.drew ?_ | refine Hb.ext (by assumption) ?_ | exact Hb.setSameL (by first | omega | (simp only [size_alloc, size_setB, size_drew]; omega)) | exact Hb.setSame (by assumption) | refine Hb.set (by first | omega | (simp only [size_alloc, size_setB, size_drew]; omega)) ?_ ))) : Hb _ b14 (.cells (encL ⟨f.self, (slp so, K.length, slc so), s26⟩).toArray 277 (0, 0)))
                              have hbD_A := hkA bD _ (by simp) (Hb.mk (Hb.h (by repeat (first | assumption | exact Hb.newY _ _ | refine Hb.alloc ?_ | refine Hb.drew ?_ | refine Hb.ext (by assumption) ?_ | exact Hb.setSameL (by first | omega | (simp only [size_alloc, size_setB, size_drew]; omega)) | exact Hb.setSame (by assumption) | refine Hb.set (by first | omega | (simp only [size_alloc, size_setB, size_drew]; omega)) ?_ ))) : Hb _ bD (.cells rD TD fzD))
                              have hb14l_A := hb14_A.lt
                              refine ⟨(fun h => by cases h), ?_⟩
                              refine WH_p (PS_fieldAddr 20 Hvac.runUnderlying277 rfl Hvac.sizeOf29 rfl rfl) rfl ?_
                              refine WH_store1 Hvac.sizeOf29 rfl (v := .slice _ _ _) rfl (Hb.h (by repeat (first | assumption | exact Hb.newY _ _ | refine Hb.alloc ?_ | refine Hb.drew ?_ | refine Hb.ext (by assumption) ?_ | exact Hb.setSameL (by first | omega | (simp only [size_alloc, size_setB, size_drew]; omega)) | exact Hb.setSame (by assumption) | refine Hb.set (by first | omega | (simp only [size_alloc, size_setB, size_drew]; omega)) ?_ ))) rfl (by omega) rfl (fun h => by cases h) ?_
                              rw [encL_t2 hsbl]
                              refine WH_nil ?_
                              refine inBlk_normal ?_
                              refine thn_normal ?_
                              refine W_region rfl ?_
                              refine WO_p (PS_add_i64n rfl rfl (by omega) (by omega)) ?_
                              refine WO_p (PS_move_int rfl) ?_
                              refine WO_nil ?_
                              refine thn_normal ?_
                              refine ⟨k40 - 1, by omega, i + 1, soA, K ++ [be32N y2], by omega, by simp; omega, ?_, hBA.set (Or.inl (by simp)) _, ⟨rfl, rfl, rfl, rfl, congrArg (Value.int .i64) (by omega), trivial⟩, Ext.setB hEA (by omega) _, Hb.setSame hb14_A, Hb.set (al_ns hne14) hbD_A⟩
                              intro W hW
                              rcases List.mem_append.1 hW with hW | hW
                              · exact hKb W hW
                              · simp at hW; rw [hW]; exact be32N_by y2
                            · have hb47p := hb47.h; try simp only [al_ete, al_dfn, Bool.not_eq_true', Bool.not_eq_false', al_ne, Bool.not_not, al_nn] at hb47p
                              have hLg40 : LgR w40 ⟨f.self, (slp so, K.length, slc so), s26⟩ := ⟨hFR.sb, ⟨K, hBL.pl hO, by omega, hKb⟩, ⟨(ycut f.mem (l.getD 0 0) (l.getD 1 0)), hPD2 w40 hbDk, by rw [ycut_len]; omega⟩⟩
                              have hszl : (encL ⟨f.self, (slp so, K.length, slc so), s26⟩).toArray.size = 22 := by simpa using encL_len2 (x := ⟨f.self, (slp so, K.length, slc so), s26⟩) hsbl
                              have honel := one_L2 ⟨f.self, (slp so, K.length, slc so), s26⟩
                              have hlgb := hB.now.lg
                              refine W_exit ?_
                              refine thn_exit ?_
                              refine thn_exit ?_
                              refine inBlk_exit ?_
                              refine thn_normal ?_
                              refine W_drawE [false, false, false, false, false, false, false, true, false, false, false, false, false] hmix (by kernel_rfl) rfl ?_
                              refine WH_p (PS_move_ptr rfl) rfl ?_
                              refine WH_p (PS_move_ptr rfl) rfl ?_
                              refine WH_p (PS_nilCheck rfl) rfl ?_
                              refine WH_p (PS_fieldAddr 0 Hvac.runUnderlying99 rfl Hvac.sizeOf95 rfl rfl) rfl ?_
                              refine WH_p (PS_fieldAddr 4 Hvac.runUnderlying95 rfl Hvac.sizeOf76 rfl rfl) rfl ?_
                              refine WH_load (.slice _ _ _) Hvac.isAgg76 rfl (Hb.h (by repeat (first | assumption | exact Hb.newY _ _ | refine Hb.alloc ?_ | refine Hb.drew ?_ | refine Hb.ext (by assumption) ?_ | exact Hb.setSameL (by first | omega | (simp only [size_alloc, size_setB, size_drew]; omega)) | exact Hb.setSame (by assumption) | refine Hb.set (by first | omega | (simp only [size_alloc, size_setB, size_drew]; omega)) ?_ ))) (Ce.h (by first | assumption | exact ⟨rfl⟩)) ?_
                              refine WH_loadA _ Hvac.isAgg277 Hvac.sizeOf277 rfl (Hb.h (by repeat (first | assumption | exact Hb.newY _ _ | refine Hb.alloc ?_ | refine Hb.drew ?_ | refine Hb.ext (by assumption) ?_ | exact Hb.setSameL (by first | omega | (simp only [size_alloc, size_setB, size_drew]; omega)) | exact Hb.setSame (by assumption) | refine Hb.set (by first | omega | (simp only [size_alloc, size_setB, size_drew]; omega)) ?_ ))) (by first | omega | assumption | rfl | decide | exact Nat.le_refl _ | (simp only [size_ic, Value.cells]; omega) | (simp [encWs]; done) | (simp; omega) | simp | exact encYA_sz (by assumption) | exact encYT_sz (by assumption) | exact encYM_sz (by assumption)) (Xt.h (by first | assumption | exact Xt.whole rfl rfl | exact Xt.whole rfl (by assumption) | exact Xt.whole rfl (by simp only [size_ic, Value.cells]; omega) | exact ⟨rfl⟩)) ?_
                              refine WH_buildSlice1 Hvac.runUnderlying76 Hvac.sizeOf277 Hvac.zeroValue277 rfl (by first | omega | assumption | rfl | decide | exact Nat.le_refl _ | (simp only [size_ic, Value.cells]; omega) | (simp [encWs]; done) | (simp; omega) | simp | exact encYA_sz (by assumption) | exact encYT_sz (by assumption) | exact encYM_sz (by assumption)) (by decide) (by decide) (fun _ => (by repeat (first | assumption | exact Ext.refl _ | refine Ext.alloc ?_ _ | refine Ext.drew ?_ | refine Ext.setB ?_ (by first | omega | (simp only [size_alloc, size_setB, size_drew]; omega)) _ | exact Ext.trans (by assumption) (by assumption) | refine Ext.trans ?_ (by assumption)))) ?_
                              refine WH_appL ⟨f.self, (slp so, K.length, slc so), s26⟩ (LgsN.ext hX.ss.rel.now.logs (by repeat (first | assumption | exact Ext.refl _ | refine Ext.alloc ?_ _ | refine Ext.drew ?_ | refine Ext.setB ?_ (by first | omega | (simp only [size_alloc, size_setB, size_drew]; omega)) _ | exact Ext.trans (by assumption) (by assumption) | refine Ext.trans ?_ (by assumption)))) hX.yl (OmB.ext hO (by repeat (first | assumption | exact Ext.refl _ | refine Ext.alloc ?_ _ | refine Ext.drew ?_ | refine Ext.setB ?_ (by first | omega | (simp only [size_alloc, size_setB, size_drew]; omega)) _ | exact Ext.trans (by assumption) (by assumption) | refine Ext.trans ?_ (by assumption)))) hX.sub (LgR.ext hLg40 (by repeat (first | assumption | exact Ext.refl _ | refine Ext.alloc ?_ _ | refine Ext.drew ?_ | refine Ext.setB ?_ (by first | omega | (simp only [size_alloc, size_setB, size_drew]; omega)) _ | exact Ext.trans (by assumption) (by assumption) | refine Ext.trans ?_ (by assumption)))) (Hb.mk (Hb.h (by repeat (first | assumption | exact Hb.newY _ _ | refine Hb.alloc ?_ | refine Hb.drew ?_ | refine Hb.ext (by assumption) ?_ | exact Hb.setSameL (by first | omega | (simp only [size_alloc, size_setB, size_drew]; omega)) | exact Hb.setSame (by assumption) | refine Hb.set (by first | omega | (simp only [size_alloc, size_setB, size_drew]; omega)) ?_ )))) (by omega) rfl rfl ?_
                              intro s9 w9 hA9
                              have hC9 : Hb w9 C (.cells (encYS x).toArray 101 (0, 0)) := LApp.kt hA9 101 (by decide) _ _ _ (Hb.mk (Hb.h (by repeat (first | assumption | exact Hb.newY _ _ | refine Hb.alloc ?_ | refine Hb.drew ?_ | refine Hb.ext (by assumption) ?_ | exact Hb.setSameL (by first | omega | (simp only [size_alloc, size_setB, size_drew]; omega)) | exact Hb.setSame (by assumption) | refine Hb.set (by first | omega | (simp only [size_alloc, size_setB, size_drew]; omega)) ?_ ))))
                              have hCl9 := hC9.lt
                              refine ⟨(fun h => by cases h), ?_⟩
                              refine WH_p (PS_nilCheck rfl) rfl ?_
                              refine WH_p (PS_fieldAddr 0 Hvac.runUnderlying99 rfl Hvac.sizeOf95 rfl rfl) rfl ?_
                              refine WH_p (PS_fieldAddr 4 Hvac.runUnderlying95 rfl Hvac.sizeOf76 rfl rfl) rfl ?_
                              refine WH_store1 Hvac.sizeOf76 rfl (v := (.slice _ _ _)) rfl (Hb.h (by repeat (first | assumption | exact Hb.newY _ _ | refine Hb.alloc ?_ | refine Hb.drew ?_ | refine Hb.ext (by assumption) ?_ | exact Hb.setSameL (by first | omega | (simp only [size_alloc, size_setB, size_drew]; omega)) | exact Hb.setSame (by assumption) | refine Hb.set (by first | omega | (simp only [size_alloc, size_setB, size_drew]; omega)) ?_ ))) rfl (by first | omega | assumption | rfl | decide | exact Nat.le_refl _ | (simp only [size_ic, Value.cells]; omega) | (simp [encWs]; done) | (simp; omega) | simp | exact encYA_sz (by assumption) | exact encYT_sz (by assumption) | exact encYM_sz (by assumption)) rfl (fun h => by cases h) ?_
                              refine WH_nil ?_
                              refine inBlk_normal ?_
                              refine thn_normal ?_
                              refine ⟨by omega, ?_⟩; have e9 : yeff y f o l = (ysLog y, f) := (by unfold yeff; repeat (first | rw [if_pos (by omega)] | rw [if_neg (by omega)])); rw [e9]; exact YRetF.pre (Ext.keepO (by repeat (first | assumption | exact Ext.refl _ | refine Ext.alloc ?_ _ | refine Ext.drew ?_ | refine Ext.setB ?_ (by first | omega | (simp only [size_alloc, size_setB, size_drew]; omega)) _ | refine Ext.trans ?_ (by assumption))) _) (YX.lapp rfl (hX.ext (by repeat (first | assumption | exact Ext.refl _ | refine Ext.alloc ?_ _ | refine Ext.drew ?_ | refine Ext.setB ?_ (by first | omega | (simp only [size_alloc, size_setB, size_drew]; omega)) _ | refine Ext.trans ?_ (by assumption)))) hA9 (encYS_4 _ s9))
                        · have hb43p := hb43.h; try simp only [al_ete, al_dfn, Bool.not_eq_true', Bool.not_eq_false', al_ne, Bool.not_not, al_nn] at hb43p
                          refine W_skip ?_
                          refine inBlk_normal ?_
                          refine thn_normal ?_
                          refine ⟨by omega, ?_⟩; have e9 : yeff y f o l = (y, f) := (by unfold yeff; repeat (first | rw [if_pos (by omega)] | rw [if_neg (by omega)])); rw [e9]; exact YX.retF (hX.ext (by repeat (first | assumption | exact Ext.refl _ | refine Ext.alloc ?_ _ | refine Ext.drew ?_ | refine Ext.setB ?_ (by first | omega | (simp only [size_alloc, size_setB, size_drew]; omega)) _ | refine Ext.trans ?_ (by assumption)))) (Ext.keepO (by repeat (first | assumption | exact Ext.refl _ | refine Ext.alloc ?_ _ | refine Ext.drew ?_ | refine Ext.setB ?_ (by first | omega | (simp only [size_alloc, size_setB, size_drew]; omega)) _ | refine Ext.trans ?_ (by assumption))) _) rfl
                      · have hb41p := hb41.h; try simp only [al_ete, al_dfn, Bool.not_eq_true', Bool.not_eq_false', al_ne, Bool.not_not, al_nn] at hb41p
                        refine WO_guardF rfl rfl hb41.h ?_
                        refine WO_guardF rfl rfl hb41.h ?_
                        refine WO_p (PS_pickF rfl hb41.h rfl) ?_
                        refine WO_p (PS_assign_bool rfl) ?_
                        refine WO_nil ?_
                        refine thn_normal ?_
                        refine W_condF rfl rfl ?_
                        refine W_skip ?_
                        refine inBlk_normal ?_
                        refine thn_normal ?_
                        refine ⟨by omega, ?_⟩; have e9 : yeff y f o l = (y, f) := (by unfold yeff; repeat (first | rw [if_pos (by omega)] | rw [if_neg (by omega)])); rw [e9]; exact YX.retF (hX.ext (by repeat (first | assumption | exact Ext.refl _ | refine Ext.alloc ?_ _ | refine Ext.drew ?_ | refine Ext.setB ?_ (by first | omega | (simp only [size_alloc, size_setB, size_drew]; omega)) _ | refine Ext.trans ?_ (by assumption)))) (Ext.keepO (by repeat (first | assumption | exact Ext.refl _ | refine Ext.alloc ?_ _ | refine Ext.drew ?_ | refine Ext.setB ?_ (by first | omega | (simp only [size_alloc, size_setB, size_drew]; omega)) _ | refine Ext.trans ?_ (by assumption))) _) rfl
  · rintro ρ33 w33 ⟨hne85, hY33⟩
    refine W_seq ?_
    skip
    refine W_region rfl ?_
    refine WO_p (PS_assign_bool rfl) ?_
    refine WO_nil ?_
    refine thn_normal ?_
    refine W_ret ?_
    refine bodyQ_ret1 Hvac.results127 rfl (.bool _) rfl ?_
    exact ⟨congrArg Value.bool (al_et (fun h9 => absurd h9 hne85)).symm, fun _ => hY33, fun h9 => absurd (fun h8 => absurd h8 hne85) h9⟩

end Go.Proofs.YgvacwGreat
