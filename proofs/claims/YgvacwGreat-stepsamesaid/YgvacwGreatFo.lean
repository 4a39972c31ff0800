import Derived.Test.YgvacwGreatFn
import Derived.Test.YgvacwGreatXg
import Derived.Test.YgvacwGreatIi
import Derived.Test.YgvacwGreatIg
namespace Go.Proofs.YgvacwGreat
set_option linter.unusedSimpArgs false
set_option linter.unusedVariables false
theorem rdH_new {w : World} {b n cp : Nat} {L : List Int} {fz : Nat × Nat} (h : Hb w b (.cells (ic .u8 L) 28 fz)) : rdH w (some ⟨b, 0, none⟩, n, cp) = chunk L n := by
  unfold rdH rdC chunk
  dsimp only
  rw [h.h]
  dsimp only
  have e : (ic .u8 L).toList.map byteOf = L := by simp [ic, List.map_map, al_cd, byteOf]
  rw [e]
/-- the two chains before a transaction -/
structure RelN (w : World) (v : V) (m : Mc) (y : PSt) : Prop where
  vr : VR (rdB w) v.sx y.now
  og : ∀ A K, Wd K → wn (lkS v.accts v.slots A K).2.1 = yload y.now.accts A (wn K)
  ph : m.phase = 0 ∧ y.phase = 0
  ap : m.applied = 0 ∧ y.applied = 0
  ecb : m.ecb = y.env.cb
  enum : m.enum = y.env.num
  etime : m.etime = y.env.timeY
  eglim : m.eglim = y.env.glim
  erand : m.erand = y.env.rand
  ecid : m.ecid = y.env.cid
  ebfee : m.ebfee = y.env.bfee
  hs : rdH w m.ehash = y.hashes
  buf : m.buf = (none, 0, 0)
  st : ∀ A k, ytl (ystart y.now.accts) A k = yload y.now.accts A k
theorem ytl_start : ∀ {l : List PA}, l.Pairwise (fun a b => a.addr ≠ b.addr) → ∀ A k, ytl (ystart l) A k = yload l A k
  | [], _, A, k => rfl
  | a :: l, h, A, k => by
    have h1 := List.pairwise_cons.1 h
    have ih := ytl_start h1.2 A k
    unfold ytl yload yacct yslot at ih ⊢
    unfold ystart at ih ⊢
    rw [List.flatMap_cons, List.find?_append, List.find?_cons]
    by_cases ha : a.addr = A
    · simp only [ha, al_dt]
      have e1 : (ystartS a).find? (fun t => decide (t.1 = A ∧ t.2.1 = k)) = (a.slots.find? (fun x => decide (x.1 = k))).map (fun s => (a.addr, s.1, s.2)) := by
        unfold ystartS
        rw [List.find?_map]
        congr 1
        apply find?_congr'
        intro x _
        simp [ha]
      rw [e1]
      cases hs : a.slots.find? (fun x => decide (x.1 = k)) with
      | some s => simp
      | none =>
        have e2 : (l.flatMap ystartS).find? (fun t => decide (t.1 = A ∧ t.2.1 = k)) = none := by
          rw [List.find?_eq_none]
          intro q hq
          obtain ⟨b, hb, hq2⟩ := List.mem_flatMap.1 hq
          unfold ystartS at hq2
          obtain ⟨s, _, rfl⟩ := List.mem_map.1 hq2
          simp only [al_ete]
          intro hh
          exact h1.1 b hb (ha.trans hh.1.symm)
        rw [e2]; simp only [Option.map_none, Option.or_none, Option.none_or, hs]
    · have e1 : (ystartS a).find? (fun t => decide (t.1 = A ∧ t.2.1 = k)) = none := by
        rw [List.find?_eq_none]
        intro q hq
        unfold ystartS at hq
        obtain ⟨s, _, rfl⟩ := List.mem_map.1 hq
        simp [ha]
      rw [e1]
      simp only [ha, al_df]
      exact ih
theorem wok_pw {l : List Ac} (h : wok l = true) : (l.map yacP).Pairwise (fun a b => a.addr ≠ b.addr) := by
  rw [List.pairwise_map, List.pairwise_iff_getElem]
  intro i j hi hj hij
  exact wok_addr h (List.getElem?_eq_getElem hi) (List.getElem?_eq_getElem hj) hij
theorem RelN.newY {w : World} {v : V} {l : List Ac} {e : Ev} {hs sh : SV} {na ns : Nat} {S : Int} (hF : FilV v na ns S) (hX : FX (rdB w) v (l.map yacP)) (hh : rdH w hs = chunk e.hl e.hash.2.1) (hwk : wok l = true) : RelN w v (M0 e hs) (ypN (l.map yacP) { e with hash := sh } (chunk e.hl e.hash.2.1)) := by
  obtain ⟨h1, h2⟩ := hF.vr hX
  exact ⟨h1, h2, ⟨rfl, rfl⟩, ⟨rfl, rfl⟩, rfl, rfl, rfl, rfl, rfl, rfl, rfl, hh, rfl, ytl_start (wok_pw hwk)⟩

set_option maxRecDepth 10000 in
set_option maxHeartbeats 4000000 in
theorem newM_ex (C : Nat) (e : Ev) (w : World) (hev : EvOK w e) (h4 : e.hash.2.1 ≤ 4) : Ret Hvac.prog 54 #[.pointer (some ⟨C, 2435, none⟩), .agg (encEv e).toArray] w fun u w' => ∃ b mc hs, u = .pointer (some ⟨b, 0, none⟩) ∧ Ext w w' ∧ Hb w' b (.cells mc 70 (0, 0)) ∧ MZ mc C e hs ∧ hs.2.1 ≤ 4 ∧ HS w' hs ∧ rdH w' hs = chunk e.hl e.hash.2.1 := by
  have hel := encEv_len hev
  have hel2 : (encEv e).toArray.size = 120 := by simpa using hel
  have hxe : Xt (encEv e).toArray 0 (0 + 120) (encEv e).toArray := Xt.whole rfl hel2
  have hce := encEv_hash hev
  have hZ0 := mz0_ok (C := C) hev
  have hz0 := hZ0.sz
  generalize hmc : mz0 Hvac.zeroCells70 C e = mc0 at hZ0 hz0
  have hZ1 := hZ0.set hev (none, 0, 0)
  have hz1 := hZ1.sz
  refine Ret_of_W Hvac.func54 rfl rfl ?_
  refine W_seq ?_
  refine W_region rfl ?_
  refine WO_boxG (.agg _) rfl ?_
  intro b3 v3 hg3 hE3 hH3 hl3
  try simp only [size_alloc, size_setB, size_drew] at hg3
  have hzz3 := hE3.1
  try simp only [size_alloc, size_setB, size_drew] at hzz3
  refine WO_p (PS_assign_ptr rfl) ?_
  refine WO_nil ?_
  refine thn_normal ?_
  refine W_seq ?_
  refine W_region rfl ?_
  refine WO_p (PS_move_ptr rfl) ?_
  refine WO_loadA _ Hvac.isAgg31 Hvac.sizeOf31 rfl (Hb.h (by repeat (first | assumption | exact Hb.newY _ _ | refine Hb.alloc ?_ | refine Hb.drew ?_ | refine Hb.ext (by assumption) ?_ | exact Hb.setSameL (by first | omega | (simp only [size_alloc, size_setB, size_drew]; omega)) | exact Hb.setSame (by assumption) | refine Hb.set (by first | omega | (simp only [size_alloc, size_setB, size_drew]; omega)) ?_ ))) (by first | omega | assumption | rfl | decide | exact Nat.le_refl _ | (simp only [size_ic, Value.cells]; omega) | simp) (Xt.h (by first | assumption | exact Xt.whole rfl rfl | exact Xt.whole rfl (by simp only [size_ic, Value.cells]; omega) | exact ⟨rfl⟩)) ?_
  refine WO_p (PS_b69 (C := C) (e := e) rfl rfl hev) ?_
  rw [hmc]
  refine WO_boxG (.agg _) rfl ?_
  intro b9 v9 hg9 hE9 hH9 hl9
  try simp only [size_alloc, size_setB, size_drew] at hg9
  have hzz9 := hE9.1
  try simp only [size_alloc, size_setB, size_drew] at hzz9
  refine WO_p (PS_assign_ptr rfl) ?_
  refine WO_nil ?_
  refine thn_normal ?_
  refine W_seq ?_
  replace hH9 : Hb v9 b9 (.cells mc0 70 (0, 0)) := hH9
  refine W_region rfl ?_
  refine WO_p (PS_move_ptr rfl) ?_
  refine WO_p (PS_nilCheck rfl) ?_
  refine WO_p (PS_fieldAddr 2260 Hvac.runUnderlying70 rfl Hvac.sizeOf31 rfl rfl) ?_
  refine WO_p (PS_fieldAddr 119 Hvac.runUnderlying31 rfl Hvac.sizeOf29 rfl rfl) ?_
  refine WO_store1 Hvac.sizeOf29 rfl (v := .slice _ _ _) rfl (Hb.h (by repeat (first | assumption | exact Hb.newY _ _ | refine Hb.alloc ?_ | refine Hb.drew ?_ | refine Hb.ext (by assumption) ?_ | exact Hb.setSameL (by first | omega | (simp only [size_alloc, size_setB, size_drew]; omega)) | exact Hb.setSame (by assumption) | refine Hb.set (by first | omega | (simp only [size_alloc, size_setB, size_drew]; omega)) ?_ ))) rfl (by show 0 + 2260 + 119 < mc0.size; omega) rfl ?_
  refine WO_nil ?_
  refine thn_normal ?_
  refine W_seq ?_
  refine W_seq ?_
  refine W_region rfl ?_
  refine WO_p (PS_fieldAddr 119 Hvac.runUnderlying31 rfl Hvac.sizeOf29 rfl rfl) ?_
  refine WO_load (.slice _ _ _) Hvac.isAgg29 rfl (Hb.h (by repeat (first | assumption | exact Hb.newY _ _ | refine Hb.alloc ?_ | refine Hb.drew ?_ | refine Hb.ext (by assumption) ?_ | exact Hb.setSameL (by first | omega | (simp only [size_alloc, size_setB, size_drew]; omega)) | exact Hb.setSame (by assumption) | refine Hb.set (by first | omega | (simp only [size_alloc, size_setB, size_drew]; omega)) ?_ ))) (Ce.h (by first | assumption | exact ⟨rfl⟩)) ?_
  refine WO_p (PS_lenS Hvac.runUnderlying29 rfl) ?_
  refine WO_p (PS_gtr rfl rfl) ?_
  refine WO_nil ?_
  refine thn_normal ?_
  refine W_if rfl (fun hb2 => ?_) (fun hb2 => ?_)
  · have hb2p := hb2.h; try simp only [al_ete, al_dfn, Bool.not_eq_true', Bool.not_eq_false', al_ne, Bool.not_not, al_nn] at hb2p
    have hn0 : 0 < e.hash.2.1 := by omega
    obtain ⟨bh, oh, rh, Th, fzh, hph, hbh, hoh, hxh⟩ := hev.ha.row hn0
    have hll := hev.ha.len
    have hbhl := hbh.lt
    refine W_seq ?_
    refine W_region rfl ?_
    refine WO_p (PS_move_ptr rfl) ?_
    refine WO_p (PS_fieldAddr 119 Hvac.runUnderlying31 rfl Hvac.sizeOf29 rfl rfl) ?_
    refine WO_load (.slice _ _ _) Hvac.isAgg29 rfl (Hb.h (by repeat (first | assumption | exact Hb.newY _ _ | refine Hb.alloc ?_ | refine Hb.drew ?_ | refine Hb.ext (by assumption) ?_ | exact Hb.setSameL (by first | omega | (simp only [size_alloc, size_setB, size_drew]; omega)) | exact Hb.setSame (by assumption) | refine Hb.set (by first | omega | (simp only [size_alloc, size_setB, size_drew]; omega)) ?_ ))) (Ce.h (by first | assumption | exact ⟨rfl⟩)) ?_
    refine WO_p (PS_lenS Hvac.runUnderlying29 rfl) ?_
    refine WO_make (z := .agg (List.replicate 32 (Value.int .u8 0)).toArray) Hvac.underlying29 info28 rfl rfl rfl (by omega) (by omega) (by show (32:Int) * _ ≤ _; omega) (by omega) ?_
    rw [show ((e.hash.2.1:Int)).toNat = e.hash.2.1 from Int.toNat_natCast _, show Hvac.t28.size = 32 from rfl, made_W]
    apply WO_gen3; intro w22 hw22
    have hb22 : Hb w22 (setB v9 b9 (.cells (mc0.setIfInBounds (0 + 2260 + 119) (.slice none 0 0)) 70 (0, 0))).heap.size (.cells (ic .u8 (List.replicate (e.hash.2.1 * 32) 0)) 28 (0, 0)) := by rw [hw22]; exact Hb.newY _ _
    have hE22 : Ext w w22 := by rw [hw22]; exact (by repeat (first | assumption | exact Ext.refl _ | refine Ext.alloc ?_ _ | refine Ext.drew ?_ | refine Ext.setB ?_ (by first | omega | (simp only [size_alloc, size_setB, size_drew]; omega)) _ | exact Ext.trans (by assumption) (by assumption) | refine Ext.trans ?_ (by assumption)))
    have hb9x : Hb w22 b9 (.cells (mc0.setIfInBounds (0 + 2260 + 119) (.slice none 0 0)) 70 (0, 0)) := by rw [hw22]; exact Hb.mk (Hb.h (by repeat (first | assumption | exact Hb.newY _ _ | refine Hb.alloc ?_ | refine Hb.drew ?_ | refine Hb.ext (by assumption) ?_ | exact Hb.setSameL (by first | omega | (simp only [size_alloc, size_setB, size_drew]; omega)) | exact Hb.setSame (by assumption) | refine Hb.set (by first | omega | (simp only [size_alloc, size_setB, size_drew]; omega)) ?_ )))
    have hb3x : Hb w22 b3 (.cells (encEv e).toArray 31 (0, 0)) := by rw [hw22]; exact Hb.mk (Hb.h (by repeat (first | assumption | exact Hb.newY _ _ | refine Hb.alloc ?_ | refine Hb.drew ?_ | refine Hb.ext (by assumption) ?_ | exact Hb.setSameL (by first | omega | (simp only [size_alloc, size_setB, size_drew]; omega)) | exact Hb.setSame (by assumption) | refine Hb.set (by first | omega | (simp only [size_alloc, size_setB, size_drew]; omega)) ?_ )))
    have hlt9 : b9 < (setB v9 b9 (.cells (mc0.setIfInBounds (0 + 2260 + 119) (.slice none 0 0)) 70 (0, 0))).heap.size := by rw [size_setB]; exact hl9
    have hlt3 : b3 < (setB v9 b9 (.cells (mc0.setIfInBounds (0 + 2260 + 119) (.slice none 0 0)) 70 (0, 0))).heap.size := by rw [size_setB]; omega
    have hwl : w.heap.size ≤ (setB v9 b9 (.cells (mc0.setIfInBounds (0 + 2260 + 119) (.slice none 0 0)) 70 (0, 0))).heap.size := by rw [size_setB]; omega
    generalize (setB v9 b9 (.cells (mc0.setIfInBounds (0 + 2260 + 119) (.slice none 0 0)) 70 (0, 0))).heap.size = b22 at *
    clear hw22
    refine WO_p (PS_nilCheck rfl) ?_
    refine WO_p (PS_fieldAddr 2260 Hvac.runUnderlying70 rfl Hvac.sizeOf31 rfl rfl) ?_
    refine WO_p (PS_fieldAddr 119 Hvac.runUnderlying31 rfl Hvac.sizeOf29 rfl rfl) ?_
    refine WO_store1 Hvac.sizeOf29 rfl (v := .slice _ _ _) rfl hb9x.h rfl (by show 0 + 2260 + 119 < (mc0.setIfInBounds (0 + 2260 + 119) (.slice none 0 0)).size; rw [Array.size_setIfInBounds]; omega) rfl ?_
    have hZ2 := hZ1.set hev (some ⟨b22, 0, none⟩, e.hash.2.1, e.hash.2.1)
    have hz2 := hZ2.sz
    apply WO_gen3; intro w23 hw23
    have hb9y : Hb w23 b9 (.cells ((mc0.setIfInBounds (0 + 2260 + 119) (sv (none, 0, 0))).setIfInBounds (0 + 2260 + 119) (sv (some ⟨b22, 0, none⟩, e.hash.2.1, e.hash.2.1))) 70 (0, 0)) := by rw [hw23]; exact Hb.setSame hb9x
    have hb22y : Hb w23 b22 (.cells (ic .u8 (List.replicate (e.hash.2.1 * 32) 0)) 28 (0, 0)) := by rw [hw23]; exact Hb.set (by omega) hb22
    have hb3y : Hb w23 b3 (.cells (encEv e).toArray 31 (0, 0)) := by rw [hw23]; exact Hb.set (by omega) hb3x
    have hE23 : Ext w w23 := by rw [hw23]; exact Ext.setB hE22 (by omega) _
    generalize ((mc0.setIfInBounds (0 + 2260 + 119) (sv (none, 0, 0))).setIfInBounds (0 + 2260 + 119) (sv (some ⟨b22, 0, none⟩, e.hash.2.1, e.hash.2.1))) = mc2 at *
    have hc2 : Ce mc2 (0 + 2260 + 119) (.slice (some ⟨b22, 0, none⟩) e.hash.2.1 e.hash.2.1) := ⟨by rw [show 0 + 2260 + 119 = 2260 + 119 from rfl, hZ2.env 119 (by decide)]; rw [encEv_set hev (none, 0, 0) _ 119, if_pos rfl]; rfl⟩
    have hce2 : Ce (encEv e).toArray (0 + 119) (.slice (some ⟨bh, oh, none⟩) e.hash.2.1 e.hash.2.2) := by rw [hph] at hce; exact hce
    have hbhy := hbh.ext hE23
    clear hw23
    refine WO_nil ?_
    refine thn_normal ?_
    refine W_drawE [false, false, false, false, false, false, false, false] hmix (by kernel_rfl) rfl ?_
    refine WH_p (PS_move_ptr rfl) rfl ?_
    refine WH_p (PS_nilCheck rfl) rfl ?_
    refine WH_p (PS_fieldAddr 2260 Hvac.runUnderlying70 rfl Hvac.sizeOf31 rfl rfl) rfl ?_
    refine WH_p (PS_fieldAddr 119 Hvac.runUnderlying31 rfl Hvac.sizeOf29 rfl rfl) rfl ?_
    refine WH_load (.slice _ _ _) Hvac.isAgg29 rfl (Hb.h (by repeat (first | assumption | exact Hb.newY _ _ | refine Hb.alloc ?_ | refine Hb.drew ?_ | refine Hb.ext (by assumption) ?_ | exact Hb.setSameL (by first | omega | (simp only [size_alloc, size_setB, size_drew]; omega)) | exact Hb.setSame (by assumption) | refine Hb.set (by first | omega | (simp only [size_alloc, size_setB, size_drew]; omega)) ?_ ))) (Ce.h (by first | assumption | exact ⟨rfl⟩)) ?_
    refine WH_p (PS_fieldAddr 119 Hvac.runUnderlying31 rfl Hvac.sizeOf29 rfl rfl) rfl ?_
    refine WH_load (.slice _ _ _) Hvac.isAgg29 rfl (Hb.h (by repeat (first | assumption | exact Hb.newY _ _ | refine Hb.alloc ?_ | refine Hb.drew ?_ | refine Hb.ext (by assumption) ?_ | exact Hb.setSameL (by first | omega | (simp only [size_alloc, size_setB, size_drew]; omega)) | exact Hb.setSame (by assumption) | refine Hb.set (by first | omega | (simp only [size_alloc, size_setB, size_drew]; omega)) ?_ ))) (Ce.h (by first | assumption | exact ⟨rfl⟩)) ?_
    refine WH_copy e.hash.2.1 Hvac.runUnderlying29 Hvac.sizeOf28 rfl rfl (Hb.h (Hb.drew hb22y)) (Hb.h (Hb.drew hbhy)) (Nat.min_self _) (by rw [size_ic, List.length_replicate]; omega) hoh hxh.h oneCell_ic (fun h => by cases h) ?_
    rw [splice_whole rfl (by simp [ic, hll]), show (ic .u8 e.hl).toList.toArray = ic .u8 e.hl from Array.toArray_toList]
    refine WH_nil ?_
    refine thn_normal ?_
    refine W_seq ?_
    refine W_region rfl ?_
    refine WO_p (PS_move_ptr rfl) ?_
    refine WO_p (PS_assign_ptr rfl) ?_
    refine WO_nil ?_
    refine thn_normal ?_
    refine W_ret ?_
    refine bodyQ_ret1 Hvac.results54 rfl (.pointer _) rfl ?_
    first
    | exact ⟨b9, _, (some ⟨b22, 0, none⟩, e.hash.2.1, e.hash.2.1), rfl, (by repeat (first | assumption | exact Ext.refl _ | refine Ext.alloc ?_ _ | refine Ext.drew ?_ | refine Ext.setB ?_ (by first | omega | (simp only [size_alloc, size_setB, size_drew]; omega)) _ | refine Ext.trans ?_ (by assumption))), Hb.mk (Hb.h (by repeat (first | assumption | exact Hb.newY _ _ | refine Hb.alloc ?_ | refine Hb.drew ?_ | refine Hb.ext (by assumption) ?_ | exact Hb.setSameL (by first | omega | (simp only [size_alloc, size_setB, size_drew]; omega)) | exact Hb.setSame (by assumption) | refine Hb.set (by first | omega | (simp only [size_alloc, size_setB, size_drew]; omega)) ?_ ))), hZ2, h4, Or.inr ⟨b22, e.hl, (0, 0), rfl, Hb.setSame (Hb.drew hb22y), hev.ha.by_, by show e.hash.2.1 * 32 ≤ _; omega⟩, rdH_new (Hb.setSame (Hb.drew hb22y))⟩
    | exact ⟨b9, _, (none, 0, 0), rfl, (by repeat (first | assumption | exact Ext.refl _ | refine Ext.alloc ?_ _ | refine Ext.drew ?_ | refine Ext.setB ?_ (by first | omega | (simp only [size_alloc, size_setB, size_drew]; omega)) _ | refine Ext.trans ?_ (by assumption))), Hb.mk (Hb.h (by repeat (first | assumption | exact Hb.newY _ _ | refine Hb.alloc ?_ | refine Hb.drew ?_ | refine Hb.ext (by assumption) ?_ | exact Hb.setSameL (by first | omega | (simp only [size_alloc, size_setB, size_drew]; omega)) | exact Hb.setSame (by assumption) | refine Hb.set (by first | omega | (simp only [size_alloc, size_setB, size_drew]; omega)) ?_ ))), hZ1, Nat.zero_le _, Or.inl ⟨rfl, rfl⟩, (by rw [show e.hash.2.1 = 0 by omega]; rfl)⟩
  · have hb2p := hb2.h; try simp only [al_ete, al_dfn, Bool.not_eq_true', Bool.not_eq_false', al_ne, Bool.not_not, al_nn] at hb2p
    refine W_skip ?_
    refine thn_normal ?_
    refine W_seq ?_
    refine W_region rfl ?_
    refine WO_p (PS_move_ptr rfl) ?_
    refine WO_p (PS_assign_ptr rfl) ?_
    refine WO_nil ?_
    refine thn_normal ?_
    refine W_ret ?_
    refine bodyQ_ret1 Hvac.results54 rfl (.pointer _) rfl ?_
    first
    | exact ⟨b9, _, (some ⟨b22, 0, none⟩, e.hash.2.1, e.hash.2.1), rfl, (by repeat (first | assumption | exact Ext.refl _ | refine Ext.alloc ?_ _ | refine Ext.drew ?_ | refine Ext.setB ?_ (by first | omega | (simp only [size_alloc, size_setB, size_drew]; omega)) _ | refine Ext.trans ?_ (by assumption))), Hb.mk (Hb.h (by repeat (first | assumption | exact Hb.newY _ _ | refine Hb.alloc ?_ | refine Hb.drew ?_ | refine Hb.ext (by assumption) ?_ | exact Hb.setSameL (by first | omega | (simp only [size_alloc, size_setB, size_drew]; omega)) | exact Hb.setSame (by assumption) | refine Hb.set (by first | omega | (simp only [size_alloc, size_setB, size_drew]; omega)) ?_ ))), hZ2, h4, Or.inr ⟨b22, e.hl, (0, 0), rfl, Hb.setSame (Hb.drew hb22y), hev.ha.by_, by show e.hash.2.1 * 32 ≤ _; omega⟩, rdH_new (Hb.setSame (Hb.drew hb22y))⟩
    | exact ⟨b9, _, (none, 0, 0), rfl, (by repeat (first | assumption | exact Ext.refl _ | refine Ext.alloc ?_ _ | refine Ext.drew ?_ | refine Ext.setB ?_ (by first | omega | (simp only [size_alloc, size_setB, size_drew]; omega)) _ | refine Ext.trans ?_ (by assumption))), Hb.mk (Hb.h (by repeat (first | assumption | exact Hb.newY _ _ | refine Hb.alloc ?_ | refine Hb.drew ?_ | refine Hb.ext (by assumption) ?_ | exact Hb.setSameL (by first | omega | (simp only [size_alloc, size_setB, size_drew]; omega)) | exact Hb.setSame (by assumption) | refine Hb.set (by first | omega | (simp only [size_alloc, size_setB, size_drew]; omega)) ?_ ))), hZ1, Nat.zero_le _, Or.inl ⟨rfl, rfl⟩, (by rw [show e.hash.2.1 = 0 by omega]; rfl)⟩

set_option maxRecDepth 10000 in
set_option maxHeartbeats 4000000 in
theorem newE_ex [Om] (s : SV) (l : List Ac) (e : Ev) (w : World) (hin : InW w s l) (hev : EvOK w e) (hom : ∀ b, Om.p b → b < w.heap.size) : Ret Hvac.prog 12 #[.slice s.1 s.2.1 s.2.2, .agg (encEv e).toArray] w fun u w' => Ext w w' ∧ ((u = .tuple #[.pointer none, .bool false] ∧ ¬ (wok l = true ∧ e.hash.2.1 ≤ 4)) ∨ (wok l = true ∧ e.hash.2.1 ≤ 4 ∧ ∃ C c v B hs, u = .tuple #[.pointer (some ⟨C, 0, none⟩), .bool true] ∧ MS w' C c v B (M0 e hs) ∧ hs.2.1 ≤ 4 ∧ FilV v 8 128 (bsum l l.length) ∧ (∀ b, MOwn C B (M0 e hs) b → w.heap.size ≤ b) ∧ FX (rdB w') v (l.map yacP) ∧ rdH w' hs = chunk e.hl e.hash.2.1)) := by
  have hel := encEv_len hev
  have hel2 : (encEv e).toArray.size = 120 := by simpa using hel
  have hxe : Xt (encEv e).toArray 0 (0 + 120) (encEv e).toArray := Xt.whole rfl hel2
  have hce := encEv_hash hev
  refine Ret_of_W Hvac.func12 rfl rfl ?_
  refine W_seq ?_
  refine W_region rfl ?_
  refine WO_boxG (.agg _) rfl ?_
  intro b3 v3 hg3 hE3 hH3 hl3
  try simp only [size_alloc, size_setB, size_drew] at hg3
  have hzz3 := hE3.1
  try simp only [size_alloc, size_setB, size_drew] at hzz3
  refine WO_p (PS_assign_ptr rfl) ?_
  refine WO_p (PS_assign_bool rfl) ?_
  refine WO_nil ?_
  refine thn_normal ?_
  refine W_seq ?_
  refine W_seq ?_
  refine W_region rfl ?_
  refine WO_loadA _ Hvac.isAgg31 Hvac.sizeOf31 rfl (Hb.h (by repeat (first | assumption | exact Hb.newY _ _ | refine Hb.alloc ?_ | refine Hb.drew ?_ | refine Hb.ext (by assumption) ?_ | exact Hb.setSameL (by first | omega | (simp only [size_alloc, size_setB, size_drew]; omega)) | exact Hb.setSame (by assumption) | refine Hb.set (by first | omega | (simp only [size_alloc, size_setB, size_drew]; omega)) ?_ ))) (by first | omega | assumption | rfl | decide | exact Nat.le_refl _ | (simp only [size_ic, Value.cells]; omega) | simp) (Xt.h (by first | assumption | exact Xt.whole rfl rfl | exact Xt.whole rfl (by simp only [size_ic, Value.cells]; omega) | exact ⟨rfl⟩)) ?_
  refine WO_call Hvac.call52 (by rfl) (Ret.mono (envOK_spec e _ (hev.ext (by repeat (first | assumption | exact Ext.refl _ | refine Ext.alloc ?_ _ | refine Ext.drew ?_ | refine Ext.setB ?_ (by first | omega | (simp only [size_alloc, size_setB, size_drew]; omega)) _ | exact Ext.trans (by assumption) (by assumption) | refine Ext.trans ?_ (by assumption))))) ?_)
  rintro _ w18_0 ⟨rfl, hE18_0⟩
  have hz18_0 := hE18_0.1
  try simp only [size_alloc, size_setB, size_drew] at hz18_0
  refine WO_p (PS_not rfl) ?_
  refine WO_nil ?_
  refine thn_normal ?_
  refine W_if rfl (fun hb4 => ?_) (fun hb4 => ?_)
  · have hb4p := hb4.h; try simp only [al_ete, al_dfn, Bool.not_eq_true', Bool.not_eq_false', al_ne, Bool.not_not, al_nn] at hb4p
    have h4 : ¬ e.hash.2.1 ≤ 4 := by simpa using hb4p
    refine W_seq ?_
    refine W_region rfl ?_
    refine WO_p (PS_assign_ptr rfl) ?_
    refine WO_p (PS_assign_bool rfl) ?_
    refine WO_nil ?_
    refine thn_normal ?_
    refine W_ret ?_
    refine thn_ret ?_
    refine bodyQ_ret2 Hvac.results12 rfl rfl (.pointer _) (.bool _) rfl rfl ?_
    first
    | exact ⟨hE7, Or.inr ⟨hwk, h4, b10, _, v5, B5, hs6, rfl, hM7, hl6, hF5, (fun b hb => by
        rcases hb with hb | hb
        · rcases hs5.own b hb with h | h
          · exact hlow b h
          · omega
        · cases hb), hFX7, hrd7⟩⟩
    | exact ⟨(by repeat (first | assumption | exact Ext.refl _ | refine Ext.alloc ?_ _ | refine Ext.drew ?_ | refine Ext.setB ?_ (by first | omega | (simp only [size_alloc, size_setB, size_drew]; omega)) _ | refine Ext.trans ?_ (by assumption))), Or.inl ⟨rfl, fun hh => by rw [hwk] at hh; cases hh.1⟩⟩
    | exact ⟨(by repeat (first | assumption | exact Ext.refl _ | refine Ext.alloc ?_ _ | refine Ext.drew ?_ | refine Ext.setB ?_ (by first | omega | (simp only [size_alloc, size_setB, size_drew]; omega)) _ | refine Ext.trans ?_ (by assumption))), Or.inl ⟨rfl, fun hh => h4 hh.2⟩⟩
  · have hb4p := hb4.h; try simp only [al_ete, al_dfn, Bool.not_eq_true', Bool.not_eq_false', al_ne, Bool.not_not, al_nn] at hb4p
    have h4 : e.hash.2.1 ≤ 4 := by simpa using hb4p
    refine W_skip ?_
    refine thn_normal ?_
    refine W_seq ?_
    refine W_region rfl ?_
    refine WO_allocG Hvac.zeroValue87 ?_
    intro b10 v10 hg10 hE10 hH10 hl10
    try simp only [size_alloc, size_setB, size_drew] at hg10
    have hzz10 := hE10.1
    try simp only [size_alloc, size_setB, size_drew] at hzz10
    replace hH10 : Hb v10 b10 (.cells (Hvac.zeroCells87) 87 (0, 0)) := hH10
    refine WO_p (PS_assign_ptr rfl) ?_
    refine WO_nil ?_
    refine thn_normal ?_
    refine W_seq ?_
    refine W_seq ?_
    have hH3x : Hb v10 b3 (.cells (encEv e).toArray 31 (0, 0)) := Hb.mk (Hb.h (by repeat (first | assumption | exact Hb.newY _ _ | refine Hb.alloc ?_ | refine Hb.drew ?_ | refine Hb.ext (by assumption) ?_ | exact Hb.setSameL (by first | omega | (simp only [size_alloc, size_setB, size_drew]; omega)) | exact Hb.setSame (by assumption) | refine Hb.set (by first | omega | (simp only [size_alloc, size_setB, size_drew]; omega)) ?_ )))
    have hlow : ∀ b, VOwn b10 VB0 b → w.heap.size ≤ b := by
      rintro b (rfl | ⟨_, h⟩ | ⟨_, h⟩ | ⟨_, h⟩ | ⟨_, h⟩ | ⟨_, h⟩ | ⟨_, h⟩) <;> first | omega | cases h
    refine W_region rfl ?_
    refine WO_p (PS_move_ptr rfl) ?_
    refine WO_p (PS_nilCheck rfl) ?_
    refine WO_p (PS_fieldAddr 2435 Hvac.runUnderlying87 rfl Hvac.sizeOf80 rfl rfl) ?_
    refine WO_p (PS_move_slice rfl) ?_
    refine WO_call Hvac.call53 (by rfl) (Ret.mono (fill_ex w b10 Hvac.zeroCells87 V0 VB0 s l _ (by repeat (first | assumption | exact Ext.refl _ | refine Ext.alloc ?_ _ | refine Ext.drew ?_ | refine Ext.setB ?_ (by first | omega | (simp only [size_alloc, size_setB, size_drew]; omega)) _ | exact Ext.trans (by assumption) (by assumption) | refine Ext.trans ?_ (by assumption))) hin (vs_zero (Hb.mk (Hb.h (by repeat (first | assumption | exact Hb.newY _ _ | refine Hb.alloc ?_ | refine Hb.drew ?_ | refine Hb.ext (by assumption) ?_ | exact Hb.setSameL (by first | omega | (simp only [size_alloc, size_setB, size_drew]; omega)) | exact Hb.setSame (by assumption) | refine Hb.set (by first | omega | (simp only [size_alloc, size_setB, size_drew]; omega)) ?_ ))))) zv_zero hlow hom) ?_)
    rintro _ w5 ⟨rfl, hE5, hfl⟩
    have hz5 := hE5.1
    have hH3y := hH3x
    have hvz : VS v10 b10 Hvac.zeroCells87 V0 VB0 none := vs_zero (Hb.mk (Hb.h (by repeat (first | assumption | exact Hb.newY _ _ | refine Hb.alloc ?_ | refine Hb.drew ?_ | refine Hb.ext (by assumption) ?_ | exact Hb.setSameL (by first | omega | (simp only [size_alloc, size_setB, size_drew]; omega)) | exact Hb.setSame (by assumption) | refine Hb.set (by first | omega | (simp only [size_alloc, size_setB, size_drew]; omega)) ?_ ))))
    refine WO_p (PS_not rfl) ?_
    refine WO_nil ?_
    refine thn_normal ?_
    refine W_if rfl (fun hb8 => ?_) (fun hb8 => ?_)
    · have hb8p := hb8.h; try simp only [al_ete, al_dfn, Bool.not_eq_true', Bool.not_eq_false', al_ne, Bool.not_not, al_nn] at hb8p
      have hwk : wok l = false := by simpa using hb8p
      refine W_seq ?_
      refine W_region rfl ?_
      refine WO_p (PS_assign_ptr rfl) ?_
      refine WO_p (PS_assign_bool rfl) ?_
      refine WO_nil ?_
      refine thn_normal ?_
      refine W_ret ?_
      refine thn_ret ?_
      refine bodyQ_ret2 Hvac.results12 rfl rfl (.pointer _) (.bool _) rfl rfl ?_
      first
      | exact ⟨hE7, Or.inr ⟨hwk, h4, b10, _, v5, B5, hs6, rfl, hM7, hl6, hF5, (fun b hb => by
          rcases hb with hb | hb
          · rcases hs5.own b hb with h | h
            · exact hlow b h
            · omega
          · cases hb), hFX7, hrd7⟩⟩
      | exact ⟨(by repeat (first | assumption | exact Ext.refl _ | refine Ext.alloc ?_ _ | refine Ext.drew ?_ | refine Ext.setB ?_ (by first | omega | (simp only [size_alloc, size_setB, size_drew]; omega)) _ | refine Ext.trans ?_ (by assumption))), Or.inl ⟨rfl, fun hh => by rw [hwk] at hh; cases hh.1⟩⟩
      | exact ⟨(by repeat (first | assumption | exact Ext.refl _ | refine Ext.alloc ?_ _ | refine Ext.drew ?_ | refine Ext.setB ?_ (by first | omega | (simp only [size_alloc, size_setB, size_drew]; omega)) _ | refine Ext.trans ?_ (by assumption))), Or.inl ⟨rfl, fun hh => h4 hh.2⟩⟩
    · have hb8p := hb8.h; try simp only [al_ete, al_dfn, Bool.not_eq_true', Bool.not_eq_false', al_ne, Bool.not_not, al_nn] at hb8p
      have hwk : wok l = true := by simpa using hb8p
      refine W_skip ?_
      refine thn_normal ?_
      refine W_seq ?_
      obtain ⟨c5, v5, B5, hv5, hs5, hF5, hFX5⟩ := hfl hwk
      have hb5 := hv5.blk
      have hb3 : Hb w5 b3 (.cells (encEv e).toArray 31 (0, 0)) := hs5.hb hvz hH3y (by decide)
      refine W_drawD [true, true, true, true, true, true, true, true, true, true, true] 6 [0, 1, 2, 3, 4] (KeepO (fun b => b = b10) _) hmix (by kernel_rfl) rfl rfl rfl (KeepO.refl _ _) ?_
      refine D_q (i := 0) rfl ?_
      refine WH_p (PS_move_ptr rfl) rfl ?_
      refine WH_nil ?_
      refine D_q (i := 1) rfl ?_
      refine WH_p (PS_move_ptr rfl) rfl ?_
      refine WH_nil ?_
      refine D_q (i := 2) rfl ?_
      refine WH_p (PS_nilCheck rfl) rfl ?_
      refine WH_nil ?_
      refine D_q (i := 3) rfl ?_
      refine WH_p (PS_fieldAddr 2435 Hvac.runUnderlying87 rfl Hvac.sizeOf80 rfl rfl) rfl ?_
      refine WH_nil ?_
      refine D_q (i := 4) rfl ?_
      refine WH_loadAK _ Hvac.isAgg31 Hvac.sizeOf31 rfl (Hb.h (by repeat (first | assumption | exact Hb.newY _ _ | refine Hb.alloc ?_ | refine Hb.drew ?_ | refine Hb.ext (by assumption) ?_ | exact Hb.setSameL (by first | omega | (simp only [size_alloc, size_setB, size_drew]; omega)) | exact Hb.setSame (by assumption) | refine Hb.set (by first | omega | (simp only [size_alloc, size_setB, size_drew]; omega)) ?_ ))) (by intro h; first | omega | (simp only [size_alloc, size_setB, size_drew] at h; omega)) (by first | omega | assumption | rfl | decide | exact Nat.le_refl _ | (simp only [size_ic, Value.cells]; omega) | simp) (Xt.h (by first | assumption | exact Xt.whole rfl rfl | exact Xt.whole rfl (by simp only [size_ic, Value.cells]; omega) | exact ⟨rfl⟩)) ?_
      refine WH_nil ?_
      refine D_go ?_
      refine D_l (a := 5) (by kernel_rfl) rfl rfl ?_
      refine WH_call Hvac.call54 (by rfl) (Ret.mono (newM_ex b10 e _ (hev.ext (by repeat (first | assumption | exact Ext.refl _ | refine Ext.alloc ?_ _ | refine Ext.drew ?_ | refine Ext.setB ?_ (by first | omega | (simp only [size_alloc, size_setB, size_drew]; omega)) _ | exact Ext.trans (by assumption) (by assumption) | refine Ext.trans ?_ (by assumption)))) h4) ?_)
      rintro _ w6 ⟨b6, mc6, hs6, rfl, hE6, hH6, hZ6, hl6, hHS6, hrd6⟩
      refine ⟨fun _ => Ext.keepO hE6 _, ?_⟩
      have hx6 : Xt mc6 0 (0 + 2435) mc6 := Xt.whole rfl hZ6.sz
      have hz6 := hZ6.sz
      have hv6 := hv5.ext (Ext.trans (Ext.drew (Ext.refl _)) hE6)
      have hEw6 : Ext w w6 := Ext.trans hE5 (Ext.trans (Ext.drew (Ext.refl _)) hE6)
      refine WH_nil ?_
      refine D_c (a := 6) (by kernel_rfl) rfl rfl ?_
      refine WH_p (PS_nilCheck rfl) rfl ?_
      refine WH_nil ?_
      refine D_c (a := 7) (by kernel_rfl) rfl rfl ?_
      refine WH_loadAE _ Hvac.isAgg70 Hvac.sizeOf70 rfl (Hb.h (by repeat (first | assumption | exact Hb.newY _ _ | refine Hb.alloc ?_ | refine Hb.drew ?_ | refine Hb.ext (by assumption) ?_ | exact Hb.setSameL (by first | omega | (simp only [size_alloc, size_setB, size_drew]; omega)) | exact Hb.setSame (by assumption) | refine Hb.set (by first | omega | (simp only [size_alloc, size_setB, size_drew]; omega)) ?_ ))) (by first | omega | assumption | rfl | decide | exact Nat.le_refl _ | (simp only [size_ic, Value.cells]; omega) | simp) (Xt.h (by first | assumption | exact Xt.whole rfl rfl | exact Xt.whole rfl (by simp only [size_ic, Value.cells]; omega) | exact ⟨rfl⟩)) ?_
      refine WH_nil ?_
      refine D_c (a := 8) (by kernel_rfl) rfl rfl ?_
      refine WH_p (PS_nilCheck rfl) rfl ?_
      refine WH_nil ?_
      refine D_c (a := 9) (by kernel_rfl) rfl rfl ?_
      refine WH_p (PS_fieldAddr 0 Hvac.runUnderlying87 rfl Hvac.sizeOf70 rfl rfl) rfl ?_
      refine WH_nil ?_
      refine D_l (a := 10) (by kernel_rfl) rfl rfl ?_
      refine WH_store Hvac.sizeOf70 rfl (v := .agg mc6) rfl (Hb.h hv6.blk) hz6 (by rw [hv6.rep.size]; show 0 + 2435 ≤ 27024; decide) hZ6.one (fun _ => KeepO.setB (O := fun b => b = b10) (Ext.keepO hE6 _) (fun _ => rfl) _) ?_
      refine WH_nil ?_
      refine D_end (by kernel_rfl) ?_
      refine thn_normal ?_
      refine W_seq ?_
      refine W_gen2 fun w7 hw7 => ?_
      have hM7 : MS w7 b10 (splice c5 0 mc6.toList) v5 B5 (M0 e hs6) := by
        rw [hw7]
        refine ms_new hv6 hZ6 (hev.ext hEw6) hHS6 (fun b hb => Nat.lt_of_lt_of_le (hom b hb) hEw6.1) (fun i h0 h1 => ?_)
        rw [hs5.out i (Or.inr h0)]; exact z86_tree h0 h1
      have hE7 : Ext w w7 := by rw [hw7]; exact Ext.setB hEw6 (by omega) _
      have hk567 : KK w6 w7 := by rw [hw7]; exact KK.set (KK.refl _) hv6.blk (by decide) (by decide)
      have hFX7 : FX (rdB w7) v5 (l.map yacP) := hFX5.vs hv5 ((KT.ext (Ext.trans (Ext.drew (Ext.refl _)) hE6)).trans hk567.k5)
      have hrd7 : rdH w7 hs6 = chunk e.hl e.hash.2.1 := by rw [hHS6.rdk hk567.k28]; exact hrd6
      clear hw7
      refine W_region rfl ?_
      refine WO_p (PS_move_ptr rfl) ?_
      refine WO_p (PS_assign_ptr rfl) ?_
      refine WO_p (PS_assign_bool rfl) ?_
      refine WO_nil ?_
      refine thn_normal ?_
      refine W_ret ?_
      refine bodyQ_ret2 Hvac.results12 rfl rfl (.pointer _) (.bool _) rfl rfl ?_
      first
      | exact ⟨hE7, Or.inr ⟨hwk, h4, b10, _, v5, B5, hs6, rfl, hM7, hl6, hF5, (fun b hb => by
          rcases hb with hb | hb
          · rcases hs5.own b hb with h | h
            · exact hlow b h
            · omega
          · cases hb), hFX7, hrd7⟩⟩
      | exact ⟨(by repeat (first | assumption | exact Ext.refl _ | refine Ext.alloc ?_ _ | refine Ext.drew ?_ | refine Ext.setB ?_ (by first | omega | (simp only [size_alloc, size_setB, size_drew]; omega)) _ | refine Ext.trans ?_ (by assumption))), Or.inl ⟨rfl, fun hh => by rw [hwk] at hh; cases hh.1⟩⟩
      | exact ⟨(by repeat (first | assumption | exact Ext.refl _ | refine Ext.alloc ?_ _ | refine Ext.drew ?_ | refine Ext.setB ?_ (by first | omega | (simp only [size_alloc, size_setB, size_drew]; omega)) _ | refine Ext.trans ?_ (by assumption))), Or.inl ⟨rfl, fun hh => h4 hh.2⟩⟩

end Go.Proofs.YgvacwGreat
