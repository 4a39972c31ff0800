import Derived.Test.YgvadwGreatXf
import Derived.Test.YgvadwGreatFwT
import Derived.Test.YgvadwGreatVk
import Derived.Test.YgvadwGreatOg
namespace Go.Proofs.YgvadwGreat
set_option linter.unusedSimpArgs false
set_option linter.unusedVariables false
theorem WO_gen3 {P : Program} {ops : Array Oper} {Q : Post} {os : List Oper} {ρ : Nat → Value} {w : World} (h : ∀ w', w' = w → WO P ops Q os ρ w') : WO P ops Q os ρ w := h w rfl
set_option maxRecDepth 10000 in
theorem PS_b69 {ρ : Nat → Value} {x0 x6 : Operand} {C : Nat} {e : Ev} {w : World} (h0 : ev ρ x0 = .pointer (some ⟨C, 2435, none⟩)) (h6 : ev ρ x6 = .agg (encEv e).toArray) (hk : EvOK w e) :
    PS Hvad.prog (.build 69 #[(0, x0), (4, .const (.int .i8 (-1))), (6, x6)]) ρ (.agg (mz0 Hvad.zeroCells69 C e)) := by
  have hl := encEv_len hk
  have s0 := z69_size
  refine PS_buildS Hvad.zeroValue69 Hvad.runUnderlying69 (places_run (pl := [(0, 1), (1, 10), (11, 1792), (1803, 455), (2258, 1), (2259, 1), (2260, 120), (2380, 20), (2400, 4), (2404, 1), (2405, 1), (2406, 1), (2407, 1), (2408, 1), (2409, 4), (2413, 1), (2414, 1), (2415, 20)]) ⟨rfl, Hvad.sizeOf53, rfl, Hvad.sizeOf57, rfl, Hvad.sizeOf60, rfl, Hvad.sizeOf66, rfl, Hvad.sizeOf67, rfl, Hvad.sizeOf32, rfl, Hvad.sizeOf31, rfl, Hvad.sizeOf25, rfl, Hvad.sizeOf59, rfl, Hvad.sizeOf5, rfl, Hvad.sizeOf5, rfl, Hvad.sizeOf5, rfl, Hvad.sizeOf26, rfl, Hvad.sizeOf26, rfl, Hvad.sizeOf59, rfl, Hvad.sizeOf21, rfl, Hvad.sizeOf21, rfl, Hvad.sizeOf25, trivial⟩) (ps := [(0, .pointer (some ⟨C, 2435, none⟩)), (4, .int .i8 (-1)), (6, .agg (encEv e).toArray)]) (by simp only [List.map, h0, h6]; rfl) ?_
  rw [fill_one (off := 0) (n := 1) rfl rfl (by rw [s0]; decide), fill_one (off := 2258) (n := 1) rfl rfl (by rw [size_splice, s0]; decide), fill_one (off := 2260) (n := 120) rfl (by show (encEv e).toArray.size = 120; simpa using hl) (by rw [size_splice, size_splice, s0]; decide)]
  rfl
theorem VRep.pre {c c' : Array Value} {v : V} {B : VB} (h : VRep c v B) (hs : c'.size = c.size) (hc : ∀ i, 2435 ≤ i → c'[i]? = c[i]?) : VRep c' v B :=
  have t : ∀ {i : Nat} {x : Value}, 2435 ≤ i → Ce c i x → Ce c' i x := fun hi hx => ⟨(hc _ hi).trans hx.h⟩
  { size := hs.trans h.size, accts := t (by omega) h.accts, slots := t (by omega) h.slots, atab := fun i hi => t (by omega) (h.atab i hi), stab := fun i hi => t (by omega) (h.stab i hi), journal := t (by omega) h.journal, marks := fun i hi => t (by omega) (h.marks i hi), nmarks := t (by omega) h.nmarks, ref := t (by omega) h.ref, logs := t (by omega) h.logs, temps := t (by omega) h.temps, ttab := t (by omega) h.ttab }
/-- the machine is laid before the vault -/
theorem vs_mach {w : World} {C : Nat} {c : Array Value} {v : V} {B : VB} {β : Option Nat} (hv : VS w C c v B β) {mc : Array Value} (hm : mc.size = 2435) :
    VS (setB w C (.cells (splice c 0 mc.toList) 86 (0, 0))) C (splice c 0 mc.toList) v B β :=
  have hg : ∀ i, (splice c 0 mc.toList)[i]? = if 0 ≤ i ∧ i < 0 + mc.toList.length then mc.toList[i - 0]? else c[i]? := fun i => splice_get _ _ _ _ (by rw [hv.rep.size]; simp [hm])
  ⟨Hb.setSame hv.blk, hv.rep.pre (size_splice _ _ _) (fun i hi => by rw [hg, if_neg (by simp [hm]; omega)]), { accts := hv.rows.accts.kt (KT.setB hv.blk (by decide)), slots := hv.rows.slots.kt (KT.setB hv.blk (by decide)), journal := hv.rows.journal.kt (KT.setB hv.blk (by decide)), logs := hv.rows.logs.kt (KT.setB hv.blk (by decide)), temps := hv.rows.temps.kt (KT.setB hv.blk (by decide)), ttab := hv.rows.ttab.kt (KT.setB hv.blk (by decide)) }, hv.ty, fun x hx => (hv.codes x hx).kt (KT.setB hv.blk (by decide)), fun x hx => (hv.olds x hx).kt (KT.setB hv.blk (by decide))⟩
theorem ms_new {w : World} {C : Nat} {c mc : Array Value} {v : V} {B : VB} {e : Ev} {hs : SV} (hv : VS w C c v B none) (hz : MZ mc C e hs) (hk : EvOK w e) (hh : HS w hs) (ht : ∀ i, 27019 ≤ i → i < 27024 → c[i]? = treeZero[i - 27019]?) :
    MS (setB w C (.cells (splice c 0 mc.toList) 86 (0, 0))) C (splice c 0 mc.toList) v B (M0 e hs) where
  vs := vs_mach hv hz.sz
  rep := by
    have hg : ∀ i, (splice c 0 mc.toList)[i]? = if 0 ≤ i ∧ i < 0 + mc.toList.length then mc.toList[i - 0]? else c[i]? := fun i => splice_get _ _ _ _ (by rw [hv.rep.size]; simp [hz.sz])
    refine mrep_new hz hk (fun i hi => ?_) (fun i h0 h1 => ?_) ((size_splice _ _ _).trans hv.rep.size)
    · rw [hg, if_pos (by simp [hz.sz]; omega), Nat.sub_zero, Array.getElem?_toList]
    · rw [hg, if_neg (by simp [hz.sz]; omega)]; exact ht i h0 h1
  ty := m0_ty hk hs
  buf := Or.inl rfl
  code := by
    intro f hf
    rw [(List.mem_replicate.1 hf).2]
    exact ⟨Or.inl ⟨rfl, rfl, rfl⟩, Or.inl ⟨rfl, rfl⟩⟩
  ret := Or.inl ⟨rfl, rfl⟩
  hash := hh.keep (KT.setB hv.blk (by decide))

set_option maxRecDepth 10000 in
theorem envOK_spec (e : Ev) (w : World) (hev : EvOK w e) : Ret Hvad.prog 18 #[.agg (encEv e).toArray] w fun u w' => u = .bool (decide (e.hash.2.1 ≤ 4)) ∧ Ext w w' := by
  have hel := encEv_len hev
  have hel2 : (encEv e).toArray.size = 120 := by simpa using hel
  have hxe : Xt (encEv e).toArray 0 (0 + 120) (encEv e).toArray := Xt.whole rfl hel2
  have hce := encEv_hash hev
  refine Ret_of_W Hvad.func18 rfl rfl ?_
  refine W_seq ?_
  refine W_region rfl ?_
  refine WO_boxG (.agg _) rfl ?_
  intro b1 v1 hg1 hE1 hH1 hl1
  try simp only [size_alloc, size_setB, size_drew] at hg1
  have hzz1 := hE1.1
  try simp only [size_alloc, size_setB, size_drew] at hzz1
  refine WO_p (PS_assign_bool rfl) ?_
  refine WO_nil ?_
  refine thn_normal ?_
  refine W_seq ?_
  refine W_region rfl ?_
  refine WO_p (PS_fieldAddr 119 Hvad.runUnderlying31 rfl Hvad.sizeOf29 rfl rfl) ?_
  refine WO_load (.slice _ _ _) Hvad.isAgg29 rfl (Hb.h (by repeat (first | assumption | exact Hb.newY _ _ | refine Hb.alloc ?_ | refine Hb.drew ?_ | refine Hb.ext (by assumption) ?_ | exact Hb.setSameL (by first | omega | (simp only [size_alloc, size_setB, size_drew]; omega)) | exact Hb.setSame (by assumption) | refine Hb.set (by first | omega | (simp only [size_alloc, size_setB, size_drew]; omega)) ?_ ))) (Ce.h (by first | assumption | exact ⟨rfl⟩)) ?_
  refine WO_p (PS_lenS Hvad.runUnderlying29 rfl) ?_
  refine WO_p (PS_leq rfl rfl) ?_
  refine WO_p (PS_assign_bool rfl) ?_
  refine WO_nil ?_
  refine thn_normal ?_
  refine W_ret ?_
  refine bodyQ_ret1 Hvad.results18 rfl (.bool _) rfl ?_
  exact ⟨congrArg Value.bool (al_dd.2 (by omega)), (by repeat (first | assumption | exact Ext.refl _ | refine Ext.alloc ?_ _ | refine Ext.drew ?_ | refine Ext.setB ?_ (by first | omega | (simp only [size_alloc, size_setB, size_drew]; omega)) _ | refine Ext.trans ?_ (by assumption)))⟩

set_option maxRecDepth 10000 in
set_option maxHeartbeats 4000000 in
theorem newM_spec (C : Nat) (e : Ev) (w : World) (hev : EvOK w e) (h4 : e.hash.2.1 ≤ 4) : Ret Hvad.prog 20 #[.pointer (some ⟨C, 2435, none⟩), .agg (encEv e).toArray] w fun u w' => ∃ b mc hs, u = .pointer (some ⟨b, 0, none⟩) ∧ Ext w w' ∧ Hb w' b (.cells mc 69 (0, 0)) ∧ MZ mc C e hs ∧ hs.2.1 ≤ 4 ∧ HS w' hs := by
  have hel := encEv_len hev
  have hel2 : (encEv e).toArray.size = 120 := by simpa using hel
  have hxe : Xt (encEv e).toArray 0 (0 + 120) (encEv e).toArray := Xt.whole rfl hel2
  have hce := encEv_hash hev
  have hZ0 := mz0_ok (C := C) hev
  have hz0 := hZ0.sz
  generalize hmc : mz0 Hvad.zeroCells69 C e = mc0 at hZ0 hz0
  have hZ1 := hZ0.set hev (none, 0, 0)
  have hz1 := hZ1.sz
  refine Ret_of_W Hvad.func20 rfl rfl ?_
  refine W_seq ?_
  refine W_region rfl ?_
  refine WO_boxG (.agg _) rfl ?_
  intro b3 v3 hg3 hE3 hH3 hl3
  try simp only [size_alloc, size_setB, size_drew] at hg3
  have hzz3 := hE3.1
  try simp only [size_alloc, size_setB, size_drew] at hzz3
  refine WO_p (PS_assign_ptr rfl) ?_
  refine WO_nil ?_
  refine thn_normal ?_
  refine W_seq ?_
  refine W_region rfl ?_
  refine WO_p (PS_move_ptr rfl) ?_
  refine WO_loadA _ Hvad.isAgg31 Hvad.sizeOf31 rfl (Hb.h (by repeat (first | assumption | exact Hb.newY _ _ | refine Hb.alloc ?_ | refine Hb.drew ?_ | refine Hb.ext (by assumption) ?_ | exact Hb.setSameL (by first | omega | (simp only [size_alloc, size_setB, size_drew]; omega)) | exact Hb.setSame (by assumption) | refine Hb.set (by first | omega | (simp only [size_alloc, size_setB, size_drew]; omega)) ?_ ))) (by first | omega | assumption | rfl | decide | exact Nat.le_refl _ | (simp only [size_ic, Value.cells]; omega) | simp) (Xt.h (by first | assumption | exact Xt.whole rfl rfl | exact Xt.whole rfl (by simp only [size_ic, Value.cells]; omega) | exact ⟨rfl⟩)) ?_
  refine WO_p (PS_b69 (C := C) (e := e) rfl rfl hev) ?_
  rw [hmc]
  refine WO_boxG (.agg _) rfl ?_
  intro b9 v9 hg9 hE9 hH9 hl9
  try simp only [size_alloc, size_setB, size_drew] at hg9
  have hzz9 := hE9.1
  try simp only [size_alloc, size_setB, size_drew] at hzz9
  refine WO_p (PS_assign_ptr rfl) ?_
  refine WO_nil ?_
  refine thn_normal ?_
  refine W_seq ?_
  replace hH9 : Hb v9 b9 (.cells mc0 69 (0, 0)) := hH9
  refine W_region rfl ?_
  refine WO_p (PS_move_ptr rfl) ?_
  refine WO_p (PS_nilCheck rfl) ?_
  refine WO_p (PS_fieldAddr 2260 Hvad.runUnderlying69 rfl Hvad.sizeOf31 rfl rfl) ?_
  refine WO_p (PS_fieldAddr 119 Hvad.runUnderlying31 rfl Hvad.sizeOf29 rfl rfl) ?_
  refine WO_store1 Hvad.sizeOf29 rfl (v := .slice _ _ _) rfl (Hb.h (by repeat (first | assumption | exact Hb.newY _ _ | refine Hb.alloc ?_ | refine Hb.drew ?_ | refine Hb.ext (by assumption) ?_ | exact Hb.setSameL (by first | omega | (simp only [size_alloc, size_setB, size_drew]; omega)) | exact Hb.setSame (by assumption) | refine Hb.set (by first | omega | (simp only [size_alloc, size_setB, size_drew]; omega)) ?_ ))) rfl (by show 0 + 2260 + 119 < mc0.size; omega) rfl ?_
  refine WO_nil ?_
  refine thn_normal ?_
  refine W_seq ?_
  refine W_seq ?_
  refine W_region rfl ?_
  refine WO_p (PS_fieldAddr 119 Hvad.runUnderlying31 rfl Hvad.sizeOf29 rfl rfl) ?_
  refine WO_load (.slice _ _ _) Hvad.isAgg29 rfl (Hb.h (by repeat (first | assumption | exact Hb.newY _ _ | refine Hb.alloc ?_ | refine Hb.drew ?_ | refine Hb.ext (by assumption) ?_ | exact Hb.setSameL (by first | omega | (simp only [size_alloc, size_setB, size_drew]; omega)) | exact Hb.setSame (by assumption) | refine Hb.set (by first | omega | (simp only [size_alloc, size_setB, size_drew]; omega)) ?_ ))) (Ce.h (by first | assumption | exact ⟨rfl⟩)) ?_
  refine WO_p (PS_lenS Hvad.runUnderlying29 rfl) ?_
  refine WO_p (PS_gtr rfl rfl) ?_
  refine WO_nil ?_
  refine thn_normal ?_
  refine W_if rfl (fun hb2 => ?_) (fun hb2 => ?_)
  · have hb2p := hb2.h; try simp only [al_ete, al_dfn, Bool.not_eq_true', Bool.not_eq_false', al_ne, Bool.not_not, al_nn] at hb2p
    have hn0 : 0 < e.hash.2.1 := by omega
    obtain ⟨bh, oh, rh, Th, fzh, hph, hbh, hoh, hxh⟩ := hev.ha.row hn0
    have hll := hev.ha.len
    have hbhl := hbh.lt
    refine W_seq ?_
    refine W_region rfl ?_
    refine WO_p (PS_move_ptr rfl) ?_
    refine WO_p (PS_fieldAddr 119 Hvad.runUnderlying31 rfl Hvad.sizeOf29 rfl rfl) ?_
    refine WO_load (.slice _ _ _) Hvad.isAgg29 rfl (Hb.h (by repeat (first | assumption | exact Hb.newY _ _ | refine Hb.alloc ?_ | refine Hb.drew ?_ | refine Hb.ext (by assumption) ?_ | exact Hb.setSameL (by first | omega | (simp only [size_alloc, size_setB, size_drew]; omega)) | exact Hb.setSame (by assumption) | refine Hb.set (by first | omega | (simp only [size_alloc, size_setB, size_drew]; omega)) ?_ ))) (Ce.h (by first | assumption | exact ⟨rfl⟩)) ?_
    refine WO_p (PS_lenS Hvad.runUnderlying29 rfl) ?_
    refine WO_make (z := .agg (List.replicate 32 (Value.int .u8 0)).toArray) Hvad.underlying29 info28 rfl rfl rfl (by omega) (by omega) (by show (32:Int) * _ ≤ _; omega) (by omega) ?_
    rw [show ((e.hash.2.1:Int)).toNat = e.hash.2.1 from Int.toNat_natCast _, show Hvad.t28.size = 32 from rfl, made_W]
    apply WO_gen3; intro w22 hw22
    have hb22 : Hb w22 (setB v9 b9 (.cells (mc0.setIfInBounds (0 + 2260 + 119) (.slice none 0 0)) 69 (0, 0))).heap.size (.cells (ic .u8 (List.replicate (e.hash.2.1 * 32) 0)) 28 (0, 0)) := by rw [hw22]; exact Hb.newY _ _
    have hE22 : Ext w w22 := by rw [hw22]; exact (by repeat (first | assumption | exact Ext.refl _ | refine Ext.alloc ?_ _ | refine Ext.drew ?_ | refine Ext.setB ?_ (by first | omega | (simp only [size_alloc, size_setB, size_drew]; omega)) _ | exact Ext.trans (by assumption) (by assumption) | refine Ext.trans ?_ (by assumption)))
    have hb9x : Hb w22 b9 (.cells (mc0.setIfInBounds (0 + 2260 + 119) (.slice none 0 0)) 69 (0, 0)) := by rw [hw22]; exact Hb.mk (Hb.h (by repeat (first | assumption | exact Hb.newY _ _ | refine Hb.alloc ?_ | refine Hb.drew ?_ | refine Hb.ext (by assumption) ?_ | exact Hb.setSameL (by first | omega | (simp only [size_alloc, size_setB, size_drew]; omega)) | exact Hb.setSame (by assumption) | refine Hb.set (by first | omega | (simp only [size_alloc, size_setB, size_drew]; omega)) ?_ )))
    have hb3x : Hb w22 b3 (.cells (encEv e).toArray 31 (0, 0)) := by rw [hw22]; exact Hb.mk (Hb.h (by repeat (first | assumption | exact Hb.newY _ _ | refine Hb.alloc ?_ | refine Hb.drew ?_ | refine Hb.ext (by assumption) ?_ | exact Hb.setSameL (by first | omega | (simp only [size_alloc, size_setB, size_drew]; omega)) | exact Hb.setSame (by assumption) | refine Hb.set (by first | omega | (simp only [size_alloc, size_setB, size_drew]; omega)) ?_ )))
    have hlt9 : b9 < (setB v9 b9 (.cells (mc0.setIfInBounds (0 + 2260 + 119) (.slice none 0 0)) 69 (0, 0))).heap.size := by rw [size_setB]; exact hl9
    have hlt3 : b3 < (setB v9 b9 (.cells (mc0.setIfInBounds (0 + 2260 + 119) (.slice none 0 0)) 69 (0, 0))).heap.size := by rw [size_setB]; omega
    have hwl : w.heap.size ≤ (setB v9 b9 (.cells (mc0.setIfInBounds (0 + 2260 + 119) (.slice none 0 0)) 69 (0, 0))).heap.size := by rw [size_setB]; omega
    generalize (setB v9 b9 (.cells (mc0.setIfInBounds (0 + 2260 + 119) (.slice none 0 0)) 69 (0, 0))).heap.size = b22 at *
    clear hw22
    refine WO_p (PS_nilCheck rfl) ?_
    refine WO_p (PS_fieldAddr 2260 Hvad.runUnderlying69 rfl Hvad.sizeOf31 rfl rfl) ?_
    refine WO_p (PS_fieldAddr 119 Hvad.runUnderlying31 rfl Hvad.sizeOf29 rfl rfl) ?_
    refine WO_store1 Hvad.sizeOf29 rfl (v := .slice _ _ _) rfl hb9x.h rfl (by show 0 + 2260 + 119 < (mc0.setIfInBounds (0 + 2260 + 119) (.slice none 0 0)).size; rw [Array.size_setIfInBounds]; omega) rfl ?_
    have hZ2 := hZ1.set hev (some ⟨b22, 0, none⟩, e.hash.2.1, e.hash.2.1)
    have hz2 := hZ2.sz
    apply WO_gen3; intro w23 hw23
    have hb9y : Hb w23 b9 (.cells ((mc0.setIfInBounds (0 + 2260 + 119) (sv (none, 0, 0))).setIfInBounds (0 + 2260 + 119) (sv (some ⟨b22, 0, none⟩, e.hash.2.1, e.hash.2.1))) 69 (0, 0)) := by rw [hw23]; exact Hb.setSame hb9x
    have hb22y : Hb w23 b22 (.cells (ic .u8 (List.replicate (e.hash.2.1 * 32) 0)) 28 (0, 0)) := by rw [hw23]; exact Hb.set (by omega) hb22
    have hb3y : Hb w23 b3 (.cells (encEv e).toArray 31 (0, 0)) := by rw [hw23]; exact Hb.set (by omega) hb3x
    have hE23 : Ext w w23 := by rw [hw23]; exact Ext.setB hE22 (by omega) _
    generalize ((mc0.setIfInBounds (0 + 2260 + 119) (sv (none, 0, 0))).setIfInBounds (0 + 2260 + 119) (sv (some ⟨b22, 0, none⟩, e.hash.2.1, e.hash.2.1))) = mc2 at *
    have hc2 : Ce mc2 (0 + 2260 + 119) (.slice (some ⟨b22, 0, none⟩) e.hash.2.1 e.hash.2.1) := ⟨by rw [show 0 + 2260 + 119 = 2260 + 119 from rfl, hZ2.env 119 (by decide)]; rw [encEv_set hev (none, 0, 0) _ 119, if_pos rfl]; rfl⟩
    have hce2 : Ce (encEv e).toArray (0 + 119) (.slice (some ⟨bh, oh, none⟩) e.hash.2.1 e.hash.2.2) := by rw [hph] at hce; exact hce
    have hbhy := hbh.ext hE23
    clear hw23
    refine WO_nil ?_
    refine thn_normal ?_
    refine W_drawE [false, false, false, false, false, false, false, false] hmix (by kernel_rfl) rfl ?_
    refine WH_p (PS_move_ptr rfl) rfl ?_
    refine WH_p (PS_nilCheck rfl) rfl ?_
    refine WH_p (PS_fieldAddr 2260 Hvad.runUnderlying69 rfl Hvad.sizeOf31 rfl rfl) rfl ?_
    refine WH_p (PS_fieldAddr 119 Hvad.runUnderlying31 rfl Hvad.sizeOf29 rfl rfl) rfl ?_
    refine WH_load (.slice _ _ _) Hvad.isAgg29 rfl (Hb.h (by repeat (first | assumption | exact Hb.newY _ _ | refine Hb.alloc ?_ | refine Hb.drew ?_ | refine Hb.ext (by assumption) ?_ | exact Hb.setSameL (by first | omega | (simp only [size_alloc, size_setB, size_drew]; omega)) | exact Hb.setSame (by assumption) | refine Hb.set (by first | omega | (simp only [size_alloc, size_setB, size_drew]; omega)) ?_ ))) (Ce.h (by first | assumption | exact ⟨rfl⟩)) ?_
    refine WH_p (PS_fieldAddr 119 Hvad.runUnderlying31 rfl Hvad.sizeOf29 rfl rfl) rfl ?_
    refine WH_load (.slice _ _ _) Hvad.isAgg29 rfl (Hb.h (by repeat (first | assumption | exact Hb.newY _ _ | refine Hb.alloc ?_ | refine Hb.drew ?_ | refine Hb.ext (by assumption) ?_ | exact Hb.setSameL (by first | omega | (simp only [size_alloc, size_setB, size_drew]; omega)) | exact Hb.setSame (by assumption) | refine Hb.set (by first | omega | (simp only [size_alloc, size_setB, size_drew]; omega)) ?_ ))) (Ce.h (by first | assumption | exact ⟨rfl⟩)) ?_
    refine WH_copy e.hash.2.1 Hvad.runUnderlying29 Hvad.sizeOf28 rfl rfl (Hb.h (Hb.drew hb22y)) (Hb.h (Hb.drew hbhy)) (Nat.min_self _) (by rw [size_ic, List.length_replicate]; omega) hoh hxh.h oneCell_ic (fun h => by cases h) ?_
    rw [splice_whole rfl (by simp [ic, hll]), show (ic .u8 e.hl).toList.toArray = ic .u8 e.hl from Array.toArray_toList]
    refine WH_nil ?_
    refine thn_normal ?_
    refine W_seq ?_
    refine W_region rfl ?_
    refine WO_p (PS_move_ptr rfl) ?_
    refine WO_p (PS_assign_ptr rfl) ?_
    refine WO_nil ?_
    refine thn_normal ?_
    refine W_ret ?_
    refine bodyQ_ret1 Hvad.results20 rfl (.pointer _) rfl ?_
    first
    | exact ⟨b9, _, (some ⟨b22, 0, none⟩, e.hash.2.1, e.hash.2.1), rfl, (by repeat (first | assumption | exact Ext.refl _ | refine Ext.alloc ?_ _ | refine Ext.drew ?_ | refine Ext.setB ?_ (by first | omega | (simp only [size_alloc, size_setB, size_drew]; omega)) _ | refine Ext.trans ?_ (by assumption))), Hb.mk (Hb.h (by repeat (first | assumption | exact Hb.newY _ _ | refine Hb.alloc ?_ | refine Hb.drew ?_ | refine Hb.ext (by assumption) ?_ | exact Hb.setSameL (by first | omega | (simp only [size_alloc, size_setB, size_drew]; omega)) | exact Hb.setSame (by assumption) | refine Hb.set (by first | omega | (simp only [size_alloc, size_setB, size_drew]; omega)) ?_ ))), hZ2, h4, Or.inr ⟨b22, e.hl, (0, 0), rfl, Hb.setSame (Hb.drew hb22y), hev.ha.by_, by show e.hash.2.1 * 32 ≤ _; omega⟩⟩
    | exact ⟨b9, _, (none, 0, 0), rfl, (by repeat (first | assumption | exact Ext.refl _ | refine Ext.alloc ?_ _ | refine Ext.drew ?_ | refine Ext.setB ?_ (by first | omega | (simp only [size_alloc, size_setB, size_drew]; omega)) _ | refine Ext.trans ?_ (by assumption))), Hb.mk (Hb.h (by repeat (first | assumption | exact Hb.newY _ _ | refine Hb.alloc ?_ | refine Hb.drew ?_ | refine Hb.ext (by assumption) ?_ | exact Hb.setSameL (by first | omega | (simp only [size_alloc, size_setB, size_drew]; omega)) | exact Hb.setSame (by assumption) | refine Hb.set (by first | omega | (simp only [size_alloc, size_setB, size_drew]; omega)) ?_ ))), hZ1, Nat.zero_le _, Or.inl ⟨rfl, rfl⟩⟩
  · have hb2p := hb2.h; try simp only [al_ete, al_dfn, Bool.not_eq_true', Bool.not_eq_false', al_ne, Bool.not_not, al_nn] at hb2p
    refine W_skip ?_
    refine thn_normal ?_
    refine W_seq ?_
    refine W_region rfl ?_
    refine WO_p (PS_move_ptr rfl) ?_
    refine WO_p (PS_assign_ptr rfl) ?_
    refine WO_nil ?_
    refine thn_normal ?_
    refine W_ret ?_
    refine bodyQ_ret1 Hvad.results20 rfl (.pointer _) rfl ?_
    first
    | exact ⟨b9, _, (some ⟨b22, 0, none⟩, e.hash.2.1, e.hash.2.1), rfl, (by repeat (first | assumption | exact Ext.refl _ | refine Ext.alloc ?_ _ | refine Ext.drew ?_ | refine Ext.setB ?_ (by first | omega | (simp only [size_alloc, size_setB, size_drew]; omega)) _ | refine Ext.trans ?_ (by assumption))), Hb.mk (Hb.h (by repeat (first | assumption | exact Hb.newY _ _ | refine Hb.alloc ?_ | refine Hb.drew ?_ | refine Hb.ext (by assumption) ?_ | exact Hb.setSameL (by first | omega | (simp only [size_alloc, size_setB, size_drew]; omega)) | exact Hb.setSame (by assumption) | refine Hb.set (by first | omega | (simp only [size_alloc, size_setB, size_drew]; omega)) ?_ ))), hZ2, h4, Or.inr ⟨b22, e.hl, (0, 0), rfl, Hb.setSame (Hb.drew hb22y), hev.ha.by_, by show e.hash.2.1 * 32 ≤ _; omega⟩⟩
    | exact ⟨b9, _, (none, 0, 0), rfl, (by repeat (first | assumption | exact Ext.refl _ | refine Ext.alloc ?_ _ | refine Ext.drew ?_ | refine Ext.setB ?_ (by first | omega | (simp only [size_alloc, size_setB, size_drew]; omega)) _ | refine Ext.trans ?_ (by assumption))), Hb.mk (Hb.h (by repeat (first | assumption | exact Hb.newY _ _ | refine Hb.alloc ?_ | refine Hb.drew ?_ | refine Hb.ext (by assumption) ?_ | exact Hb.setSameL (by first | omega | (simp only [size_alloc, size_setB, size_drew]; omega)) | exact Hb.setSame (by assumption) | refine Hb.set (by first | omega | (simp only [size_alloc, size_setB, size_drew]; omega)) ?_ ))), hZ1, Nat.zero_le _, Or.inl ⟨rfl, rfl⟩⟩

set_option maxRecDepth 10000 in
set_option maxHeartbeats 4000000 in
theorem newE_spec (s : SV) (l : List Ac) (e : Ev) (w : World) (hin : InW w s l) (hev : EvOK w e) : Ret Hvad.prog 10 #[.slice s.1 s.2.1 s.2.2, .agg (encEv e).toArray] w fun u w' => Ext w w' ∧ ((u = .tuple #[.pointer none, .bool false] ∧ ¬ (wok l = true ∧ e.hash.2.1 ≤ 4)) ∨ (wok l = true ∧ e.hash.2.1 ≤ 4 ∧ ∃ C c v B hs, u = .tuple #[.pointer (some ⟨C, 0, none⟩), .bool true] ∧ MS w' C c v B (M0 e hs) ∧ hs.2.1 ≤ 4 ∧ FilV v 8 128 (bsum l l.length) ∧ ∀ b, MOwn C B (M0 e hs) b → w.heap.size ≤ b)) := by
  have hel := encEv_len hev
  have hel2 : (encEv e).toArray.size = 120 := by simpa using hel
  have hxe : Xt (encEv e).toArray 0 (0 + 120) (encEv e).toArray := Xt.whole rfl hel2
  have hce := encEv_hash hev
  refine Ret_of_W Hvad.func10 rfl rfl ?_
  refine W_seq ?_
  refine W_region rfl ?_
  refine WO_boxG (.agg _) rfl ?_
  intro b3 v3 hg3 hE3 hH3 hl3
  try simp only [size_alloc, size_setB, size_drew] at hg3
  have hzz3 := hE3.1
  try simp only [size_alloc, size_setB, size_drew] at hzz3
  refine WO_p (PS_assign_ptr rfl) ?_
  refine WO_p (PS_assign_bool rfl) ?_
  refine WO_nil ?_
  refine thn_normal ?_
  refine W_seq ?_
  refine W_seq ?_
  refine W_region rfl ?_
  refine WO_loadA _ Hvad.isAgg31 Hvad.sizeOf31 rfl (Hb.h (by repeat (first | assumption | exact Hb.newY _ _ | refine Hb.alloc ?_ | refine Hb.drew ?_ | refine Hb.ext (by assumption) ?_ | exact Hb.setSameL (by first | omega | (simp only [size_alloc, size_setB, size_drew]; omega)) | exact Hb.setSame (by assumption) | refine Hb.set (by first | omega | (simp only [size_alloc, size_setB, size_drew]; omega)) ?_ ))) (by first | omega | assumption | rfl | decide | exact Nat.le_refl _ | (simp only [size_ic, Value.cells]; omega) | simp) (Xt.h (by first | assumption | exact Xt.whole rfl rfl | exact Xt.whole rfl (by simp only [size_ic, Value.cells]; omega) | exact ⟨rfl⟩)) ?_
  refine WO_call Hvad.call18 (by rfl) (Ret.mono (envOK_spec e _ (hev.ext (by repeat (first | assumption | exact Ext.refl _ | refine Ext.alloc ?_ _ | refine Ext.drew ?_ | refine Ext.setB ?_ (by first | omega | (simp only [size_alloc, size_setB, size_drew]; omega)) _ | exact Ext.trans (by assumption) (by assumption) | refine Ext.trans ?_ (by assumption))))) ?_)
  rintro _ w18_0 ⟨rfl, hE18_0⟩
  have hz18_0 := hE18_0.1
  try simp only [size_alloc, size_setB, size_drew] at hz18_0
  refine WO_p (PS_not rfl) ?_
  refine WO_nil ?_
  refine thn_normal ?_
  refine W_if rfl (fun hb4 => ?_) (fun hb4 => ?_)
  · have hb4p := hb4.h; try simp only [al_ete, al_dfn, Bool.not_eq_true', Bool.not_eq_false', al_ne, Bool.not_not, al_nn] at hb4p
    have h4 : ¬ e.hash.2.1 ≤ 4 := by simpa using hb4p
    refine W_seq ?_
    refine W_region rfl ?_
    refine WO_p (PS_assign_ptr rfl) ?_
    refine WO_p (PS_assign_bool rfl) ?_
    refine WO_nil ?_
    refine thn_normal ?_
    refine W_ret ?_
    refine thn_ret ?_
    refine bodyQ_ret2 Hvad.results10 rfl rfl (.pointer _) (.bool _) rfl rfl ?_
    first
    | exact ⟨hE7, Or.inr ⟨hwk, h4, b10, _, v5, B5, hs6, rfl, hM7, hl6, hF5, fun b hb => by
        rcases hb with hb | hb
        · rcases hs5.own b hb with h | h
          · exact hlow b h
          · omega
        · cases hb⟩⟩
    | exact ⟨(by repeat (first | assumption | exact Ext.refl _ | refine Ext.alloc ?_ _ | refine Ext.drew ?_ | refine Ext.setB ?_ (by first | omega | (simp only [size_alloc, size_setB, size_drew]; omega)) _ | refine Ext.trans ?_ (by assumption))), Or.inl ⟨rfl, fun hh => by rw [hwk] at hh; cases hh.1⟩⟩
    | exact ⟨(by repeat (first | assumption | exact Ext.refl _ | refine Ext.alloc ?_ _ | refine Ext.drew ?_ | refine Ext.setB ?_ (by first | omega | (simp only [size_alloc, size_setB, size_drew]; omega)) _ | refine Ext.trans ?_ (by assumption))), Or.inl ⟨rfl, fun hh => h4 hh.2⟩⟩
  · have hb4p := hb4.h; try simp only [al_ete, al_dfn, Bool.not_eq_true', Bool.not_eq_false', al_ne, Bool.not_not, al_nn] at hb4p
    have h4 : e.hash.2.1 ≤ 4 := by simpa using hb4p
    refine W_skip ?_
    refine thn_normal ?_
    refine W_seq ?_
    refine W_region rfl ?_
    refine WO_allocG Hvad.zeroValue86 ?_
    intro b10 v10 hg10 hE10 hH10 hl10
    try simp only [size_alloc, size_setB, size_drew] at hg10
    have hzz10 := hE10.1
    try simp only [size_alloc, size_setB, size_drew] at hzz10
    replace hH10 : Hb v10 b10 (.cells (Hvad.zeroCells86) 86 (0, 0)) := hH10
    refine WO_p (PS_assign_ptr rfl) ?_
    refine WO_nil ?_
    refine thn_normal ?_
    refine W_seq ?_
    refine W_seq ?_
    have hH3x : Hb v10 b3 (.cells (encEv e).toArray 31 (0, 0)) := Hb.mk (Hb.h (by repeat (first | assumption | exact Hb.newY _ _ | refine Hb.alloc ?_ | refine Hb.drew ?_ | refine Hb.ext (by assumption) ?_ | exact Hb.setSameL (by first | omega | (simp only [size_alloc, size_setB, size_drew]; omega)) | exact Hb.setSame (by assumption) | refine Hb.set (by first | omega | (simp only [size_alloc, size_setB, size_drew]; omega)) ?_ )))
    have hlow : ∀ b, VOwn b10 VB0 b → w.heap.size ≤ b := by
      rintro b (rfl | ⟨_, h⟩ | ⟨_, h⟩ | ⟨_, h⟩ | ⟨_, h⟩ | ⟨_, h⟩ | ⟨_, h⟩) <;> first | omega | cases h
    refine W_region rfl ?_
    refine WO_p (PS_move_ptr rfl) ?_
    refine WO_p (PS_nilCheck rfl) ?_
    refine WO_p (PS_fieldAddr 2435 Hvad.runUnderlying86 rfl Hvad.sizeOf79 rfl rfl) ?_
    refine WO_p (PS_move_slice rfl) ?_
    refine WO_call Hvad.call19 (by rfl) (Ret.mono (fill_spec w b10 Hvad.zeroCells86 V0 VB0 s l _ (by repeat (first | assumption | exact Ext.refl _ | refine Ext.alloc ?_ _ | refine Ext.drew ?_ | refine Ext.setB ?_ (by first | omega | (simp only [size_alloc, size_setB, size_drew]; omega)) _ | exact Ext.trans (by assumption) (by assumption) | refine Ext.trans ?_ (by assumption))) hin (vs_zero (Hb.mk (Hb.h (by repeat (first | assumption | exact Hb.newY _ _ | refine Hb.alloc ?_ | refine Hb.drew ?_ | refine Hb.ext (by assumption) ?_ | exact Hb.setSameL (by first | omega | (simp only [size_alloc, size_setB, size_drew]; omega)) | exact Hb.setSame (by assumption) | refine Hb.set (by first | omega | (simp only [size_alloc, size_setB, size_drew]; omega)) ?_ ))))) zv_zero hlow) ?_)
    rintro _ w5 ⟨rfl, hE5, hfl⟩
    have hz5 := hE5.1
    have hH3y := hH3x
    have hvz : VS v10 b10 Hvad.zeroCells86 V0 VB0 none := vs_zero (Hb.mk (Hb.h (by repeat (first | assumption | exact Hb.newY _ _ | refine Hb.alloc ?_ | refine Hb.drew ?_ | refine Hb.ext (by assumption) ?_ | exact Hb.setSameL (by first | omega | (simp only [size_alloc, size_setB, size_drew]; omega)) | exact Hb.setSame (by assumption) | refine Hb.set (by first | omega | (simp only [size_alloc, size_setB, size_drew]; omega)) ?_ ))))
    refine WO_p (PS_not rfl) ?_
    refine WO_nil ?_
    refine thn_normal ?_
    refine W_if rfl (fun hb8 => ?_) (fun hb8 => ?_)
    · have hb8p := hb8.h; try simp only [al_ete, al_dfn, Bool.not_eq_true', Bool.not_eq_false', al_ne, Bool.not_not, al_nn] at hb8p
      have hwk : wok l = false := by simpa using hb8p
      refine W_seq ?_
      refine W_region rfl ?_
      refine WO_p (PS_assign_ptr rfl) ?_
      refine WO_p (PS_assign_bool rfl) ?_
      refine WO_nil ?_
      refine thn_normal ?_
      refine W_ret ?_
      refine thn_ret ?_
      refine bodyQ_ret2 Hvad.results10 rfl rfl (.pointer _) (.bool _) rfl rfl ?_
      first
      | exact ⟨hE7, Or.inr ⟨hwk, h4, b10, _, v5, B5, hs6, rfl, hM7, hl6, hF5, fun b hb => by
          rcases hb with hb | hb
          · rcases hs5.own b hb with h | h
            · exact hlow b h
            · omega
          · cases hb⟩⟩
      | exact ⟨(by repeat (first | assumption | exact Ext.refl _ | refine Ext.alloc ?_ _ | refine Ext.drew ?_ | refine Ext.setB ?_ (by first | omega | (simp only [size_alloc, size_setB, size_drew]; omega)) _ | refine Ext.trans ?_ (by assumption))), Or.inl ⟨rfl, fun hh => by rw [hwk] at hh; cases hh.1⟩⟩
      | exact ⟨(by repeat (first | assumption | exact Ext.refl _ | refine Ext.alloc ?_ _ | refine Ext.drew ?_ | refine Ext.setB ?_ (by first | omega | (simp only [size_alloc, size_setB, size_drew]; omega)) _ | refine Ext.trans ?_ (by assumption))), Or.inl ⟨rfl, fun hh => h4 hh.2⟩⟩
    · have hb8p := hb8.h; try simp only [al_ete, al_dfn, Bool.not_eq_true', Bool.not_eq_false', al_ne, Bool.not_not, al_nn] at hb8p
      have hwk : wok l = true := by simpa using hb8p
      refine W_skip ?_
      refine thn_normal ?_
      refine W_seq ?_
      obtain ⟨c5, v5, B5, hv5, hs5, hF5⟩ := hfl hwk
      have hb5 := hv5.blk
      have hb3 : Hb w5 b3 (.cells (encEv e).toArray 31 (0, 0)) := hs5.hb hvz hH3y (by decide)
      refine W_drawD [true, true, true, true, true, true, true, true, true, true, true] 6 [0, 1, 2, 3, 4] (KeepO (fun b => b = b10) _) hmix (by kernel_rfl) rfl rfl rfl (KeepO.refl _ _) ?_
      refine D_q (i := 0) rfl ?_
      refine WH_p (PS_move_ptr rfl) rfl ?_
      refine WH_nil ?_
      refine D_q (i := 1) rfl ?_
      refine WH_p (PS_move_ptr rfl) rfl ?_
      refine WH_nil ?_
      refine D_q (i := 2) rfl ?_
      refine WH_p (PS_nilCheck rfl) rfl ?_
      refine WH_nil ?_
      refine D_q (i := 3) rfl ?_
      refine WH_p (PS_fieldAddr 2435 Hvad.runUnderlying86 rfl Hvad.sizeOf79 rfl rfl) rfl ?_
      refine WH_nil ?_
      refine D_q (i := 4) rfl ?_
      refine WH_loadAK _ Hvad.isAgg31 Hvad.sizeOf31 rfl (Hb.h (by repeat (first | assumption | exact Hb.newY _ _ | refine Hb.alloc ?_ | refine Hb.drew ?_ | refine Hb.ext (by assumption) ?_ | exact Hb.setSameL (by first | omega | (simp only [size_alloc, size_setB, size_drew]; omega)) | exact Hb.setSame (by assumption) | refine Hb.set (by first | omega | (simp only [size_alloc, size_setB, size_drew]; omega)) ?_ ))) (by intro h; first | omega | (simp only [size_alloc, size_setB, size_drew] at h; omega)) (by first | omega | assumption | rfl | decide | exact Nat.le_refl _ | (simp only [size_ic, Value.cells]; omega) | simp) (Xt.h (by first | assumption | exact Xt.whole rfl rfl | exact Xt.whole rfl (by simp only [size_ic, Value.cells]; omega) | exact ⟨rfl⟩)) ?_
      refine WH_nil ?_
      refine D_go ?_
      refine D_l (a := 5) (by kernel_rfl) rfl rfl ?_
      refine WH_call Hvad.call20 (by rfl) (Ret.mono (newM_spec b10 e _ (hev.ext (by repeat (first | assumption | exact Ext.refl _ | refine Ext.alloc ?_ _ | refine Ext.drew ?_ | refine Ext.setB ?_ (by first | omega | (simp only [size_alloc, size_setB, size_drew]; omega)) _ | exact Ext.trans (by assumption) (by assumption) | refine Ext.trans ?_ (by assumption)))) h4) ?_)
      rintro _ w6 ⟨b6, mc6, hs6, rfl, hE6, hH6, hZ6, hl6, hHS6⟩
      refine ⟨fun _ => Ext.keepO hE6 _, ?_⟩
      have hx6 : Xt mc6 0 (0 + 2435) mc6 := Xt.whole rfl hZ6.sz
      have hz6 := hZ6.sz
      have hv6 := hv5.ext (Ext.trans (Ext.drew (Ext.refl _)) hE6)
      have hEw6 : Ext w w6 := Ext.trans hE5 (Ext.trans (Ext.drew (Ext.refl _)) hE6)
      refine WH_nil ?_
      refine D_c (a := 6) (by kernel_rfl) rfl rfl ?_
      refine WH_p (PS_nilCheck rfl) rfl ?_
      refine WH_nil ?_
      refine D_c (a := 7) (by kernel_rfl) rfl rfl ?_
      refine WH_loadAE _ Hvad.isAgg69 Hvad.sizeOf69 rfl (Hb.h (by repeat (first | assumption | exact Hb.newY _ _ | refine Hb.alloc ?_ | refine Hb.drew ?_ | refine Hb.ext (by assumption) ?_ | exact Hb.setSameL (by first | omega | (simp only [size_alloc, size_setB, size_drew]; omega)) | exact Hb.setSame (by assumption) | refine Hb.set (by first | omega | (simp only [size_alloc, size_setB, size_drew]; omega)) ?_ ))) (by first | omega | assumption | rfl | decide | exact Nat.le_refl _ | (simp only [size_ic, Value.cells]; omega) | simp) (Xt.h (by first | assumption | exact Xt.whole rfl rfl | exact Xt.whole rfl (by simp only [size_ic, Value.cells]; omega) | exact ⟨rfl⟩)) ?_
      refine WH_nil ?_
      refine D_c (a := 8) (by kernel_rfl) rfl rfl ?_
      refine WH_p (PS_nilCheck rfl) rfl ?_
      refine WH_nil ?_
      refine D_c (a := 9) (by kernel_rfl) rfl rfl ?_
      refine WH_p (PS_fieldAddr 0 Hvad.runUnderlying86 rfl Hvad.sizeOf69 rfl rfl) rfl ?_
      refine WH_nil ?_
      refine D_l (a := 10) (by kernel_rfl) rfl rfl ?_
      refine WH_store Hvad.sizeOf69 rfl (v := .agg mc6) rfl (Hb.h hv6.blk) hz6 (by rw [hv6.rep.size]; show 0 + 2435 ≤ 27024; decide) hZ6.one (fun _ => KeepO.setB (O := fun b => b = b10) (Ext.keepO hE6 _) (fun _ => rfl) _) ?_
      refine WH_nil ?_
      refine D_end (by kernel_rfl) ?_
      refine thn_normal ?_
      refine W_seq ?_
      refine W_gen2 fun w7 hw7 => ?_
      have hM7 : MS w7 b10 (splice c5 0 mc6.toList) v5 B5 (M0 e hs6) := by
        rw [hw7]
        refine ms_new hv6 hZ6 (hev.ext hEw6) hHS6 (fun i h0 h1 => ?_)
        rw [hs5.out i (Or.inr h0)]; exact z86_tree h0 h1
      have hE7 : Ext w w7 := by rw [hw7]; exact Ext.setB hEw6 (by omega) _
      clear hw7
      refine W_region rfl ?_
      refine WO_p (PS_move_ptr rfl) ?_
      refine WO_p (PS_assign_ptr rfl) ?_
      refine WO_p (PS_assign_bool rfl) ?_
      refine WO_nil ?_
      refine thn_normal ?_
      refine W_ret ?_
      refine bodyQ_ret2 Hvad.results10 rfl rfl (.pointer _) (.bool _) rfl rfl ?_
      first
      | exact ⟨hE7, Or.inr ⟨hwk, h4, b10, _, v5, B5, hs6, rfl, hM7, hl6, hF5, fun b hb => by
          rcases hb with hb | hb
          · rcases hs5.own b hb with h | h
            · exact hlow b h
            · omega
          · cases hb⟩⟩
      | exact ⟨(by repeat (first | assumption | exact Ext.refl _ | refine Ext.alloc ?_ _ | refine Ext.drew ?_ | refine Ext.setB ?_ (by first | omega | (simp only [size_alloc, size_setB, size_drew]; omega)) _ | refine Ext.trans ?_ (by assumption))), Or.inl ⟨rfl, fun hh => by rw [hwk] at hh; cases hh.1⟩⟩
      | exact ⟨(by repeat (first | assumption | exact Ext.refl _ | refine Ext.alloc ?_ _ | refine Ext.drew ?_ | refine Ext.setB ?_ (by first | omega | (simp only [size_alloc, size_setB, size_drew]; omega)) _ | refine Ext.trans ?_ (by assumption))), Or.inl ⟨rfl, fun hh => h4 hh.2⟩⟩

end Go.Proofs.YgvadwGreat
