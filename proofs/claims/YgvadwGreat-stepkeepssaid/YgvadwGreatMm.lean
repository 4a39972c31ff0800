import Derived.Test.YgvadwGreatFwN
namespace Go.Proofs.YgvadwGreat
set_option linter.unusedSimpArgs false
set_option linter.unusedVariables false
/-- The top frame's memory: n bytes from lo on. -/
structure MemT (m : Mc) (k : Nat) (lo n : Nat) : Prop where
  top : m.mtop = (k : Int) + 1
  k6 : k ≤ 6
  at0 : m.base[k]? = some (lo : Int)
  at1 : m.base[k + 1]? = some ((lo + n : Nat) : Int)
  le : lo + n ≤ m.buf.2.1
  sz : m.buf.2.1 ≤ 6000000
theorem BufS.some {w : World} {s : SV} (h : BufS w s) (h0 : 0 < s.2.1) : ∃ b L, s.1 = some ⟨b, 0, none⟩ ∧ s.2.2 = L.length ∧ Hb w b (.cells (ic .u8 L) 5 (0, 0)) ∧ (∀ x ∈ L, 0 ≤ x ∧ x ≤ 255) ∧ s.2.1 ≤ L.length := by
  rcases h with h | ⟨b, L, h1, h2, h3, h4⟩
  · rw [h] at h0; simp at h0
  · exact ⟨b, L, by rw [h1], by rw [h1], h2, h3, h4⟩
theorem BufS.cap {w : World} {s : SV} (h : BufS w s) : s.2.1 ≤ s.2.2 := by
  rcases h with h | ⟨b, L, h1, h2, h3, h4⟩
  · rw [h]; exact Nat.le_refl _
  · rw [h1]; exact h4
theorem MS.putBuf {w : World} {C : Nat} {c : Array Value} {v : V} {B : VB} {m : Mc} (h : MS w C c v B m) {b : Nat} {L L' : List Int} (hb : m.buf.1 = some ⟨b, 0, none⟩) (hc : m.buf.2.2 = L.length) (hr : Hb w b (.cells (ic .u8 L) 5 (0, 0))) (hle : m.buf.2.1 ≤ L.length) (hl : L'.length = L.length) (hL : ∀ x ∈ L', 0 ≤ x ∧ x ≤ 255) :
    MS (setB w b (.cells (ic .u8 L') 5 (0, 0))) C c v B m ∧ MStep w (setB w b (.cells (ic .u8 L') 5 (0, 0))) C B m B m := by
  have hbb : bb m = some b := by unfold bb; rw [hb]
  have hv := h.vs
  have hne : ∀ b' r fz, bb m ≠ some b' → Hb w b' (.cells r 5 fz) → Hb (setB w b (.cells (ic .u8 L') 5 (0, 0))) b' (.cells r 5 fz) := fun b' r fz hn hh => hh.set (fun e => hn (by rw [hbb, e]))
  refine ⟨⟨⟨KT.setB hr (by decide) _ _ _ hv.blk, hv.rep, { accts := hv.rows.accts.kt (KT.setB hr (by decide)), slots := hv.rows.slots.kt (KT.setB hr (by decide)), journal := hv.rows.journal.kt (KT.setB hr (by decide)), logs := hv.rows.logs.kt (KT.setB hr (by decide)), temps := hv.rows.temps.kt (KT.setB hr (by decide)), ttab := hv.rows.ttab.kt (KT.setB hr (by decide)) }, hv.ty, fun x hx => (hv.codes x hx).keep hne, fun x hx => (hv.olds x hx).keep hne⟩, h.rep, h.ty, ?_, fun f hf => ⟨(h.code f hf).1.keep hne, (h.code f hf).2.keep hne⟩, h.ret.keep hne, h.hash.keep (KT.setB hr (by decide))⟩, ?_, ?_⟩
  · exact Or.inr ⟨b, L', by rw [hl, ← hc, ← hb], Hb.setSame hr, hL, by omega⟩
  · exact (KeepO.refl _ w).setB (fun _ => Or.inr hbb) _
  · exact fun x hx => Or.inl hx
theorem base_some {m : Mc} (h : MTy m) {i : Nat} (hi : i < 8) : ∃ x, m.base[i]? = some x := ⟨_, List.getElem?_eq_getElem (by rw [h.base.1]; exact hi)⟩

set_option maxRecDepth 10000 in
theorem memEnter_spec (C : Nat) (c : Array Value) (v : V) (B : VB) (m : Mc) (k : Nat) (x : Int) (w : World) (hM : MS w C c v B m) (hk : m.mtop = k) (hk6 : k ≤ 6) (hx : m.base[k]? = some x) : Ret Hvad.prog 84 #[.pointer (some ⟨C, 1, none⟩)] w fun u w' => u = .bool true ∧ MRet w C B m w' v { m with base := m.base.set (k + 1) x, mtop := k + 1 } := by
  have hblk := hM.vs.blk
  have hcs := hM.sz
  have hc_mtop := hM.rep.mtop
  have hc_buf := hM.rep.buf
  have hmt := hM.ty.mtop
  obtain ⟨hcx, hxb⟩ := hM.openB hx
  obtain ⟨y, hy⟩ := base_some hM.ty (show k + 1 < 8 by omega)
  rw [hk] at hc_mtop hmt
  refine Ret_of_W Hvad.func84 rfl rfl ?_
  refine W_seq ?_
  refine W_region rfl ?_
  refine WO_p (PS_assign_bool rfl) ?_
  refine WO_nil ?_
  refine thn_normal ?_
  refine W_seq ?_
  refine W_seq ?_
  refine W_region rfl ?_
  refine WO_p (PS_move_ptr rfl) ?_
  refine WO_p (PS_nilCheck rfl) ?_
  refine WO_p (PS_fieldAddr 9 Hvad.runUnderlying57 rfl Hvad.sizeOf5 rfl rfl) ?_
  refine WO_load (.int _ _) Hvad.isAgg5 rfl (Hb.h (by repeat (first | assumption | exact Hb.newY _ _ | refine Hb.alloc ?_ | refine Hb.drew ?_ | refine Hb.ext (by assumption) ?_ | exact Hb.setSameL (by first | omega | (simp only [size_alloc, size_setB, size_drew]; omega)) | exact Hb.setSame (by assumption) | refine Hb.set (by first | omega | (simp only [size_alloc, size_setB, size_drew]; omega)) ?_ ))) (Ce.h (by first | assumption | exact ⟨rfl⟩)) ?_
  refine WO_p (PS_gtr rfl rfl) ?_
  refine WO_nil ?_
  refine thn_normal ?_
  refine W_if rfl (fun hb2 => ?_) (fun hb2 => ?_)
  · have hb2p := hb2.h; try simp only [al_ete, al_dfn, Bool.not_eq_true', Bool.not_eq_false', al_ne, Bool.not_not, al_nn] at hb2p
    omega --END
  · have hb2p := hb2.h; try simp only [al_ete, al_dfn, Bool.not_eq_true', Bool.not_eq_false', al_ne, Bool.not_not, al_nn] at hb2p
    refine W_skip ?_
    refine thn_normal ?_
    refine W_seq ?_
    refine W_drawE [false, false, false, false, false, false, false, false, false, false, false, false, false, false, false, false, false, false, false] hmix (by kernel_rfl) rfl ?_
    refine WH_p (PS_move_ptr rfl) rfl ?_
    refine WH_p (PS_move_ptr rfl) rfl ?_
    refine WH_p (PS_nilCheck rfl) rfl ?_
    refine WH_p (PS_fieldAddr 9 Hvad.runUnderlying57 rfl Hvad.sizeOf5 rfl rfl) rfl ?_
    refine WH_load (.int _ _) Hvad.isAgg5 rfl (Hb.h (by repeat (first | assumption | exact Hb.newY _ _ | refine Hb.alloc ?_ | refine Hb.drew ?_ | refine Hb.ext (by assumption) ?_ | exact Hb.setSameL (by first | omega | (simp only [size_alloc, size_setB, size_drew]; omega)) | exact Hb.setSame (by assumption) | refine Hb.set (by first | omega | (simp only [size_alloc, size_setB, size_drew]; omega)) ?_ ))) (Ce.h (by first | assumption | exact ⟨rfl⟩)) ?_
    refine WH_p (PS_add_u8n rfl rfl (by omega) (by omega)) rfl ?_
    refine WH_p (PS_move_ptr rfl) rfl ?_
    refine WH_p (PS_move_ptr rfl) rfl ?_
    refine WH_p (PS_nilCheck rfl) rfl ?_
    refine WH_p (PS_fieldAddr 9 Hvad.runUnderlying57 rfl Hvad.sizeOf5 rfl rfl) rfl ?_
    refine WH_load (.int _ _) Hvad.isAgg5 rfl (Hb.h (by repeat (first | assumption | exact Hb.newY _ _ | refine Hb.alloc ?_ | refine Hb.drew ?_ | refine Hb.ext (by assumption) ?_ | exact Hb.setSameL (by first | omega | (simp only [size_alloc, size_setB, size_drew]; omega)) | exact Hb.setSame (by assumption) | refine Hb.set (by first | omega | (simp only [size_alloc, size_setB, size_drew]; omega)) ?_ ))) (Ce.h (by first | assumption | exact ⟨rfl⟩)) ?_
    refine WH_p (PS_nilCheck rfl) rfl ?_
    refine WH_p (PS_fieldAddr 1 Hvad.runUnderlying57 rfl Hvad.sizeOf55 rfl rfl) rfl ?_
    refine WH_p (PS_indexA Hvad.runUnderlying55 Hvad.sizeOf54 rfl rfl (by omega) (by omega)) rfl ?_
    rw [show ((k : Int)).toNat = k from Int.toNat_natCast k]
    refine WH_load (.int _ _) Hvad.isAgg54 rfl (Hb.h (by repeat (first | assumption | exact Hb.newY _ _ | refine Hb.alloc ?_ | refine Hb.drew ?_ | refine Hb.ext (by assumption) ?_ | exact Hb.setSameL (by first | omega | (simp only [size_alloc, size_setB, size_drew]; omega)) | exact Hb.setSame (by assumption) | refine Hb.set (by first | omega | (simp only [size_alloc, size_setB, size_drew]; omega)) ?_ ))) (Ce.h (by first | assumption | exact ⟨rfl⟩)) ?_
    refine WH_p (PS_nilCheck rfl) rfl ?_
    refine WH_p (PS_fieldAddr 1 Hvad.runUnderlying57 rfl Hvad.sizeOf55 rfl rfl) rfl ?_
    refine WH_p (PS_indexA Hvad.runUnderlying55 Hvad.sizeOf54 rfl rfl (by omega) (by omega)) rfl ?_
    rw [show ((k : Int) + 1).toNat = k + 1 by omega]
    refine WH_store1 Hvad.sizeOf54 rfl (v := (.int _ _)) rfl (Hb.h (by repeat (first | assumption | exact Hb.newY _ _ | refine Hb.alloc ?_ | refine Hb.drew ?_ | refine Hb.ext (by assumption) ?_ | exact Hb.setSameL (by first | omega | (simp only [size_alloc, size_setB, size_drew]; omega)) | exact Hb.setSame (by assumption) | refine Hb.set (by first | omega | (simp only [size_alloc, size_setB, size_drew]; omega)) ?_ ))) rfl (by first | omega | assumption | rfl | decide | exact Nat.le_refl _ | (simp only [size_ic, Value.cells]; omega) | simp) rfl (fun h => by cases h) ?_
    refine WH_nil ?_
    refine thn_normal ?_
    refine W_seq ?_
    obtain ⟨hM1, hS1⟩ := (hM.ext (Ext.drew (Ext.refl w))).put_base hy x hxb
    have hblk1 := hM1.vs.blk
    have hc_mtop1 := hM1.rep.mtop
    have hcs1 := hM1.sz
    rw [show ({ m with base := m.base.set (k + 1) x } : Mc).mtop = (k : Int) from hk] at hc_mtop1
    refine W_region rfl ?_
    refine WO_p (PS_move_ptr rfl) ?_
    refine WO_p (PS_nilCheck rfl) ?_
    refine WO_p (PS_fieldAddr 9 Hvad.runUnderlying57 rfl Hvad.sizeOf5 rfl rfl) ?_
    refine WO_load (.int _ _) Hvad.isAgg5 rfl (Hb.h (by repeat (first | assumption | exact Hb.newY _ _ | refine Hb.alloc ?_ | refine Hb.drew ?_ | refine Hb.ext (by assumption) ?_ | exact Hb.setSameL (by first | omega | (simp only [size_alloc, size_setB, size_drew]; omega)) | exact Hb.setSame (by assumption) | refine Hb.set (by first | omega | (simp only [size_alloc, size_setB, size_drew]; omega)) ?_ ))) (Ce.h (by first | assumption | exact ⟨rfl⟩)) ?_
    refine WO_p (PS_add_u8n rfl rfl (by omega) (by omega)) ?_
    refine WO_p (PS_nilCheck rfl) ?_
    refine WO_p (PS_fieldAddr 9 Hvad.runUnderlying57 rfl Hvad.sizeOf5 rfl rfl) ?_
    refine WO_store1 Hvad.sizeOf5 rfl (v := (.int _ _)) rfl (Hb.h (by repeat (first | assumption | exact Hb.newY _ _ | refine Hb.alloc ?_ | refine Hb.drew ?_ | refine Hb.ext (by assumption) ?_ | exact Hb.setSameL (by first | omega | (simp only [size_alloc, size_setB, size_drew]; omega)) | exact Hb.setSame (by assumption) | refine Hb.set (by first | omega | (simp only [size_alloc, size_setB, size_drew]; omega)) ?_ ))) rfl (by first | omega | assumption | rfl | decide | exact Nat.le_refl _ | (simp only [size_ic, Value.cells]; omega) | simp) rfl ?_
    refine WO_nil ?_
    refine thn_normal ?_
    refine W_seq ?_
    obtain ⟨hM2, hS2⟩ := hM1.put_mtop ((k : Int) + 1) (by omega)
    refine W_region rfl ?_
    refine WO_p (PS_assign_bool rfl) ?_
    refine WO_nil ?_
    refine thn_normal ?_
    refine W_ret ?_
    refine bodyQ_ret1 Hvad.results84 rfl (.bool _) rfl ?_
    exact ⟨rfl, _, _, hM2, ((MStep.ext (Ext.drew (Ext.refl w))).trans hS1).trans hS2⟩

set_option maxRecDepth 10000 in
theorem memLeave_spec (C : Nat) (c : Array Value) (v : V) (B : VB) (m : Mc) (k : Nat) (w : World) (hM : MS w C c v B m) (hk : m.mtop = (k : Int) + 1) : Ret Hvad.prog 152 #[.pointer (some ⟨C, 1, none⟩)] w fun u w' => u = .bool true ∧ MRet w C B m w' v { m with mtop := k } := by
  have hblk := hM.vs.blk
  have hcs := hM.sz
  have hc_mtop := hM.rep.mtop
  have hc_buf := hM.rep.buf
  have hmt := hM.ty.mtop
  rw [hk] at hc_mtop hmt
  refine Ret_of_W Hvad.func152 rfl rfl ?_
  refine W_seq ?_
  refine W_region rfl ?_
  refine WO_p (PS_assign_bool rfl) ?_
  refine WO_nil ?_
  refine thn_normal ?_
  refine W_seq ?_
  refine W_seq ?_
  refine W_region rfl ?_
  refine WO_p (PS_move_ptr rfl) ?_
  refine WO_p (PS_nilCheck rfl) ?_
  refine WO_p (PS_fieldAddr 9 Hvad.runUnderlying57 rfl Hvad.sizeOf5 rfl rfl) ?_
  refine WO_load (.int _ _) Hvad.isAgg5 rfl (Hb.h (by repeat (first | assumption | exact Hb.newY _ _ | refine Hb.alloc ?_ | refine Hb.drew ?_ | refine Hb.ext (by assumption) ?_ | exact Hb.setSameL (by first | omega | (simp only [size_alloc, size_setB, size_drew]; omega)) | exact Hb.setSame (by assumption) | refine Hb.set (by first | omega | (simp only [size_alloc, size_setB, size_drew]; omega)) ?_ ))) (Ce.h (by first | assumption | exact ⟨rfl⟩)) ?_
  refine WO_p (PS_eql rfl rfl) ?_
  refine WO_nil ?_
  refine thn_normal ?_
  refine W_if rfl (fun hb2 => ?_) (fun hb2 => ?_)
  · have hb2p := hb2.h; try simp only [al_ete, al_dfn, Bool.not_eq_true', Bool.not_eq_false', al_ne, Bool.not_not, al_nn] at hb2p
    omega --END
  · have hb2p := hb2.h; try simp only [al_ete, al_dfn, Bool.not_eq_true', Bool.not_eq_false', al_ne, Bool.not_not, al_nn] at hb2p
    refine W_skip ?_
    refine thn_normal ?_
    refine W_seq ?_
    refine W_region rfl ?_
    refine WO_p (PS_move_ptr rfl) ?_
    refine WO_p (PS_nilCheck rfl) ?_
    refine WO_p (PS_fieldAddr 9 Hvad.runUnderlying57 rfl Hvad.sizeOf5 rfl rfl) ?_
    refine WO_load (.int _ _) Hvad.isAgg5 rfl (Hb.h (by repeat (first | assumption | exact Hb.newY _ _ | refine Hb.alloc ?_ | refine Hb.drew ?_ | refine Hb.ext (by assumption) ?_ | exact Hb.setSameL (by first | omega | (simp only [size_alloc, size_setB, size_drew]; omega)) | exact Hb.setSame (by assumption) | refine Hb.set (by first | omega | (simp only [size_alloc, size_setB, size_drew]; omega)) ?_ ))) (Ce.h (by first | assumption | exact ⟨rfl⟩)) ?_
    refine WO_p (PS_sub_u8n rfl rfl (by omega) (by omega)) ?_
    rw [show (k : Int) + 1 - 1 = k by omega]
    refine WO_p (PS_nilCheck rfl) ?_
    refine WO_p (PS_fieldAddr 9 Hvad.runUnderlying57 rfl Hvad.sizeOf5 rfl rfl) ?_
    refine WO_store1 Hvad.sizeOf5 rfl (v := (.int _ _)) rfl (Hb.h (by repeat (first | assumption | exact Hb.newY _ _ | refine Hb.alloc ?_ | refine Hb.drew ?_ | refine Hb.ext (by assumption) ?_ | exact Hb.setSameL (by first | omega | (simp only [size_alloc, size_setB, size_drew]; omega)) | exact Hb.setSame (by assumption) | refine Hb.set (by first | omega | (simp only [size_alloc, size_setB, size_drew]; omega)) ?_ ))) rfl (by first | omega | assumption | rfl | decide | exact Nat.le_refl _ | (simp only [size_ic, Value.cells]; omega) | simp) rfl ?_
    refine WO_nil ?_
    refine thn_normal ?_
    refine W_seq ?_
    obtain ⟨hM2, hS2⟩ := hM.put_mtop (k : Int) (by omega)
    refine W_region rfl ?_
    refine WO_p (PS_assign_bool rfl) ?_
    refine WO_nil ?_
    refine thn_normal ?_
    refine W_ret ?_
    refine bodyQ_ret1 Hvad.results152 rfl (.bool _) rfl ?_
    exact ⟨rfl, _, _, hM2, hS2⟩

set_option maxRecDepth 10000 in
theorem memTop_spec (C : Nat) (c : Array Value) (v : V) (B : VB) (m : Mc) (k lo n : Nat) (w : World) (hM : MS w C c v B m) (hT : MemT m k lo n) : Ret Hvad.prog 242 #[.pointer (some ⟨C, 1, none⟩)] w fun u w' => Ext w w' ∧ ∃ p, u = .tuple #[.slice p n n, .bool true] ∧ ∀ b, m.buf.1 = some ⟨b, 0, none⟩ → 0 < n → p = some ⟨b, lo, none⟩ := by
  have hblk := hM.vs.blk
  have hcs := hM.sz
  have hc_mtop := hM.rep.mtop
  have hc_buf := hM.rep.buf
  have hmt := hM.ty.mtop
  obtain ⟨ht1, hk6, hlo, hhi, hle, hsz⟩ := hT
  obtain ⟨hclo, hlob⟩ := hM.openB hlo
  obtain ⟨hchi, hhib⟩ := hM.openB hhi
  rw [ht1] at hc_mtop hmt
  have hcap := hM.buf.cap
  refine Ret_of_W Hvad.func242 rfl rfl ?_
  refine W_seq ?_
  refine W_region rfl ?_
  refine WO_p (PS_assign_slice rfl) ?_
  refine WO_p (PS_assign_bool rfl) ?_
  refine WO_nil ?_
  refine thn_normal ?_
  refine W_seq ?_
  refine W_seq ?_
  refine W_region rfl ?_
  refine WO_p (PS_move_ptr rfl) ?_
  refine WO_p (PS_nilCheck rfl) ?_
  refine WO_p (PS_fieldAddr 9 Hvad.runUnderlying57 rfl Hvad.sizeOf5 rfl rfl) ?_
  refine WO_load (.int _ _) Hvad.isAgg5 rfl (Hb.h (by repeat (first | assumption | exact Hb.newY _ _ | refine Hb.alloc ?_ | refine Hb.drew ?_ | refine Hb.ext (by assumption) ?_ | exact Hb.setSameL (by first | omega | (simp only [size_alloc, size_setB, size_drew]; omega)) | exact Hb.setSame (by assumption) | refine Hb.set (by first | omega | (simp only [size_alloc, size_setB, size_drew]; omega)) ?_ ))) (Ce.h (by first | assumption | exact ⟨rfl⟩)) ?_
  refine WO_p (PS_eql rfl rfl) ?_
  refine WO_p (PS_move_bool rfl) ?_
  refine WO_if (t := 11) rfl (fun hb2 => ?_) (fun hb2 => ?_)
  · have hb2p := hb2.h; try simp only [al_ete, al_dfn, Bool.not_eq_true', Bool.not_eq_false', al_ne, Bool.not_not, al_nn] at hb2p
    omega --END
  · have hb2p := hb2.h; try simp only [al_ete, al_dfn, Bool.not_eq_true', Bool.not_eq_false', al_ne, Bool.not_not, al_nn] at hb2p
    refine WO_guardT rfl rfl hb2.h ?_
    refine WO_p (PS_move_ptr rfl) ?_
    refine WO_guardT rfl rfl hb2.h ?_
    refine WO_p (PS_nilCheck rfl) ?_
    refine WO_guardT rfl rfl hb2.h ?_
    refine WO_p (PS_fieldAddr 9 Hvad.runUnderlying57 rfl Hvad.sizeOf5 rfl rfl) ?_
    refine WO_guardT rfl rfl hb2.h ?_
    refine WO_load (.int _ _) Hvad.isAgg5 rfl (Hb.h (by repeat (first | assumption | exact Hb.newY _ _ | refine Hb.alloc ?_ | refine Hb.drew ?_ | refine Hb.ext (by assumption) ?_ | exact Hb.setSameL (by first | omega | (simp only [size_alloc, size_setB, size_drew]; omega)) | exact Hb.setSame (by assumption) | refine Hb.set (by first | omega | (simp only [size_alloc, size_setB, size_drew]; omega)) ?_ ))) (Ce.h (by first | assumption | exact ⟨rfl⟩)) ?_
    refine WO_guardT rfl rfl hb2.h ?_
    refine WO_p (PS_gtr rfl rfl) ?_
    refine WO_p (PS_pickF rfl hb2.h rfl) ?_
    refine WO_nil ?_
    refine thn_normal ?_
    refine W_if rfl (fun hb4 => ?_) (fun hb4 => ?_)
    · have hb4p := hb4.h; try simp only [al_ete, al_dfn, Bool.not_eq_true', Bool.not_eq_false', al_ne, Bool.not_not, al_nn] at hb4p
      omega --END
    · have hb4p := hb4.h; try simp only [al_ete, al_dfn, Bool.not_eq_true', Bool.not_eq_false', al_ne, Bool.not_not, al_nn] at hb4p
      refine W_skip ?_
      refine thn_normal ?_
      refine W_seq ?_
      refine W_drawE [false, false, false, false, false, false, false, false, false, false, false] hmix (by kernel_rfl) rfl ?_
      refine WH_p (PS_move_ptr rfl) rfl ?_
      refine WH_p (PS_move_ptr rfl) rfl ?_
      refine WH_p (PS_nilCheck rfl) rfl ?_
      refine WH_p (PS_fieldAddr 9 Hvad.runUnderlying57 rfl Hvad.sizeOf5 rfl rfl) rfl ?_
      refine WH_load (.int _ _) Hvad.isAgg5 rfl (Hb.h (by repeat (first | assumption | exact Hb.newY _ _ | refine Hb.alloc ?_ | refine Hb.drew ?_ | refine Hb.ext (by assumption) ?_ | exact Hb.setSameL (by first | omega | (simp only [size_alloc, size_setB, size_drew]; omega)) | exact Hb.setSame (by assumption) | refine Hb.set (by first | omega | (simp only [size_alloc, size_setB, size_drew]; omega)) ?_ ))) (Ce.h (by first | assumption | exact ⟨rfl⟩)) ?_
      refine WH_p (PS_sub_u8n rfl rfl (by omega) (by omega)) rfl ?_
      refine WH_p (PS_nilCheck rfl) rfl ?_
      refine WH_p (PS_fieldAddr 1 Hvad.runUnderlying57 rfl Hvad.sizeOf55 rfl rfl) rfl ?_
      refine WH_p (PS_indexA Hvad.runUnderlying55 Hvad.sizeOf54 rfl rfl (by omega) (by omega)) rfl ?_
      rw [show ((k : Int) + 1 - 1).toNat = k by omega]
      refine WH_load (.int _ _) Hvad.isAgg54 rfl (Hb.h (by repeat (first | assumption | exact Hb.newY _ _ | refine Hb.alloc ?_ | refine Hb.drew ?_ | refine Hb.ext (by assumption) ?_ | exact Hb.setSameL (by first | omega | (simp only [size_alloc, size_setB, size_drew]; omega)) | exact Hb.setSame (by assumption) | refine Hb.set (by first | omega | (simp only [size_alloc, size_setB, size_drew]; omega)) ?_ ))) (Ce.h (by first | assumption | exact ⟨rfl⟩)) ?_
      refine WH_p (PS_assign_int rfl) rfl ?_
      refine WH_nil ?_
      refine thn_normal ?_
      refine W_seq ?_
      refine W_drawE [false, false, false, false, false, false, false, false, false, false] hmix (by kernel_rfl) rfl ?_
      refine WH_p (PS_move_ptr rfl) rfl ?_
      refine WH_p (PS_move_ptr rfl) rfl ?_
      refine WH_p (PS_nilCheck rfl) rfl ?_
      refine WH_p (PS_fieldAddr 9 Hvad.runUnderlying57 rfl Hvad.sizeOf5 rfl rfl) rfl ?_
      refine WH_load (.int _ _) Hvad.isAgg5 rfl (Hb.h (by repeat (first | assumption | exact Hb.newY _ _ | refine Hb.alloc ?_ | refine Hb.drew ?_ | refine Hb.ext (by assumption) ?_ | exact Hb.setSameL (by first | omega | (simp only [size_alloc, size_setB, size_drew]; omega)) | exact Hb.setSame (by assumption) | refine Hb.set (by first | omega | (simp only [size_alloc, size_setB, size_drew]; omega)) ?_ ))) (Ce.h (by first | assumption | exact ⟨rfl⟩)) ?_
      refine WH_p (PS_nilCheck rfl) rfl ?_
      refine WH_p (PS_fieldAddr 1 Hvad.runUnderlying57 rfl Hvad.sizeOf55 rfl rfl) rfl ?_
      refine WH_p (PS_indexA Hvad.runUnderlying55 Hvad.sizeOf54 rfl rfl (by omega) (by omega)) rfl ?_
      rw [show ((k : Int) + 1).toNat = k + 1 by omega]
      refine WH_load (.int _ _) Hvad.isAgg54 rfl (Hb.h (by repeat (first | assumption | exact Hb.newY _ _ | refine Hb.alloc ?_ | refine Hb.drew ?_ | refine Hb.ext (by assumption) ?_ | exact Hb.setSameL (by first | omega | (simp only [size_alloc, size_setB, size_drew]; omega)) | exact Hb.setSame (by assumption) | refine Hb.set (by first | omega | (simp only [size_alloc, size_setB, size_drew]; omega)) ?_ ))) (Ce.h (by first | assumption | exact ⟨rfl⟩)) ?_
      refine WH_p (PS_assign_int rfl) rfl ?_
      refine WH_nil ?_
      refine thn_normal ?_
      refine W_seq ?_
      refine W_seq ?_
      refine W_region rfl ?_
      refine WO_p (PS_move_int rfl) ?_
      refine WO_p (PS_move_int rfl) ?_
      refine WO_p (PS_gtr rfl rfl) ?_
      refine WO_p (PS_move_bool rfl) ?_
      refine WO_if (t := 40) rfl (fun hb6 => ?_) (fun hb6 => ?_)
      · have hb6p := hb6.h; try simp only [al_ete, al_dfn, Bool.not_eq_true', Bool.not_eq_false', al_ne, Bool.not_not, al_nn] at hb6p
        omega --END
      · have hb6p := hb6.h; try simp only [al_ete, al_dfn, Bool.not_eq_true', Bool.not_eq_false', al_ne, Bool.not_not, al_nn] at hb6p
        refine WO_guardT rfl rfl hb6.h ?_
        refine WO_p (PS_move_int rfl) ?_
        refine WO_guardT rfl rfl hb6.h ?_
        refine WO_p (PS_conv_u64n Hvad.runUnderlying54 Hvad.runUnderlying26 rfl (by omega) (by omega)) ?_
        refine WO_guardT rfl rfl hb6.h ?_
        refine WO_p (PS_move_ptr rfl) ?_
        refine WO_guardT rfl rfl hb6.h ?_
        refine WO_p (PS_nilCheck rfl) ?_
        refine WO_guardT rfl rfl hb6.h ?_
        refine WO_p (PS_fieldAddr 0 Hvad.runUnderlying57 rfl Hvad.sizeOf32 rfl rfl) ?_
        refine WO_guardT rfl rfl hb6.h ?_
        refine WO_load (.slice _ _ _) Hvad.isAgg32 rfl (Hb.h (by repeat (first | assumption | exact Hb.newY _ _ | refine Hb.alloc ?_ | refine Hb.drew ?_ | refine Hb.ext (by assumption) ?_ | exact Hb.setSameL (by first | omega | (simp only [size_alloc, size_setB, size_drew]; omega)) | exact Hb.setSame (by assumption) | refine Hb.set (by first | omega | (simp only [size_alloc, size_setB, size_drew]; omega)) ?_ ))) (Ce.h (by first | assumption | exact ⟨rfl⟩)) ?_
        refine WO_guardT rfl rfl hb6.h ?_
        refine WO_p (PS_lenS Hvad.runUnderlying32 rfl) ?_
        refine WO_guardT rfl rfl hb6.h ?_
        refine WO_p (PS_conv_u64n Hvad.runUnderlying3 Hvad.runUnderlying26 rfl (by omega) (by omega)) ?_
        refine WO_guardT rfl rfl hb6.h ?_
        refine WO_p (PS_gtr rfl rfl) ?_
        refine WO_p (PS_pickF rfl hb6.h rfl) ?_
        refine WO_nil ?_
        refine thn_normal ?_
        refine W_if rfl (fun hb8 => ?_) (fun hb8 => ?_)
        · have hb8p := hb8.h; try simp only [al_ete, al_dfn, Bool.not_eq_true', Bool.not_eq_false', al_ne, Bool.not_not, al_nn] at hb8p
          omega --END
        · have hb8p := hb8.h; try simp only [al_ete, al_dfn, Bool.not_eq_true', Bool.not_eq_false', al_ne, Bool.not_not, al_nn] at hb8p
          refine W_skip ?_
          refine thn_normal ?_
          refine W_seq ?_
          refine W_region rfl ?_
          refine WO_p (PS_move_ptr rfl) ?_
          refine WO_p (PS_nilCheck rfl) ?_
          refine WO_p (PS_fieldAddr 0 Hvad.runUnderlying57 rfl Hvad.sizeOf32 rfl rfl) ?_
          refine WO_load (.slice _ _ _) Hvad.isAgg32 rfl (Hb.h (by repeat (first | assumption | exact Hb.newY _ _ | refine Hb.alloc ?_ | refine Hb.drew ?_ | refine Hb.ext (by assumption) ?_ | exact Hb.setSameL (by first | omega | (simp only [size_alloc, size_setB, size_drew]; omega)) | exact Hb.setSame (by assumption) | refine Hb.set (by first | omega | (simp only [size_alloc, size_setB, size_drew]; omega)) ?_ ))) (Ce.h (by first | assumption | exact ⟨rfl⟩)) ?_
          refine WO_p (PS_move_int rfl) ?_
          refine WO_p (PS_move_int rfl) ?_
          refine WO_p (PS_move_int rfl) ?_
          refine WO_p (PS_slG_lhm Hvad.runUnderlying32 Hvad.sizeOf5 rfl rfl rfl rfl (by omega) (by omega) (by omega) (by omega) (by omega) (by omega)) ?_
          rw [Int.toNat_natCast lo, Int.toNat_natCast (lo + n), Nat.add_sub_cancel_left]
          refine WO_p (PS_assign_slice rfl) ?_
          refine WO_p (PS_assign_bool rfl) ?_
          refine WO_nil ?_
          refine thn_normal ?_
          refine W_ret ?_
          refine bodyQ_ret2 Hvad.results242 rfl rfl (.slice _ _ _) (.bool _) rfl rfl ?_
          exact ⟨(by repeat (first | assumption | exact Ext.refl _ | refine Ext.alloc ?_ _ | refine Ext.drew ?_ | refine Ext.setB ?_ (by first | omega | (simp only [size_alloc, size_setB, size_drew]; omega)) _ | refine Ext.trans ?_ (by assumption))), _, rfl, fun b hb h0 => by rw [hb, slp'_some (by omega)]; simp⟩

set_option maxRecDepth 10000 in
theorem memLen_spec (C : Nat) (c : Array Value) (v : V) (B : VB) (m : Mc) (k lo n : Nat) (w : World) (hM : MS w C c v B m) (hT : MemT m k lo n) : Ret Hvad.prog 164 #[.pointer (some ⟨C, 1, none⟩)] w fun u w' => Ext w w' ∧ u = .int .u32 n := by
  have h1 := hT.le
  have h2 := hT.sz
  refine Ret_of_W Hvad.func164 rfl rfl ?_
  refine W_seq ?_
  refine W_region rfl ?_
  refine WO_p (PS_assign_int rfl) ?_
  refine WO_nil ?_
  refine thn_normal ?_
  refine W_seq ?_
  refine W_region rfl ?_
  refine WO_p (PS_move_ptr rfl) ?_
  refine WO_call Hvad.call242 (by rfl) (Ret.mono (memTop_spec C c v B m k lo n _ hM hT) ?_)
  rintro _ w1 ⟨hE1, p, rfl, hp⟩
  refine WO_p (PS_move_tuple rfl) ?_
  refine WO_p (PS_extract_slice rfl rfl) ?_
  refine WO_p (PS_extract_bool rfl rfl) ?_
  refine WO_p (PS_assign_slice rfl) ?_
  refine WO_p (PS_assign_bool rfl) ?_
  refine WO_nil ?_
  refine thn_normal ?_
  refine W_seq ?_
  refine W_region rfl ?_
  refine WO_p (PS_move_slice rfl) ?_
  refine WO_p (PS_lenS Hvad.runUnderlying32 rfl) ?_
  refine WO_p (PS_conv_u32n Hvad.runUnderlying3 Hvad.runUnderlying54 rfl (by omega) (by omega)) ?_
  refine WO_p (PS_assign_int rfl) ?_
  refine WO_nil ?_
  refine thn_normal ?_
  refine W_ret ?_
  refine bodyQ_ret1 Hvad.results164 rfl (.int _ _) rfl ?_
  exact ⟨hE1, rfl⟩

set_option maxRecDepth 10000 in
theorem memPart_spec (C : Nat) (c : Array Value) (v : V) (B : VB) (m : Mc) (k lo n : Nat) (off q b : Nat) (w : World) (hM : MS w C c v B m) (hT : MemT m k lo n) (hb : m.buf.1 = some ⟨b, 0, none⟩) (hq : 0 < q) (hqn : off + q ≤ n) : Ret Hvad.prog 237 #[.pointer (some ⟨C, 1, none⟩), .int .u32 off, .int .u32 q] w fun u w' => Ext w w' ∧ u = .tuple #[.slice (some ⟨b, lo + off, none⟩) q q, .bool true] := by
  have h1 := hT.le
  have h2 := hT.sz
  refine Ret_of_W Hvad.func237 rfl rfl ?_
  refine W_seq ?_
  refine W_region rfl ?_
  refine WO_p (PS_assign_slice rfl) ?_
  refine WO_p (PS_assign_bool rfl) ?_
  refine WO_nil ?_
  refine thn_normal ?_
  refine W_seq ?_
  refine W_region rfl ?_
  refine WO_p (PS_move_ptr rfl) ?_
  refine WO_call Hvad.call242 (by rfl) (Ret.mono (memTop_spec C c v B m k lo n _ hM hT) ?_)
  rintro _ w1 ⟨hE1, p, rfl, hp⟩
  obtain rfl := hp b hb (by omega)
  refine WO_p (PS_move_tuple rfl) ?_
  refine WO_p (PS_extract_slice rfl rfl) ?_
  refine WO_p (PS_extract_bool rfl rfl) ?_
  refine WO_p (PS_assign_slice rfl) ?_
  refine WO_p (PS_assign_bool rfl) ?_
  refine WO_nil ?_
  refine thn_normal ?_
  refine W_seq ?_
  refine W_region rfl ?_
  refine WO_p (PS_move_slice rfl) ?_
  refine WO_p (PS_lenS Hvad.runUnderlying32 rfl) ?_
  refine WO_p (PS_conv_u32n Hvad.runUnderlying3 Hvad.runUnderlying54 rfl (by omega) (by omega)) ?_
  refine WO_p (PS_assign_int rfl) ?_
  refine WO_nil ?_
  refine thn_normal ?_
  refine W_seq ?_
  refine W_seq ?_
  refine W_region rfl ?_
  refine WO_p (PS_move_bool rfl) ?_
  refine WO_p (PS_not rfl) ?_
  refine WO_p (PS_move_bool rfl) ?_
  refine WO_if (t := 21) rfl (fun hb4 => ?_) (fun hb4 => ?_)
  · have hb4p := hb4.h; try simp only [al_ete, al_dfn, Bool.not_eq_true', Bool.not_eq_false', al_ne, Bool.not_not, al_nn] at hb4p
    simp at hb4p --END
  · have hb4p := hb4.h; try simp only [al_ete, al_dfn, Bool.not_eq_true', Bool.not_eq_false', al_ne, Bool.not_not, al_nn] at hb4p
    refine WO_guardT rfl rfl hb4.h ?_
    refine WO_p (PS_move_int rfl) ?_
    refine WO_guardT rfl rfl hb4.h ?_
    refine WO_p (PS_move_int rfl) ?_
    refine WO_guardT rfl rfl hb4.h ?_
    refine WO_p (PS_gtr rfl rfl) ?_
    refine WO_p (PS_pickF rfl hb4.h rfl) ?_
    refine WO_p (PS_move_bool rfl) ?_
    refine WO_if (t := 26) rfl (fun hb6 => ?_) (fun hb6 => ?_)
    · have hb6p := hb6.h; try simp only [al_ete, al_dfn, Bool.not_eq_true', Bool.not_eq_false', al_ne, Bool.not_not, al_nn] at hb6p
      omega --END
    · have hb6p := hb6.h; try simp only [al_ete, al_dfn, Bool.not_eq_true', Bool.not_eq_false', al_ne, Bool.not_not, al_nn] at hb6p
      refine WO_guardT rfl rfl hb6.h ?_
      refine WO_p (PS_move_int rfl) ?_
      refine WO_guardT rfl rfl hb6.h ?_
      refine WO_p (PS_move_int rfl) ?_
      refine WO_guardT rfl rfl hb6.h ?_
      refine WO_p (PS_move_int rfl) ?_
      refine WO_guardT rfl rfl hb6.h ?_
      refine WO_p (PS_sub_u32n rfl rfl (by omega) (by omega)) ?_
      refine WO_guardT rfl rfl hb6.h ?_
      refine WO_p (PS_gtr rfl rfl) ?_
      refine WO_p (PS_pickF rfl hb6.h rfl) ?_
      refine WO_nil ?_
      refine thn_normal ?_
      refine W_if rfl (fun hb8 => ?_) (fun hb8 => ?_)
      · have hb8p := hb8.h; try simp only [al_ete, al_dfn, Bool.not_eq_true', Bool.not_eq_false', al_ne, Bool.not_not, al_nn] at hb8p
        omega --END
      · have hb8p := hb8.h; try simp only [al_ete, al_dfn, Bool.not_eq_true', Bool.not_eq_false', al_ne, Bool.not_not, al_nn] at hb8p
        refine W_skip ?_
        refine thn_normal ?_
        refine W_seq ?_
        refine W_region rfl ?_
        refine WO_p (PS_move_slice rfl) ?_
        refine WO_p (PS_move_int rfl) ?_
        refine WO_p (PS_move_int rfl) ?_
        refine WO_p (PS_move_int rfl) ?_
        refine WO_p (PS_add_u32n rfl rfl (by omega) (by omega)) ?_
        refine WO_p (PS_move_int rfl) ?_
        refine WO_p (PS_move_int rfl) ?_
        refine WO_p (PS_add_u32n rfl rfl (by omega) (by omega)) ?_
        refine WO_p (PS_slG_lhm Hvad.runUnderlying32 Hvad.sizeOf5 rfl rfl rfl rfl (by omega) (by omega) (by omega) (by omega) (by omega) (by omega)) ?_
        rw [show ((off : Int) + (q : Int)).toNat = off + q by omega, Int.toNat_natCast off, Nat.add_sub_cancel_left, slp'_some (by omega), Nat.mul_one]
        refine WO_p (PS_assign_slice rfl) ?_
        refine WO_p (PS_assign_bool rfl) ?_
        refine WO_nil ?_
        refine thn_normal ?_
        refine W_ret ?_
        refine bodyQ_ret2 Hvad.results237 rfl rfl (.slice _ _ _) (.bool _) rfl rfl ?_
        exact ⟨hE1, rfl⟩

end Go.Proofs.YgvadwGreat
