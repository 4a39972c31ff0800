import Derived.Test.YgvadwGreatMm
import Derived.Test.YgvadwGreatUa
namespace Go.Proofs.YgvadwGreat
set_option linter.unusedSimpArgs false
set_option linter.unusedVariables false
theorem MS.bufL {w : World} {C : Nat} {c : Array Value} {v : V} {B : VB} {m : Mc} (h : MS w C c v B m) {b : Nat} (hb : m.buf.1 = some ⟨b, 0, none⟩) : ∃ L, m.buf.2.2 = L.length ∧ Hb w b (.cells (ic .u8 L) 5 (0, 0)) ∧ (∀ x ∈ L, 0 ≤ x ∧ x ≤ 255) ∧ m.buf.2.1 ≤ L.length := by
  rcases h.buf with h1 | ⟨b', L, h1, h2, h3, h4⟩
  · rw [h1] at hb; cases hb
  · have e : m.buf.1 = some ⟨b', 0, none⟩ := by rw [h1]
    rw [hb] at e
    injection e with e
    injection e with e
    subst e
    exact ⟨L, by rw [h1], h2, h3, h4⟩
theorem Xt.ic (k : IntKind) (L : List Int) (o q : Nat) (h : o + q ≤ L.length) : Xt (ic k L) o (o + q) (ic k ((L.drop o).take q)) := ⟨by
  refine Array.ext_getElem? fun i => ?_
  rw [Array.getElem?_extract, size_ic]
  simp only [Go.Proofs.YgvadwGreat.ic, List.getElem?_toArray, List.getElem?_map, List.getElem?_take, List.getElem?_drop]
  by_cases hi : i < q
  · rw [if_pos (by omega), if_pos hi]
  · rw [if_neg (by omega), if_neg hi]; rfl⟩
theorem by_part {L : List Int} (h : ∀ x ∈ L, 0 ≤ x ∧ x ≤ 255) (o q : Nat) : ∀ x ∈ (L.drop o).take q, 0 ≤ x ∧ x ≤ 255 := fun x hx => h x (List.mem_of_mem_drop (List.mem_of_mem_take hx))
theorem by_mid {L M : List Int} (h : ∀ x ∈ L, 0 ≤ x ∧ x ≤ 255) (hM : ∀ x ∈ M, 0 ≤ x ∧ x ≤ 255) (o q : Nat) : ∀ x ∈ L.take o ++ M ++ L.drop q, 0 ≤ x ∧ x ≤ 255 := by
  intro x hx
  rcases List.mem_append.1 hx with hx | hx
  · rcases List.mem_append.1 hx with hx | hx
    · exact h x (List.mem_of_mem_take hx)
    · exact hM x hx
  · exact h x (List.mem_of_mem_drop hx)
theorem len_mid {L M : List Int} {o : Nat} (h : o + M.length ≤ L.length) : (L.take o ++ M ++ L.drop (o + M.length)).length = L.length := by simp; omega
theorem len_part {L : List Int} {o q : Nat} (h : o + q ≤ L.length) : ((L.drop o).take q).length = q := by simp; omega
theorem MStep.pre {w w1 w2 : World} {C : Nat} {B B2 : VB} {m m2 : Mc} (h : Ext w w1) (h' : MStep w1 w2 C B m B2 m2) : MStep w w2 C B m B2 m2 := (MStep.ext h).trans h'
theorem by_zero (n : Nat) : ∀ x ∈ List.replicate n (0 : Int), 0 ≤ x ∧ x ≤ 255 := fun x hx => by rw [(List.mem_replicate.1 hx).2]; omega

set_option maxRecDepth 10000 in
theorem memRead_spec (C : Nat) (c : Array Value) (v : V) (B : VB) (m : Mc) (k lo n : Nat) (off q b : Nat) (w : World) (hM : MS w C c v B m) (hT : MemT m k lo n) (hb : m.buf.1 = some ⟨b, 0, none⟩) (hq : 0 < q) (hqn : off + q ≤ n) : Ret Hvad.prog 260 #[.pointer (some ⟨C, 1, none⟩), .int .u32 off, .int .u32 q] w fun u w' => Ext w w' ∧ ∃ s' L', u = .slice s'.1 s'.2.1 s'.2.2 ∧ NewB w w' s' L' ∧ L'.length = q ∧ ∀ x ∈ L', 0 ≤ x ∧ x ≤ 255 := by
  obtain ⟨L, hcp, hr, hL, hle⟩ := hM.bufL hb
  have h1 := hT.le
  have h2 := hT.sz
  have hz : madeCells (Value.int IntKind.u8 0).cells (q * Hvad.t5.size) = ic .u8 (List.replicate q 0) := by rw [show Hvad.t5.size = 1 from rfl, Nat.mul_one]; exact made_ic .u8 q
  have hlp : ((L.drop (lo + off)).take q).length = q := len_part (by omega)
  refine Ret_of_W Hvad.func260 rfl rfl ?_
  refine W_seq ?_
  refine W_region rfl ?_
  refine WO_p (PS_assign_slice rfl) ?_
  refine WO_nil ?_
  refine thn_normal ?_
  refine W_seq ?_
  refine W_region rfl ?_
  refine WO_p (PS_move_ptr rfl) ?_
  refine WO_p (PS_move_int rfl) ?_
  refine WO_p (PS_move_int rfl) ?_
  refine WO_call Hvad.call237 (by rfl) (Ret.mono (memPart_spec C c v B m k lo n off q b _ hM hT hb hq hqn) ?_)
  rintro _ w1 ⟨hE1, rfl⟩
  have hr1 := Hb.ext hE1 hr
  refine WO_p (PS_move_tuple rfl) ?_
  refine WO_p (PS_extract_slice rfl rfl) ?_
  refine WO_p (PS_extract_bool rfl rfl) ?_
  refine WO_p (PS_assign_slice rfl) ?_
  refine WO_p (PS_assign_bool rfl) ?_
  refine WO_nil ?_
  refine thn_normal ?_
  refine W_seq ?_
  refine W_seq ?_
  refine W_region rfl ?_
  refine WO_p (PS_move_bool rfl) ?_
  refine WO_p (PS_not rfl) ?_
  refine WO_p (PS_move_bool rfl) ?_
  refine WO_if (t := 19) rfl (fun hb4 => ?_) (fun hb4 => ?_)
  · have hb4p := hb4.h; try simp only [al_ete, al_dfn, Bool.not_eq_true', Bool.not_eq_false', al_ne, Bool.not_not, al_nn] at hb4p
    simp at hb4p --END
  · have hb4p := hb4.h; try simp only [al_ete, al_dfn, Bool.not_eq_true', Bool.not_eq_false', al_ne, Bool.not_not, al_nn] at hb4p
    refine WO_guardT rfl rfl hb4.h ?_
    refine WO_p (PS_move_int rfl) ?_
    refine WO_guardT rfl rfl hb4.h ?_
    refine WO_p (PS_eql rfl rfl) ?_
    refine WO_p (PS_pickF rfl hb4.h rfl) ?_
    refine WO_nil ?_
    refine thn_normal ?_
    refine W_if rfl (fun hb6 => ?_) (fun hb6 => ?_)
    · have hb6p := hb6.h; try simp only [al_ete, al_dfn, Bool.not_eq_true', Bool.not_eq_false', al_ne, Bool.not_not, al_nn] at hb6p
      omega --END
    · have hb6p := hb6.h; try simp only [al_ete, al_dfn, Bool.not_eq_true', Bool.not_eq_false', al_ne, Bool.not_not, al_nn] at hb6p
      refine W_skip ?_
      refine thn_normal ?_
      refine W_seq ?_
      refine W_region rfl ?_
      refine WO_p (PS_move_int rfl) ?_
      refine WO_make (z := .int .u8 0) Hvad.underlying32 info5 rfl rfl rfl (by omega) (by omega) (by show (1:Int) * _ ≤ _; omega) (by omega) ?_
      rw [show ((q:Int)).toNat = q from Int.toNat_natCast q, hz]
      refine WO_p (PS_assign_slice rfl) ?_
      refine WO_nil ?_
      refine thn_normal ?_
      refine W_seq ?_
      refine W_region rfl ?_
      refine WO_p (PS_move_slice rfl) ?_
      refine WO_p (PS_move_slice rfl) ?_
      refine WO_copy q Hvad.runUnderlying32 Hvad.sizeOf5 rfl rfl (Hb.h (Hb.newY _ _)) (Hb.h (Hb.alloc hr1)) (Nat.min_self q) (by rw [size_ic, List.length_replicate]; omega) (by rw [size_ic]; omega) (by rw [Nat.mul_one]; exact (Xt.ic .u8 L (lo + off) q (by omega)).h) oneCell_ic ?_
      rw [splice_whole rfl (by rw [size_ic, List.length_replicate]; show (((L.drop (lo + off)).take q).map (Value.int .u8)).length = q; rw [List.length_map]; exact hlp)]
      have hs1 := hE1.1
      refine WO_nil ?_
      refine thn_normal ?_
      refine W_seq ?_
      refine W_region rfl ?_
      refine WO_p (PS_move_slice rfl) ?_
      refine WO_p (PS_assign_slice rfl) ?_
      refine WO_nil ?_
      refine thn_normal ?_
      refine W_ret ?_
      refine bodyQ_ret1 Hvad.results260 rfl (.slice _ _ _) rfl ?_
      exact ⟨(by repeat (first | assumption | exact Ext.refl _ | refine Ext.alloc ?_ _ | refine Ext.drew ?_ | refine Ext.setB ?_ (by first | omega | (simp only [size_alloc, size_setB, size_drew]; omega)) _ | refine Ext.trans ?_ (by assumption))), (some ⟨w1.heap.size, 0, none⟩, q, q), (L.drop (lo + off)).take q, rfl, Or.inr ⟨by intro e; rw [e] at hlp; simp at hlp; omega, w1.heap.size, by rw [hlp], hE1.1, Hb.setSameL (by first | omega | (simp only [size_alloc, size_setB, size_drew]; omega))⟩, hlp, by_part hL _ _⟩

set_option maxRecDepth 10000 in
theorem memLoad32_spec (C : Nat) (c : Array Value) (v : V) (B : VB) (m : Mc) (k lo n : Nat) (off b : Nat) (w : World) (hM : MS w C c v B m) (hT : MemT m k lo n) (hb : m.buf.1 = some ⟨b, 0, none⟩) (hqn : off + 32 ≤ n) : Ret Hvad.prog 197 #[.pointer (some ⟨C, 1, none⟩), .int .u32 off] w fun u w' => Ext w w' ∧ ∃ L', u = .tuple #[.agg (ic .u8 L'), .bool true] ∧ By L' 32 := by
  obtain ⟨L, hcp, hr, hL, hle⟩ := hM.bufL hb
  have h1 := hT.le
  have h2 := hT.sz
  have hlp : ((L.drop (lo + off)).take 32).length = 32 := len_part (by omega)
  have hxt := Xt.ic .u8 L (lo + off) 32 (by omega)
  refine Ret_of_W Hvad.func197 rfl rfl ?_
  refine W_seq ?_
  refine W_region rfl ?_
  refine WO_alloc Hvad.zeroValue27 ?_
  refine WO_p (PS_assign_bool rfl) ?_
  refine WO_nil ?_
  refine thn_normal ?_
  refine W_seq ?_
  refine W_region rfl ?_
  refine WO_p (PS_move_ptr rfl) ?_
  refine WO_p (PS_move_int rfl) ?_
  refine WO_call Hvad.call237 (by rfl) (Ret.mono (memPart_spec C c v B m k lo n off 32 b _ (hM.ext (by repeat (first | assumption | exact Ext.refl _ | refine Ext.alloc ?_ _ | refine Ext.drew ?_ | refine Ext.setB ?_ (by first | omega | (simp only [size_alloc, size_setB, size_drew]; omega)) _ | exact Ext.trans (by assumption) (by assumption) | refine Ext.trans ?_ (by assumption)))) hT hb (by omega) hqn) ?_)
  rintro _ w1 ⟨hE1, rfl⟩
  have hr1 : Hb w1 b (.cells (ic .u8 L) 5 (0, 0)) := Hb.ext hE1 (Hb.mk (Hb.h (by repeat (first | assumption | exact Hb.newY _ _ | refine Hb.alloc ?_ | refine Hb.drew ?_ | refine Hb.ext (by assumption) ?_ | exact Hb.setSameL (by first | omega | (simp only [size_alloc, size_setB, size_drew]; omega)) | exact Hb.setSame (by assumption) | refine Hb.set (by first | omega | (simp only [size_alloc, size_setB, size_drew]; omega)) ?_ ))))
  have hB1 := Hb.ext hE1 (Hb.newY _ _)
  have hs1 := hB1.lt
  replace hE1 : Ext w w1 := Ext.trans (by repeat (first | assumption | exact Ext.refl _ | refine Ext.alloc ?_ _ | refine Ext.drew ?_ | refine Ext.setB ?_ (by first | omega | (simp only [size_alloc, size_setB, size_drew]; omega)) _ | exact Ext.trans (by assumption) (by assumption) | refine Ext.trans ?_ (by assumption))) hE1
  refine WO_p (PS_move_tuple rfl) ?_
  refine WO_p (PS_extract_slice rfl rfl) ?_
  refine WO_p (PS_extract_bool rfl rfl) ?_
  refine WO_p (PS_assign_slice rfl) ?_
  refine WO_p (PS_assign_bool rfl) ?_
  refine WO_nil ?_
  refine thn_normal ?_
  refine W_seq ?_
  refine W_seq ?_
  refine W_region rfl ?_
  refine WO_p (PS_move_bool rfl) ?_
  refine WO_p (PS_not rfl) ?_
  refine WO_nil ?_
  refine thn_normal ?_
  refine W_if rfl (fun hb4 => ?_) (fun hb4 => ?_)
  · have hb4p := hb4.h; try simp only [al_ete, al_dfn, Bool.not_eq_true', Bool.not_eq_false', al_ne, Bool.not_not, al_nn] at hb4p
    simp at hb4p --END
  · have hb4p := hb4.h; try simp only [al_ete, al_dfn, Bool.not_eq_true', Bool.not_eq_false', al_ne, Bool.not_not, al_nn] at hb4p
    refine W_skip ?_
    refine thn_normal ?_
    refine W_seq ?_
    refine W_region rfl ?_
    refine WO_p (PS_move_slice rfl) ?_
    refine WO_p (PS_arrayAt Hvad.runUnderlying27 rfl (by omega)) ?_
    refine WO_loadA _ Hvad.isAgg27 Hvad.sizeOf27 rfl (Hb.h (by repeat (first | assumption | exact Hb.newY _ _ | refine Hb.alloc ?_ | refine Hb.drew ?_ | refine Hb.ext (by assumption) ?_ | exact Hb.setSameL (by first | omega | (simp only [size_alloc, size_setB, size_drew]; omega)) | exact Hb.setSame (by assumption) | refine Hb.set (by first | omega | (simp only [size_alloc, size_setB, size_drew]; omega)) ?_ ))) (by first | omega | assumption | rfl | decide | exact Nat.le_refl _ | (simp only [size_ic, Value.cells]; omega) | simp) (Xt.h (by first | assumption | exact Xt.whole rfl rfl | exact Xt.whole rfl (by simp only [size_ic, Value.cells]; omega) | exact ⟨rfl⟩)) ?_
    first | refine WO_storeW Hvad.sizeOf27 rfl (v := .agg _) rfl (Hb.h (by repeat (first | assumption | exact Hb.newY _ _ | refine Hb.alloc ?_ | refine Hb.drew ?_ | refine Hb.ext (by assumption) ?_ | exact Hb.setSameL (by first | omega | (simp only [size_alloc, size_setB, size_drew]; omega)) | exact Hb.setSame (by assumption) | refine Hb.set (by first | omega | (simp only [size_alloc, size_setB, size_drew]; omega)) ?_ ))) rfl (by first | omega | assumption | rfl | decide | exact Nat.le_refl _ | (simp only [size_ic, Value.cells]; omega) | simp) (by first | omega | assumption | rfl | decide | exact Nat.le_refl _ | (simp only [size_ic, Value.cells]; omega) | simp) (by first | exact oneCell_ic | assumption) ?_ | refine WO_store Hvad.sizeOf27 rfl (v := .agg _) rfl (Hb.h (by repeat (first | assumption | exact Hb.newY _ _ | refine Hb.alloc ?_ | refine Hb.drew ?_ | refine Hb.ext (by assumption) ?_ | exact Hb.setSameL (by first | omega | (simp only [size_alloc, size_setB, size_drew]; omega)) | exact Hb.setSame (by assumption) | refine Hb.set (by first | omega | (simp only [size_alloc, size_setB, size_drew]; omega)) ?_ ))) (by first | omega | assumption | rfl | decide | exact Nat.le_refl _ | (simp only [size_ic, Value.cells]; omega) | simp) (by first | omega | assumption | rfl | decide | exact Nat.le_refl _ | (simp only [size_ic, Value.cells]; omega) | simp) (by first | exact oneCell_ic | assumption) ?_
    refine WO_p (PS_assign_bool rfl) ?_
    refine WO_nil ?_
    refine thn_normal ?_
    refine W_ret ?_
    refine bodyQ_cellT (.bool _) Hvad.results197 rfl rfl Hvad.isAgg27 Hvad.sizeOf27 rfl (Hb.h (by repeat (first | assumption | exact Hb.newY _ _ | refine Hb.alloc ?_ | refine Hb.drew ?_ | refine Hb.ext (by assumption) ?_ | exact Hb.setSameL (by first | omega | (simp only [size_alloc, size_setB, size_drew]; omega)) | exact Hb.setSame (by assumption) | refine Hb.set (by first | omega | (simp only [size_alloc, size_setB, size_drew]; omega)) ?_ ))) (by first | omega | assumption | rfl | decide | exact Nat.le_refl _ | (simp only [size_ic, Value.cells]; omega) | simp) rfl ?_
    exact ⟨(by repeat (first | assumption | exact Ext.refl _ | refine Ext.alloc ?_ _ | refine Ext.drew ?_ | refine Ext.setB ?_ (by first | omega | (simp only [size_alloc, size_setB, size_drew]; omega)) _ | refine Ext.trans ?_ (by assumption))), _, rfl, hlp, by_part hL _ _⟩

set_option maxRecDepth 10000 in
theorem memStore32_spec (C : Nat) (c : Array Value) (v : V) (B : VB) (m : Mc) (k lo n : Nat) (off b : Nat) (W : List Int) (w : World) (hM : MS w C c v B m) (hT : MemT m k lo n) (hb : m.buf.1 = some ⟨b, 0, none⟩) (hqn : off + 32 ≤ n) (hW : By W 32) : Ret Hvad.prog 198 #[.pointer (some ⟨C, 1, none⟩), .int .u32 off, .agg (ic .u8 W)] w fun u w' => u = .bool true ∧ MRet w C B m w' v m := by
  obtain ⟨L, hcp, hr, hL, hle⟩ := hM.bufL hb
  have h1 := hT.le
  have h2 := hT.sz
  have hWl := hW.1
  have hxt := Xt.ic .u8 L (lo + off) 32 (by omega)
  refine Ret_of_W Hvad.func198 rfl rfl ?_
  refine W_seq ?_
  refine W_region rfl ?_
  refine WO_box (.agg _) rfl ?_
  refine WO_p (PS_assign_bool rfl) ?_
  refine WO_nil ?_
  refine thn_normal ?_
  refine W_seq ?_
  refine W_region rfl ?_
  refine WO_p (PS_move_ptr rfl) ?_
  refine WO_p (PS_move_int rfl) ?_
  refine WO_call Hvad.call237 (by rfl) (Ret.mono (memPart_spec C c v B m k lo n off 32 b _ (hM.ext (by repeat (first | assumption | exact Ext.refl _ | refine Ext.alloc ?_ _ | refine Ext.drew ?_ | refine Ext.setB ?_ (by first | omega | (simp only [size_alloc, size_setB, size_drew]; omega)) _ | exact Ext.trans (by assumption) (by assumption) | refine Ext.trans ?_ (by assumption)))) hT hb (by omega) hqn) ?_)
  rintro _ w1 ⟨hE1, rfl⟩
  have hB1 : Hb w1 w.heap.size (.cells (ic .u8 W) 27 (0, 0)) := Hb.ext hE1 (Hb.newY _ _)
  replace hE1 : Ext w w1 := Ext.trans (by repeat (first | assumption | exact Ext.refl _ | refine Ext.alloc ?_ _ | refine Ext.drew ?_ | refine Ext.setB ?_ (by first | omega | (simp only [size_alloc, size_setB, size_drew]; omega)) _ | exact Ext.trans (by assumption) (by assumption) | refine Ext.trans ?_ (by assumption))) hE1
  have hr1 : Hb w1 b (.cells (ic .u8 L) 5 (0, 0)) := Hb.ext hE1 hr
  refine WO_p (PS_move_tuple rfl) ?_
  refine WO_p (PS_extract_slice rfl rfl) ?_
  refine WO_p (PS_extract_bool rfl rfl) ?_
  refine WO_p (PS_assign_slice rfl) ?_
  refine WO_p (PS_assign_bool rfl) ?_
  refine WO_nil ?_
  refine thn_normal ?_
  refine W_seq ?_
  refine W_seq ?_
  refine W_region rfl ?_
  refine WO_p (PS_move_bool rfl) ?_
  refine WO_p (PS_not rfl) ?_
  refine WO_nil ?_
  refine thn_normal ?_
  refine W_if rfl (fun hb4 => ?_) (fun hb4 => ?_)
  · have hb4p := hb4.h; try simp only [al_ete, al_dfn, Bool.not_eq_true', Bool.not_eq_false', al_ne, Bool.not_not, al_nn] at hb4p
    simp at hb4p --END
  · have hb4p := hb4.h; try simp only [al_ete, al_dfn, Bool.not_eq_true', Bool.not_eq_false', al_ne, Bool.not_not, al_nn] at hb4p
    refine W_skip ?_
    refine thn_normal ?_
    refine W_seq ?_
    refine W_drawE [false, false, false, false, false] hmix (by kernel_rfl) rfl ?_
    refine WH_p (PS_move_slice rfl) rfl ?_
    refine WH_p (PS_arrayAt Hvad.runUnderlying27 rfl (by omega)) rfl ?_
    refine WH_loadA _ Hvad.isAgg27 Hvad.sizeOf27 rfl (Hb.h (by repeat (first | assumption | exact Hb.newY _ _ | refine Hb.alloc ?_ | refine Hb.drew ?_ | refine Hb.ext (by assumption) ?_ | exact Hb.setSameL (by first | omega | (simp only [size_alloc, size_setB, size_drew]; omega)) | exact Hb.setSame (by assumption) | refine Hb.set (by first | omega | (simp only [size_alloc, size_setB, size_drew]; omega)) ?_ ))) (by first | omega | assumption | rfl | decide | exact Nat.le_refl _ | (simp only [size_ic, Value.cells]; omega) | simp) (Xt.h (by first | assumption | exact Xt.whole rfl rfl | exact Xt.whole rfl (by simp only [size_ic, Value.cells]; omega) | exact ⟨rfl⟩)) ?_
    refine WH_p (PS_nilCheck rfl) rfl ?_
    first | refine WH_storeW Hvad.sizeOf27 rfl (v := .agg _) rfl (Hb.h (by repeat (first | assumption | exact Hb.newY _ _ | refine Hb.alloc ?_ | refine Hb.drew ?_ | refine Hb.ext (by assumption) ?_ | exact Hb.setSameL (by first | omega | (simp only [size_alloc, size_setB, size_drew]; omega)) | exact Hb.setSame (by assumption) | refine Hb.set (by first | omega | (simp only [size_alloc, size_setB, size_drew]; omega)) ?_ ))) rfl (by first | omega | assumption | rfl | decide | exact Nat.le_refl _ | (simp only [size_ic, Value.cells]; omega) | simp) (by first | omega | assumption | rfl | decide | exact Nat.le_refl _ | (simp only [size_ic, Value.cells]; omega) | simp) (by first | exact oneCell_ic | assumption) (fun h => by cases h) ?_ | refine WH_store Hvad.sizeOf27 rfl (v := .agg _) rfl (Hb.h (by repeat (first | assumption | exact Hb.newY _ _ | refine Hb.alloc ?_ | refine Hb.drew ?_ | refine Hb.ext (by assumption) ?_ | exact Hb.setSameL (by first | omega | (simp only [size_alloc, size_setB, size_drew]; omega)) | exact Hb.setSame (by assumption) | refine Hb.set (by first | omega | (simp only [size_alloc, size_setB, size_drew]; omega)) ?_ ))) (by first | omega | assumption | rfl | decide | exact Nat.le_refl _ | (simp only [size_ic, Value.cells]; omega) | simp) (by first | omega | assumption | rfl | decide | exact Nat.le_refl _ | (simp only [size_ic, Value.cells]; omega) | simp) (by first | exact oneCell_ic | assumption) (fun h => by cases h) ?_
    refine WH_nil ?_
    refine thn_normal ?_
    refine W_seq ?_
    rw [show splice (ic .u8 L) (lo + off) (Value.agg (ic .u8 W)).cells.toList = ic .u8 (L.take (lo + off) ++ W ++ L.drop (lo + off + W.length)) from splice_ic .u8 L W (lo + off) (by omega)]
    obtain ⟨hM2, hS2⟩ := ((hM.ext hE1).ext (Ext.drew (Ext.refl w1))).putBuf (L' := L.take (lo + off) ++ W ++ L.drop (lo + off + W.length)) hb hcp (Hb.drew hr1) hle (len_mid (by omega)) (by_mid hL hW.2 _ _)
    refine W_region rfl ?_
    refine WO_p (PS_assign_bool rfl) ?_
    refine WO_nil ?_
    refine thn_normal ?_
    refine W_ret ?_
    refine bodyQ_ret1 Hvad.results198 rfl (.bool _) rfl ?_
    exact ⟨rfl, _, _, hM2, ((MStep.ext hE1).trans (MStep.ext (Ext.drew (Ext.refl w1)))).trans hS2⟩

set_option maxRecDepth 10000 in
theorem memStore8_spec (C : Nat) (c : Array Value) (v : V) (B : VB) (m : Mc) (k lo n : Nat) (off b : Nat) (x : Int) (w : World) (hM : MS w C c v B m) (hT : MemT m k lo n) (hb : m.buf.1 = some ⟨b, 0, none⟩) (hqn : off + 1 ≤ n) (hx : 0 ≤ x ∧ x ≤ 255) : Ret Hvad.prog 200 #[.pointer (some ⟨C, 1, none⟩), .int .u32 off, .int .u8 x] w fun u w' => u = .bool true ∧ MRet w C B m w' v m := by
  obtain ⟨L, hcp, hr, hL, hle⟩ := hM.bufL hb
  have h1 := hT.le
  have h2 := hT.sz
  
  refine Ret_of_W Hvad.func200 rfl rfl ?_
  refine W_seq ?_
  refine W_region rfl ?_
  refine WO_p (PS_assign_bool rfl) ?_
  refine WO_nil ?_
  refine thn_normal ?_
  refine W_seq ?_
  refine W_region rfl ?_
  refine WO_p (PS_move_ptr rfl) ?_
  refine WO_p (PS_move_int rfl) ?_
  refine WO_call Hvad.call237 (by rfl) (Ret.mono (memPart_spec C c v B m k lo n off 1 b _ hM hT hb (by omega) hqn) ?_)
  rintro _ w1 ⟨hE1, rfl⟩
  have hr1 := Hb.ext hE1 hr
  refine WO_p (PS_move_tuple rfl) ?_
  refine WO_p (PS_extract_slice rfl rfl) ?_
  refine WO_p (PS_extract_bool rfl rfl) ?_
  refine WO_p (PS_assign_slice rfl) ?_
  refine WO_p (PS_assign_bool rfl) ?_
  refine WO_nil ?_
  refine thn_normal ?_
  refine W_seq ?_
  refine W_seq ?_
  refine W_region rfl ?_
  refine WO_p (PS_move_bool rfl) ?_
  refine WO_p (PS_not rfl) ?_
  refine WO_nil ?_
  refine thn_normal ?_
  refine W_if rfl (fun hb4 => ?_) (fun hb4 => ?_)
  · have hb4p := hb4.h; try simp only [al_ete, al_dfn, Bool.not_eq_true', Bool.not_eq_false', al_ne, Bool.not_not, al_nn] at hb4p
    simp at hb4p --END
  · have hb4p := hb4.h; try simp only [al_ete, al_dfn, Bool.not_eq_true', Bool.not_eq_false', al_ne, Bool.not_not, al_nn] at hb4p
    refine W_skip ?_
    refine thn_normal ?_
    refine W_seq ?_
    refine W_region rfl ?_
    refine WO_p (PS_move_slice rfl) ?_
    refine WO_p (PS_move_int rfl) ?_
    refine WO_p (PS_indexS Hvad.runUnderlying32 Hvad.sizeOf5 rfl rfl (by omega) (by omega)) ?_
    refine WO_store1 Hvad.sizeOf5 rfl (v := (.int _ _)) rfl (Hb.h (by repeat (first | assumption | exact Hb.newY _ _ | refine Hb.alloc ?_ | refine Hb.drew ?_ | refine Hb.ext (by assumption) ?_ | exact Hb.setSameL (by first | omega | (simp only [size_alloc, size_setB, size_drew]; omega)) | exact Hb.setSame (by assumption) | refine Hb.set (by first | omega | (simp only [size_alloc, size_setB, size_drew]; omega)) ?_ ))) rfl (by first | omega | assumption | rfl | decide | exact Nat.le_refl _ | (simp only [size_ic, Value.cells]; omega) | simp) rfl ?_
    refine WO_nil ?_
    refine thn_normal ?_
    refine W_seq ?_
    rw [show (ic .u8 L).setIfInBounds (lo + off + (0 : Int).toNat * 1) (.int .u8 x) = ic .u8 (L.take (lo + off) ++ [x] ++ L.drop (lo + off + 1)) from splice_ic .u8 L [x] (lo + off) (by simp; omega)]
    obtain ⟨hM2, hS2⟩ := (hM.ext hE1).putBuf (L' := L.take (lo + off) ++ [x] ++ L.drop (lo + off + 1)) hb hcp hr1 hle (len_mid (M := [x]) (by simp; omega)) (by_mid hL (by intro y hy; rw [List.mem_singleton.1 hy]; exact hx) _ _)
    refine W_region rfl ?_
    refine WO_p (PS_assign_bool rfl) ?_
    refine WO_nil ?_
    refine thn_normal ?_
    refine W_ret ?_
    refine bodyQ_ret1 Hvad.results200 rfl (.bool _) rfl ?_
    exact ⟨rfl, _, _, hM2, (MStep.ext hE1).trans hS2⟩

set_option maxRecDepth 10000 in
theorem memMove_spec (C : Nat) (c : Array Value) (v : V) (B : VB) (m : Mc) (k lo n : Nat) (dst src q b : Nat) (w : World) (hM : MS w C c v B m) (hT : MemT m k lo n) (hb : m.buf.1 = some ⟨b, 0, none⟩) (hq : 0 < q) (hqn : dst + q ≤ n) (hqs : src + q ≤ n) : Ret Hvad.prog 194 #[.pointer (some ⟨C, 1, none⟩), .int .u32 dst, .int .u32 src, .int .u32 q] w fun u w' => u = .bool true ∧ MRet w C B m w' v m := by
  obtain ⟨L, hcp, hr, hL, hle⟩ := hM.bufL hb
  have h1 := hT.le
  have h2 := hT.sz
  have hlp : ((L.drop (lo + src)).take q).length = q := len_part (by omega)
  refine Ret_of_W Hvad.func194 rfl rfl ?_
  refine W_seq ?_
  refine W_region rfl ?_
  refine WO_p (PS_assign_bool rfl) ?_
  refine WO_nil ?_
  refine thn_normal ?_
  refine W_seq ?_
  refine W_region rfl ?_
  refine WO_p (PS_move_ptr rfl) ?_
  refine WO_p (PS_move_int rfl) ?_
  refine WO_p (PS_move_int rfl) ?_
  refine WO_call Hvad.call237 (by rfl) (Ret.mono (memPart_spec C c v B m k lo n dst q b _ hM hT hb (by omega) hqn) ?_)
  rintro _ w1 ⟨hE1, rfl⟩
  refine WO_p (PS_move_tuple rfl) ?_
  refine WO_p (PS_extract_slice rfl rfl) ?_
  refine WO_p (PS_extract_bool rfl rfl) ?_
  refine WO_p (PS_assign_slice rfl) ?_
  refine WO_p (PS_assign_bool rfl) ?_
  refine WO_nil ?_
  refine thn_normal ?_
  refine W_seq ?_
  refine W_region rfl ?_
  refine WO_p (PS_move_ptr rfl) ?_
  refine WO_p (PS_move_int rfl) ?_
  refine WO_p (PS_move_int rfl) ?_
  refine WO_call Hvad.call237 (by rfl) (Ret.mono (memPart_spec C c v B m k lo n src q b _ (hM.ext hE1) hT hb (by omega) hqs) ?_)
  rintro _ w2 ⟨hE2, rfl⟩
  have hr1 := Hb.ext hE2 (Hb.ext hE1 hr)
  replace hE2 := Ext.trans hE1 hE2
  refine WO_p (PS_move_tuple rfl) ?_
  refine WO_p (PS_extract_slice rfl rfl) ?_
  refine WO_p (PS_extract_bool rfl rfl) ?_
  refine WO_p (PS_assign_slice rfl) ?_
  refine WO_p (PS_assign_bool rfl) ?_
  refine WO_nil ?_
  refine thn_normal ?_
  refine W_seq ?_
  refine W_seq ?_
  refine W_region rfl ?_
  refine WO_p (PS_move_bool rfl) ?_
  refine WO_p (PS_not rfl) ?_
  refine WO_p (PS_move_bool rfl) ?_
  refine WO_if (t := 29) rfl (fun hb6 => ?_) (fun hb6 => ?_)
  · have hb6p := hb6.h; try simp only [al_ete, al_dfn, Bool.not_eq_true', Bool.not_eq_false', al_ne, Bool.not_not, al_nn] at hb6p
    simp at hb6p --END
  · have hb6p := hb6.h; try simp only [al_ete, al_dfn, Bool.not_eq_true', Bool.not_eq_false', al_ne, Bool.not_not, al_nn] at hb6p
    refine WO_guardT rfl rfl hb6.h ?_
    refine WO_p (PS_move_bool rfl) ?_
    refine WO_guardT rfl rfl hb6.h ?_
    refine WO_p (PS_not rfl) ?_
    refine WO_p (PS_pickF rfl hb6.h rfl) ?_
    refine WO_nil ?_
    refine thn_normal ?_
    refine W_if rfl (fun hb8 => ?_) (fun hb8 => ?_)
    · have hb8p := hb8.h; try simp only [al_ete, al_dfn, Bool.not_eq_true', Bool.not_eq_false', al_ne, Bool.not_not, al_nn] at hb8p
      simp at hb8p --END
    · have hb8p := hb8.h; try simp only [al_ete, al_dfn, Bool.not_eq_true', Bool.not_eq_false', al_ne, Bool.not_not, al_nn] at hb8p
      refine W_skip ?_
      refine thn_normal ?_
      refine W_seq ?_
      refine W_region rfl ?_
      refine WO_p (PS_move_slice rfl) ?_
      refine WO_p (PS_move_slice rfl) ?_
      refine WO_copy q Hvad.runUnderlying32 Hvad.sizeOf5 rfl rfl (Hb.h hr1) (Hb.h hr1) (Nat.min_self q) (by rw [size_ic]; omega) (by rw [size_ic]; omega) (by rw [Nat.mul_one]; exact (Xt.ic .u8 L (lo + src) q (by omega)).h) oneCell_ic ?_
      rw [show splice (ic .u8 L) (lo + dst) (Value.agg (ic .u8 ((L.drop (lo + src)).take q))).cells.toList = ic .u8 (L.take (lo + dst) ++ (L.drop (lo + src)).take q ++ L.drop (lo + dst + ((L.drop (lo + src)).take q).length)) from splice_ic .u8 L _ (lo + dst) (by omega)]
      obtain ⟨hM2, hS2⟩ := (hM.ext hE2).putBuf (L' := L.take (lo + dst) ++ (L.drop (lo + src)).take q ++ L.drop (lo + dst + ((L.drop (lo + src)).take q).length)) hb hcp hr1 hle (len_mid (by omega)) (by_mid hL (by_part hL _ _) _ _)
      refine WO_nil ?_
      refine thn_normal ?_
      refine W_seq ?_
      refine W_region rfl ?_
      refine WO_p (PS_assign_bool rfl) ?_
      refine WO_nil ?_
      refine thn_normal ?_
      refine W_ret ?_
      refine bodyQ_ret1 Hvad.results194 rfl (.bool _) rfl ?_
      exact ⟨rfl, _, _, hM2, (MStep.ext hE2).trans hS2⟩

end Go.Proofs.YgvadwGreat
