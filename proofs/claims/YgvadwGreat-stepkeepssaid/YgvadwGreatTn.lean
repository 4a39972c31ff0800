import Derived.Test.YgvadwGreatTm
namespace Go.Proofs.YgvadwGreat
set_option linter.unusedSimpArgs false
set_option linter.unusedVariables false
theorem set_take {α β : Type} (f : α → β) {l : List α} {m : List β} {i : Nat} {x : α} (hx : l[i]? = some x) (hm : m.length = l.length) : ((l.take i).map f ++ m.drop i).set i (f x) = (l.take (i + 1)).map f ++ m.drop (i + 1) := by
  have hi := lt_of_getElem? hx
  have h1 : ((l.take i).map f).length = i := by simp; omega
  rw [List.set_append_right i (f x) (by omega), h1, Nat.sub_self, List.take_add_one, hx, List.drop_eq_getElem_cons (by omega : i < m.length), List.set_cons_zero]
  simp
theorem sumW_take {l : List Acct} {i : Nat} {x : Acct} (hx : l[i]? = some x) : sumW ((l.take (i + 1)).map (·.bal)) = sumW ((l.take i).map (·.bal)) + wv x.bal := by
  rw [List.take_add_one, hx, List.map_append, sumW_append]; simp [sumW]
theorem clr_take {l : List Slot} {i : Nat} {x : Slot} (hx : l[i]? = some x) : cleared ((l.take (i + 1)).map (·.val)) ((l.take (i + 1)).map (·.orig)) = cleared ((l.take i).map (·.val)) ((l.take i).map (·.orig)) + (if x.val = [0, 0, 0, 0] ∧ x.orig ≠ [0, 0, 0, 0] then 1 else 0) := by
  rw [List.take_add_one, hx, List.map_append, List.map_append, cleared_append _ _ _ _ (by simp)]; simp [cleared]
theorem cleared_le : ∀ l o, cleared l o ≤ l.length
  | [], _ => by simp [cleared]
  | _ :: _, [] => by simp [cleared]; omega
  | x :: l, o :: os => by have := cleared_le l os; unfold cleared; simp only [List.length_cons]; split <;> omega
theorem sumW_bd2 : ∀ l : List (List Int), (∀ x ∈ l, Wd x) → 0 ≤ sumW l ∧ sumW l ≤ l.length * 115792089237316195423570985008687907853269984665640564039457584007913129639936
  | [], _ => by simp [sumW]
  | x :: l, h => by
    have h1 := sumW_bd2 l (fun y hy => h y (List.mem_cons_of_mem _ hy))
    have h2 := wv_bd (h x List.mem_cons_self)
    simp only [sumW, List.length_cons]; omega
theorem SRep.castY {w w' : World} {C D Ba Bv : Nat} {bl vl bl' vl' : List (List Int)} {T r k T' r' k' : Int} (h : SRep w w' C D Ba Bv bl vl T r k) (e1 : bl = bl') (e2 : vl = vl') (e3 : T = T') (e4 : r = r') (e5 : k = k') : SRep w w' C D Ba Bv bl' vl' T' r' k' := by subst e1 e2 e3 e4 e5; exact h

set_option maxRecDepth 10000 in
set_option maxHeartbeats 4000000 in
theorem sCount_spec (C D Ba Bv : Nat) (bl vl : List (List Int)) (T r k : Int) (c : Array Value) (v : V) (B : VB) (β : Option Nat) (i : Nat) (dl : Int) (x : List Int) (s : Slot) (w w9 : World) (hs : SRep w w9 C D Ba Bv bl vl T r k) (hv : VS w C c v B β) (hx : vl[i]? = some x) (hsl : v.slots[i]? = some s) (hk : -5000 ≤ k ∧ k ≤ 5000) (hd : dl = 1 ∨ dl = -1) : Ret Hvad.prog 273 #[.pointer (some ⟨D, 0, none⟩), .int .i64 i, .int .i64 dl] w9 fun _ w' => SRep w w' C D Ba Bv bl vl T r (k + (if x = [0, 0, 0, 0] ∧ s.orig ≠ [0, 0, 0, 0] then dl else 0)) ∧ KD D Ba Bv w9 w' := by
  obtain ⟨hE9, hDg, hAg, hBg, ⟨hn1, hn2, hn3⟩, ⟨W, q, hW, hq0, hsum, hHD⟩, hHA, hHV, hbw, hvw, hla, hlv⟩ := hs
  have hWl := hW.1
  have hWb := wv_bd hW
  have hDl := hHD.lt
  have hAl := hHA.lt
  have hVl := hHV.lt
  have hz9 := hE9.1
  have hsz : (encD C Ba Bv bl.length vl.length W q r k).size = 10 := size_encD hWl
  have hxw := hvw x (List.mem_of_getElem? hx)
  have hxl := hxw.1
  have hil := lt_of_getElem? hx
  have hxt := wr_xt hvw hx
  have hfl := flatW_len hvw
  have hblk := hv.blk
  obtain ⟨b, cap, rr, hab, hcap, hr, hrs, hrow, hda, hbd, hil2, hty, f0, f1, f2, f3, f4⟩ := (hv.ext hE9).openS hsl
  have hc_s : Ce c (2435 + 1) (.slice (some ⟨b, 0, none⟩) v.slots.length cap) := hda
  have hor := hty.2.2.2
  refine Ret_of_W Hvad.func273 rfl rfl ?_
  refine W_seq ?_
  refine W_region rfl ?_
  refine WO_p (PS_move_ptr rfl) ?_
  refine WO_p (PS_nilCheck rfl) ?_
  refine WO_p (PS_fieldAddr 2 Hvad.runUnderlying271 rfl Hvad.sizeOf269 rfl rfl) ?_
  refine WO_load (.slice _ _ _) Hvad.isAgg269 rfl (Hb.h (by repeat (first | assumption | exact Hb.newY _ _ | refine Hb.alloc ?_ | refine Hb.drew ?_ | refine Hb.ext (by assumption) ?_ | exact Hb.setSameL (by first | omega | (simp only [size_alloc, size_setB, size_drew]; omega)) | exact Hb.setSame (by assumption) | refine Hb.set (by first | omega | (simp only [size_alloc, size_setB, size_drew]; omega)) ?_ ))) (Ce.h (by first | assumption | exact ed0 | exact ed1 | exact ed2 | exact ed7 (by assumption) | exact ed8 (by assumption) | exact ed9 (by assumption) | exact ⟨rfl⟩)) ?_
  refine WO_p (PS_move_int rfl) ?_
  refine WO_p (PS_indexS Hvad.runUnderlying269 Hvad.sizeOf59 rfl rfl (by omega) (by omega)) ?_
  refine WO_loadA _ Hvad.isAgg59 Hvad.sizeOf59 rfl (Hb.h (by repeat (first | assumption | exact Hb.newY _ _ | refine Hb.alloc ?_ | refine Hb.drew ?_ | refine Hb.ext (by assumption) ?_ | exact Hb.setSameL (by first | omega | (simp only [size_alloc, size_setB, size_drew]; omega)) | exact Hb.setSame (by assumption) | refine Hb.set (by first | omega | (simp only [size_alloc, size_setB, size_drew]; omega)) ?_ ))) (by first | omega | assumption | rfl | decide | exact Nat.le_refl _ | (simp only [size_ic, Value.cells]; omega) | simp) (Xt.h (by first | assumption | exact Xt.whole rfl rfl | exact ed3 (by assumption) | exact Xt.whole rfl (by simp only [size_ic, Value.cells]; omega) | exact ⟨rfl⟩)) ?_
  refine WO_call Hvad.call131 (by rfl) (Ret.mono (isZero_spec x _ hxw) ?_)
  rintro _ w131_0 ⟨rfl, hE131_0⟩
  have hz131_0 := hE131_0.1
  try simp only [size_alloc, size_setB, size_drew] at hz131_0
  refine WO_p (PS_move_bool rfl) ?_
  refine WO_if (t := 14) rfl (fun hb3 => ?_) (fun hb3 => ?_)
  · have hb3p := hb3.h; try simp only [al_ete, al_dfn, Bool.not_eq_true', Bool.not_eq_false', al_ne, Bool.not_not, al_nn] at hb3p
    have hz0 := hb3p
    refine WO_guardT rfl rfl hb3.h ?_
    refine WO_p (PS_move_ptr rfl) ?_
    refine WO_guardT rfl rfl hb3.h ?_
    refine WO_p (PS_nilCheck rfl) ?_
    refine WO_guardT rfl rfl hb3.h ?_
    refine WO_p (PS_fieldAddr 0 Hvad.runUnderlying271 rfl Hvad.sizeOf53 rfl rfl) ?_
    refine WO_guardT rfl rfl hb3.h ?_
    refine WO_load (.pointer _) Hvad.isAgg53 rfl (Hb.h (by repeat (first | assumption | exact Hb.newY _ _ | refine Hb.alloc ?_ | refine Hb.drew ?_ | refine Hb.ext (by assumption) ?_ | exact Hb.setSameL (by first | omega | (simp only [size_alloc, size_setB, size_drew]; omega)) | exact Hb.setSame (by assumption) | refine Hb.set (by first | omega | (simp only [size_alloc, size_setB, size_drew]; omega)) ?_ ))) (Ce.h (by first | assumption | exact ed0 | exact ed1 | exact ed2 | exact ed7 (by assumption) | exact ed8 (by assumption) | exact ed9 (by assumption) | exact ⟨rfl⟩)) ?_
    refine WO_guardT rfl rfl hb3.h ?_
    refine WO_p (PS_nilCheck rfl) ?_
    refine WO_guardT rfl rfl hb3.h ?_
    refine WO_p (PS_fieldAddr 1 Hvad.runUnderlying79 rfl Hvad.sizeOf71 rfl rfl) ?_
    refine WO_guardT rfl rfl hb3.h ?_
    refine WO_load (.slice _ _ _) Hvad.isAgg71 rfl (Hb.h (by repeat (first | assumption | exact Hb.newY _ _ | refine Hb.alloc ?_ | refine Hb.drew ?_ | refine Hb.ext (by assumption) ?_ | exact Hb.setSameL (by first | omega | (simp only [size_alloc, size_setB, size_drew]; omega)) | exact Hb.setSame (by assumption) | refine Hb.set (by first | omega | (simp only [size_alloc, size_setB, size_drew]; omega)) ?_ ))) (Ce.h (by first | assumption | exact ed0 | exact ed1 | exact ed2 | exact ed7 (by assumption) | exact ed8 (by assumption) | exact ed9 (by assumption) | exact ⟨rfl⟩)) ?_
    refine WO_guardT rfl rfl hb3.h ?_
    refine WO_p (PS_move_int rfl) ?_
    refine WO_guardT rfl rfl hb3.h ?_
    refine WO_p (PS_indexS Hvad.runUnderlying71 Hvad.sizeOf152 rfl rfl (by omega) (by omega)) ?_
    refine WO_guardT rfl rfl hb3.h ?_
    refine WO_p (PS_fieldAddr 9 Hvad.runUnderlying152 rfl Hvad.sizeOf59 rfl rfl) ?_
    refine WO_guardT rfl rfl hb3.h ?_
    refine WO_loadA _ Hvad.isAgg59 Hvad.sizeOf59 rfl (Hb.h (by repeat (first | assumption | exact Hb.newY _ _ | refine Hb.alloc ?_ | refine Hb.drew ?_ | refine Hb.ext (by assumption) ?_ | exact Hb.setSameL (by first | omega | (simp only [size_alloc, size_setB, size_drew]; omega)) | exact Hb.setSame (by assumption) | refine Hb.set (by first | omega | (simp only [size_alloc, size_setB, size_drew]; omega)) ?_ ))) (by first | omega | assumption | rfl | decide | exact Nat.le_refl _ | (simp only [size_ic, Value.cells]; omega) | simp) (Xt.h (by first | assumption | exact Xt.whole rfl rfl | exact ed3 (by assumption) | exact Xt.whole rfl (by simp only [size_ic, Value.cells]; omega) | exact ⟨rfl⟩)) ?_
    refine WO_guardT rfl rfl hb3.h ?_
    refine WO_call Hvad.call131 (by rfl) (Ret.mono (isZero_spec _ _ hor) ?_)
    rintro _ w131_3 ⟨rfl, hE131_3⟩
    have hz131_3 := hE131_3.1
    try simp only [size_alloc, size_setB, size_drew] at hz131_3
    refine WO_guardT rfl rfl hb3.h ?_
    refine WO_p (PS_not rfl) ?_
    refine WO_p (PS_pickT rfl hb3.h rfl) ?_
    refine WO_nil ?_
    refine thn_normal ?_
    refine W_if rfl (fun hb7 => ?_) (fun hb7 => ?_)
    · have hb7p := hb7.h; try simp only [al_ete, al_dfn, Bool.not_eq_true', Bool.not_eq_false', al_ne, Bool.not_not, al_nn] at hb7p
      have hif : (if x = [0, 0, 0, 0] ∧ s.orig ≠ [0, 0, 0, 0] then dl else 0) = dl := if_pos ⟨hz0, hb7p⟩
      refine W_region rfl ?_
      refine WO_p (PS_move_ptr rfl) ?_
      refine WO_p (PS_nilCheck rfl) ?_
      refine WO_p (PS_fieldAddr 9 Hvad.runUnderlying271 rfl Hvad.sizeOf2 rfl rfl) ?_
      refine WO_load (.int _ _) Hvad.isAgg2 rfl (Hb.h (by repeat (first | assumption | exact Hb.newY _ _ | refine Hb.alloc ?_ | refine Hb.drew ?_ | refine Hb.ext (by assumption) ?_ | exact Hb.setSameL (by first | omega | (simp only [size_alloc, size_setB, size_drew]; omega)) | exact Hb.setSame (by assumption) | refine Hb.set (by first | omega | (simp only [size_alloc, size_setB, size_drew]; omega)) ?_ ))) (Ce.h (by first | assumption | exact ed0 | exact ed1 | exact ed2 | exact ed7 (by assumption) | exact ed8 (by assumption) | exact ed9 (by assumption) | exact ⟨rfl⟩)) ?_
      refine WO_p (PS_move_int rfl) ?_
      refine WO_p (PS_add_i64n rfl rfl (by omega) (by omega)) ?_
      refine WO_p (PS_nilCheck rfl) ?_
      refine WO_p (PS_fieldAddr 9 Hvad.runUnderlying271 rfl Hvad.sizeOf2 rfl rfl) ?_
      refine WO_store1 Hvad.sizeOf2 rfl (v := .int _ _) rfl (Hb.h (by repeat (first | assumption | exact Hb.newY _ _ | refine Hb.alloc ?_ | refine Hb.drew ?_ | refine Hb.ext (by assumption) ?_ | exact Hb.setSameL (by first | omega | (simp only [size_alloc, size_setB, size_drew]; omega)) | exact Hb.setSame (by assumption) | refine Hb.set (by first | omega | (simp only [size_alloc, size_setB, size_drew]; omega)) ?_ ))) rfl (by rw [size_encD (by assumption)]; decide) rfl ?_
      rw [ed_k (by assumption)]
      refine WO_nil ?_
      first | refine bodyQ_ret0 Hvad.results273 ?_ | refine bodyQ_end0 Hvad.results273 ?_
      rw [hif]
      exact ⟨⟨(by repeat (first | assumption | exact Ext.refl _ | refine Ext.alloc ?_ _ | refine Ext.drew ?_ | refine Ext.setB ?_ (by first | omega | (simp only [size_alloc, size_setB, size_drew]; omega)) _ | refine Ext.trans ?_ (by assumption))), hDg, hAg, hBg, ⟨hn1, hn2, hn3⟩, ⟨W, q, hW, hq0, hsum, Hb.mk (Hb.h (by repeat (first | assumption | exact Hb.newY _ _ | refine Hb.alloc ?_ | refine Hb.drew ?_ | refine Hb.ext (by assumption) ?_ | exact Hb.setSameL (by first | omega | (simp only [size_alloc, size_setB, size_drew]; omega)) | exact Hb.setSame (by assumption) | refine Hb.set (by first | omega | (simp only [size_alloc, size_setB, size_drew]; omega)) ?_ )))⟩, Hb.mk (Hb.h (by repeat (first | assumption | exact Hb.newY _ _ | refine Hb.alloc ?_ | refine Hb.drew ?_ | refine Hb.ext (by assumption) ?_ | exact Hb.setSameL (by first | omega | (simp only [size_alloc, size_setB, size_drew]; omega)) | exact Hb.setSame (by assumption) | refine Hb.set (by first | omega | (simp only [size_alloc, size_setB, size_drew]; omega)) ?_ ))), Hb.mk (Hb.h (by repeat (first | assumption | exact Hb.newY _ _ | refine Hb.alloc ?_ | refine Hb.drew ?_ | refine Hb.ext (by assumption) ?_ | exact Hb.setSameL (by first | omega | (simp only [size_alloc, size_setB, size_drew]; omega)) | exact Hb.setSame (by assumption) | refine Hb.set (by first | omega | (simp only [size_alloc, size_setB, size_drew]; omega)) ?_ ))), hbw, hvw, hla, hlv⟩, by (repeat (first | assumption | exact KeepO.refl _ _ | refine KeepO.alloc ?_ _ | refine KeepO.dr ?_ | refine KeepO.setB ?_ (by intro hlt; first | exact Or.inl rfl | exact Or.inr (Or.inl rfl) | exact Or.inr (Or.inr rfl) | (exfalso; omega) | (exfalso; simp only [size_alloc, size_setB, size_drew] at hlt; omega)) _ | refine KeepO.tr ?_ (by assumption) | refine KeepO.extR ?_ (by assumption)))⟩
    · have hb7p := hb7.h; try simp only [al_ete, al_dfn, Bool.not_eq_true', Bool.not_eq_false', al_ne, Bool.not_not, al_nn] at hb7p
      have hif : (if x = [0, 0, 0, 0] ∧ s.orig ≠ [0, 0, 0, 0] then dl else 0) = 0 := if_neg (fun e => e.2 hb7p)
      refine W_skip ?_
      first | refine bodyQ_ret0 Hvad.results273 ?_ | refine bodyQ_end0 Hvad.results273 ?_
      rw [hif, Int.add_zero]
      exact ⟨⟨(by repeat (first | assumption | exact Ext.refl _ | refine Ext.alloc ?_ _ | refine Ext.drew ?_ | refine Ext.setB ?_ (by first | omega | (simp only [size_alloc, size_setB, size_drew]; omega)) _ | refine Ext.trans ?_ (by assumption))), hDg, hAg, hBg, ⟨hn1, hn2, hn3⟩, ⟨W, q, hW, hq0, hsum, Hb.mk (Hb.h (by repeat (first | assumption | exact Hb.newY _ _ | refine Hb.alloc ?_ | refine Hb.drew ?_ | refine Hb.ext (by assumption) ?_ | exact Hb.setSameL (by first | omega | (simp only [size_alloc, size_setB, size_drew]; omega)) | exact Hb.setSame (by assumption) | refine Hb.set (by first | omega | (simp only [size_alloc, size_setB, size_drew]; omega)) ?_ )))⟩, Hb.mk (Hb.h (by repeat (first | assumption | exact Hb.newY _ _ | refine Hb.alloc ?_ | refine Hb.drew ?_ | refine Hb.ext (by assumption) ?_ | exact Hb.setSameL (by first | omega | (simp only [size_alloc, size_setB, size_drew]; omega)) | exact Hb.setSame (by assumption) | refine Hb.set (by first | omega | (simp only [size_alloc, size_setB, size_drew]; omega)) ?_ ))), Hb.mk (Hb.h (by repeat (first | assumption | exact Hb.newY _ _ | refine Hb.alloc ?_ | refine Hb.drew ?_ | refine Hb.ext (by assumption) ?_ | exact Hb.setSameL (by first | omega | (simp only [size_alloc, size_setB, size_drew]; omega)) | exact Hb.setSame (by assumption) | refine Hb.set (by first | omega | (simp only [size_alloc, size_setB, size_drew]; omega)) ?_ ))), hbw, hvw, hla, hlv⟩, by (repeat (first | assumption | exact KeepO.refl _ _ | refine KeepO.alloc ?_ _ | refine KeepO.dr ?_ | refine KeepO.setB ?_ (by intro hlt; first | exact Or.inl rfl | exact Or.inr (Or.inl rfl) | exact Or.inr (Or.inr rfl) | (exfalso; omega) | (exfalso; simp only [size_alloc, size_setB, size_drew] at hlt; omega)) _ | refine KeepO.tr ?_ (by assumption) | refine KeepO.extR ?_ (by assumption)))⟩
  · have hb3p := hb3.h; try simp only [al_ete, al_dfn, Bool.not_eq_true', Bool.not_eq_false', al_ne, Bool.not_not, al_nn] at hb3p
    have hif : (if x = [0, 0, 0, 0] ∧ s.orig ≠ [0, 0, 0, 0] then dl else 0) = 0 := if_neg (fun e => hb3p e.1)
    refine WO_guardF rfl rfl hb3.h ?_
    refine WO_guardF rfl rfl hb3.h ?_
    refine WO_guardF rfl rfl hb3.h ?_
    refine WO_guardF rfl rfl hb3.h ?_
    refine WO_guardF rfl rfl hb3.h ?_
    refine WO_guardF rfl rfl hb3.h ?_
    refine WO_guardF rfl rfl hb3.h ?_
    refine WO_guardF rfl rfl hb3.h ?_
    refine WO_guardF rfl rfl hb3.h ?_
    refine WO_guardF rfl rfl hb3.h ?_
    refine WO_guardF rfl rfl hb3.h ?_
    refine WO_guardF rfl rfl hb3.h ?_
    refine WO_guardF rfl rfl hb3.h ?_
    refine WO_p (PS_pickF rfl hb3.h rfl) ?_
    refine WO_nil ?_
    refine thn_normal ?_
    refine W_condF rfl rfl ?_
    refine W_skip ?_
    first | refine bodyQ_ret0 Hvad.results273 ?_ | refine bodyQ_end0 Hvad.results273 ?_
    rw [hif, Int.add_zero]
    exact ⟨⟨(by repeat (first | assumption | exact Ext.refl _ | refine Ext.alloc ?_ _ | refine Ext.drew ?_ | refine Ext.setB ?_ (by first | omega | (simp only [size_alloc, size_setB, size_drew]; omega)) _ | refine Ext.trans ?_ (by assumption))), hDg, hAg, hBg, ⟨hn1, hn2, hn3⟩, ⟨W, q, hW, hq0, hsum, Hb.mk (Hb.h (by repeat (first | assumption | exact Hb.newY _ _ | refine Hb.alloc ?_ | refine Hb.drew ?_ | refine Hb.ext (by assumption) ?_ | exact Hb.setSameL (by first | omega | (simp only [size_alloc, size_setB, size_drew]; omega)) | exact Hb.setSame (by assumption) | refine Hb.set (by first | omega | (simp only [size_alloc, size_setB, size_drew]; omega)) ?_ )))⟩, Hb.mk (Hb.h (by repeat (first | assumption | exact Hb.newY _ _ | refine Hb.alloc ?_ | refine Hb.drew ?_ | refine Hb.ext (by assumption) ?_ | exact Hb.setSameL (by first | omega | (simp only [size_alloc, size_setB, size_drew]; omega)) | exact Hb.setSame (by assumption) | refine Hb.set (by first | omega | (simp only [size_alloc, size_setB, size_drew]; omega)) ?_ ))), Hb.mk (Hb.h (by repeat (first | assumption | exact Hb.newY _ _ | refine Hb.alloc ?_ | refine Hb.drew ?_ | refine Hb.ext (by assumption) ?_ | exact Hb.setSameL (by first | omega | (simp only [size_alloc, size_setB, size_drew]; omega)) | exact Hb.setSame (by assumption) | refine Hb.set (by first | omega | (simp only [size_alloc, size_setB, size_drew]; omega)) ?_ ))), hbw, hvw, hla, hlv⟩, by (repeat (first | assumption | exact KeepO.refl _ _ | refine KeepO.alloc ?_ _ | refine KeepO.dr ?_ | refine KeepO.setB ?_ (by intro hlt; first | exact Or.inl rfl | exact Or.inr (Or.inl rfl) | exact Or.inr (Or.inr rfl) | (exfalso; omega) | (exfalso; simp only [size_alloc, size_setB, size_drew] at hlt; omega)) _ | refine KeepO.tr ?_ (by assumption) | refine KeepO.extR ?_ (by assumption)))⟩

set_option maxRecDepth 10000 in
set_option maxHeartbeats 4000000 in
theorem sLoad_spec (C D Ba Bv : Nat) (bl vl : List (List Int)) (T r k : Int) (c : Array Value) (v : V) (B : VB) (β : Option Nat) (w w9 : World) (hs : SRep w w9 C D Ba Bv bl vl T r k) (hv : VS w C c v B β) (hbn : bl.length = v.accts.length) (hvn : vl.length = v.slots.length) : Ret Hvad.prog 231 #[.pointer (some ⟨D, 0, none⟩)] w9 fun _ w' => SRep w w' C D Ba Bv (v.accts.map (fun y : Acct => y.bal)) (v.slots.map (fun y : Slot => y.val)) (sumW (v.accts.map (fun y : Acct => y.bal))) r (cleared (v.slots.map (fun y : Slot => y.val)) v.origs) := by
  obtain ⟨hE9, hDg, hAg, hBg, ⟨hn1, hn2, hn3⟩, ⟨W, q, hW, hq0, hsum, hHD⟩, hHA, hHV, hbw, hvw, hla, hlv⟩ := hs
  have hWl := hW.1
  have hWb := wv_bd hW
  have hDl := hHD.lt
  have hAl := hHA.lt
  have hVl := hHV.lt
  have hz9 := hE9.1
  have hsz : (encD C Ba Bv bl.length vl.length W q r k).size = 10 := size_encD hWl
  have h04 : ([0, 0, 0, 0] : List Int).length = 4 := rfl
  have hblk := hv.blk
  have hla0 := hv.ty.la
  have hls0 := hv.ty.ls
  refine Ret_of_W Hvad.func231 rfl rfl ?_
  refine W_seq ?_
  refine W_region rfl ?_
  refine WO_p (PS_move_ptr rfl) ?_
  refine WO_p (PS_buildI (k := .u64) (zs := [0, 0, 0, 0]) (ps := []) (L := [0, 0, 0, 0]) Hvad.zeroValue59 Hvad.runUnderlying59 Hvad.sizeOf26 rfl rfl rfl rfl) ?_
  refine WO_p (PS_nilCheck rfl) ?_
  refine WO_p (PS_fieldAddr 3 Hvad.runUnderlying271 rfl Hvad.sizeOf59 rfl rfl) ?_
  refine WO_store Hvad.sizeOf59 rfl (v := .agg (ic .u64 ([0, 0, 0, 0]))) rfl (Hb.h (by repeat (first | assumption | exact Hb.newY _ _ | refine Hb.alloc ?_ | refine Hb.drew ?_ | refine Hb.ext (by assumption) ?_ | exact Hb.setSameL (by first | omega | (simp only [size_alloc, size_setB, size_drew]; omega)) | exact Hb.setSame (by assumption) | refine Hb.set (by first | omega | (simp only [size_alloc, size_setB, size_drew]; omega)) ?_ ))) (by first | omega | assumption | rfl | decide | exact Nat.le_refl _ | (simp only [size_ic, Value.cells]; omega) | simp) (by rw [size_encD hWl]; decide) (by first | exact oneCell_ic | assumption) ?_
  rw [ed_sum hWl h04]
  refine WO_nil ?_
  refine thn_normal ?_
  refine W_seq ?_
  refine W_region rfl ?_
  refine WO_p (PS_move_ptr rfl) ?_
  refine WO_p (PS_nilCheck rfl) ?_
  refine WO_p (PS_fieldAddr 7 Hvad.runUnderlying271 rfl Hvad.sizeOf26 rfl rfl) ?_
  refine WO_store1 Hvad.sizeOf26 rfl (v := .int _ _) rfl (Hb.h (by repeat (first | assumption | exact Hb.newY _ _ | refine Hb.alloc ?_ | refine Hb.drew ?_ | refine Hb.ext (by assumption) ?_ | exact Hb.setSameL (by first | omega | (simp only [size_alloc, size_setB, size_drew]; omega)) | exact Hb.setSame (by assumption) | refine Hb.set (by first | omega | (simp only [size_alloc, size_setB, size_drew]; omega)) ?_ ))) rfl (by rw [size_encD (by assumption)]; decide) rfl ?_
  rw [ed_q (by assumption)]
  refine WO_nil ?_
  refine thn_normal ?_
  refine W_seq ?_
  refine W_region rfl ?_
  refine WO_p (PS_move_ptr rfl) ?_
  refine WO_p (PS_nilCheck rfl) ?_
  refine WO_p (PS_fieldAddr 9 Hvad.runUnderlying271 rfl Hvad.sizeOf2 rfl rfl) ?_
  refine WO_store1 Hvad.sizeOf2 rfl (v := .int _ _) rfl (Hb.h (by repeat (first | assumption | exact Hb.newY _ _ | refine Hb.alloc ?_ | refine Hb.drew ?_ | refine Hb.ext (by assumption) ?_ | exact Hb.setSameL (by first | omega | (simp only [size_alloc, size_setB, size_drew]; omega)) | exact Hb.setSame (by assumption) | refine Hb.set (by first | omega | (simp only [size_alloc, size_setB, size_drew]; omega)) ?_ ))) rfl (by rw [size_encD (by assumption)]; decide) rfl ?_
  rw [ed_k (by assumption)]
  refine WO_nil ?_
  refine thn_normal ?_
  refine W_seq ?_
  refine W_seq ?_
  refine W_region rfl ?_
  refine WO_p (PS_move_ptr rfl) ?_
  refine WO_p (PS_nilCheck rfl) ?_
  refine WO_p (PS_fieldAddr 1 Hvad.runUnderlying271 rfl Hvad.sizeOf269 rfl rfl) ?_
  refine WO_load (.slice _ _ _) Hvad.isAgg269 rfl (Hb.h (by repeat (first | assumption | exact Hb.newY _ _ | refine Hb.alloc ?_ | refine Hb.drew ?_ | refine Hb.ext (by assumption) ?_ | exact Hb.setSameL (by first | omega | (simp only [size_alloc, size_setB, size_drew]; omega)) | exact Hb.setSame (by assumption) | refine Hb.set (by first | omega | (simp only [size_alloc, size_setB, size_drew]; omega)) ?_ ))) (Ce.h (by first | assumption | exact ed0 | exact ed1 | exact ed2 | exact ed7 (by assumption) | exact ed8 (by assumption) | exact ed9 (by assumption) | exact ⟨rfl⟩)) ?_
  refine WO_p (PS_lenS Hvad.runUnderlying269 rfl) ?_
  refine WO_p (PS_move_int rfl) ?_
  refine WO_nil ?_
  refine thn_normal ?_
  refine W_block ?_
  refine W_loopN (fun m ρ w' => ∃ (i : Nat), i + m = v.accts.length ∧ Fr [(0, .pointer (some ⟨D, 0, none⟩)), (18, .int .i64 v.accts.length), (19, .int .i64 i)] ρ ∧ SRep w w' C D Ba Bv ((v.accts.take i).map (fun y : Acct => y.bal) ++ bl.drop i) vl (sumW ((v.accts.take i).map (fun y : Acct => y.bal))) r 0) v.accts.length ?_ ?_
  · exact ⟨0, by omega, ⟨rfl, congrArg (fun n : Nat => Value.int .i64 n) hbn, rfl, trivial⟩, SRep.castY (bl := bl) (vl := vl) (T := 0) (r := r) (k := 0) ⟨(by repeat (first | assumption | exact Ext.refl _ | refine Ext.alloc ?_ _ | refine Ext.drew ?_ | refine Ext.setB ?_ (by first | omega | (simp only [size_alloc, size_setB, size_drew]; omega)) _ | exact Ext.trans (by assumption) (by assumption) | refine Ext.trans ?_ (by assumption))), hDg, hAg, hBg, ⟨hn1, hn2, hn3⟩, ⟨[0, 0, 0, 0], 0, Wd0, Int.le_refl _, by decide, Hb.mk (Hb.h (by repeat (first | assumption | exact Hb.newY _ _ | refine Hb.alloc ?_ | refine Hb.drew ?_ | refine Hb.ext (by assumption) ?_ | exact Hb.setSameL (by first | omega | (simp only [size_alloc, size_setB, size_drew]; omega)) | exact Hb.setSame (by assumption) | refine Hb.set (by first | omega | (simp only [size_alloc, size_setB, size_drew]; omega)) ?_ )))⟩, Hb.mk (Hb.h (by repeat (first | assumption | exact Hb.newY _ _ | refine Hb.alloc ?_ | refine Hb.drew ?_ | refine Hb.ext (by assumption) ?_ | exact Hb.setSameL (by first | omega | (simp only [size_alloc, size_setB, size_drew]; omega)) | exact Hb.setSame (by assumption) | refine Hb.set (by first | omega | (simp only [size_alloc, size_setB, size_drew]; omega)) ?_ ))), Hb.mk (Hb.h (by repeat (first | assumption | exact Hb.newY _ _ | refine Hb.alloc ?_ | refine Hb.drew ?_ | refine Hb.ext (by assumption) ?_ | exact Hb.setSameL (by first | omega | (simp only [size_alloc, size_setB, size_drew]; omega)) | exact Hb.setSame (by assumption) | refine Hb.set (by first | omega | (simp only [size_alloc, size_setB, size_drew]; omega)) ?_ ))), hbw, hvw, hla, hlv⟩ (by simp) rfl (by simp [sumW]) rfl rfl⟩
  clear hHD hHA hHV hDl hAl hVl hz9 hE9 hsum hW hWl hWb hsz
  intro m ρ w2 hI2
  obtain ⟨i, him, hFr, hS2⟩ := hI2
  have hbl : ((v.accts.take i).map (fun y : Acct => y.bal) ++ bl.drop i).length = v.accts.length := by simp; omega
  refine W_env _ hFr ?_
  obtain ⟨hE2, -, -, -, -, ⟨W2, q2, hW2, hq2, hsum2, hHD2⟩, hHA2, hHV2, hbw2, hvw2, hla2, hlv2⟩ := hS2
  have hWl2 := hW2.1
  have hz2 := hE2.1
  have hDl2 := hHD2.lt
  have hAl2 := hHA2.lt
  have hVl2 := hHV2.lt
  have hsz2 := size_encD (C := C) (Ba := Ba) (Bv := Bv) (na := ((v.accts.take i).map (fun y : Acct => y.bal) ++ bl.drop i).length) (nv := vl.length) (q := q2) (r := r) (k := 0) hWl2
  rw [hbl] at hHD2 hsz2
  refine W_seq ?_
  refine W_region rfl ?_
  refine WO_p (PS_lss rfl rfl) ?_
  refine WO_nil ?_
  refine thn_normal ?_
  refine W_seq ?_
  refine W_if rfl (fun hb2 => ?_) (fun hb2 => ?_)
  · have hb2p := hb2.h; try simp only [al_ete, al_dfn, Bool.not_eq_true', Bool.not_eq_false', al_ne, Bool.not_not, al_nn] at hb2p
    obtain ⟨xi, hxi⟩ : ∃ xi, v.accts[i]? = some xi := ⟨_, List.getElem?_eq_getElem (by omega)⟩
    obtain ⟨b, cap, rr, hab, hcap, hrr, hrs, hrow, hda, hbd, hil, hty, f0, f1, f2, f3, f4, f5, f6⟩ := (hv.ext hE2).openA hxi
    have hc_accts : Ce c (2435 + 0) (.slice (some ⟨b, 0, none⟩) v.accts.length cap) := hda
    have hxw := hty.2.2
    have hxl := hxw.1
    have hset : ((v.accts.take i).map (fun y : Acct => y.bal) ++ bl.drop i).set i xi.bal = ((v.accts.take (i + 1)).map (fun y : Acct => y.bal) ++ bl.drop (i + 1)) := set_take (fun y : Acct => y.bal) hxi hbn
    have hbl1 : ((v.accts.take (i + 1)).map (fun y : Acct => y.bal) ++ bl.drop (i + 1)).length = v.accts.length := by rw [← hset, List.length_set]; exact hbl
    have hbw3 : ∀ y ∈ ((v.accts.take (i + 1)).map (fun y : Acct => y.bal) ++ bl.drop (i + 1)), Wd y := by
      intro y hy
      rw [← hset] at hy
      rcases List.mem_or_eq_of_mem_set hy with hy | hy
      · exact hbw2 y hy
      · rw [hy]; exact hxw
    have hx1 : ((v.accts.take (i + 1)).map (fun y : Acct => y.bal) ++ bl.drop (i + 1))[i]? = some xi.bal := by rw [← hset, List.getElem?_set_self (by omega)]
    have hxt1 := wr_xt hbw3 hx1
    have hfl1 := flatW_len hbw3
    have hfl2 := flatW_len hbw2
    have hTb := sumW_bd2 ((v.accts.take i).map (fun y : Acct => y.bal)) (fun y hy => hbw2 y (List.mem_append_left _ hy))
    rw [show ((v.accts.take i).map (fun y : Acct => y.bal)).length = i by simp; omega] at hTb
    refine W_skip ?_
    refine thn_normal ?_
    refine W_seq ?_
    refine W_block ?_
    refine W_seq ?_
    refine W_region rfl ?_
    refine WO_p (PS_move_int rfl) ?_
    refine WO_p (PS_assign_int rfl) ?_
    refine WO_nil ?_
    refine thn_normal ?_
    refine W_seq ?_
    refine W_drawE [false, false, false, false, false, false, false, false, false, false, false, false, false, false, false, false, false, false] hmix (by kernel_rfl) rfl ?_
    refine WH_p (PS_move_ptr rfl) rfl ?_
    refine WH_p (PS_nilCheck rfl) rfl ?_
    refine WH_p (PS_fieldAddr 1 Hvad.runUnderlying271 rfl Hvad.sizeOf269 rfl rfl) rfl ?_
    refine WH_load (.slice _ _ _) Hvad.isAgg269 rfl (Hb.h (by repeat (first | assumption | exact Hb.newY _ _ | refine Hb.alloc ?_ | refine Hb.drew ?_ | refine Hb.ext (by assumption) ?_ | exact Hb.setSameL (by first | omega | (simp only [size_alloc, size_setB, size_drew]; omega)) | exact Hb.setSame (by assumption) | refine Hb.set (by first | omega | (simp only [size_alloc, size_setB, size_drew]; omega)) ?_ ))) (Ce.h (by first | assumption | exact ed0 | exact ed1 | exact ed2 | exact ed7 (by assumption) | exact ed8 (by assumption) | exact ed9 (by assumption) | exact ⟨rfl⟩)) ?_
    refine WH_p (PS_move_int rfl) rfl ?_
    refine WH_p (PS_move_ptr rfl) rfl ?_
    refine WH_p (PS_nilCheck rfl) rfl ?_
    refine WH_p (PS_fieldAddr 0 Hvad.runUnderlying271 rfl Hvad.sizeOf53 rfl rfl) rfl ?_
    refine WH_load (.pointer _) Hvad.isAgg53 rfl (Hb.h (by repeat (first | assumption | exact Hb.newY _ _ | refine Hb.alloc ?_ | refine Hb.drew ?_ | refine Hb.ext (by assumption) ?_ | exact Hb.setSameL (by first | omega | (simp only [size_alloc, size_setB, size_drew]; omega)) | exact Hb.setSame (by assumption) | refine Hb.set (by first | omega | (simp only [size_alloc, size_setB, size_drew]; omega)) ?_ ))) (Ce.h (by first | assumption | exact ed0 | exact ed1 | exact ed2 | exact ed7 (by assumption) | exact ed8 (by assumption) | exact ed9 (by assumption) | exact ⟨rfl⟩)) ?_
    refine WH_p (PS_nilCheck rfl) rfl ?_
    refine WH_p (PS_fieldAddr 0 Hvad.runUnderlying79 rfl Hvad.sizeOf70 rfl rfl) rfl ?_
    refine WH_load (.slice _ _ _) Hvad.isAgg70 rfl (Hb.h (by repeat (first | assumption | exact Hb.newY _ _ | refine Hb.alloc ?_ | refine Hb.drew ?_ | refine Hb.ext (by assumption) ?_ | exact Hb.setSameL (by first | omega | (simp only [size_alloc, size_setB, size_drew]; omega)) | exact Hb.setSame (by assumption) | refine Hb.set (by first | omega | (simp only [size_alloc, size_setB, size_drew]; omega)) ?_ ))) (Ce.h (by first | assumption | exact ed0 | exact ed1 | exact ed2 | exact ed7 (by assumption) | exact ed8 (by assumption) | exact ed9 (by assumption) | exact ⟨rfl⟩)) ?_
    refine WH_p (PS_move_int rfl) rfl ?_
    refine WH_p (PS_indexS Hvad.runUnderlying70 Hvad.sizeOf149 rfl rfl (by omega) (by omega)) rfl ?_
    refine WH_p (PS_fieldAddr 21 Hvad.runUnderlying149 rfl Hvad.sizeOf59 rfl rfl) rfl ?_
    refine WH_loadA _ Hvad.isAgg59 Hvad.sizeOf59 rfl (Hb.h (by repeat (first | assumption | exact Hb.newY _ _ | refine Hb.alloc ?_ | refine Hb.drew ?_ | refine Hb.ext (by assumption) ?_ | exact Hb.setSameL (by first | omega | (simp only [size_alloc, size_setB, size_drew]; omega)) | exact Hb.setSame (by assumption) | refine Hb.set (by first | omega | (simp only [size_alloc, size_setB, size_drew]; omega)) ?_ ))) (by first | omega | assumption | rfl | decide | exact Nat.le_refl _ | (simp only [size_ic, Value.cells]; omega) | simp) (Xt.h (by first | assumption | exact Xt.whole rfl rfl | exact ed3 (by assumption) | exact Xt.whole rfl (by simp only [size_ic, Value.cells]; omega) | exact ⟨rfl⟩)) ?_
    refine WH_p (PS_indexS Hvad.runUnderlying269 Hvad.sizeOf59 rfl rfl (by omega) (by omega)) rfl ?_
    refine WH_store Hvad.sizeOf59 rfl (v := .agg (ic .u64 xi.bal)) rfl (Hb.h (by repeat (first | assumption | exact Hb.newY _ _ | refine Hb.alloc ?_ | refine Hb.drew ?_ | refine Hb.ext (by assumption) ?_ | exact Hb.setSameL (by first | omega | (simp only [size_alloc, size_setB, size_drew]; omega)) | exact Hb.setSame (by assumption) | refine Hb.set (by first | omega | (simp only [size_alloc, size_setB, size_drew]; omega)) ?_ ))) (by first | omega | assumption | rfl | decide | exact Nat.le_refl _ | (simp only [size_ic, Value.cells]; omega) | simp) (by rw [size_ic, flatW_len hbw2]; omega) (by first | exact oneCell_ic | assumption) (fun h => by cases h) ?_
    rw [show Int.toNat (i : Int) = i from Int.toNat_natCast i, wr_set hbw2 (by omega) hxl, hset]
    refine WH_nil ?_
    refine thn_normal ?_
    refine W_region rfl ?_
    refine WO_p (PS_move_ptr rfl) ?_
    refine WO_p (PS_move_ptr rfl) ?_
    refine WO_p (PS_nilCheck rfl) ?_
    refine WO_p (PS_fieldAddr 1 Hvad.runUnderlying271 rfl Hvad.sizeOf269 rfl rfl) ?_
    refine WO_load (.slice _ _ _) Hvad.isAgg269 rfl (Hb.h (by repeat (first | assumption | exact Hb.newY _ _ | refine Hb.alloc ?_ | refine Hb.drew ?_ | refine Hb.ext (by assumption) ?_ | exact Hb.setSameL (by first | omega | (simp only [size_alloc, size_setB, size_drew]; omega)) | exact Hb.setSame (by assumption) | refine Hb.set (by first | omega | (simp only [size_alloc, size_setB, size_drew]; omega)) ?_ ))) (Ce.h (by first | assumption | exact ed0 | exact ed1 | exact ed2 | exact ed7 (by assumption) | exact ed8 (by assumption) | exact ed9 (by assumption) | exact ⟨rfl⟩)) ?_
    refine WO_p (PS_move_int rfl) ?_
    refine WO_p (PS_indexS Hvad.runUnderlying269 Hvad.sizeOf59 rfl rfl (by omega) (by omega)) ?_
    refine WO_loadA _ Hvad.isAgg59 Hvad.sizeOf59 rfl (Hb.h (by repeat (first | assumption | exact Hb.newY _ _ | refine Hb.alloc ?_ | refine Hb.drew ?_ | refine Hb.ext (by assumption) ?_ | exact Hb.setSameL (by first | omega | (simp only [size_alloc, size_setB, size_drew]; omega)) | exact Hb.setSame (by assumption) | refine Hb.set (by first | omega | (simp only [size_alloc, size_setB, size_drew]; omega)) ?_ ))) (by first | omega | assumption | rfl | decide | exact Nat.le_refl _ | (simp only [size_ic, Value.cells]; omega) | simp) (Xt.h (by first | assumption | exact Xt.whole rfl rfl | exact ed3 (by assumption) | exact Xt.whole rfl (by simp only [size_ic, Value.cells]; omega) | exact ⟨rfl⟩)) ?_
    refine WO_call Hvad.call272 (by rfl) (Ret.mono (sAdd_spec C D Ba Bv ((v.accts.take (i + 1)).map (fun y : Acct => y.bal) ++ bl.drop (i + 1)) vl (sumW ((v.accts.take i).map (fun y : Acct => y.bal))) r 0 xi.bal w _ ⟨(by repeat (first | assumption | exact Ext.refl _ | refine Ext.alloc ?_ _ | refine Ext.drew ?_ | refine Ext.setB ?_ (by first | omega | (simp only [size_alloc, size_setB, size_drew]; omega)) _ | exact Ext.trans (by assumption) (by assumption) | refine Ext.trans ?_ (by assumption))), hDg, hAg, hBg, ⟨hn1, hn2, hn3⟩, ⟨W2, q2, hW2, hq2, hsum2, by rw [hbl1]; exact Hb.mk (Hb.h (by repeat (first | assumption | exact Hb.newY _ _ | refine Hb.alloc ?_ | refine Hb.drew ?_ | refine Hb.ext (by assumption) ?_ | exact Hb.setSameL (by first | omega | (simp only [size_alloc, size_setB, size_drew]; omega)) | exact Hb.setSame (by assumption) | refine Hb.set (by first | omega | (simp only [size_alloc, size_setB, size_drew]; omega)) ?_ )))⟩, Hb.mk (Hb.h (by repeat (first | assumption | exact Hb.newY _ _ | refine Hb.alloc ?_ | refine Hb.drew ?_ | refine Hb.ext (by assumption) ?_ | exact Hb.setSameL (by first | omega | (simp only [size_alloc, size_setB, size_drew]; omega)) | exact Hb.setSame (by assumption) | refine Hb.set (by first | omega | (simp only [size_alloc, size_setB, size_drew]; omega)) ?_ ))), Hb.mk (Hb.h (by repeat (first | assumption | exact Hb.newY _ _ | refine Hb.alloc ?_ | refine Hb.drew ?_ | refine Hb.ext (by assumption) ?_ | exact Hb.setSameL (by first | omega | (simp only [size_alloc, size_setB, size_drew]; omega)) | exact Hb.setSame (by assumption) | refine Hb.set (by first | omega | (simp only [size_alloc, size_setB, size_drew]; omega)) ?_ ))), hbw3, hvw2, (by omega), hlv2⟩ hxw (by omega)) ?_)
    rintro _ w7 ⟨hS7, hK7⟩
    have hE7 := hS7.ext
    refine WO_nil ?_
    refine inBlk_normal ?_
    refine thn_normal ?_
    refine W_region rfl ?_
    refine WO_p (PS_add_i64n rfl rfl (by omega) (by omega)) ?_
    refine WO_p (PS_move_int rfl) ?_
    refine WO_nil ?_
    refine thn_normal ?_
    exact ⟨m - 1, by omega, i + 1, by omega, ⟨rfl, rfl, congrArg (Value.int .i64) (by omega), trivial⟩, hS7.castY rfl rfl (sumW_take hxi).symm rfl rfl⟩
  · have hb2p := hb2.h; try simp only [al_ete, al_dfn, Bool.not_eq_true', Bool.not_eq_false', al_ne, Bool.not_not, al_nn] at hb2p
    refine W_exit ?_
    refine thn_exit ?_
    refine thn_exit ?_
    refine inBlk_exit ?_
    refine thn_normal ?_
    refine W_seq ?_
    refine W_region rfl ?_
    refine WO_p (PS_move_ptr rfl) ?_
    refine WO_p (PS_nilCheck rfl) ?_
    refine WO_p (PS_fieldAddr 2 Hvad.runUnderlying271 rfl Hvad.sizeOf269 rfl rfl) ?_
    refine WO_load (.slice _ _ _) Hvad.isAgg269 rfl (Hb.h (by repeat (first | assumption | exact Hb.newY _ _ | refine Hb.alloc ?_ | refine Hb.drew ?_ | refine Hb.ext (by assumption) ?_ | exact Hb.setSameL (by first | omega | (simp only [size_alloc, size_setB, size_drew]; omega)) | exact Hb.setSame (by assumption) | refine Hb.set (by first | omega | (simp only [size_alloc, size_setB, size_drew]; omega)) ?_ ))) (Ce.h (by first | assumption | exact ed0 | exact ed1 | exact ed2 | exact ed7 (by assumption) | exact ed8 (by assumption) | exact ed9 (by assumption) | exact ⟨rfl⟩)) ?_
    refine WO_p (PS_lenS Hvad.runUnderlying269 rfl) ?_
    refine WO_p (PS_move_int rfl) ?_
    refine WO_nil ?_
    refine thn_normal ?_
    refine W_block ?_
    have hiA : i = v.accts.length := by omega
    have eBL : ((v.accts.take i).map (fun y : Acct => y.bal) ++ bl.drop i) = (v.accts.map (fun y : Acct => y.bal)) := by rw [hiA, List.take_length, List.drop_eq_nil_of_le (by omega), List.append_nil]
    have eT : (sumW ((v.accts.take i).map (fun y : Acct => y.bal))) = sumW (v.accts.map (fun y : Acct => y.bal)) := by rw [hiA, List.take_length]
    have hS3 : SRep w w2 C D Ba Bv (v.accts.map (fun y : Acct => y.bal)) vl (sumW (v.accts.map (fun y : Acct => y.bal))) r 0 := SRep.castY (bl := ((v.accts.take i).map (fun y : Acct => y.bal) ++ bl.drop i)) (vl := vl) (T := (sumW ((v.accts.take i).map (fun y : Acct => y.bal)))) (r := r) (k := 0) ⟨(by repeat (first | assumption | exact Ext.refl _ | refine Ext.alloc ?_ _ | refine Ext.drew ?_ | refine Ext.setB ?_ (by first | omega | (simp only [size_alloc, size_setB, size_drew]; omega)) _ | exact Ext.trans (by assumption) (by assumption) | refine Ext.trans ?_ (by assumption))), hDg, hAg, hBg, ⟨hn1, hn2, hn3⟩, ⟨W2, q2, hW2, hq2, hsum2, by rw [hbl]; exact hHD2⟩, hHA2, hHV2, hbw2, hvw2, hla2, hlv2⟩ eBL rfl eT rfl rfl
    clear hHD2 hHA2 hHV2 hDl2 hAl2 hVl2 hz2 hE2 hsum2 hW2 hWl2 hbl hsz2 hbw2 hvw2 hla2 hlv2 eBL eT hFr
    refine W_loopN (fun m ρ w' => ∃ (i : Nat), i + m = v.slots.length ∧ Fr [(0, .pointer (some ⟨D, 0, none⟩)), (53, .int .i64 v.slots.length), (54, .int .i64 i)] ρ ∧ SRep w w' C D Ba Bv (v.accts.map (fun y : Acct => y.bal)) ((v.slots.take i).map (fun y : Slot => y.val) ++ vl.drop i) (sumW (v.accts.map (fun y : Acct => y.bal))) r (cleared ((v.slots.take i).map (fun y : Slot => y.val)) ((v.slots.take i).map (fun y : Slot => y.orig)))) v.slots.length ?_ ?_
    · exact ⟨0, by omega, ⟨rfl, congrArg (fun n : Nat => Value.int .i64 n) hvn, rfl, trivial⟩, hS3.castY rfl (by simp) rfl rfl (by simp [cleared])⟩
    clear hS3 hiA him
    intro m ρ w2 hI2
    obtain ⟨i, him, hFr, hS2⟩ := hI2
    have hbl : ((v.slots.take i).map (fun y : Slot => y.val) ++ vl.drop i).length = v.slots.length := by simp; omega
    have hbA : (v.accts.map (fun y : Acct => y.bal)).length = v.accts.length := by simp
    refine W_env _ hFr ?_
    obtain ⟨hE2, -, -, -, -, ⟨W2, q2, hW2, hq2, hsum2, hHD2⟩, hHA2, hHV2, hbw2, hvw2, hla2, hlv2⟩ := hS2
    have hWl2 := hW2.1
    have hz2 := hE2.1
    have hDl2 := hHD2.lt
    have hAl2 := hHA2.lt
    have hVl2 := hHV2.lt
    have hsz2 := size_encD (C := C) (Ba := Ba) (Bv := Bv) (na := (v.accts.map (fun y : Acct => y.bal)).length) (nv := ((v.slots.take i).map (fun y : Slot => y.val) ++ vl.drop i).length) (q := q2) (r := r) (k := (cleared ((v.slots.take i).map (fun y : Slot => y.val)) ((v.slots.take i).map (fun y : Slot => y.orig)))) hWl2
    rw [hbl, hbA] at hHD2 hsz2
    refine W_seq ?_
    refine W_region rfl ?_
    refine WO_p (PS_lss rfl rfl) ?_
    refine WO_nil ?_
    refine thn_normal ?_
    refine W_seq ?_
    refine W_if rfl (fun hb5 => ?_) (fun hb5 => ?_)
    · have hb5p := hb5.h; try simp only [al_ete, al_dfn, Bool.not_eq_true', Bool.not_eq_false', al_ne, Bool.not_not, al_nn] at hb5p
      obtain ⟨xi, hxi⟩ : ∃ xi, v.slots[i]? = some xi := ⟨_, List.getElem?_eq_getElem (by omega)⟩
      obtain ⟨b, cap, rr, hab, hcap, hrr, hrs, hrow, hda, hbd, hil, hty, f0, f1, f2, f3, f4⟩ := (hv.ext hE2).openS hxi
      have hc_slots : Ce c (2435 + 1) (.slice (some ⟨b, 0, none⟩) v.slots.length cap) := hda
      have hxw := hty.2.2.1
      have hxl := hxw.1
      have hset : ((v.slots.take i).map (fun y : Slot => y.val) ++ vl.drop i).set i xi.val = ((v.slots.take (i + 1)).map (fun y : Slot => y.val) ++ vl.drop (i + 1)) := set_take (fun y : Slot => y.val) hxi hvn
      have hbl1 : ((v.slots.take (i + 1)).map (fun y : Slot => y.val) ++ vl.drop (i + 1)).length = v.slots.length := by rw [← hset, List.length_set]; exact hbl
      have hbw3 : ∀ y ∈ ((v.slots.take (i + 1)).map (fun y : Slot => y.val) ++ vl.drop (i + 1)), Wd y := by
        intro y hy
        rw [← hset] at hy
        rcases List.mem_or_eq_of_mem_set hy with hy | hy
        · exact hvw2 y hy
        · rw [hy]; exact hxw
      have hx1 : ((v.slots.take (i + 1)).map (fun y : Slot => y.val) ++ vl.drop (i + 1))[i]? = some xi.val := by rw [← hset, List.getElem?_set_self (by omega)]
      have hfl2 := flatW_len hvw2
      have hkb1 := cleared_nonneg ((v.slots.take i).map (fun y : Slot => y.val)) ((v.slots.take i).map (fun y : Slot => y.orig))
      have hkb2 := cleared_le ((v.slots.take i).map (fun y : Slot => y.val)) ((v.slots.take i).map (fun y : Slot => y.orig))
      rw [show ((v.slots.take i).map (fun y : Slot => y.val)).length = i by simp; omega] at hkb2
      refine W_skip ?_
      refine thn_normal ?_
      refine W_seq ?_
      refine W_block ?_
      refine W_seq ?_
      refine W_region rfl ?_
      refine WO_p (PS_move_int rfl) ?_
      refine WO_p (PS_assign_int rfl) ?_
      refine WO_nil ?_
      refine thn_normal ?_
      refine W_seq ?_
      refine W_drawE [false, false, false, false, false, false, false, false, false, false, false, false, false, false, false, false, false, false] hmix (by kernel_rfl) rfl ?_
      refine WH_p (PS_move_ptr rfl) rfl ?_
      refine WH_p (PS_nilCheck rfl) rfl ?_
      refine WH_p (PS_fieldAddr 2 Hvad.runUnderlying271 rfl Hvad.sizeOf269 rfl rfl) rfl ?_
      refine WH_load (.slice _ _ _) Hvad.isAgg269 rfl (Hb.h (by repeat (first | assumption | exact Hb.newY _ _ | refine Hb.alloc ?_ | refine Hb.drew ?_ | refine Hb.ext (by assumption) ?_ | exact Hb.setSameL (by first | omega | (simp only [size_alloc, size_setB, size_drew]; omega)) | exact Hb.setSame (by assumption) | refine Hb.set (by first | omega | (simp only [size_alloc, size_setB, size_drew]; omega)) ?_ ))) (Ce.h (by first | assumption | exact ed0 | exact ed1 | exact ed2 | exact ed7 (by assumption) | exact ed8 (by assumption) | exact ed9 (by assumption) | exact ⟨rfl⟩)) ?_
      refine WH_p (PS_move_int rfl) rfl ?_
      refine WH_p (PS_move_ptr rfl) rfl ?_
      refine WH_p (PS_nilCheck rfl) rfl ?_
      refine WH_p (PS_fieldAddr 0 Hvad.runUnderlying271 rfl Hvad.sizeOf53 rfl rfl) rfl ?_
      refine WH_load (.pointer _) Hvad.isAgg53 rfl (Hb.h (by repeat (first | assumption | exact Hb.newY _ _ | refine Hb.alloc ?_ | refine Hb.drew ?_ | refine Hb.ext (by assumption) ?_ | exact Hb.setSameL (by first | omega | (simp only [size_alloc, size_setB, size_drew]; omega)) | exact Hb.setSame (by assumption) | refine Hb.set (by first | omega | (simp only [size_alloc, size_setB, size_drew]; omega)) ?_ ))) (Ce.h (by first | assumption | exact ed0 | exact ed1 | exact ed2 | exact ed7 (by assumption) | exact ed8 (by assumption) | exact ed9 (by assumption) | exact ⟨rfl⟩)) ?_
      refine WH_p (PS_nilCheck rfl) rfl ?_
      refine WH_p (PS_fieldAddr 1 Hvad.runUnderlying79 rfl Hvad.sizeOf71 rfl rfl) rfl ?_
      refine WH_load (.slice _ _ _) Hvad.isAgg71 rfl (Hb.h (by repeat (first | assumption | exact Hb.newY _ _ | refine Hb.alloc ?_ | refine Hb.drew ?_ | refine Hb.ext (by assumption) ?_ | exact Hb.setSameL (by first | omega | (simp only [size_alloc, size_setB, size_drew]; omega)) | exact Hb.setSame (by assumption) | refine Hb.set (by first | omega | (simp only [size_alloc, size_setB, size_drew]; omega)) ?_ ))) (Ce.h (by first | assumption | exact ed0 | exact ed1 | exact ed2 | exact ed7 (by assumption) | exact ed8 (by assumption) | exact ed9 (by assumption) | exact ⟨rfl⟩)) ?_
      refine WH_p (PS_move_int rfl) rfl ?_
      refine WH_p (PS_indexS Hvad.runUnderlying71 Hvad.sizeOf152 rfl rfl (by omega) (by omega)) rfl ?_
      refine WH_p (PS_fieldAddr 5 Hvad.runUnderlying152 rfl Hvad.sizeOf59 rfl rfl) rfl ?_
      refine WH_loadA _ Hvad.isAgg59 Hvad.sizeOf59 rfl (Hb.h (by repeat (first | assumption | exact Hb.newY _ _ | refine Hb.alloc ?_ | refine Hb.drew ?_ | refine Hb.ext (by assumption) ?_ | exact Hb.setSameL (by first | omega | (simp only [size_alloc, size_setB, size_drew]; omega)) | exact Hb.setSame (by assumption) | refine Hb.set (by first | omega | (simp only [size_alloc, size_setB, size_drew]; omega)) ?_ ))) (by first | omega | assumption | rfl | decide | exact Nat.le_refl _ | (simp only [size_ic, Value.cells]; omega) | simp) (Xt.h (by first | assumption | exact Xt.whole rfl rfl | exact ed3 (by assumption) | exact Xt.whole rfl (by simp only [size_ic, Value.cells]; omega) | exact ⟨rfl⟩)) ?_
      refine WH_p (PS_indexS Hvad.runUnderlying269 Hvad.sizeOf59 rfl rfl (by omega) (by omega)) rfl ?_
      refine WH_store Hvad.sizeOf59 rfl (v := .agg (ic .u64 xi.val)) rfl (Hb.h (by repeat (first | assumption | exact Hb.newY _ _ | refine Hb.alloc ?_ | refine Hb.drew ?_ | refine Hb.ext (by assumption) ?_ | exact Hb.setSameL (by first | omega | (simp only [size_alloc, size_setB, size_drew]; omega)) | exact Hb.setSame (by assumption) | refine Hb.set (by first | omega | (simp only [size_alloc, size_setB, size_drew]; omega)) ?_ ))) (by first | omega | assumption | rfl | decide | exact Nat.le_refl _ | (simp only [size_ic, Value.cells]; omega) | simp) (by rw [size_ic, flatW_len hvw2]; omega) (by first | exact oneCell_ic | assumption) (fun h => by cases h) ?_
      rw [show Int.toNat (i : Int) = i from Int.toNat_natCast i, wr_set hvw2 (by omega) hxl, hset]
      refine WH_nil ?_
      refine thn_normal ?_
      refine W_region rfl ?_
      refine WO_p (PS_move_ptr rfl) ?_
      refine WO_p (PS_move_int rfl) ?_
      refine WO_call Hvad.call273 (by rfl) (Ret.mono (sCount_spec C D Ba Bv (v.accts.map (fun y : Acct => y.bal)) ((v.slots.take (i + 1)).map (fun y : Slot => y.val) ++ vl.drop (i + 1)) (sumW (v.accts.map (fun y : Acct => y.bal))) r (cleared ((v.slots.take i).map (fun y : Slot => y.val)) ((v.slots.take i).map (fun y : Slot => y.orig))) c v B β i 1 xi.val xi w _ ⟨(by repeat (first | assumption | exact Ext.refl _ | refine Ext.alloc ?_ _ | refine Ext.drew ?_ | refine Ext.setB ?_ (by first | omega | (simp only [size_alloc, size_setB, size_drew]; omega)) _ | exact Ext.trans (by assumption) (by assumption) | refine Ext.trans ?_ (by assumption))), hDg, hAg, hBg, ⟨hn1, hn2, hn3⟩, ⟨W2, q2, hW2, hq2, hsum2, by rw [hbl1, hbA]; exact Hb.mk (Hb.h (by repeat (first | assumption | exact Hb.newY _ _ | refine Hb.alloc ?_ | refine Hb.drew ?_ | refine Hb.ext (by assumption) ?_ | exact Hb.setSameL (by first | omega | (simp only [size_alloc, size_setB, size_drew]; omega)) | exact Hb.setSame (by assumption) | refine Hb.set (by first | omega | (simp only [size_alloc, size_setB, size_drew]; omega)) ?_ )))⟩, Hb.mk (Hb.h (by repeat (first | assumption | exact Hb.newY _ _ | refine Hb.alloc ?_ | refine Hb.drew ?_ | refine Hb.ext (by assumption) ?_ | exact Hb.setSameL (by first | omega | (simp only [size_alloc, size_setB, size_drew]; omega)) | exact Hb.setSame (by assumption) | refine Hb.set (by first | omega | (simp only [size_alloc, size_setB, size_drew]; omega)) ?_ ))), Hb.mk (Hb.h (by repeat (first | assumption | exact Hb.newY _ _ | refine Hb.alloc ?_ | refine Hb.drew ?_ | refine Hb.ext (by assumption) ?_ | exact Hb.setSameL (by first | omega | (simp only [size_alloc, size_setB, size_drew]; omega)) | exact Hb.setSame (by assumption) | refine Hb.set (by first | omega | (simp only [size_alloc, size_setB, size_drew]; omega)) ?_ ))), hbw2, hbw3, hla2, (by omega)⟩ hv hx1 hxi (by omega) (Or.inl rfl)) ?_)
      rintro _ w7 ⟨hS7, hK7⟩
      have hE7 := hS7.ext
      refine WO_nil ?_
      refine inBlk_normal ?_
      refine thn_normal ?_
      refine W_region rfl ?_
      refine WO_p (PS_add_i64n rfl rfl (by omega) (by omega)) ?_
      refine WO_p (PS_move_int rfl) ?_
      refine WO_nil ?_
      refine thn_normal ?_
      exact ⟨m - 1, by omega, i + 1, by omega, ⟨rfl, rfl, congrArg (Value.int .i64) (by omega), trivial⟩, hS7.castY rfl rfl rfl rfl (clr_take hxi).symm⟩
    · have hb5p := hb5.h; try simp only [al_ete, al_dfn, Bool.not_eq_true', Bool.not_eq_false', al_ne, Bool.not_not, al_nn] at hb5p
      refine W_exit ?_
      refine thn_exit ?_
      refine thn_exit ?_
      refine inBlk_exit ?_
      first | refine bodyQ_ret0 Hvad.results231 ?_ | refine bodyQ_end0 Hvad.results231 ?_
      have hiA : i = v.slots.length := by omega
      refine SRep.castY (bl := (v.accts.map (fun y : Acct => y.bal))) (vl := ((v.slots.take i).map (fun y : Slot => y.val) ++ vl.drop i)) (T := sumW (v.accts.map (fun y : Acct => y.bal))) (r := r) (k := (cleared ((v.slots.take i).map (fun y : Slot => y.val)) ((v.slots.take i).map (fun y : Slot => y.orig)))) ⟨hE2, hDg, hAg, hBg, ⟨hn1, hn2, hn3⟩, ⟨W2, q2, hW2, hq2, hsum2, by rw [hbl, hbA]; exact hHD2⟩, hHA2, hHV2, hbw2, hvw2, hla2, hlv2⟩ rfl ?_ rfl rfl ?_
      · rw [hiA, List.take_length, List.drop_eq_nil_of_le (by omega), List.append_nil]
      · rw [hiA, List.take_length]; rfl

end Go.Proofs.YgvadwGreat
