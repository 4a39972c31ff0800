import Derived.Test.YgvacwGreatDc
namespace Go.Proofs.YgvacwGreat
set_option linter.unusedSimpArgs false
set_option linter.unusedVariables false
theorem ybegin_ret (ks : List Int → List Int) (y : PSt) (t : Tx) : (ybegin ks y t).1.ret = [] := by
  unfold ybegin
  split
  · rfl
  · rfl
section
variable {O : Om} {Y : Nat → Prop} {w w' : World} {C : Nat} {c : Array Value} {v : V} {B : VB} {m : Mc} {D : Nat} {x : YSt} {y : PSt} {xs : List YFr} {fs : List PF} {N n : Nat}
theorem Two.relNE {y' : PSt} (hT : Two O Y w C c v B m D x y xs fs) (h : RelN w v m y') (he : Ext w w') : RelN w' v m y' := @RelN.ext ⟨Y⟩ _ _ _ _ _ _ _ _ h hT.ms he
/-- what the engine's Begin leaves -/
def EB (w : World) (v : V) (m : Mc) (y : PSt) (t : Tx) : Prop := (yverd y t ≠ 0 ∧ RelN w v m y) ∨ (yverd y t = 0 ∧ ∃ S, Rel w v m (ybegin khash y t) ∧ (RI scanW v m 0 0 S ∨ m.phase = 2))
theorem Two.begE {w0 : World} {t : Tx} {Sb : Int} (hT : Two O Y w C c v B m D x y xs fs) (he : Ext w0 w) (hId : IdM m) (hF : FilV v 8 128 Sb) (hSb : Sb < 115792089237316195423570985008687907853269984665640564039457584007913129639936) (htx : TxOK w0 t) (hlow : ∀ b, MOwn C B m b → w0.heap.size ≤ b) (hRN : RelN w v m y) (bx : Nat) (hbx : ∀ b, MOwn C B m b → b ≠ bx) : Ret Hvac.prog 5 #[.pointer (some ⟨C, 0, none⟩), .agg (encTx t).toArray] w fun u w1 => u = .int .u8 (yverd y t : Int) ∧ ∃ O' c' v' B' m', MStep w w1 C B m B' m' ∧ KeepO (fun b => b ≠ bx) w w1 ∧ Two O' Y w1 C c' v' B' m' D x y xs fs ∧ EB w1 v' m' y t := by
  refine Ret.mono (@eBegin_ex ⟨Y⟩ w0 C c v B m t Sb w he hT.ms hId hF hSb htx hlow y hRN) ?_
  rintro u w1 ⟨rfl, h⟩
  refine ⟨rfl, ?_⟩
  rcases h with ⟨h1, h2⟩ | ⟨h1, v', m', S, h2, h3, h4⟩
  · exact ⟨O, c, v, B, m, MStep.ext h2, h2.keepO _, hT.ext h2, Or.inl ⟨h1, @RelN.ext ⟨Y⟩ _ _ _ _ _ _ _ _ hRN hT.ms h2⟩⟩
  · obtain ⟨O', c', B', hS, hT1⟩ := hT.eng h2
    exact ⟨O', c', v', B', m', hS, ⟨hS.keep.sz, fun b hb hn => hS.keep.old b hb (fun e => hn (hbx b e)), hS.keep.en⟩, hT1, Or.inr ⟨h1, S, h3, h4⟩⟩
theorem Two.begY {w0 : World} {t : Tx} (hT : Two O Y w C c v B m D x y [] []) (he : Ext w0 w) (htx : TxOK w0 t) (hlow : w0.heap.size ≤ D) (hdc : t.data.2.1 ≤ t.data.2.2) (hB : PSB 3000 y) (hYN : YN 3000 y []) (hYB : YB y) (hap : y.applied ≤ 4) (hst : (ystart y.now.accts).length ≤ 3000) (hE : EB w v m y t) : Ret Hvac.prog 6 #[.pointer (some ⟨D, 0, none⟩), .agg (encTx t).toArray] w fun u w1 => u = .int .u8 (yverd y t : Int) ∧ ∃ O' Y' x' y' xs' fs' n, KeepO Y w w1 ∧ (∀ b, Y' b → Y b ∨ w.heap.size ≤ b) ∧ Two O' Y' w1 C c v B m D x' y' xs' fs' ∧ RunT w1 v m y' fs' n ∧ YN 4100 y' fs' ∧ 4100 + 8 * n ≤ 99000000 := by
  refine Ret.mono (@yBegin_spec O w (@YX.omb O _ _ _ _ _ _ _ hT.yx) khash khash_ksum Y D x y [] [] 3000 hT.yx hB (by omega) hYB t w0 he htx hlow hdc hap hst) ?_
  rintro u w1 ⟨h1, h2⟩
  rcases hE with ⟨hv, hRN⟩ | ⟨hv, S, hRl, hI⟩
  · obtain ⟨rfl, hE1⟩ := h1 hv
    exact ⟨rfl, O, Y, x, y, [], [], 0, hE1.keepO Y, fun b hb => Or.inl hb, hT.ext hE1, Or.inr (Or.inr ⟨rfl, hRN.ph.1, @RelN.ext ⟨Y⟩ _ _ _ _ _ _ _ _ hRN hT.ms hE1⟩), hYN.mono (by omega), by omega⟩
  · obtain ⟨rfl, hY⟩ := h2 hv
    obtain ⟨O', Y', x', xs', hk, hl, hT1⟩ := hT.ret hY
    have hyn := hYN.begin khash (ver0 hv) hst (by omega)
    have hRl1 := hT.rel hRl hk
    obtain ⟨L, hL, hP1⟩ := hRl.ex
    rcases hI with hI | hI
    · have htop := hP1.top
      rw [hI.top] at htop
      have hne : (ybegin khash y t).2 ≠ [] := by
        intro e
        rw [e] at htop
        simp only [List.length_nil] at htop
        omega
      have hg0 := (gasTo_le (@MS.ty ⟨Y⟩ _ _ _ _ _ _ hT.ms) (0 + 1) 0 (by omega)).2
      have hgs := hI.gs
      have htx2 := hI.ti.tx
      have hlm := hI.ti.lm.2
      exact ⟨by rw [hv]; rfl, O', Y', x', _, xs', _, (gasTo m.frames (0 + 1)).toNat * 8 + 0 + 1, hk, hl, hT1, Or.inl ⟨0, S, (ybegin khash y t).2.dropLast, (ybegin khash y t).2.getLast hne, (List.dropLast_concat_getLast hne).symm, hI, hRl1, rfl⟩, hyn, by omega⟩
    · have hr0 : m.ret.2.1 = 0 := by
        have e : rdB w m.ret = (ybegin khash y t).1.ret := hP1.ret
        have e2 := @BX.len ⟨Y⟩ _ _ _ _ (@BS.rd ⟨Y⟩ _ _ _ (@MS.ret ⟨Y⟩ _ _ _ _ _ _ hT.ms))
        rw [e, ybegin_ret] at e2
        exact e2.symm
      exact ⟨by rw [hv]; rfl, O', Y', x', _, xs', _, 0, hk, hl, hT1, Or.inr (Or.inl ⟨rfl, hI, by omega, hRl1⟩), hyn, by omega⟩
/-- between the two steps -/
def Mid (q : Bool) (Y : Nat → Prop) (w w1 : World) (C : Nat) (B : VB) (m : Mc) (D : Nat) (x : YSt) (y : PSt) (xs : List YFr) (fs : List PF) (n : Nat) : Prop :=
  (q = false ∧ Ext w w1) ∨ (q = true ∧ ∃ rest g O' c' v' B' m', fs = rest ++ [g] ∧ MStep w w1 C B m B' m' ∧ Half O' Y w1 C c' v' B' m' D x y xs rest g n)
theorem Two.stepE (hT : Two O Y w C c v B m D x y xs fs) (hR : RunT w v m y fs n) (he : Ext w w') : Ret Hvac.prog 10 #[.pointer (some ⟨C, 0, none⟩)] w' fun u w1 => ∃ q : Bool, u = .bool q ∧ (q = false → n = 0) ∧ Mid q Y w' w1 C B m D x y xs fs n := by
  rcases Nat.eq_zero_or_pos n with h0 | h0
  · subst h0
    refine Ret.mono ((hT.stop hR).1 w' he) ?_
    rintro u w1 ⟨rfl, h⟩
    exact ⟨false, rfl, fun _ => rfl, Or.inl ⟨rfl, h⟩⟩
  · obtain ⟨rest, g, hfs, h1⟩ := hT.go hR h0
    refine Ret.mono (h1 w' he) ?_
    rintro u w1 ⟨rfl, O', c', v', B', m', hS, hH⟩
    exact ⟨true, rfl, (fun h => by cases h), Or.inr ⟨rfl, rest, g, O', c', v', B', m', hfs, hS, hH⟩⟩
theorem Two.stepY {q : Bool} {w1 : World} (hT : Two O Y w C c v B m D x y xs fs) (hR : RunT w v m y fs n) (he : Ext w w') (hq : q = false → n = 0) (hM : Mid q Y w' w1 C B m D x y xs fs n) (hN : YN N y fs) (hNb : 2800 ≤ N) (hN2 : N < 99999000) : Ret Hvac.prog 11 #[.pointer (some ⟨D, 0, none⟩)] w1 fun u w2 => u = .bool q ∧ ((q = false ∧ Ext w' w2) ∨ (q = true ∧ ∃ O' Y' c' v' B' m' x' y' xs' fs' n', n' < n ∧ MStep w' w1 C B m B' m' ∧ KeepO Y w1 w2 ∧ (∀ b, Y' b → Y b ∨ w1.heap.size ≤ b) ∧ Two O' Y' w2 C c' v' B' m' D x' y' xs' fs' ∧ RunT w2 v' m' y' fs' n' ∧ YN (N + 8) y' fs')) := by
  rcases hM with ⟨rfl, h1⟩ | ⟨rfl, rest, g, O', c', v', B', m', rfl, hS, hH⟩
  · have h0 := hq rfl
    subst h0
    refine Ret.mono ((hT.stop hR).2 w1 (he.trans h1)) ?_
    rintro u w2 ⟨rfl, h⟩
    exact ⟨rfl, Or.inl ⟨rfl, h1.trans h⟩⟩
  · refine Ret.mono (hH.go hN hNb hN2) ?_
    rintro u w2 ⟨rfl, O2, Y2, x2, xs2, n2, hk, hl, hn, hT2, hR2, hN3⟩
    exact ⟨rfl, Or.inr ⟨rfl, O2, Y2, c', v', B', m', x2, _, xs2, _, n2, hn, hS, hk, hl, hT2, hR2, hN3⟩⟩
end

set_option maxRecDepth 10000 in
set_option maxHeartbeats 8000000 in
theorem stepSame_spec (s : SV) (l : List Ac) (e : Ev) (t : Tx) (w : World) (hin : InW w s l) (hev : EvOK w e) (htx : TxOK w t) (hcc : ∀ x ∈ l, x.code.2.1 ≤ x.code.2.2) (hdc : t.data.2.1 ≤ t.data.2.2) : Ret Hvac.prog 3 #[.slice s.1 s.2.1 s.2.2, .agg (encEv e).toArray, .agg (encTx t).toArray] w fun u w' => u = .bool true ∧ Ext w w' := by
  have hel := encEv_len hev
  have hel2 : (encEv e).toArray.size = 120 := by simpa using hel
  have hxe : Xt (encEv e).toArray 0 (0 + 120) (encEv e).toArray := Xt.whole rfl hel2
  have htl2 : (encTx t).toArray.size = 174 := by simpa using encTx_len htx
  have hxt : Xt (encTx t).toArray 0 (0 + 174) (encTx t).toArray := Xt.whole rfl htl2
  refine Ret_of_W Hvac.func3 rfl rfl ?_
  refine W_seq ?_
  refine W_region rfl ?_
  refine WO_boxG (.agg _) rfl ?_
  intro b4 v4 hg4 hE4 hH4 hl4
  try simp only [size_alloc, size_setB, size_drew] at hg4
  have hzz4 := hE4.1
  try simp only [size_alloc, size_setB, size_drew] at hzz4
  refine WO_boxG (.agg _) rfl ?_
  intro b5 v5 hg5 hE5 hH5 hl5
  try simp only [size_alloc, size_setB, size_drew] at hg5
  have hzz5 := hE5.1
  try simp only [size_alloc, size_setB, size_drew] at hzz5
  refine WO_p (PS_assign_bool rfl) ?_
  refine WO_nil ?_
  refine thn_normal ?_
  refine W_seq ?_
  refine W_region rfl ?_
  refine WO_p (PS_move_slice rfl) ?_
  refine WO_loadA _ Hvac.isAgg31 Hvac.sizeOf31 rfl (Hb.h (by repeat (first | assumption | exact Hb.newY _ _ | refine Hb.alloc ?_ | refine Hb.drew ?_ | refine Hb.ext (by assumption) ?_ | exact Hb.setSameL (by first | omega | (simp only [size_alloc, size_setB, size_drew]; omega)) | exact Hb.setSame (by assumption) | refine Hb.set (by first | omega | (simp only [size_alloc, size_setB, size_drew]; omega)) ?_ ))) (by first | omega | assumption | rfl | decide | exact Nat.le_refl _ | (simp only [size_ic, Value.cells]; omega) | (simp; omega) | simp) (Xt.h (by first | assumption | exact Xt.whole rfl rfl | exact Xt.whole rfl (by assumption) | exact Xt.whole rfl (by simp only [size_ic, Value.cells]; omega) | exact ⟨rfl⟩)) ?_
  refine WO_call Hvac.call4 (by rfl) (Ret.mono (both_ex s l e _ (hin.ext (by repeat (first | assumption | exact Ext.refl _ | refine Ext.alloc ?_ _ | refine Ext.drew ?_ | refine Ext.setB ?_ (by first | omega | (simp only [size_alloc, size_setB, size_drew]; omega)) _ | exact Ext.trans (by assumption) (by assumption) | refine Ext.trans ?_ (by assumption)))) (hev.ext (by repeat (first | assumption | exact Ext.refl _ | refine Ext.alloc ?_ _ | refine Ext.drew ?_ | refine Ext.setB ?_ (by first | omega | (simp only [size_alloc, size_setB, size_drew]; omega)) _ | exact Ext.trans (by assumption) (by assumption) | refine Ext.trans ?_ (by assumption)))) hcc) ?_)
  rintro _ w1 ⟨hE1, p1, p2, rfl, hy1⟩
  have hz1 := hE1.1
  have hb51 := Hb.ext hE1 hH5
  have hE01 : Ext w w1 := (by repeat (first | assumption | exact Ext.refl _ | refine Ext.alloc ?_ _ | refine Ext.drew ?_ | refine Ext.setB ?_ (by first | omega | (simp only [size_alloc, size_setB, size_drew]; omega)) _ | exact Ext.trans (by assumption) (by assumption) | refine Ext.trans ?_ (by assumption)))
  refine WO_p (PS_move_tuple rfl) ?_
  refine WO_p (PS_extract_ptr rfl rfl) ?_
  refine WO_p (PS_extract_ptr rfl rfl) ?_
  refine WO_p (PS_extract_bool rfl rfl) ?_
  refine WO_p (PS_assign_ptr rfl) ?_
  refine WO_p (PS_assign_ptr rfl) ?_
  refine WO_p (PS_assign_bool rfl) ?_
  refine WO_nil ?_
  refine thn_normal ?_
  refine W_seq ?_
  refine W_seq ?_
  refine W_region rfl ?_
  refine WO_p (PS_move_ptr rfl) ?_
  refine WO_p (PS_eqlnil Hvac.underlying36 rfl) ?_
  refine WO_nil ?_
  refine thn_normal ?_
  refine W_if rfl (fun hb4 => ?_) (fun hb4 => ?_)
  · have hb4p := hb4.h; try simp only [al_ete, al_dfn, Bool.not_eq_true', Bool.not_eq_false', al_ne, Bool.not_not, al_nn] at hb4p
    have hpn : p1 = none := by cases p1 with | none => rfl | some a => cases hb4p
    refine W_seq ?_
    refine W_region rfl ?_
    refine WO_p (PS_move_bool rfl) ?_
    refine WO_p (PS_assign_bool rfl) ?_
    refine WO_nil ?_
    refine thn_normal ?_
    refine W_ret ?_
    refine thn_ret ?_
    refine bodyQ_ret1 Hvac.results3 rfl (.bool _) rfl ?_
    first
    | exact ⟨rfl, hEF⟩
    | exact ⟨rfl, (by repeat (first | assumption | exact Ext.refl _ | refine Ext.alloc ?_ _ | refine Ext.drew ?_ | refine Ext.setB ?_ (by first | omega | (simp only [size_alloc, size_setB, size_drew]; omega)) _ | refine Ext.trans ?_ (by assumption)))⟩
  · have hb4p := hb4.h; try simp only [al_ete, al_dfn, Bool.not_eq_true', Bool.not_eq_false', al_ne, Bool.not_not, al_nn] at hb4p
    obtain ⟨C, c, v, B, hs, D, a, tt, sh, O, hp1, hp2, hT, hRN, hs4, hF, hSb, hwk, hlow0, hlowD0⟩ := hy1 (by intro e1; rw [e1] at hb4p; cases hb4p)
    subst hp1
    subst hp2
    obtain ⟨hYN, hst⟩ := YN.newY { e with hash := sh } (chunk e.hl e.hash.2.1) hwk
    have hPS : PSB 3000 (ypN (l.map yacP) { e with hash := sh } (chunk e.hl e.hash.2.1)) := hYN.b
    have hYB := hRN.vr.yb (@VS.ty ⟨fun b => b = D⟩ _ _ _ _ _ _ (@MS.vs ⟨fun b => b = D⟩ _ _ _ _ _ _ hT.ms))
    have hlow : ∀ b, MOwn C B (M0 e hs) b → w.heap.size ≤ b := fun b hb => by have := hlow0 b hb; omega
    have hlowD : w.heap.size ≤ D := by omega
    have hbx : ∀ b, MOwn C B (M0 e hs) b → b ≠ b5 := fun b hb => by have := hlow0 b hb; omega
    refine W_skip ?_
    refine thn_normal ?_
    refine W_seq ?_
    refine W_seq ?_
    refine W_drawK [false, false, true, false, false, false, false] (fun b => b ≠ b5) hmix (by kernel_rfl) rfl ?_
    refine WH_p (PS_move_ptr rfl) rfl ?_
    refine WH_loadAK _ Hvac.isAgg35 Hvac.sizeOf35 rfl (Hb.h (by repeat (first | assumption | exact Hb.newY _ _ | refine Hb.alloc ?_ | refine Hb.drew ?_ | refine Hb.ext (by assumption) ?_ | exact Hb.setSameL (by first | omega | (simp only [size_alloc, size_setB, size_drew]; omega)) | exact Hb.setSame (by assumption) | refine Hb.set (by first | omega | (simp only [size_alloc, size_setB, size_drew]; omega)) ?_ ))) (by intro h; first | omega | (simp only [size_alloc, size_setB, size_drew] at h; omega)) (by first | omega | assumption | rfl | decide | exact Nat.le_refl _ | (simp only [size_ic, Value.cells]; omega) | (simp; omega) | simp) (Xt.h (by first | assumption | exact Xt.whole rfl rfl | exact Xt.whole rfl (by assumption) | exact Xt.whole rfl (by simp only [size_ic, Value.cells]; omega) | exact ⟨rfl⟩)) ?_
    refine WH_call Hvac.call5 (by rfl) (Ret.mono ((hT.ext (by repeat (first | assumption | exact Ext.refl _ | refine Ext.alloc ?_ _ | refine Ext.drew ?_ | refine Ext.setB ?_ (by first | omega | (simp only [size_alloc, size_setB, size_drew]; omega)) _ | exact Ext.trans (by assumption) (by assumption) | refine Ext.trans ?_ (by assumption)))).begE (w0 := w) (by repeat (first | assumption | exact Ext.refl _ | refine Ext.alloc ?_ _ | refine Ext.drew ?_ | refine Ext.setB ?_ (by first | omega | (simp only [size_alloc, size_setB, size_drew]; omega)) _ | exact Ext.trans (by assumption) (by assumption) | refine Ext.trans ?_ (by assumption))) (idM0 e hs hs4) hF hSb htx hlow (hT.relNE hRN (by repeat (first | assumption | exact Ext.refl _ | refine Ext.alloc ?_ _ | refine Ext.drew ?_ | refine Ext.setB ?_ (by first | omega | (simp only [size_alloc, size_setB, size_drew]; omega)) _ | exact Ext.trans (by assumption) (by assumption) | refine Ext.trans ?_ (by assumption)))) b5 hbx) ?_)
    rintro _ w26 ⟨rfl, O26, c26, v26, B26, m26, hS26, hK26, hT26, hEB26⟩
    refine ⟨fun _ => (by repeat (first | assumption | exact Ext.refl _ | refine Ext.alloc ?_ _ | refine Ext.drew ?_ | refine Ext.setB ?_ (by first | omega | (simp only [size_alloc, size_setB, size_drew]; omega)) _ | exact Ext.trans (by assumption) (by assumption) | refine Ext.trans ?_ (by assumption))), ?_⟩
    have hE26 : Ext w w26 := Ext.keepC (by repeat (first | assumption | exact Ext.refl _ | refine Ext.alloc ?_ _ | refine Ext.drew ?_ | refine Ext.setB ?_ (by first | omega | (simp only [size_alloc, size_setB, size_drew]; omega)) _ | exact Ext.trans (by assumption) (by assumption) | refine Ext.trans ?_ (by assumption))) hS26.keep hlow
    have hlow26 : ∀ b, MOwn C B26 m26 b → w.heap.size ≤ b := fun b hb => by
      rcases hS26.own b hb with h | h
      · exact hlow b h
      · exact Nat.le_trans (Ext.trans hE01 (by repeat (first | assumption | exact Ext.refl _ | refine Ext.alloc ?_ _ | refine Ext.drew ?_ | refine Ext.setB ?_ (by first | omega | (simp only [size_alloc, size_setB, size_drew]; omega)) _ | exact Ext.trans (by assumption) (by assumption) | refine Ext.trans ?_ (by assumption)))).1 h
    refine WH_p (PS_move_ptr rfl) rfl ?_
    refine WH_loadAK _ Hvac.isAgg35 Hvac.sizeOf35 rfl (Hb.h (by repeat (first | assumption | exact Hb.newY _ _ | refine Hb.alloc ?_ | refine Hb.drew ?_ | refine Hb.ext (by assumption) ?_ | exact Hb.setSameL (by first | omega | (simp only [size_alloc, size_setB, size_drew]; omega)) | exact Hb.setSame (by assumption) | refine Hb.set (by first | omega | (simp only [size_alloc, size_setB, size_drew]; omega)) ?_ ))) (by intro h; first | omega | (simp only [size_alloc, size_setB, size_drew] at h; omega)) (by first | omega | assumption | rfl | decide | exact Nat.le_refl _ | (simp only [size_ic, Value.cells]; omega) | (simp; omega) | simp) (Xt.h (by first | assumption | exact Xt.whole rfl rfl | exact Xt.whole rfl (by assumption) | exact Xt.whole rfl (by simp only [size_ic, Value.cells]; omega) | exact ⟨rfl⟩)) ?_
    refine WH_call Hvac.call6 (by rfl) (Ret.mono (hT26.begY (w0 := w) hE26 htx hlowD hdc hPS hYN hYB (Nat.zero_le 4) hst hEB26) ?_)
    rintro _ w27 ⟨rfl, O27, Y27, x27, y27, xs27, fs27, n27, hk27, hl27, hT27, hR27, hN27, hb27⟩
    refine ⟨(fun h => by cases h), ?_⟩
    have hE27 : Ext w w27 := Ext.keepC hE26 hk27 (fun b hb => by rw [show b = D from hb]; exact hlowD)
    have hlowY27 : ∀ b, Y27 b → w.heap.size ≤ b := fun b hb => by
      rcases hl27 b hb with h | h
      · rw [show b = D from h]; exact hlowD
      · exact Nat.le_trans hE26.1 h
    refine WH_p (PS_neq rfl rfl) rfl ?_
    refine WH_nil ?_
    refine thn_normal ?_
    refine W_if rfl (fun hb8 => ?_) (fun hb8 => ?_)
    · have hb8p := hb8.h; try simp only [al_ete, al_dfn, Bool.not_eq_true', Bool.not_eq_false', al_ne, Bool.not_not, al_nn] at hb8p
      (exfalso; first | omega | (simp at hb8p; done) | cases hb8p) --END
    · have hb8p := hb8.h; try simp only [al_ete, al_dfn, Bool.not_eq_true', Bool.not_eq_false', al_ne, Bool.not_not, al_nn] at hb8p
      refine W_skip ?_
      refine thn_normal ?_
      refine W_block ?_
      refine W_loopN (fun k ρ w' => ∃ (OL : Om) (YL : Nat → Prop) (cL : Array Value) (vL : V) (BL : VB) (mL : Mc) (xL : YSt) (yL : PSt) (xsL : List YFr) (fsL : List PF) (NL : Nat), Two OL YL w' C cL vL BL mL D xL yL xsL fsL ∧ RunT w' vL mL yL fsL k ∧ YN NL yL fsL ∧ 2800 ≤ NL ∧ NL + 8 * k ≤ 99000000 ∧ Ext w w' ∧ (∀ b, MOwn C BL mL b → w.heap.size ≤ b) ∧ (∀ b, YL b → w.heap.size ≤ b) ∧ Fr [(7, .pointer (some ⟨C, 0, none⟩)), (8, .pointer (some ⟨D, 0, none⟩))] ρ) n27 ?_ ?_
      · exact ⟨O27, Y27, c26, v26, B26, m26, x27, y27, xs27, fs27, 4100, hT27, hR27, hN27, by omega, hb27, hE27, hlow26, hlowY27, ⟨rfl, rfl, trivial⟩⟩
      intro k ρ wL hIL
      obtain ⟨OL, YL, cL, vL, BL, mL, xL, yL, xsL, fsL, NL, hTL, hRL, hNL, hNLb, hNLc, hEL, hlowL, hlowYL, hFrL⟩ := hIL
      refine W_env _ hFrL ?_
      obtain ⟨P, hPB, hV8, hV9⟩ := hTL.views hRL hNL hNLb (by omega)
      refine W_block ?_
      refine W_seq ?_
      refine W_seq ?_
      refine W_region rfl ?_
      refine WO_p (PS_move_ptr rfl) ?_
      refine WO_call Hvac.call8 (by rfl) (Ret.mono (hV8 _ (Ext.refl _)) ?_)
      rintro _ w29 ⟨hE29, V8, rfl, hVa8, hVb8, hVE8⟩
      have hz29 := hE29.1
      refine WO_p (PS_move_ptr rfl) ?_
      refine WO_call Hvac.call9 (by rfl) (Ret.mono (hV9 _ hE29) ?_)
      rintro _ w31 ⟨hE31, V9, rfl, hVa9, hVb9, hVE9⟩
      have hz31 := hE31.1
      refine WO_call Hvac.call7 (by rfl) (Ret.mono (meet (VE.ext hVE8 hE31) hVE9 hPB) ?_)
      rintro _ w32 ⟨rfl, hE32⟩
      have hz32 := hE32.1
      have hEL32 : Ext wL w32 := (hE29.trans hE31).trans hE32
      refine WO_p (PS_not rfl) ?_
      refine WO_nil ?_
      refine thn_normal ?_
      refine W_if rfl (fun hb14 => ?_) (fun hb14 => ?_)
      · have hb14p := hb14.h; try simp only [al_ete, al_dfn, Bool.not_eq_true', Bool.not_eq_false', al_ne, Bool.not_not, al_nn] at hb14p
        (exfalso; first | omega | (simp at hb14p; done) | cases hb14p) --END
      · have hb14p := hb14.h; try simp only [al_ete, al_dfn, Bool.not_eq_true', Bool.not_eq_false', al_ne, Bool.not_not, al_nn] at hb14p
        refine W_skip ?_
        refine thn_normal ?_
        refine W_seq ?_
        refine W_region rfl ?_
        refine WO_p (PS_move_ptr rfl) ?_
        refine WO_call Hvac.call10 (by rfl) (Ret.mono (hTL.stepE hRL hEL32) ?_)
        rintro _ w35 ⟨q35, rfl, hq35, hM35⟩
        refine WO_p (PS_assign_bool rfl) ?_
        refine WO_nil ?_
        refine thn_normal ?_
        refine W_seq ?_
        refine W_seq ?_
        refine W_region rfl ?_
        refine WO_p (PS_move_bool rfl) ?_
        refine WO_p (PS_move_ptr rfl) ?_
        refine WO_call Hvac.call11 (by rfl) (Ret.mono (hTL.stepY hRL hEL32 hq35 hM35 hNL (by omega) (by omega)) ?_)
        rintro _ w38 ⟨rfl, hC38⟩
        refine WO_p (PS_neqbool Hvac.underlying4 rfl rfl) ?_
        refine WO_nil ?_
        refine thn_normal ?_
        refine W_if rfl (fun hb19 => ?_) (fun hb19 => ?_)
        · have hb19p := hb19.h; try simp only [al_ete, al_dfn, Bool.not_eq_true', Bool.not_eq_false', al_ne, Bool.not_not, al_nn] at hb19p
          exfalso; simp at hb19p --END
        · have hb19p := hb19.h; try simp only [al_ete, al_dfn, Bool.not_eq_true', Bool.not_eq_false', al_ne, Bool.not_not, al_nn] at hb19p
          refine W_skip ?_
          refine thn_normal ?_
          refine W_seq ?_
          refine W_region rfl ?_
          refine WO_p (PS_move_bool rfl) ?_
          refine WO_p (PS_not rfl) ?_
          refine WO_nil ?_
          refine thn_normal ?_
          refine W_if rfl (fun hb21 => ?_) (fun hb21 => ?_)
          · have hb21p := hb21.h; try simp only [al_ete, al_dfn, Bool.not_eq_true', Bool.not_eq_false', al_ne, Bool.not_not, al_nn] at hb21p
            have hq0 : q35 = false := by simpa using hb21p
            have hE38 : Ext wL w38 := by
              rcases hC38 with ⟨_, h⟩ | ⟨h, _⟩
              · exact hEL32.trans h
              · rw [hq0] at h; cases h
            refine W_seq ?_
            refine W_region rfl ?_
            refine WO_p (PS_move_ptr rfl) ?_
            refine WO_call Hvac.call8 (by rfl) (Ret.mono (hV8 _ hE38) ?_)
            rintro _ w43 ⟨hE43, V8b, rfl, hVa8b, hVb8b, hVE8b⟩
            have hz43 := hE43.1
            refine WO_p (PS_move_ptr rfl) ?_
            refine WO_call Hvac.call9 (by rfl) (Ret.mono (hV9 _ (hE38.trans hE43)) ?_)
            rintro _ w45 ⟨hE45, V9b, rfl, hVa9b, hVb9b, hVE9b⟩
            have hz45 := hE45.1
            refine WO_call Hvac.call7 (by rfl) (Ret.mono (meet (VE.ext hVE8b hE45) hVE9b hPB) ?_)
            rintro _ w46 ⟨rfl, hE46⟩
            have hEF : Ext w w46 := hEL.trans (((hE38.trans hE43).trans hE45).trans hE46)
            refine WO_p (PS_assign_bool rfl) ?_
            refine WO_nil ?_
            refine thn_normal ?_
            refine W_ret ?_
            refine inBlk_ret ?_
            refine thn_ret ?_
            refine inBlk_ret ?_
            refine bodyQ_ret1 Hvac.results3 rfl (.bool _) rfl ?_
            first
            | exact ⟨rfl, hEF⟩
            | exact ⟨rfl, (by repeat (first | assumption | exact Ext.refl _ | refine Ext.alloc ?_ _ | refine Ext.drew ?_ | refine Ext.setB ?_ (by first | omega | (simp only [size_alloc, size_setB, size_drew]; omega)) _ | refine Ext.trans ?_ (by assumption)))⟩
          · have hb21p := hb21.h; try simp only [al_ete, al_dfn, Bool.not_eq_true', Bool.not_eq_false', al_ne, Bool.not_not, al_nn] at hb21p
            have hq1 : q35 = true := by simpa using hb21p
            obtain ⟨O9, Y9, c9, v9, B9, m9, x9, y9, xs9, fs9, n9, hn9, hS9, hk9, hl9, hT9, hR9, hN9⟩ := (hC38.resolve_left (fun h => by have := h.1; rw [hq1] at this; cases this)).2
            have hE35 : Ext w w35 := Ext.keepC (hEL.trans hEL32) hS9.keep hlowL
            have hE38w : Ext w w38 := Ext.keepC hE35 hk9 hlowYL
            have hlow9 : ∀ b, MOwn C B9 m9 b → w.heap.size ≤ b := fun b hb => by
              rcases hS9.own b hb with h | h
              · exact hlowL b h
              · exact Nat.le_trans (hEL.trans hEL32).1 h
            have hlowY9 : ∀ b, Y9 b → w.heap.size ≤ b := fun b hb => by
              rcases hl9 b hb with h | h
              · exact hlowYL b h
              · exact Nat.le_trans hE35.1 h
            refine W_skip ?_
            refine inBlk_normal ?_
            refine thn_normal ?_
            exact ⟨n9, hn9, O9, Y9, c9, v9, B9, m9, x9, y9, xs9, fs9, NL + 8, hT9, hR9, hN9, by omega, by omega, hE38w, hlow9, hlowY9, ⟨rfl, rfl, trivial⟩⟩

end Go.Proofs.YgvacwGreat
