import Derived.Test.YgvadwGreatZf
namespace Go.Proofs.YgvadwGreat
set_option linter.unusedSimpArgs false
set_option linter.unusedVariables false
theorem opP_run {v' : V} {m m' : Mc} {t : Nat} {S : Int} (hI : m.phase = 1) (hty : MTy m') (h : OpP scanW m t 0 S v' m') : ∃ n', RunS v' m' n' S ∧ (gOf m' n' < gOf m (t + 1) ∨ (gOf m' n' = gOf m (t + 1) ∧ n' < t + 1)) := by
  have hg : gOf m (t + 1) = gasTo m.frames (t + 1) := by unfold gOf; rw [if_pos hI]
  rcases h with ⟨t', h1, h2⟩ | ⟨h1, h2⟩
  · have hg' : gOf m' (t' + 1) = gasTo m'.frames (t' + 1) := by unfold gOf; rw [if_pos h1.ph]
    exact ⟨t' + 1, Or.inl ⟨t', rfl, h1⟩, by rw [hg, hg']; omega⟩
  · have hg' : gOf m' 0 = gasOf m'.frames 0 := by unfold gOf; rw [if_neg (by rw [h1.ph]; decide), if_pos h1.ph]
    exact ⟨0, Or.inr ⟨rfl, by rw [h1.ph]; decide, h1.ck hty⟩, by rw [hg, hg']; omega⟩
theorem newE2_spec (s : SV) (l : List Ac) (e : Ev) (w : World) (hin : InW w s l) (hev : EvOK w e) : Ret Hvad.prog 10 #[.slice s.1 s.2.1 s.2.2, .agg (encEv e).toArray] w fun u w' => Ext w w' ∧ ∃ p q, u = .tuple #[.pointer p, .bool q] ∧ q = (wok l && decide (e.hash.2.1 ≤ 4)) ∧ (q = false → p = none) ∧ (q = true → ∃ C c v B hs, p = some ⟨C, 0, none⟩ ∧ MS w' C c v B (M0 e hs) ∧ hs.2.1 ≤ 4 ∧ FilV v 8 128 (bsum l l.length) ∧ ∀ b, MOwn C B (M0 e hs) b → w.heap.size ≤ b) := by
  refine Ret.mono (newE_spec s l e w hin hev) ?_
  rintro u w' ⟨hE, h⟩
  refine ⟨hE, ?_⟩
  rcases h with ⟨rfl, hn⟩ | ⟨h1, h2, C, c, v, B, hs, rfl, h3⟩
  · refine ⟨none, false, rfl, ?_, fun _ => rfl, fun h => by cases h⟩
    cases hw : wok l with
    | false => rfl
    | true => rw [al_bta]; exact (al_ef fun h => hn ⟨hw, h⟩).symm
  · exact ⟨some ⟨C, 0, none⟩, true, rfl, by rw [h1, al_et h2]; rfl, fun h => (by cases h), fun _ => ⟨C, c, v, B, hs, rfl, h3⟩⟩
theorem bsum_lt {w : World} {s : SV} {l : List Ac} (h : wok l = true) (hin : InW w s l) : bsum l l.length < 115792089237316195423570985008687907853269984665640564039457584007913129639936 := by
  obtain ⟨h1, h2⟩ := wok_sum h (fun x hx => (hin.ok x hx).ba) l.length (Nat.le_refl _)
  have := (tv_nonneg h1.2 32).2
  rw [← h2]
  exact this

set_option maxRecDepth 10000 in
set_option maxHeartbeats 8000000 in
theorem both_spec (s : SV) (l : List Ac) (e : Ev) (w : World) (hin : InW w s l) (hev : EvOK w e) : Ret Hvad.prog 4 #[.slice s.1 s.2.1 s.2.2, .agg (encEv e).toArray] w fun u w' => Ext w w' ∧ ∃ p1 p2 : Option Addr, u = .tuple #[.pointer p1, .pointer p2, .bool true] ∧ (p1 ≠ none → ∃ C c v B hs, p1 = some ⟨C, 0, none⟩ ∧ MS w' C c v B (M0 e hs) ∧ hs.2.1 ≤ 4 ∧ FilV v 8 128 (bsum l l.length) ∧ bsum l l.length < 115792089237316195423570985008687907853269984665640564039457584007913129639936 ∧ ∀ b, MOwn C B (M0 e hs) b → w.heap.size ≤ b) := by
  have hel := encEv_len hev
  have hel2 : (encEv e).toArray.size = 120 := by simpa using hel
  have hxe : Xt (encEv e).toArray 0 (0 + 120) (encEv e).toArray := Xt.whole rfl hel2
  refine Ret_of_W Hvad.func4 rfl rfl ?_
  refine W_seq ?_
  refine W_region rfl ?_
  refine WO_boxG (.agg _) rfl ?_
  intro b3 v3 hg3 hE3 hH3 hl3
  try simp only [size_alloc, size_setB, size_drew] at hg3
  have hzz3 := hE3.1
  try simp only [size_alloc, size_setB, size_drew] at hzz3
  refine WO_p (PS_assign_ptr rfl) ?_
  refine WO_p (PS_assign_ptr rfl) ?_
  refine WO_p (PS_assign_bool rfl) ?_
  refine WO_nil ?_
  refine thn_normal ?_
  refine W_seq ?_
  refine W_region rfl ?_
  refine WO_p (PS_move_slice rfl) ?_
  refine WO_loadA _ Hvad.isAgg31 Hvad.sizeOf31 rfl (Hb.h (by repeat (first | assumption | exact Hb.newY _ _ | refine Hb.alloc ?_ | refine Hb.drew ?_ | refine Hb.ext (by assumption) ?_ | exact Hb.setSameL (by first | omega | (simp only [size_alloc, size_setB, size_drew]; omega)) | exact Hb.setSame (by assumption) | refine Hb.set (by first | omega | (simp only [size_alloc, size_setB, size_drew]; omega)) ?_ ))) (by first | omega | assumption | rfl | decide | exact Nat.le_refl _ | (simp only [size_ic, Value.cells]; omega) | simp) (Xt.h (by first | assumption | exact Xt.whole rfl rfl | exact Xt.whole rfl (by simp only [size_ic, Value.cells]; omega) | exact ⟨rfl⟩)) ?_
  refine WO_call Hvad.call10 (by rfl) (Ret.mono (newE2_spec s l e _ (hin.ext (by repeat (first | assumption | exact Ext.refl _ | refine Ext.alloc ?_ _ | refine Ext.drew ?_ | refine Ext.setB ?_ (by first | omega | (simp only [size_alloc, size_setB, size_drew]; omega)) _ | exact Ext.trans (by assumption) (by assumption) | refine Ext.trans ?_ (by assumption)))) (hev.ext (by repeat (first | assumption | exact Ext.refl _ | refine Ext.alloc ?_ _ | refine Ext.drew ?_ | refine Ext.setB ?_ (by first | omega | (simp only [size_alloc, size_setB, size_drew]; omega)) _ | exact Ext.trans (by assumption) (by assumption) | refine Ext.trans ?_ (by assumption))))) ?_)
  rintro _ w1 ⟨hE1, p1, q1, rfl, hq1, hn1, hy1⟩
  have hz1 := hE1.1
  have hb31 := Hb.ext hE1 hH3
  refine WO_p (PS_move_tuple rfl) ?_
  refine WO_p (PS_extract_ptr rfl rfl) ?_
  refine WO_p (PS_extract_bool rfl rfl) ?_
  refine WO_p (PS_assign_ptr rfl) ?_
  refine WO_p (PS_assign_bool rfl) ?_
  refine WO_nil ?_
  refine thn_normal ?_
  refine W_seq ?_
  refine W_region rfl ?_
  refine WO_p (PS_move_slice rfl) ?_
  refine WO_loadA _ Hvad.isAgg31 Hvad.sizeOf31 rfl (Hb.h (by repeat (first | assumption | exact Hb.newY _ _ | refine Hb.alloc ?_ | refine Hb.drew ?_ | refine Hb.ext (by assumption) ?_ | exact Hb.setSameL (by first | omega | (simp only [size_alloc, size_setB, size_drew]; omega)) | exact Hb.setSame (by assumption) | refine Hb.set (by first | omega | (simp only [size_alloc, size_setB, size_drew]; omega)) ?_ ))) (by first | omega | assumption | rfl | decide | exact Nat.le_refl _ | (simp only [size_ic, Value.cells]; omega) | simp) (Xt.h (by first | assumption | exact Xt.whole rfl rfl | exact Xt.whole rfl (by simp only [size_ic, Value.cells]; omega) | exact ⟨rfl⟩)) ?_
  refine WO_call Hvad.call11 (by rfl) (Ret.mono (newY_spec s l e _ (hin.ext (by repeat (first | assumption | exact Ext.refl _ | refine Ext.alloc ?_ _ | refine Ext.drew ?_ | refine Ext.setB ?_ (by first | omega | (simp only [size_alloc, size_setB, size_drew]; omega)) _ | exact Ext.trans (by assumption) (by assumption) | refine Ext.trans ?_ (by assumption)))) (hev.ext (by repeat (first | assumption | exact Ext.refl _ | refine Ext.alloc ?_ _ | refine Ext.drew ?_ | refine Ext.setB ?_ (by first | omega | (simp only [size_alloc, size_setB, size_drew]; omega)) _ | exact Ext.trans (by assumption) (by assumption) | refine Ext.trans ?_ (by assumption))))) ?_)
  rintro _ w2 ⟨hE2, p2, rfl⟩
  rw [← hq1]
  refine WO_p (PS_move_tuple rfl) ?_
  refine WO_p (PS_extract_ptr rfl rfl) ?_
  refine WO_p (PS_extract_bool rfl rfl) ?_
  refine WO_p (PS_assign_ptr rfl) ?_
  refine WO_p (PS_assign_bool rfl) ?_
  refine WO_nil ?_
  refine thn_normal ?_
  refine W_seq ?_
  refine W_seq ?_
  refine W_region rfl ?_
  refine WO_p (PS_move_slice rfl) ?_
  refine WO_loadA _ Hvad.isAgg31 Hvad.sizeOf31 rfl (Hb.h (by repeat (first | assumption | exact Hb.newY _ _ | refine Hb.alloc ?_ | refine Hb.drew ?_ | refine Hb.ext (by assumption) ?_ | exact Hb.setSameL (by first | omega | (simp only [size_alloc, size_setB, size_drew]; omega)) | exact Hb.setSame (by assumption) | refine Hb.set (by first | omega | (simp only [size_alloc, size_setB, size_drew]; omega)) ?_ ))) (by first | omega | assumption | rfl | decide | exact Nat.le_refl _ | (simp only [size_ic, Value.cells]; omega) | simp) (Xt.h (by first | assumption | exact Xt.whole rfl rfl | exact Xt.whole rfl (by simp only [size_ic, Value.cells]; omega) | exact ⟨rfl⟩)) ?_
  refine WO_p (PS_move_bool rfl) ?_
  refine WO_p (PS_move_bool rfl) ?_
  refine WO_call Hvad.call12 (by rfl) (Ret.mono (newsHold_spec s l e q1 _ (hin.ext (by repeat (first | assumption | exact Ext.refl _ | refine Ext.alloc ?_ _ | refine Ext.drew ?_ | refine Ext.setB ?_ (by first | omega | (simp only [size_alloc, size_setB, size_drew]; omega)) _ | exact Ext.trans (by assumption) (by assumption) | refine Ext.trans ?_ (by assumption)))) (hev.ext (by repeat (first | assumption | exact Ext.refl _ | refine Ext.alloc ?_ _ | refine Ext.drew ?_ | refine Ext.setB ?_ (by first | omega | (simp only [size_alloc, size_setB, size_drew]; omega)) _ | exact Ext.trans (by assumption) (by assumption) | refine Ext.trans ?_ (by assumption)))) hq1) ?_)
  rintro _ w3 ⟨rfl, hE3⟩
  refine WO_p (PS_not rfl) ?_
  refine WO_nil ?_
  refine thn_normal ?_
  refine W_if rfl (fun hb8 => ?_) (fun hb8 => ?_)
  · have hb8p := hb8.h; try simp only [al_ete, al_dfn, Bool.not_eq_true', Bool.not_eq_false', al_ne, Bool.not_not, al_nn] at hb8p
    (exfalso; first | omega | (simp at hb8p; done) | cases hb8p) --END
  · have hb8p := hb8.h; try simp only [al_ete, al_dfn, Bool.not_eq_true', Bool.not_eq_false', al_ne, Bool.not_not, al_nn] at hb8p
    refine W_skip ?_
    refine thn_normal ?_
    refine W_seq ?_
    refine W_seq ?_
    refine W_region rfl ?_
    refine WO_p (PS_move_bool rfl) ?_
    refine WO_p (PS_not rfl) ?_
    refine WO_nil ?_
    refine thn_normal ?_
    refine W_if rfl (fun hb10 => ?_) (fun hb10 => ?_)
    · have hb10p := hb10.h; try simp only [al_ete, al_dfn, Bool.not_eq_true', Bool.not_eq_false', al_ne, Bool.not_not, al_nn] at hb10p
      have hq0 : q1 = false := by simpa using hb10p
      refine W_seq ?_
      refine W_region rfl ?_
      refine WO_p (PS_assign_ptr rfl) ?_
      refine WO_p (PS_assign_ptr rfl) ?_
      refine WO_p (PS_assign_bool rfl) ?_
      refine WO_nil ?_
      refine thn_normal ?_
      refine W_ret ?_
      refine thn_ret ?_
      refine bodyQ_ret3 Hvad.results4 rfl rfl rfl (.pointer _) (.pointer _) (.bool _) rfl rfl rfl ?_
      first
      | (refine ⟨(by repeat (first | assumption | exact Ext.refl _ | refine Ext.alloc ?_ _ | refine Ext.drew ?_ | refine Ext.setB ?_ (by first | omega | (simp only [size_alloc, size_setB, size_drew]; omega)) _ | refine Ext.trans ?_ (by assumption))), none, none, rfl, fun h => absurd rfl h⟩; done)
      | (refine ⟨(by repeat (first | assumption | exact Ext.refl _ | refine Ext.alloc ?_ _ | refine Ext.drew ?_ | refine Ext.setB ?_ (by first | omega | (simp only [size_alloc, size_setB, size_drew]; omega)) _ | refine Ext.trans ?_ (by assumption))), p1, p2, rfl, fun _ => ?_⟩
         obtain ⟨C, c, v, B, hs, h1, h2, h3, h4, h5⟩ := hy1 hq0
         have hwk : wok l = true := by rw [hq0] at hq1; cases hw : wok l with | true => rfl | false => rw [hw] at hq1; cases hq1
         exact ⟨C, c, v, B, hs, h1, h2.ext (by repeat (first | assumption | exact Ext.refl _ | refine Ext.alloc ?_ _ | refine Ext.drew ?_ | refine Ext.setB ?_ (by first | omega | (simp only [size_alloc, size_setB, size_drew]; omega)) _ | refine Ext.trans ?_ (by assumption))), h3, h4, bsum_lt hwk hin, fun b hb => by have := h5 b hb; omega⟩)
    · have hb10p := hb10.h; try simp only [al_ete, al_dfn, Bool.not_eq_true', Bool.not_eq_false', al_ne, Bool.not_not, al_nn] at hb10p
      have hq0 : q1 = true := by simpa using hb10p
      refine W_skip ?_
      refine thn_normal ?_
      refine W_seq ?_
      refine W_region rfl ?_
      refine WO_p (PS_move_ptr rfl) ?_
      refine WO_p (PS_move_ptr rfl) ?_
      refine WO_p (PS_assign_ptr rfl) ?_
      refine WO_p (PS_assign_ptr rfl) ?_
      refine WO_p (PS_assign_bool rfl) ?_
      refine WO_nil ?_
      refine thn_normal ?_
      refine W_ret ?_
      refine bodyQ_ret3 Hvad.results4 rfl rfl rfl (.pointer _) (.pointer _) (.bool _) rfl rfl rfl ?_
      first
      | (refine ⟨(by repeat (first | assumption | exact Ext.refl _ | refine Ext.alloc ?_ _ | refine Ext.drew ?_ | refine Ext.setB ?_ (by first | omega | (simp only [size_alloc, size_setB, size_drew]; omega)) _ | refine Ext.trans ?_ (by assumption))), none, none, rfl, fun h => absurd rfl h⟩; done)
      | (refine ⟨(by repeat (first | assumption | exact Ext.refl _ | refine Ext.alloc ?_ _ | refine Ext.drew ?_ | refine Ext.setB ?_ (by first | omega | (simp only [size_alloc, size_setB, size_drew]; omega)) _ | refine Ext.trans ?_ (by assumption))), p1, p2, rfl, fun _ => ?_⟩
         obtain ⟨C, c, v, B, hs, h1, h2, h3, h4, h5⟩ := hy1 hq0
         have hwk : wok l = true := by rw [hq0] at hq1; cases hw : wok l with | true => rfl | false => rw [hw] at hq1; cases hq1
         exact ⟨C, c, v, B, hs, h1, h2.ext (by repeat (first | assumption | exact Ext.refl _ | refine Ext.alloc ?_ _ | refine Ext.drew ?_ | refine Ext.setB ?_ (by first | omega | (simp only [size_alloc, size_setB, size_drew]; omega)) _ | refine Ext.trans ?_ (by assumption))), h3, h4, bsum_lt hwk hin, fun b hb => by have := h5 b hb; omega⟩)

theorem estep_run {C : Nat} : True := trivial
set_option maxRecDepth 10000 in
set_option maxHeartbeats 8000000 in
theorem eStepR_spec (C : Nat) (c : Array Value) (v : V) (B : VB) (m : Mc) (t : Nat) (f : Fm) (S : Int) (w : World) (hM : MS w C c v B m) (hf : m.frames[t]? = some f) (hI : RI scanW v m t 0 S) : Ret Hvad.prog 8 #[.pointer (some ⟨C, 0, none⟩)] w fun u w' => u = .bool true ∧ ∃ v' m', MRet w C B m w' v' m' ∧ OpP scanW m t 0 S v' m' := by
  refine Ret_of_W Hvad.func8 rfl rfl ?_
  refine W_seq ?_
  refine W_region rfl ?_
  refine WO_p (PS_assign_bool rfl) ?_
  refine WO_nil ?_
  refine thn_normal ?_
  refine W_seq ?_
  refine W_region rfl ?_
  refine WO_p (PS_move_ptr rfl) ?_
  refine WO_p (PS_nilCheck rfl) ?_
  refine WO_p (PS_fieldAddr 0 Hvad.runUnderlying86 rfl Hvad.sizeOf69 rfl rfl) ?_
  refine WO_call Hvad.call17 (by rfl) (Ret.mono (step_spec C c v B m t f S _ (MS.ext hM (by repeat (first | assumption | exact Ext.refl _ | refine Ext.alloc ?_ _ | refine Ext.drew ?_ | refine Ext.setB ?_ (by first | omega | (simp only [size_alloc, size_setB, size_drew]; omega)) _ | exact Ext.trans (by assumption) (by assumption) | refine Ext.trans ?_ (by assumption)))) hf hI) ?_)
  rintro _ w9 ⟨rfl, v9, m9, hR9, hO9⟩
  refine WO_p (PS_assign_bool rfl) ?_
  refine WO_nil ?_
  refine thn_normal ?_
  refine W_ret ?_
  refine bodyQ_ret1 Hvad.results8 rfl (.bool _) rfl ?_
  exact ⟨rfl, v9, m9, MRet.pre (by repeat (first | assumption | exact Ext.refl _ | refine Ext.alloc ?_ _ | refine Ext.drew ?_ | refine Ext.setB ?_ (by first | omega | (simp only [size_alloc, size_setB, size_drew]; omega)) _ | refine Ext.trans ?_ (by assumption))) hR9, hO9⟩

set_option maxRecDepth 10000 in
set_option maxHeartbeats 8000000 in
theorem eStepN_spec (C : Nat) (c : Array Value) (v : V) (B : VB) (m : Mc) (w : World) (hM : MS w C c v B m) (hp : m.phase ≠ 1) : Ret Hvad.prog 8 #[.pointer (some ⟨C, 0, none⟩)] w fun u w' => u = .bool false ∧ Ext w w' := by
  refine Ret_of_W Hvad.func8 rfl rfl ?_
  refine W_seq ?_
  refine W_region rfl ?_
  refine WO_p (PS_assign_bool rfl) ?_
  refine WO_nil ?_
  refine thn_normal ?_
  refine W_seq ?_
  refine W_region rfl ?_
  refine WO_p (PS_move_ptr rfl) ?_
  refine WO_p (PS_nilCheck rfl) ?_
  refine WO_p (PS_fieldAddr 0 Hvad.runUnderlying86 rfl Hvad.sizeOf69 rfl rfl) ?_
  refine WO_call Hvad.call17 (by rfl) (Ret.mono (stepNo_spec C c v B m _ (MS.ext hM (by repeat (first | assumption | exact Ext.refl _ | refine Ext.alloc ?_ _ | refine Ext.drew ?_ | refine Ext.setB ?_ (by first | omega | (simp only [size_alloc, size_setB, size_drew]; omega)) _ | exact Ext.trans (by assumption) (by assumption) | refine Ext.trans ?_ (by assumption)))) hp) ?_)
  rintro _ w9 ⟨rfl, hE9⟩
  refine WO_p (PS_assign_bool rfl) ?_
  refine WO_nil ?_
  refine thn_normal ?_
  refine W_ret ?_
  refine bodyQ_ret1 Hvad.results8 rfl (.bool _) rfl ?_
  exact ⟨rfl, (by repeat (first | assumption | exact Ext.refl _ | refine Ext.alloc ?_ _ | refine Ext.drew ?_ | refine Ext.setB ?_ (by first | omega | (simp only [size_alloc, size_setB, size_drew]; omega)) _ | refine Ext.trans ?_ (by assumption)))⟩

theorem eStep_spec (C : Nat) (c : Array Value) (v : V) (B : VB) (m : Mc) (n : Nat) (S : Int) (w : World) (hM : MS w C c v B m) (hr : RunS v m n S) : Ret Hvad.prog 8 #[.pointer (some ⟨C, 0, none⟩)] w fun u w' => ∃ q : Bool, u = .bool q ∧ (q = false → Ext w w') ∧ (q = true → ∃ c' v' B' m' n', MS w' C c' v' B' m' ∧ MStep w w' C B m B' m' ∧ RunS v' m' n' S ∧ (gOf m' n' < gOf m n ∨ (gOf m' n' = gOf m n ∧ n' < n))) := by
  rcases hr with ⟨t, rfl, hI⟩ | ⟨rfl, hp, hk⟩
  · obtain ⟨f, hf⟩ := frames_lt hM.ty (i := t) (by have := hI.t6; omega)
    refine Ret.mono (eStepR_spec C c v B m t f S w hM hf hI) ?_
    rintro u w' ⟨rfl, v', m', ⟨c', B', hM', hS'⟩, hO⟩
    obtain ⟨n', h1, h2⟩ := opP_run hI.ph hM'.ty hO
    exact ⟨true, rfl, fun h => (by cases h), fun _ => ⟨c', v', B', m', n', hM', hS', h1, h2⟩⟩
  · refine Ret.mono (eStepN_spec C c v B m w hM hp) ?_
    rintro u w' ⟨rfl, hE⟩
    exact ⟨false, rfl, fun _ => hE, fun h => (by cases h)⟩
set_option maxRecDepth 10000 in
set_option maxHeartbeats 8000000 in
theorem stepKeeps_spec (s : SV) (l : List Ac) (e : Ev) (t : Tx) (w : World) (hin : InW w s l) (hev : EvOK w e) (htx : TxOK w t) : Ret Hvad.prog 3 #[.slice s.1 s.2.1 s.2.2, .agg (encEv e).toArray, .agg (encTx t).toArray] w fun u w' => u = .bool true ∧ Ext w w' := by
  have hel := encEv_len hev
  have hel2 : (encEv e).toArray.size = 120 := by simpa using hel
  have hxe : Xt (encEv e).toArray 0 (0 + 120) (encEv e).toArray := Xt.whole rfl hel2
  have htl2 : (encTx t).toArray.size = 174 := by simpa using encTx_len htx
  have hxt : Xt (encTx t).toArray 0 (0 + 174) (encTx t).toArray := Xt.whole rfl htl2
  refine Ret_of_W Hvad.func3 rfl rfl ?_
  refine W_seq ?_
  refine W_region rfl ?_
  refine WO_boxG (.agg _) rfl ?_
  intro b4 v4 hg4 hE4 hH4 hl4
  try simp only [size_alloc, size_setB, size_drew] at hg4
  have hzz4 := hE4.1
  try simp only [size_alloc, size_setB, size_drew] at hzz4
  refine WO_boxG (.agg _) rfl ?_
  intro b5 v5 hg5 hE5 hH5 hl5
  try simp only [size_alloc, size_setB, size_drew] at hg5
  have hzz5 := hE5.1
  try simp only [size_alloc, size_setB, size_drew] at hzz5
  refine WO_p (PS_assign_bool rfl) ?_
  refine WO_nil ?_
  refine thn_normal ?_
  refine W_seq ?_
  refine W_region rfl ?_
  refine WO_p (PS_move_slice rfl) ?_
  refine WO_loadA _ Hvad.isAgg31 Hvad.sizeOf31 rfl (Hb.h (by repeat (first | assumption | exact Hb.newY _ _ | refine Hb.alloc ?_ | refine Hb.drew ?_ | refine Hb.ext (by assumption) ?_ | exact Hb.setSameL (by first | omega | (simp only [size_alloc, size_setB, size_drew]; omega)) | exact Hb.setSame (by assumption) | refine Hb.set (by first | omega | (simp only [size_alloc, size_setB, size_drew]; omega)) ?_ ))) (by first | omega | assumption | rfl | decide | exact Nat.le_refl _ | (simp only [size_ic, Value.cells]; omega) | simp) (Xt.h (by first | assumption | exact Xt.whole rfl rfl | exact Xt.whole rfl (by simp only [size_ic, Value.cells]; omega) | exact ⟨rfl⟩)) ?_
  refine WO_call Hvad.call4 (by rfl) (Ret.mono (both_spec s l e _ (hin.ext (by repeat (first | assumption | exact Ext.refl _ | refine Ext.alloc ?_ _ | refine Ext.drew ?_ | refine Ext.setB ?_ (by first | omega | (simp only [size_alloc, size_setB, size_drew]; omega)) _ | exact Ext.trans (by assumption) (by assumption) | refine Ext.trans ?_ (by assumption)))) (hev.ext (by repeat (first | assumption | exact Ext.refl _ | refine Ext.alloc ?_ _ | refine Ext.drew ?_ | refine Ext.setB ?_ (by first | omega | (simp only [size_alloc, size_setB, size_drew]; omega)) _ | exact Ext.trans (by assumption) (by assumption) | refine Ext.trans ?_ (by assumption))))) ?_)
  rintro _ w1 ⟨hE1, p1, p2, rfl, hy1⟩
  have hz1 := hE1.1
  have hb51 := Hb.ext hE1 hH5
  have hE01 : Ext w w1 := (by repeat (first | assumption | exact Ext.refl _ | refine Ext.alloc ?_ _ | refine Ext.drew ?_ | refine Ext.setB ?_ (by first | omega | (simp only [size_alloc, size_setB, size_drew]; omega)) _ | exact Ext.trans (by assumption) (by assumption) | refine Ext.trans ?_ (by assumption)))
  refine WO_p (PS_move_tuple rfl) ?_
  refine WO_p (PS_extract_ptr rfl rfl) ?_
  refine WO_p (PS_extract_ptr rfl rfl) ?_
  refine WO_p (PS_extract_bool rfl rfl) ?_
  refine WO_p (PS_assign_ptr rfl) ?_
  refine WO_p (PS_assign_ptr rfl) ?_
  refine WO_p (PS_assign_bool rfl) ?_
  refine WO_nil ?_
  refine thn_normal ?_
  refine W_seq ?_
  refine W_seq ?_
  refine W_region rfl ?_
  refine WO_p (PS_move_ptr rfl) ?_
  refine WO_p (PS_eqlnil Hvad.underlying36 rfl) ?_
  refine WO_nil ?_
  refine thn_normal ?_
  refine W_if rfl (fun hb4 => ?_) (fun hb4 => ?_)
  · have hb4p := hb4.h; try simp only [al_ete, al_dfn, Bool.not_eq_true', Bool.not_eq_false', al_ne, Bool.not_not, al_nn] at hb4p
    have hpn : p1 = none := by cases p1 with | none => rfl | some a => cases hb4p
    refine W_seq ?_
    refine W_region rfl ?_
    refine WO_p (PS_move_bool rfl) ?_
    refine WO_p (PS_assign_bool rfl) ?_
    refine WO_nil ?_
    refine thn_normal ?_
    refine W_ret ?_
    refine thn_ret ?_
    refine bodyQ_ret1 Hvad.results3 rfl (.bool _) rfl ?_
    first
    | exact ⟨rfl, hE36⟩
    | exact ⟨rfl, (by repeat (first | assumption | exact Ext.refl _ | refine Ext.alloc ?_ _ | refine Ext.drew ?_ | refine Ext.setB ?_ (by first | omega | (simp only [size_alloc, size_setB, size_drew]; omega)) _ | refine Ext.trans ?_ (by assumption)))⟩
  · have hb4p := hb4.h; try simp only [al_ete, al_dfn, Bool.not_eq_true', Bool.not_eq_false', al_ne, Bool.not_not, al_nn] at hb4p
    obtain ⟨C, c, v, B, hs, hp1, hM, hs4, hF, hSb, hlow0⟩ := hy1 (by intro e1; rw [e1] at hb4p; cases hb4p)
    subst hp1
    have hlow : ∀ b, MOwn C B (M0 e hs) b → w.heap.size ≤ b := fun b hb => by have := hlow0 b hb; omega
    refine W_skip ?_
    refine thn_normal ?_
    refine W_seq ?_
    refine W_region rfl ?_
    refine WO_p (PS_move_ptr rfl) ?_
    refine WO_loadA _ Hvad.isAgg35 Hvad.sizeOf35 rfl (Hb.h (by repeat (first | assumption | exact Hb.newY _ _ | refine Hb.alloc ?_ | refine Hb.drew ?_ | refine Hb.ext (by assumption) ?_ | exact Hb.setSameL (by first | omega | (simp only [size_alloc, size_setB, size_drew]; omega)) | exact Hb.setSame (by assumption) | refine Hb.set (by first | omega | (simp only [size_alloc, size_setB, size_drew]; omega)) ?_ ))) (by first | omega | assumption | rfl | decide | exact Nat.le_refl _ | (simp only [size_ic, Value.cells]; omega) | simp) (Xt.h (by first | assumption | exact Xt.whole rfl rfl | exact Xt.whole rfl (by simp only [size_ic, Value.cells]; omega) | exact ⟨rfl⟩)) ?_
    refine WO_call Hvad.call5 (by rfl) (Ret.mono (begin_spec w C c v B (M0 e hs) t (bsum l l.length) _ hE01 hM (idM0 e hs hs4) hF hSb htx hlow) ?_)
    rintro u26 w26 ⟨v26, m26, S26, n26, ⟨c26, B26, hM26, hS26⟩, hRun26⟩
    have hE26 : Ext w w26 := Ext.keepC hE01 hS26.keep hlow
    have hlow26 : ∀ b, MOwn C B26 m26 b → w.heap.size ≤ b := fun b hb => by
      rcases hS26.own b hb with h | h
      · exact hlow b h
      · exact Nat.le_trans hE01.1 h
    refine WO_nil ?_
    refine thn_normal ?_
    refine W_block ?_
    refine W_loopN (fun k ρ w' => ∃ (c2 : Array Value) (v2 : V) (B2 : VB) (m2 : Mc) (n2 : Nat) (S2 : Int), k = (gOf m2 n2).toNat * 8 + n2 ∧ MS w' C c2 v2 B2 m2 ∧ RunS v2 m2 n2 S2 ∧ Ext w w' ∧ (∀ b, MOwn C B2 m2 b → w.heap.size ≤ b) ∧ Fr [(7, .pointer (some ⟨C, 0, none⟩))] ρ) ((gOf m26 n26).toNat * 8 + n26) ?_ ?_
    · exact ⟨c26, v26, B26, m26, n26, S26, rfl, hM26, hRun26, hE26, hlow26, ⟨rfl, trivial⟩⟩
    intro k ρ w2 hI2
    obtain ⟨c2, v2, B2, m2, n2, S2, hk2, hM2, hRun2, hE2, hlow2, hFr2⟩ := hI2
    refine W_env _ hFr2 ?_
    have hCk2 := hRun2.ck hM2.ty
    have hg2 := hCk2.g0
    have hn72 := hCk2.n7
    refine W_block ?_
    refine W_seq ?_
    refine W_seq ?_
    refine W_region rfl ?_
    refine WO_p (PS_move_ptr rfl) ?_
    refine WO_call Hvad.call6 (by rfl) (Ret.mono (chainCheck_spec C c2 v2 B2 m2 n2 S2 _ (MS.ext hM2 (by repeat (first | assumption | exact Ext.refl _ | refine Ext.alloc ?_ _ | refine Ext.drew ?_ | refine Ext.setB ?_ (by first | omega | (simp only [size_alloc, size_setB, size_drew]; omega)) _ | exact Ext.trans (by assumption) (by assumption) | refine Ext.trans ?_ (by assumption)))) hCk2) ?_)
    rintro _ w28 ⟨rfl, hE28⟩
    refine WO_p (PS_not rfl) ?_
    refine WO_nil ?_
    refine thn_normal ?_
    refine W_if rfl (fun hb9 => ?_) (fun hb9 => ?_)
    · have hb9p := hb9.h; try simp only [al_ete, al_dfn, Bool.not_eq_true', Bool.not_eq_false', al_ne, Bool.not_not, al_nn] at hb9p
      (exfalso; first | omega | (simp at hb9p; done) | cases hb9p) --END
    · have hb9p := hb9.h; try simp only [al_ete, al_dfn, Bool.not_eq_true', Bool.not_eq_false', al_ne, Bool.not_not, al_nn] at hb9p
      refine W_skip ?_
      refine thn_normal ?_
      refine W_seq ?_
      refine W_region rfl ?_
      refine WO_p (PS_move_ptr rfl) ?_
      refine WO_call Hvad.call7 (by rfl) (Ret.mono (measure_spec C c2 v2 B2 m2 n2 S2 _ (MS.ext hM2 (by repeat (first | assumption | exact Ext.refl _ | refine Ext.alloc ?_ _ | refine Ext.drew ?_ | refine Ext.setB ?_ (by first | omega | (simp only [size_alloc, size_setB, size_drew]; omega)) _ | exact Ext.trans (by assumption) (by assumption) | refine Ext.trans ?_ (by assumption)))) hCk2) ?_)
      rintro _ w32 ⟨rfl, hE32⟩
      have hE232 : Ext w2 w32 := (by repeat (first | assumption | exact Ext.refl _ | refine Ext.alloc ?_ _ | refine Ext.drew ?_ | refine Ext.setB ?_ (by first | omega | (simp only [size_alloc, size_setB, size_drew]; omega)) _ | exact Ext.trans (by assumption) (by assumption) | refine Ext.trans ?_ (by assumption)))
      refine WO_p (PS_move_tuple rfl) ?_
      refine WO_p (PS_extract_int rfl rfl) ?_
      refine WO_p (PS_extract_int rfl rfl) ?_
      refine WO_p (PS_assign_int rfl) ?_
      refine WO_p (PS_assign_int rfl) ?_
      refine WO_nil ?_
      refine thn_normal ?_
      refine W_seq ?_
      refine W_seq ?_
      refine W_region rfl ?_
      refine WO_p (PS_move_ptr rfl) ?_
      refine WO_call Hvad.call8 (by rfl) (Ret.mono (eStep_spec C c2 v2 B2 m2 n2 S2 _ (MS.ext hM2 hE232) hRun2) ?_)
      rintro _ w36 ⟨q36, rfl, hn36, hy36⟩
      refine WO_p (PS_not rfl) ?_
      refine WO_nil ?_
      refine thn_normal ?_
      refine W_if rfl (fun hb14 => ?_) (fun hb14 => ?_)
      · have hb14p := hb14.h; try simp only [al_ete, al_dfn, Bool.not_eq_true', Bool.not_eq_false', al_ne, Bool.not_not, al_nn] at hb14p
        have hE36 : Ext w w36 := Ext.trans hE2 (Ext.trans hE232 (hn36 (by simpa using hb14p)))
        refine W_seq ?_
        refine W_region rfl ?_
        refine WO_p (PS_assign_bool rfl) ?_
        refine WO_nil ?_
        refine thn_normal ?_
        refine W_ret ?_
        refine thn_ret ?_
        refine inBlk_ret ?_
        refine thn_ret ?_
        refine inBlk_ret ?_
        refine bodyQ_ret1 Hvad.results3 rfl (.bool _) rfl ?_
        first
        | exact ⟨rfl, hE36⟩
        | exact ⟨rfl, (by repeat (first | assumption | exact Ext.refl _ | refine Ext.alloc ?_ _ | refine Ext.drew ?_ | refine Ext.setB ?_ (by first | omega | (simp only [size_alloc, size_setB, size_drew]; omega)) _ | refine Ext.trans ?_ (by assumption)))⟩
      · have hb14p := hb14.h; try simp only [al_ete, al_dfn, Bool.not_eq_true', Bool.not_eq_false', al_ne, Bool.not_not, al_nn] at hb14p
        obtain ⟨c3, v3x, B3, m3, n3, hM3, hS3, hRun3, hlt3⟩ := hy36 (by simpa using hb14p)
        have hE3w : Ext w w36 := Ext.keepC (hE2.trans hE232) hS3.keep hlow2
        have hlow3 : ∀ b, MOwn C B3 m3 b → w.heap.size ≤ b := fun b hb => by
          rcases hS3.own b hb with h | h
          · exact hlow2 b h
          · exact Nat.le_trans (hE2.trans hE232).1 h
        have hg3 := (hRun3.ck hM3.ty).g0
        have hn7 := (hRun3.ck hM3.ty).n7
        refine W_skip ?_
        refine thn_normal ?_
        refine W_seq ?_
        refine W_region rfl ?_
        refine WO_p (PS_move_ptr rfl) ?_
        refine WO_call Hvad.call7 (by rfl) (Ret.mono (measure_spec C c3 v3x B3 m3 n3 S2 _ (MS.ext hM3 (by repeat (first | assumption | exact Ext.refl _ | refine Ext.alloc ?_ _ | refine Ext.drew ?_ | refine Ext.setB ?_ (by first | omega | (simp only [size_alloc, size_setB, size_drew]; omega)) _ | exact Ext.trans (by assumption) (by assumption) | refine Ext.trans ?_ (by assumption)))) (hRun3.ck hM3.ty)) ?_)
        rintro _ w40 ⟨rfl, hE40⟩
        have hE340 : Ext w w40 := Ext.trans hE3w (by repeat (first | assumption | exact Ext.refl _ | refine Ext.alloc ?_ _ | refine Ext.drew ?_ | refine Ext.setB ?_ (by first | omega | (simp only [size_alloc, size_setB, size_drew]; omega)) _ | exact Ext.trans (by assumption) (by assumption) | refine Ext.trans ?_ (by assumption)))
        refine WO_p (PS_move_tuple rfl) ?_
        refine WO_p (PS_extract_int rfl rfl) ?_
        refine WO_p (PS_extract_int rfl rfl) ?_
        refine WO_p (PS_assign_int rfl) ?_
        refine WO_p (PS_assign_int rfl) ?_
        refine WO_nil ?_
        refine thn_normal ?_
        refine W_seq ?_
        refine W_region rfl ?_
        refine WO_p (PS_move_int rfl) ?_
        refine WO_p (PS_move_int rfl) ?_
        refine WO_p (PS_move_int rfl) ?_
        refine WO_p (PS_move_int rfl) ?_
        refine WO_call Hvad.call9 (by rfl) (Ret.mono (lower_spec (gOf m2 n2) n2 (gOf m3 n3) n3 _ (by omega)) ?_)
        rintro _ w47 ⟨rfl, hE47⟩
        refine WO_p (PS_not rfl) ?_
        refine WO_nil ?_
        refine thn_normal ?_
        refine W_if rfl (fun hb19 => ?_) (fun hb19 => ?_)
        · have hb19p := hb19.h; try simp only [al_ete, al_dfn, Bool.not_eq_true', Bool.not_eq_false', al_ne, Bool.not_not, al_nn] at hb19p
          (exfalso; first | omega | (simp at hb19p; done) | cases hb19p) --END
        · have hb19p := hb19.h; try simp only [al_ete, al_dfn, Bool.not_eq_true', Bool.not_eq_false', al_ne, Bool.not_not, al_nn] at hb19p
          refine W_skip ?_
          refine inBlk_normal ?_
          refine thn_normal ?_
          exact ⟨(gOf m3 n3).toNat * 8 + n3, by omega, c3, v3x, B3, m3, n3, S2, rfl, hM3.ext (Ext.trans hE40 hE47), hRun3, hE340.trans hE47, hlow3, ⟨rfl, trivial⟩⟩

end Go.Proofs.YgvadwGreat
