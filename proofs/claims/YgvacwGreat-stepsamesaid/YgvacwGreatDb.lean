import Derived.Test.YgvacwGreatDa
namespace Go.Proofs.YgvacwGreat
set_option linter.unusedSimpArgs false
set_option linter.unusedVariables false
theorem bsum_lt {w : World} {s : SV} {l : List Ac} (h : wok l = true) (hin : InW w s l) : bsum l l.length < 115792089237316195423570985008687907853269984665640564039457584007913129639936 := by
  obtain ⟨h1, h2⟩ := wok_sum h (fun x hx => (hin.ok x hx).ba) l.length (Nat.le_refl _)
  have := (tv_nonneg h1.2 32).2
  rw [← h2]
  exact this
theorem start_len : ∀ {l : List PA} {k : Nat}, (∀ a ∈ l, a.slots.length ≤ k) → (ystart l).length ≤ l.length * k
  | [], k, _ => by simp [ystart]
  | a :: l, k, h => by
    have h1 := start_len (l := l) fun b hb => h b (by simp [hb])
    have h2 := h a (by simp)
    have e : (ystart (a :: l)).length = (ystartS a).length + (ystart l).length := by unfold ystart; rw [List.flatMap_cons, List.length_append]
    have e2 : (ystartS a).length = a.slots.length := by unfold ystartS; rw [List.length_map]
    rw [e, e2, List.length_cons, Nat.succ_mul]
    omega
theorem YN.newY {l : List Ac} (e : Ev) (hs : List (List Int)) (h : wok l = true) : YN 3000 (ypN (l.map yacP) e hs) [] ∧ (ystart (ypN (l.map yacP) e hs).now.accts).length ≤ 3000 := by
  have hl := wok_len h
  have ha : ∀ a ∈ l.map yacP, a.slots.length ≤ 16 ∧ a.code.length ≤ 256 := by
    intro a ha
    obtain ⟨x, hx, rfl⟩ := List.mem_map.1 ha
    obtain ⟨i, hi, e⟩ := List.getElem_of_mem hx
    have := wok_acc h (i := i) (x := x) (by rw [List.getElem?_eq_getElem hi, e])
    exact ⟨by show (x.sl.map yslP).length ≤ 16; rw [List.length_map]; exact this.2, this.1⟩
  have hml : (l.map yacP).length ≤ 8 := by rw [List.length_map]; exact hl
  have hw : PWB 3000 (clw (ypN (l.map yacP) e hs).now) := ⟨Nat.le_trans hml (by omega), fun a h => Nat.le_trans (ha a h).1 (by omega), fun a h => Nat.le_trans (ha a h).2 (by omega), Nat.zero_le _, Nat.zero_le _, Nat.zero_le _, Nat.zero_le _, Nat.zero_le _, Nat.zero_le _, (by show sz 0 ≤ 40; rw [sz_zero]; omega)⟩
  refine ⟨⟨⟨hw, Nat.zero_le _, Nat.zero_le _, Nat.zero_le _, (by show sz 0 ≤ 40; rw [sz_zero]; omega), (by show sz 0 ≤ 40; rw [sz_zero]; omega), (by show sz 0 ≤ 40; rw [sz_zero]; omega), (by show sz 0 ≤ 40; rw [sz_zero]; omega), fun A => Nat.le_trans (hw.slots A) (by omega)⟩, fun f hf => absurd hf (by simp)⟩, ?_⟩
  have h1 := start_len (l := l.map yacP) (k := 16) fun a h => (ha a h).1
  have h2 : (l.map yacP).length * 16 ≤ 8 * 16 := Nat.mul_le_mul_right 16 hml
  show (ystart (l.map yacP)).length ≤ 3000
  omega
abbrev MSF (w : World) (C : Nat) (c : Array Value) (v : V) (B : VB) (m : Mc) : Prop := @MS ⟨fun _ => False⟩ w C c v B m
def OB (O : Om) (w : World) : Prop := ∀ b, (@Om.p O) b → b < w.heap.size
theorem OB.ext {O : Om} {w w' : World} (h : OB O w) (he : Ext w w') : OB O w' := fun b hb => Nat.lt_of_lt_of_le (h b hb) he.1
theorem newE_O {w0 w : World} {l : List Ac} {e : Ev} {p : Option Addr} {q : Bool} {N : Nat} (hN : N ≤ w0.heap.size) (h : q = true → ∃ C c v B hs, p = some ⟨C, 0, none⟩ ∧ MSF w C c v B (M0 e hs) ∧ hs.2.1 ≤ 4 ∧ FilV v 8 128 (bsum l l.length) ∧ (∀ b, MOwn C B (M0 e hs) b → w0.heap.size ≤ b) ∧ FX (rdB w) v (l.map yacP) ∧ rdH w hs = chunk e.hl e.hash.2.1) :
    ∃ O : Om, OB O w ∧ (q = true → ∃ C c v B hs, O = ⟨MOwn C B (M0 e hs)⟩ ∧ p = some ⟨C, 0, none⟩ ∧ MSF w C c v B (M0 e hs) ∧ hs.2.1 ≤ 4 ∧ FilV v 8 128 (bsum l l.length) ∧ (∀ b, MOwn C B (M0 e hs) b → N ≤ b) ∧ FX (rdB w) v (l.map yacP) ∧ rdH w hs = chunk e.hl e.hash.2.1) := by
  cases hqq : q with
  | false => exact ⟨⟨fun _ => False⟩, fun b h => absurd h id, fun h => by cases h⟩
  | true =>
    obtain ⟨C, c, v, B, hs, h1, h2, h3, h4, h5, h6⟩ := h hqq
    exact ⟨⟨MOwn C B (M0 e hs)⟩, fun b hb => @MOwn.lt ⟨fun _ => False⟩ _ _ _ _ _ _ h2 _ hb, fun _ => ⟨C, c, v, B, hs, rfl, h1, h2, h3, h4, fun b hb => Nat.le_trans hN (h5 b hb), h6⟩⟩
theorem newE2_ex (s : SV) (l : List Ac) (e : Ev) (w : World) (hin : InW w s l) (hev : EvOK w e) : Ret Hvac.prog 12 #[.slice s.1 s.2.1 s.2.2, .agg (encEv e).toArray] w fun u w' => Ext w w' ∧ ∃ p q, u = .tuple #[.pointer p, .bool q] ∧ q = (wok l && decide (e.hash.2.1 ≤ 4)) ∧ (q = false → p = none) ∧ (q = true → ∃ C c v B hs, p = some ⟨C, 0, none⟩ ∧ MSF w' C c v B (M0 e hs) ∧ hs.2.1 ≤ 4 ∧ FilV v 8 128 (bsum l l.length) ∧ (∀ b, MOwn C B (M0 e hs) b → w.heap.size ≤ b) ∧ FX (rdB w') v (l.map yacP) ∧ rdH w' hs = chunk e.hl e.hash.2.1) := by
  refine Ret.mono (@newE_ex ⟨fun _ => False⟩ s l e w hin hev (fun b h => absurd h id)) ?_
  rintro u w' ⟨hE, h⟩
  refine ⟨hE, ?_⟩
  rcases h with ⟨rfl, hn⟩ | ⟨h1, h2, C, c, v, B, hs, rfl, h3⟩
  · refine ⟨none, false, rfl, ?_, fun _ => rfl, fun h => by cases h⟩
    cases hw : wok l with
    | false => rfl
    | true => rw [al_bta]; exact (al_ef fun h => hn ⟨hw, h⟩).symm
  · exact ⟨some ⟨C, 0, none⟩, true, rfl, by rw [h1, al_et h2]; rfl, fun h => (by cases h), fun _ => ⟨C, c, v, B, hs, rfl, h3⟩⟩
theorem newY2_ex (O : Om) (s : SV) (l : List Ac) (e : Ev) (w : World) (hO : OB O w) (hin : InW w s l) (hev : EvOK w e) (hcc : ∀ x ∈ l, x.code.2.1 ≤ x.code.2.2) : Ret Hvac.prog 13 #[.slice s.1 s.2.1 s.2.2, .agg (encEv e).toArray] w fun u w' => Ext w w' ∧ ∃ p, u = .tuple #[.pointer p, .bool (wok l && decide (e.hash.2.1 ≤ 4))] ∧ ((wok l && decide (e.hash.2.1 ≤ 4)) = true → ∃ D a tt sh, p = some ⟨D, 0, none⟩ ∧ w.heap.size ≤ D ∧ @YX (O.add D) (fun b => b = D) w' D (ysN { e with hash := sh } a tt) (ypN (l.map yacP) { e with hash := sh } (chunk e.hl e.hash.2.1)) [] []) := by
  refine Ret.mono (@yNew_spec O w hO s l e hin hev hcc) ?_
  rintro u w' ⟨hE, h⟩
  refine ⟨hE, ?_⟩
  rcases h with ⟨rfl, hn⟩ | ⟨h1, h2, D, a, tt, sh, rfl, h3, h4⟩
  · have hq : (wok l && decide (e.hash.2.1 ≤ 4)) = false := by
      cases hw : wok l with
      | false => rfl
      | true => rw [al_bta]; exact al_ef fun h => hn ⟨hw, h⟩
    rw [hq]
    exact ⟨none, rfl, fun h => by cases h⟩
  · have hq : (wok l && decide (e.hash.2.1 ≤ 4)) = true := by rw [h1, al_et h2]; rfl
    rw [hq]
    exact ⟨some ⟨D, 0, none⟩, rfl, fun _ => ⟨D, a, tt, sh, rfl, h3, h4⟩⟩
theorem Two.newY {w1 w2 : World} {C : Nat} {c : Array Value} {v : V} {B : VB} {m : Mc} {D : Nat} {x : YSt} {y : PSt} (hM : MSF w1 C c v B m) (hE : Ext w1 w2) (hD : w1.heap.size ≤ D) (hX : @YX (Om.add ⟨MOwn C B m⟩ D) (fun b => b = D) w2 D x y [] []) : ∃ O, Two O (fun b => b = D) w2 C c v B m D x y [] [] := by
  have hlt : ∀ b, MOwn C B m b → b < w1.heap.size := fun b hb => @MOwn.lt ⟨fun _ => False⟩ _ _ _ _ _ _ hM _ hb
  have hblk := @YSS.blk (Om.add ⟨MOwn C B m⟩ D) _ _ _ _ (@YX.ss (Om.add ⟨MOwn C B m⟩ D) _ _ _ _ _ _ _ hX)
  refine ⟨Om.add ⟨MOwn C B m⟩ D, MS.yp (O := ⟨fun _ => False⟩) (O' := ⟨fun b => b = D⟩) hM ⟨fun b hb (hp : b = D) => by omega⟩ (hE.keepO _) (fun b (hp : b = D) => by rw [hp]; exact hblk.lt) (fun b hb h => h) (fun _ _ _ _ h => h), hX, fun b hb => ⟨Or.inl hb, fun (hp : b = D) => by have := hlt b hb; omega⟩, fun b (hp : b = D) r fz hb => ?_⟩
  subst hp
  exact absurd (hb.type_eq hblk) (by decide)

set_option maxRecDepth 10000 in
set_option maxHeartbeats 8000000 in
theorem newsHold_ex (s : SV) (l : List Ac) (e : Ev) (q : Bool) (w : World) (hin : InW w s l) (hev : EvOK w e) (hq : q = (wok l && decide (e.hash.2.1 ≤ 4))) : Ret Hvac.prog 14 #[.slice s.1 s.2.1 s.2.2, .agg (encEv e).toArray, .bool q, .bool q] w fun u w' => u = .bool true ∧ Ext w w' := by
  have hel := encEv_len hev
  have hel2 : (encEv e).toArray.size = 120 := by simpa using hel
  have hxe : Xt (encEv e).toArray 0 (0 + 120) (encEv e).toArray := Xt.whole rfl hel2
  refine Ret_of_W Hvac.func14 rfl rfl ?_
  refine W_seq ?_
  refine W_region rfl ?_
  refine WO_boxG (.agg _) rfl ?_
  intro b5 v5 hg5 hE5 hH5 hl5
  try simp only [size_alloc, size_setB, size_drew] at hg5
  have hzz5 := hE5.1
  try simp only [size_alloc, size_setB, size_drew] at hzz5
  refine WO_p (PS_assign_bool rfl) ?_
  refine WO_nil ?_
  refine thn_normal ?_
  refine W_seq ?_
  refine W_region rfl ?_
  refine WO_p (PS_move_slice rfl) ?_
  refine WO_call Hvac.call55 (by rfl) (Ret.mono (worldOK_spec s l _ (hin.ext (by repeat (first | assumption | exact Ext.refl _ | refine Ext.alloc ?_ _ | refine Ext.drew ?_ | refine Ext.setB ?_ (by first | omega | (simp only [size_alloc, size_setB, size_drew]; omega)) _ | exact Ext.trans (by assumption) (by assumption) | refine Ext.trans ?_ (by assumption))))) ?_)
  rintro _ w55_0 ⟨rfl, hE55_0⟩
  have hz55_0 := hE55_0.1
  try simp only [size_alloc, size_setB, size_drew] at hz55_0
  refine WO_p (PS_move_bool rfl) ?_
  refine WO_if (t := 12) rfl (fun hb3 => ?_) (fun hb3 => ?_)
  · have hb3p := hb3.h; try simp only [al_ete, al_dfn, Bool.not_eq_true', Bool.not_eq_false', al_ne, Bool.not_not, al_nn] at hb3p
    have hwk : wok l = true := by simpa using hb3p
    rw [hwk, al_bta] at hq
    subst hq
    refine WO_guardT rfl rfl hb3.h ?_
    refine WO_loadA _ Hvac.isAgg31 Hvac.sizeOf31 rfl (Hb.h (by repeat (first | assumption | exact Hb.newY _ _ | refine Hb.alloc ?_ | refine Hb.drew ?_ | refine Hb.ext (by assumption) ?_ | exact Hb.setSameL (by first | omega | (simp only [size_alloc, size_setB, size_drew]; omega)) | exact Hb.setSame (by assumption) | refine Hb.set (by first | omega | (simp only [size_alloc, size_setB, size_drew]; omega)) ?_ ))) (by first | omega | assumption | rfl | decide | exact Nat.le_refl _ | (simp only [size_ic, Value.cells]; omega) | (simp; omega) | simp) (Xt.h (by first | assumption | exact Xt.whole rfl rfl | exact Xt.whole rfl (by assumption) | exact Xt.whole rfl (by simp only [size_ic, Value.cells]; omega) | exact ⟨rfl⟩)) ?_
    refine WO_guardT rfl rfl hb3.h ?_
    refine WO_call Hvac.call52 (by rfl) (Ret.mono (envOK_spec e _ (hev.ext (by repeat (first | assumption | exact Ext.refl _ | refine Ext.alloc ?_ _ | refine Ext.drew ?_ | refine Ext.setB ?_ (by first | omega | (simp only [size_alloc, size_setB, size_drew]; omega)) _ | exact Ext.trans (by assumption) (by assumption) | refine Ext.trans ?_ (by assumption))))) ?_)
    rintro _ w52_3 ⟨rfl, hE52_3⟩
    have hz52_3 := hE52_3.1
    try simp only [size_alloc, size_setB, size_drew] at hz52_3
    refine WO_p (PS_pickT rfl hb3.h rfl) ?_
    refine WO_p (PS_assign_bool rfl) ?_
    refine WO_nil ?_
    refine thn_normal ?_
    refine W_seq ?_
    refine W_region rfl ?_
    refine WO_p (PS_move_bool rfl) ?_
    refine WO_p (PS_move_bool rfl) ?_
    refine WO_p (PS_eqlbool Hvac.underlying4 rfl rfl) ?_
    refine WO_p (PS_move_bool rfl) ?_
    refine WO_if (t := 19) rfl (fun hb8 => ?_) (fun hb8 => ?_)
    · have hb8p := hb8.h; try simp only [al_ete, al_dfn, Bool.not_eq_true', Bool.not_eq_false', al_ne, Bool.not_not, al_nn] at hb8p
      refine WO_guardT rfl rfl hb8.h ?_
      refine WO_p (PS_move_bool rfl) ?_
      refine WO_guardT rfl rfl hb8.h ?_
      refine WO_p (PS_move_bool rfl) ?_
      refine WO_guardT rfl rfl hb8.h ?_
      refine WO_p (PS_eqlbool Hvac.underlying4 rfl rfl) ?_
      refine WO_p (PS_pickT rfl hb8.h rfl) ?_
      refine WO_p (PS_assign_bool rfl) ?_
      refine WO_nil ?_
      refine thn_normal ?_
      refine W_ret ?_
      refine bodyQ_ret1 Hvac.results14 rfl (.bool _) rfl ?_
      exact ⟨congrArg Value.bool (by simp), (by repeat (first | assumption | exact Ext.refl _ | refine Ext.alloc ?_ _ | refine Ext.drew ?_ | refine Ext.setB ?_ (by first | omega | (simp only [size_alloc, size_setB, size_drew]; omega)) _ | refine Ext.trans ?_ (by assumption)))⟩
    · have hb8p := hb8.h; try simp only [al_ete, al_dfn, Bool.not_eq_true', Bool.not_eq_false', al_ne, Bool.not_not, al_nn] at hb8p
      (exfalso; first | omega | (simp at hb8p; done) | cases hb8p) --END
  · have hb3p := hb3.h; try simp only [al_ete, al_dfn, Bool.not_eq_true', Bool.not_eq_false', al_ne, Bool.not_not, al_nn] at hb3p
    have hwk : wok l = false := by simpa using hb3p
    rw [hwk, al_bfa] at hq
    subst hq
    refine WO_guardF rfl rfl hb3.h ?_
    refine WO_guardF rfl rfl hb3.h ?_
    refine WO_p (PS_pickF rfl hb3.h rfl) ?_
    refine WO_p (PS_assign_bool rfl) ?_
    refine WO_nil ?_
    refine thn_normal ?_
    refine W_seq ?_
    refine W_region rfl ?_
    refine WO_p (PS_move_bool rfl) ?_
    refine WO_p (PS_move_bool rfl) ?_
    refine WO_p (PS_eqlbool Hvac.underlying4 rfl rfl) ?_
    refine WO_p (PS_move_bool rfl) ?_
    refine WO_if (t := 19) rfl (fun hb13 => ?_) (fun hb13 => ?_)
    · have hb13p := hb13.h; try simp only [al_ete, al_dfn, Bool.not_eq_true', Bool.not_eq_false', al_ne, Bool.not_not, al_nn] at hb13p
      refine WO_guardT rfl rfl hb13.h ?_
      refine WO_p (PS_move_bool rfl) ?_
      refine WO_guardT rfl rfl hb13.h ?_
      refine WO_p (PS_move_bool rfl) ?_
      refine WO_guardT rfl rfl hb13.h ?_
      refine WO_p (PS_eqlbool Hvac.underlying4 rfl rfl) ?_
      refine WO_p (PS_pickT rfl hb13.h rfl) ?_
      refine WO_p (PS_assign_bool rfl) ?_
      refine WO_nil ?_
      refine thn_normal ?_
      refine W_ret ?_
      refine bodyQ_ret1 Hvac.results14 rfl (.bool _) rfl ?_
      exact ⟨congrArg Value.bool (by simp), (by repeat (first | assumption | exact Ext.refl _ | refine Ext.alloc ?_ _ | refine Ext.drew ?_ | refine Ext.setB ?_ (by first | omega | (simp only [size_alloc, size_setB, size_drew]; omega)) _ | refine Ext.trans ?_ (by assumption)))⟩
    · have hb13p := hb13.h; try simp only [al_ete, al_dfn, Bool.not_eq_true', Bool.not_eq_false', al_ne, Bool.not_not, al_nn] at hb13p
      (exfalso; first | omega | (simp at hb13p; done) | cases hb13p) --END

set_option maxRecDepth 10000 in
set_option maxHeartbeats 8000000 in
theorem both_ex (s : SV) (l : List Ac) (e : Ev) (w : World) (hin : InW w s l) (hev : EvOK w e) (hcc : ∀ x ∈ l, x.code.2.1 ≤ x.code.2.2) : Ret Hvac.prog 4 #[.slice s.1 s.2.1 s.2.2, .agg (encEv e).toArray] w fun u w' => Ext w w' ∧ ∃ p1 p2 : Option Addr, u = .tuple #[.pointer p1, .pointer p2, .bool true] ∧ (p1 ≠ none → ∃ C c v B hs D a tt sh O, p1 = some ⟨C, 0, none⟩ ∧ p2 = some ⟨D, 0, none⟩ ∧ Two O (fun b => b = D) w' C c v B (M0 e hs) D (ysN { e with hash := sh } a tt) (ypN (l.map yacP) { e with hash := sh } (chunk e.hl e.hash.2.1)) [] [] ∧ RelN w' v (M0 e hs) (ypN (l.map yacP) { e with hash := sh } (chunk e.hl e.hash.2.1)) ∧ hs.2.1 ≤ 4 ∧ FilV v 8 128 (bsum l l.length) ∧ bsum l l.length < 115792089237316195423570985008687907853269984665640564039457584007913129639936 ∧ wok l = true ∧ (∀ b, MOwn C B (M0 e hs) b → w.heap.size ≤ b) ∧ w.heap.size ≤ D) := by
  have hel := encEv_len hev
  have hel2 : (encEv e).toArray.size = 120 := by simpa using hel
  have hxe : Xt (encEv e).toArray 0 (0 + 120) (encEv e).toArray := Xt.whole rfl hel2
  refine Ret_of_W Hvac.func4 rfl rfl ?_
  refine W_seq ?_
  refine W_region rfl ?_
  refine WO_boxG (.agg _) rfl ?_
  intro b3 v3 hg3 hE3 hH3 hl3
  try simp only [size_alloc, size_setB, size_drew] at hg3
  have hzz3 := hE3.1
  try simp only [size_alloc, size_setB, size_drew] at hzz3
  refine WO_p (PS_assign_ptr rfl) ?_
  refine WO_p (PS_assign_ptr rfl) ?_
  refine WO_p (PS_assign_bool rfl) ?_
  refine WO_nil ?_
  refine thn_normal ?_
  refine W_seq ?_
  refine W_region rfl ?_
  refine WO_p (PS_move_slice rfl) ?_
  refine WO_loadA _ Hvac.isAgg31 Hvac.sizeOf31 rfl (Hb.h (by repeat (first | assumption | exact Hb.newY _ _ | refine Hb.alloc ?_ | refine Hb.drew ?_ | refine Hb.ext (by assumption) ?_ | exact Hb.setSameL (by first | omega | (simp only [size_alloc, size_setB, size_drew]; omega)) | exact Hb.setSame (by assumption) | refine Hb.set (by first | omega | (simp only [size_alloc, size_setB, size_drew]; omega)) ?_ ))) (by first | omega | assumption | rfl | decide | exact Nat.le_refl _ | (simp only [size_ic, Value.cells]; omega) | (simp; omega) | simp) (Xt.h (by first | assumption | exact Xt.whole rfl rfl | exact Xt.whole rfl (by assumption) | exact Xt.whole rfl (by simp only [size_ic, Value.cells]; omega) | exact ⟨rfl⟩)) ?_
  refine WO_call Hvac.call12 (by rfl) (Ret.mono (newE2_ex s l e _ (hin.ext (by repeat (first | assumption | exact Ext.refl _ | refine Ext.alloc ?_ _ | refine Ext.drew ?_ | refine Ext.setB ?_ (by first | omega | (simp only [size_alloc, size_setB, size_drew]; omega)) _ | exact Ext.trans (by assumption) (by assumption) | refine Ext.trans ?_ (by assumption)))) (hev.ext (by repeat (first | assumption | exact Ext.refl _ | refine Ext.alloc ?_ _ | refine Ext.drew ?_ | refine Ext.setB ?_ (by first | omega | (simp only [size_alloc, size_setB, size_drew]; omega)) _ | exact Ext.trans (by assumption) (by assumption) | refine Ext.trans ?_ (by assumption))))) ?_)
  rintro _ w1 ⟨hE1, p1, q1, rfl, hq1, hn1, hy1⟩
  have hz1 := hE1.1
  have hb31 := Hb.ext hE1 hH3
  obtain ⟨OY, hOY, hyO⟩ := newE_O (N := w.heap.size) (by omega) hy1
  refine WO_p (PS_move_tuple rfl) ?_
  refine WO_p (PS_extract_ptr rfl rfl) ?_
  refine WO_p (PS_extract_bool rfl rfl) ?_
  refine WO_p (PS_assign_ptr rfl) ?_
  refine WO_p (PS_assign_bool rfl) ?_
  refine WO_nil ?_
  refine thn_normal ?_
  refine W_seq ?_
  refine W_region rfl ?_
  refine WO_p (PS_move_slice rfl) ?_
  refine WO_loadA _ Hvac.isAgg31 Hvac.sizeOf31 rfl (Hb.h (by repeat (first | assumption | exact Hb.newY _ _ | refine Hb.alloc ?_ | refine Hb.drew ?_ | refine Hb.ext (by assumption) ?_ | exact Hb.setSameL (by first | omega | (simp only [size_alloc, size_setB, size_drew]; omega)) | exact Hb.setSame (by assumption) | refine Hb.set (by first | omega | (simp only [size_alloc, size_setB, size_drew]; omega)) ?_ ))) (by first | omega | assumption | rfl | decide | exact Nat.le_refl _ | (simp only [size_ic, Value.cells]; omega) | (simp; omega) | simp) (Xt.h (by first | assumption | exact Xt.whole rfl rfl | exact Xt.whole rfl (by assumption) | exact Xt.whole rfl (by simp only [size_ic, Value.cells]; omega) | exact ⟨rfl⟩)) ?_
  refine WO_call Hvac.call13 (by rfl) (Ret.mono (newY2_ex OY s l e _ (OB.ext hOY (by repeat (first | assumption | exact Ext.refl _ | refine Ext.alloc ?_ _ | refine Ext.drew ?_ | refine Ext.setB ?_ (by first | omega | (simp only [size_alloc, size_setB, size_drew]; omega)) _ | exact Ext.trans (by assumption) (by assumption) | refine Ext.trans ?_ (by assumption)))) (hin.ext (by repeat (first | assumption | exact Ext.refl _ | refine Ext.alloc ?_ _ | refine Ext.drew ?_ | refine Ext.setB ?_ (by first | omega | (simp only [size_alloc, size_setB, size_drew]; omega)) _ | exact Ext.trans (by assumption) (by assumption) | refine Ext.trans ?_ (by assumption)))) (hev.ext (by repeat (first | assumption | exact Ext.refl _ | refine Ext.alloc ?_ _ | refine Ext.drew ?_ | refine Ext.setB ?_ (by first | omega | (simp only [size_alloc, size_setB, size_drew]; omega)) _ | exact Ext.trans (by assumption) (by assumption) | refine Ext.trans ?_ (by assumption)))) hcc) ?_)
  rintro _ w2 ⟨hE2, p2, rfl, hy2⟩
  rw [← hq1]
  have hz2 := hE2.1
  have hE12 : Ext w1 w2 := (by repeat (first | assumption | exact Ext.refl _ | refine Ext.alloc ?_ _ | refine Ext.drew ?_ | refine Ext.setB ?_ (by first | omega | (simp only [size_alloc, size_setB, size_drew]; omega)) _ | exact Ext.trans (by assumption) (by assumption) | refine Ext.trans ?_ (by assumption)))
  refine WO_p (PS_move_tuple rfl) ?_
  refine WO_p (PS_extract_ptr rfl rfl) ?_
  refine WO_p (PS_extract_bool rfl rfl) ?_
  refine WO_p (PS_assign_ptr rfl) ?_
  refine WO_p (PS_assign_bool rfl) ?_
  refine WO_nil ?_
  refine thn_normal ?_
  refine W_seq ?_
  refine W_seq ?_
  refine W_region rfl ?_
  refine WO_p (PS_move_slice rfl) ?_
  refine WO_loadA _ Hvac.isAgg31 Hvac.sizeOf31 rfl (Hb.h (by repeat (first | assumption | exact Hb.newY _ _ | refine Hb.alloc ?_ | refine Hb.drew ?_ | refine Hb.ext (by assumption) ?_ | exact Hb.setSameL (by first | omega | (simp only [size_alloc, size_setB, size_drew]; omega)) | exact Hb.setSame (by assumption) | refine Hb.set (by first | omega | (simp only [size_alloc, size_setB, size_drew]; omega)) ?_ ))) (by first | omega | assumption | rfl | decide | exact Nat.le_refl _ | (simp only [size_ic, Value.cells]; omega) | (simp; omega) | simp) (Xt.h (by first | assumption | exact Xt.whole rfl rfl | exact Xt.whole rfl (by assumption) | exact Xt.whole rfl (by simp only [size_ic, Value.cells]; omega) | exact ⟨rfl⟩)) ?_
  refine WO_p (PS_move_bool rfl) ?_
  refine WO_p (PS_move_bool rfl) ?_
  refine WO_call Hvac.call14 (by rfl) (Ret.mono (newsHold_ex s l e q1 _ (hin.ext (by repeat (first | assumption | exact Ext.refl _ | refine Ext.alloc ?_ _ | refine Ext.drew ?_ | refine Ext.setB ?_ (by first | omega | (simp only [size_alloc, size_setB, size_drew]; omega)) _ | exact Ext.trans (by assumption) (by assumption) | refine Ext.trans ?_ (by assumption)))) (hev.ext (by repeat (first | assumption | exact Ext.refl _ | refine Ext.alloc ?_ _ | refine Ext.drew ?_ | refine Ext.setB ?_ (by first | omega | (simp only [size_alloc, size_setB, size_drew]; omega)) _ | exact Ext.trans (by assumption) (by assumption) | refine Ext.trans ?_ (by assumption)))) hq1) ?_)
  rintro _ w3 ⟨rfl, hE3⟩
  have hE23 : Ext w2 w3 := (by repeat (first | assumption | exact Ext.refl _ | refine Ext.alloc ?_ _ | refine Ext.drew ?_ | refine Ext.setB ?_ (by first | omega | (simp only [size_alloc, size_setB, size_drew]; omega)) _ | exact Ext.trans (by assumption) (by assumption) | refine Ext.trans ?_ (by assumption)))
  refine WO_p (PS_not rfl) ?_
  refine WO_nil ?_
  refine thn_normal ?_
  refine W_if rfl (fun hb8 => ?_) (fun hb8 => ?_)
  · have hb8p := hb8.h; try simp only [al_ete, al_dfn, Bool.not_eq_true', Bool.not_eq_false', al_ne, Bool.not_not, al_nn] at hb8p
    (exfalso; first | omega | (simp at hb8p; done) | cases hb8p) --END
  · have hb8p := hb8.h; try simp only [al_ete, al_dfn, Bool.not_eq_true', Bool.not_eq_false', al_ne, Bool.not_not, al_nn] at hb8p
    refine W_skip ?_
    refine thn_normal ?_
    refine W_seq ?_
    refine W_seq ?_
    refine W_region rfl ?_
    refine WO_p (PS_move_bool rfl) ?_
    refine WO_p (PS_not rfl) ?_
    refine WO_nil ?_
    refine thn_normal ?_
    refine W_if rfl (fun hb10 => ?_) (fun hb10 => ?_)
    · have hb10p := hb10.h; try simp only [al_ete, al_dfn, Bool.not_eq_true', Bool.not_eq_false', al_ne, Bool.not_not, al_nn] at hb10p
      have hq0 : q1 = false := by simpa using hb10p
      refine W_seq ?_
      refine W_region rfl ?_
      refine WO_p (PS_assign_ptr rfl) ?_
      refine WO_p (PS_assign_ptr rfl) ?_
      refine WO_p (PS_assign_bool rfl) ?_
      refine WO_nil ?_
      refine thn_normal ?_
      refine W_ret ?_
      refine thn_ret ?_
      refine bodyQ_ret3 Hvac.results4 rfl rfl rfl (.pointer _) (.pointer _) (.bool _) rfl rfl rfl ?_
      first
      | (refine ⟨(by repeat (first | assumption | exact Ext.refl _ | refine Ext.alloc ?_ _ | refine Ext.drew ?_ | refine Ext.setB ?_ (by first | omega | (simp only [size_alloc, size_setB, size_drew]; omega)) _ | refine Ext.trans ?_ (by assumption))), none, none, rfl, fun h => absurd rfl h⟩; done)
      | (refine ⟨(by repeat (first | assumption | exact Ext.refl _ | refine Ext.alloc ?_ _ | refine Ext.drew ?_ | refine Ext.setB ?_ (by first | omega | (simp only [size_alloc, size_setB, size_drew]; omega)) _ | refine Ext.trans ?_ (by assumption))), p1, p2, rfl, fun _ => ?_⟩
         obtain ⟨C, c, v, B, hs, hOe, h1, h2, h3, h4, h5, h6, h7⟩ := hyO hq0
         have hwk : wok l = true := by rw [hq0] at hq1; cases hw : wok l with | true => rfl | false => rw [hw] at hq1; cases hq1
         obtain ⟨D, a, tt, sh, k1, k2, k3⟩ := hy2 (by rw [← hq1]; exact hq0)
         rw [hOe] at k3
         have hT := Two.newY (c := c) (v := v) h2 hE12 (by omega) k3
         obtain ⟨O, hT⟩ := hT
         exact ⟨C, c, v, B, hs, D, a, tt, sh, O, h1, k1, hT.ext hE23, @RelN.ext ⟨fun _ => False⟩ _ _ _ _ _ _ _ _ (RelN.newY h4 h6 h7 hwk) h2 (hE12.trans hE23), h3, h4, bsum_lt hwk hin, hwk, h5, by omega⟩)
    · have hb10p := hb10.h; try simp only [al_ete, al_dfn, Bool.not_eq_true', Bool.not_eq_false', al_ne, Bool.not_not, al_nn] at hb10p
      have hq0 : q1 = true := by simpa using hb10p
      refine W_skip ?_
      refine thn_normal ?_
      refine W_seq ?_
      refine W_region rfl ?_
      refine WO_p (PS_move_ptr rfl) ?_
      refine WO_p (PS_move_ptr rfl) ?_
      refine WO_p (PS_assign_ptr rfl) ?_
      refine WO_p (PS_assign_ptr rfl) ?_
      refine WO_p (PS_assign_bool rfl) ?_
      refine WO_nil ?_
      refine thn_normal ?_
      refine W_ret ?_
      refine bodyQ_ret3 Hvac.results4 rfl rfl rfl (.pointer _) (.pointer _) (.bool _) rfl rfl rfl ?_
      first
      | (refine ⟨(by repeat (first | assumption | exact Ext.refl _ | refine Ext.alloc ?_ _ | refine Ext.drew ?_ | refine Ext.setB ?_ (by first | omega | (simp only [size_alloc, size_setB, size_drew]; omega)) _ | refine Ext.trans ?_ (by assumption))), none, none, rfl, fun h => absurd rfl h⟩; done)
      | (refine ⟨(by repeat (first | assumption | exact Ext.refl _ | refine Ext.alloc ?_ _ | refine Ext.drew ?_ | refine Ext.setB ?_ (by first | omega | (simp only [size_alloc, size_setB, size_drew]; omega)) _ | refine Ext.trans ?_ (by assumption))), p1, p2, rfl, fun _ => ?_⟩
         obtain ⟨C, c, v, B, hs, hOe, h1, h2, h3, h4, h5, h6, h7⟩ := hyO hq0
         have hwk : wok l = true := by rw [hq0] at hq1; cases hw : wok l with | true => rfl | false => rw [hw] at hq1; cases hq1
         obtain ⟨D, a, tt, sh, k1, k2, k3⟩ := hy2 (by rw [← hq1]; exact hq0)
         rw [hOe] at k3
         have hT := Two.newY (c := c) (v := v) h2 hE12 (by omega) k3
         obtain ⟨O, hT⟩ := hT
         exact ⟨C, c, v, B, hs, D, a, tt, sh, O, h1, k1, hT.ext hE23, @RelN.ext ⟨fun _ => False⟩ _ _ _ _ _ _ _ _ (RelN.newY h4 h6 h7 hwk) h2 (hE12.trans hE23), h3, h4, bsum_lt hwk hin, hwk, h5, by omega⟩)

set_option maxRecDepth 10000 in
set_option maxHeartbeats 8000000 in
theorem eBegin_ex [Om] (w0 : World) (C : Nat) (c : Array Value) (v : V) (B : VB) (m : Mc) (t : Tx) (Sb : Int) (w : World) (he : Ext w0 w) (hM : MS w C c v B m) (hId : IdM m) (hF : FilV v 8 128 Sb) (hSb : Sb < 115792089237316195423570985008687907853269984665640564039457584007913129639936) (htx : TxOK w0 t) (hlow : ∀ b, MOwn C B m b → w0.heap.size ≤ b) (y : PSt) (hRN : RelN w v m y) : Ret Hvac.prog 5 #[.pointer (some ⟨C, 0, none⟩), .agg (encTx t).toArray] w fun u w' => u = .int .u8 (yverd y t : Int) ∧ ((yverd y t ≠ 0 ∧ Ext w w') ∨ (yverd y t = 0 ∧ ∃ v' m' S, MRet w C B m w' v' m' ∧ Rel w' v' m' (ybegin khash y t) ∧ (RI scanW v' m' 0 0 S ∨ m'.phase = 2))) := by
  have hblk := hM.vs.blk
  have htl2 : (encTx t).toArray.size = 174 := by simpa using encTx_len htx
  have hxt : Xt (encTx t).toArray 0 (0 + 174) (encTx t).toArray := Xt.whole rfl htl2
  refine Ret_of_W Hvac.func5 rfl rfl ?_
  refine W_seq ?_
  refine W_region rfl ?_
  refine WO_boxG (.agg _) rfl ?_
  intro b3 v3 hg3 hE3 hH3 hl3
  try simp only [size_alloc, size_setB, size_drew] at hg3
  have hzz3 := hE3.1
  try simp only [size_alloc, size_setB, size_drew] at hzz3
  refine WO_p (PS_assign_int rfl) ?_
  refine WO_nil ?_
  refine thn_normal ?_
  refine W_seq ?_
  refine W_drawE [false, false, false, false, false, false] hmix (by kernel_rfl) rfl ?_
  refine WH_p (PS_move_ptr rfl) rfl ?_
  refine WH_p (PS_nilCheck rfl) rfl ?_
  refine WH_p (PS_fieldAddr 0 Hvac.runUnderlying87 rfl Hvac.sizeOf70 rfl rfl) rfl ?_
  refine WH_loadA _ Hvac.isAgg35 Hvac.sizeOf35 rfl (Hb.h (by repeat (first | assumption | exact Hb.newY _ _ | refine Hb.alloc ?_ | refine Hb.drew ?_ | refine Hb.ext (by assumption) ?_ | exact Hb.setSameL (by first | omega | (simp only [size_alloc, size_setB, size_drew]; omega)) | exact Hb.setSame (by assumption) | refine Hb.set (by first | omega | (simp only [size_alloc, size_setB, size_drew]; omega)) ?_ ))) (by first | omega | assumption | rfl | decide | exact Nat.le_refl _ | (simp only [size_ic, Value.cells]; omega) | (simp; omega) | simp) (Xt.h (by first | assumption | exact Xt.whole rfl rfl | exact Xt.whole rfl (by assumption) | exact Xt.whole rfl (by simp only [size_ic, Value.cells]; omega) | exact ⟨rfl⟩)) ?_
  refine WH_call Hvac.call15 (by rfl) (Ret.mono (open_ex w0 C c v B m t Sb _ (Ext.trans he (by repeat (first | assumption | exact Ext.refl _ | refine Ext.alloc ?_ _ | refine Ext.drew ?_ | refine Ext.setB ?_ (by first | omega | (simp only [size_alloc, size_setB, size_drew]; omega)) _ | exact Ext.trans (by assumption) (by assumption) | refine Ext.trans ?_ (by assumption)))) (MS.ext hM (by repeat (first | assumption | exact Ext.refl _ | refine Ext.alloc ?_ _ | refine Ext.drew ?_ | refine Ext.setB ?_ (by first | omega | (simp only [size_alloc, size_setB, size_drew]; omega)) _ | exact Ext.trans (by assumption) (by assumption) | refine Ext.trans ?_ (by assumption)))) hId hF hSb htx hlow y (RelN.ext hRN hM (by repeat (first | assumption | exact Ext.refl _ | refine Ext.alloc ?_ _ | refine Ext.drew ?_ | refine Ext.setB ?_ (by first | omega | (simp only [size_alloc, size_setB, size_drew]; omega)) _ | exact Ext.trans (by assumption) (by assumption) | refine Ext.trans ?_ (by assumption))))) ?_)
  rintro _ w9 ⟨rfl, hC9⟩
  refine ⟨(fun h => by cases h), ?_⟩
  have hE3w : Ext w v3.drew := (by repeat (first | assumption | exact Ext.refl _ | refine Ext.alloc ?_ _ | refine Ext.drew ?_ | refine Ext.setB ?_ (by first | omega | (simp only [size_alloc, size_setB, size_drew]; omega)) _ | exact Ext.trans (by assumption) (by assumption) | refine Ext.trans ?_ (by assumption)))
  refine WH_p (PS_assign_int rfl) rfl ?_
  refine WH_nil ?_
  refine thn_normal ?_
  refine W_ret ?_
  refine bodyQ_ret1 Hvac.results5 rfl (.int _ _) rfl ?_
  refine ⟨rfl, ?_⟩
  rcases hC9 with ⟨h1, h2⟩ | ⟨h1, v9, m9, S9, hR9, h3⟩
  · exact Or.inl ⟨h1, hE3w.trans h2⟩
  · exact Or.inr ⟨h1, v9, m9, S9, MRet.pre hE3w hR9, h3⟩

set_option maxRecDepth 10000 in
set_option maxHeartbeats 8000000 in
theorem eStepR_ex [Om] (C : Nat) (c : Array Value) (v : V) (B : VB) (m : Mc) (t : Nat) (f : Fm) (S : Int) (w : World) (hM : MS w C c v B m) (hf : m.frames[t]? = some f) (hI : RI scanW v m t 0 S) (y : PSt) (rest : List PF) (g : PF) (hRl : Rel w v m (y, rest ++ [g])) : Ret Hvac.prog 10 #[.pointer (some ⟨C, 0, none⟩)] w fun u w' => u = .bool true ∧ ∃ v' m', MRet w C B m w' v' m' ∧ OpP scanW m t 0 S v' m' ∧ Rel w' v' m' (ystep khash y rest g) := by
  refine Ret_of_W Hvac.func10 rfl rfl ?_
  refine W_seq ?_
  refine W_region rfl ?_
  refine WO_p (PS_assign_bool rfl) ?_
  refine WO_nil ?_
  refine thn_normal ?_
  refine W_seq ?_
  refine W_region rfl ?_
  refine WO_p (PS_move_ptr rfl) ?_
  refine WO_p (PS_nilCheck rfl) ?_
  refine WO_p (PS_fieldAddr 0 Hvac.runUnderlying87 rfl Hvac.sizeOf70 rfl rfl) ?_
  refine WO_call Hvac.call39 (by rfl) (Ret.mono (step_ex C c v B m t f S _ (MS.ext hM (by repeat (first | assumption | exact Ext.refl _ | refine Ext.alloc ?_ _ | refine Ext.drew ?_ | refine Ext.setB ?_ (by first | omega | (simp only [size_alloc, size_setB, size_drew]; omega)) _ | exact Ext.trans (by assumption) (by assumption) | refine Ext.trans ?_ (by assumption)))) hf hI y rest g (Rel.ext hRl hM (by repeat (first | assumption | exact Ext.refl _ | refine Ext.alloc ?_ _ | refine Ext.drew ?_ | refine Ext.setB ?_ (by first | omega | (simp only [size_alloc, size_setB, size_drew]; omega)) _ | exact Ext.trans (by assumption) (by assumption) | refine Ext.trans ?_ (by assumption))))) ?_)
  rintro _ w9 ⟨rfl, v9, m9, hR9, hO9⟩
  refine WO_p (PS_assign_bool rfl) ?_
  refine WO_nil ?_
  refine thn_normal ?_
  refine W_ret ?_
  refine bodyQ_ret1 Hvac.results10 rfl (.bool _) rfl ?_
  exact ⟨rfl, v9, m9, MRet.pre (by repeat (first | assumption | exact Ext.refl _ | refine Ext.alloc ?_ _ | refine Ext.drew ?_ | refine Ext.setB ?_ (by first | omega | (simp only [size_alloc, size_setB, size_drew]; omega)) _ | refine Ext.trans ?_ (by assumption))) hR9, hO9⟩

set_option maxRecDepth 10000 in
set_option maxHeartbeats 8000000 in
theorem eStepN_ex [Om] (C : Nat) (c : Array Value) (v : V) (B : VB) (m : Mc) (w : World) (hM : MS w C c v B m) (hp : m.phase ≠ 1) : Ret Hvac.prog 10 #[.pointer (some ⟨C, 0, none⟩)] w fun u w' => u = .bool false ∧ Ext w w' := by
  refine Ret_of_W Hvac.func10 rfl rfl ?_
  refine W_seq ?_
  refine W_region rfl ?_
  refine WO_p (PS_assign_bool rfl) ?_
  refine WO_nil ?_
  refine thn_normal ?_
  refine W_seq ?_
  refine W_region rfl ?_
  refine WO_p (PS_move_ptr rfl) ?_
  refine WO_p (PS_nilCheck rfl) ?_
  refine WO_p (PS_fieldAddr 0 Hvac.runUnderlying87 rfl Hvac.sizeOf70 rfl rfl) ?_
  refine WO_call Hvac.call39 (by rfl) (Ret.mono (stepNo_spec C c v B m _ (MS.ext hM (by repeat (first | assumption | exact Ext.refl _ | refine Ext.alloc ?_ _ | refine Ext.drew ?_ | refine Ext.setB ?_ (by first | omega | (simp only [size_alloc, size_setB, size_drew]; omega)) _ | exact Ext.trans (by assumption) (by assumption) | refine Ext.trans ?_ (by assumption)))) hp) ?_)
  rintro _ w9 ⟨rfl, hE9⟩
  refine WO_p (PS_assign_bool rfl) ?_
  refine WO_nil ?_
  refine thn_normal ?_
  refine W_ret ?_
  refine bodyQ_ret1 Hvac.results10 rfl (.bool _) rfl ?_
  exact ⟨rfl, (by repeat (first | assumption | exact Ext.refl _ | refine Ext.alloc ?_ _ | refine Ext.drew ?_ | refine Ext.setB ?_ (by first | omega | (simp only [size_alloc, size_setB, size_drew]; omega)) _ | refine Ext.trans ?_ (by assumption)))⟩

end Go.Proofs.YgvacwGreat
