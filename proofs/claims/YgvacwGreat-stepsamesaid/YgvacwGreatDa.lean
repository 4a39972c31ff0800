import Derived.Test.YgvacwGreatFz
import Derived.Laws.BytesString
import Derived.Laws.Strings
namespace Go.Proofs.YgvacwGreat
set_option linter.unusedSimpArgs false
set_option linter.unusedVariables false
/-! bytes as strings -/
theorem run_bts {P : Program} {w : World} {s : SV} {L : List Int} (h : AB w s L) : (Conv.bytesToString (.slice s.1 s.2.1 s.2.2)).run P w = .ok (.string (strB L)) w := by
  obtain ⟨p, n, c⟩ := s
  have hl := h.len
  dsimp only at hl ⊢
  cases p with
  | none =>
    rcases Nat.eq_zero_or_pos n with h0 | h0
    · have hL : L = [] := List.eq_nil_of_length_eq_zero (by omega)
      subst hL
      rfl
    · obtain ⟨b, o, r, T, fz, h1, _⟩ := h.row h0
      cases h1
  | some a =>
    refine run_bytesToString ?_
    rcases Nat.eq_zero_or_pos n with h0 | h0
    · have hL : L = [] := List.eq_nil_of_length_eq_zero (by omega)
      subst hL
      subst h0
      rfl
    · obtain ⟨b, o, r, T, fz, h1, h2, h3, h4⟩ := h.row h0
      dsimp only at h1 h3 h4
      injection h1 with h1
      subst h1
      rw [run_loadCells_hp h2.h h3, h4.h]
theorem WO_tostr {P : Program} {ops : Array Oper} {Q : Post} {d : Nat} {ty : TypeId} {pos : String} {af : Array Edge} {os : List Oper} {ρ : Nat → Value} {w : World} {src dst e : TypeId} {x : Operand} {L : List Int} (s : SV) (hs : ∀ w, (underlying src).run P w = .ok (.slice e) w) (hd : ∀ w, (underlying dst).run P w = .ok .string w) (he : ∀ w, (underlying e).run P w = .ok (.int .u8) w) (hx : ev ρ x = .slice s.1 s.2.1 s.2.2) (hL : AB w s L)
    (h : WO P ops Q os (upd ρ d (.string (strB L))) w) : WO P ops Q (⟨some d, .convert src dst x, ty, pos, af, none⟩ :: os) ρ w := by
  refine WO_cons ?_
  simp only [stepo, execOp, convert, hs, hd, he, hx, Sem.run_bind, Sem.run_pure, Result.andThen_ok, run_bts hL]; exact h
theorem PS_eqstr {P : Program} {ρ : Nat → Value} {x y : Operand} {t yt : TypeId} {a b : ByteArray} (hx : ev ρ x = .string a) (hy : ev ρ y = .string b) : PS P (.binOp .eql t x y yt) ρ (.bool (a.toList == b.toList)) :=
  PS_binG hx hy (fun _ => rfl) (fun w => by rw [binOp_string_eql]; rfl)
theorem encVw_9 {v : Vw} (h1 : v.self.length = 20) (h2 : v.caller.length = 20) : Ce (encVw v).toArray (0 + 47) (.slice v.mem.1 v.mem.2.1 v.mem.2.2) ∧ Ce (encVw v).toArray (0 + 48) (.slice v.ret.1 v.ret.2.1 v.ret.2.2) ∧ Ce (encVw v).toArray (0 + 49) (.int .u16 v.nlogs) := by
  obtain ⟨d, q, de, pc, g, r, A, B, s8, s9, s10, nl⟩ := v
  obtain ⟨a0, a1, a2, a3, a4, a5, a6, a7, a8, a9, a10, a11, a12, a13, a14, a15, a16, a17, a18, a19, rfl⟩ := len20 h1
  obtain ⟨e0, e1, e2, e3, e4, e5, e6, e7, e8, e9, e10, e11, e12, e13, e14, e15, e16, e17, e18, e19, rfl⟩ := len20 h2
  exact ⟨⟨rfl⟩, ⟨rfl⟩, ⟨rfl⟩⟩
theorem encVw_s {v : Vw} (h1 : v.self.length = 20) (h2 : v.caller.length = 20) : Xt (encVw v).toArray (0 + 6) (0 + 6 + 20) (ic .u8 v.self) ∧ Xt (encVw v).toArray (0 + 26) (0 + 26 + 20) (ic .u8 v.caller) := by
  obtain ⟨d, q, de, pc, g, r, A, B, s8, s9, s10, nl⟩ := v
  obtain ⟨a0, a1, a2, a3, a4, a5, a6, a7, a8, a9, a10, a11, a12, a13, a14, a15, a16, a17, a18, a19, rfl⟩ := len20 h1
  obtain ⟨e0, e1, e2, e3, e4, e5, e6, e7, e8, e9, e10, e11, e12, e13, e14, e15, e16, e17, e18, e19, rfl⟩ := len20 h2
  exact ⟨⟨by kernel_rfl⟩, ⟨by kernel_rfl⟩⟩

set_option maxRecDepth 10000 in
theorem equalBytes_spec (s s' : SV) (L : List Int) (w : World) (h : AB w s L) (h' : AB w s' L) : Ret Hvac.prog 34 #[.slice s.1 s.2.1 s.2.2, .slice s'.1 s'.2.1 s'.2.2] w fun u w' => u = .bool true ∧ Ext w w' := by
  refine Ret_of_W Hvac.func34 rfl rfl ?_
  refine W_seq ?_
  refine W_region rfl ?_
  refine WO_p (PS_assign_bool rfl) ?_
  refine WO_nil ?_
  refine thn_normal ?_
  refine W_seq ?_
  refine W_region rfl ?_
  refine WO_p (PS_move_slice rfl) ?_
  refine WO_tostr s Hvac.runUnderlying32 Hvac.runUnderlying9 Hvac.runUnderlying5 rfl h ?_
  refine WO_p (PS_move_slice rfl) ?_
  refine WO_tostr s' Hvac.runUnderlying32 Hvac.runUnderlying9 Hvac.runUnderlying5 rfl h' ?_
  refine WO_p (PS_eqstr rfl rfl) ?_
  refine WO_p (PS_assign_bool rfl) ?_
  refine WO_nil ?_
  refine thn_normal ?_
  refine W_ret ?_
  refine bodyQ_ret1 Hvac.results34 rfl (.bool _) rfl ?_
  exact ⟨congrArg Value.bool (by simp), (by repeat (first | assumption | exact Ext.refl _ | refine Ext.alloc ?_ _ | refine Ext.drew ?_ | refine Ext.setB ?_ (by first | omega | (simp only [size_alloc, size_setB, size_drew]; omega)) _ | refine Ext.trans ?_ (by assumption)))⟩

set_option maxRecDepth 10000 in
set_option maxHeartbeats 4000000 in
theorem wordsMeet_spec (s s' : SV) (l : List (List Int)) (w : World) (h : PLA encW32 32 28 w s l) (h' : PLA encW32 32 28 w s' l) (hb : ∀ x ∈ l, By x 32) (hl : l.length ≤ 1000) : Ret Hvac.prog 35 #[.slice s.1 s.2.1 s.2.2, .slice s'.1 s'.2.1 s'.2.2] w fun u w' => u = .bool true ∧ Ext w w' := by
  obtain ⟨p, n, cp⟩ := s
  obtain ⟨p', n', cp'⟩ := s'
  have hn := h.len
  have hn' := h'.len
  dsimp only at hn hn' ⊢
  refine Ret_of_W Hvac.func35 rfl rfl ?_
  refine W_seq ?_
  refine W_region rfl ?_
  refine WO_p (PS_assign_bool rfl) ?_
  refine WO_nil ?_
  refine thn_normal ?_
  refine W_seq ?_
  refine W_seq ?_
  refine W_region rfl ?_
  refine WO_p (PS_move_slice rfl) ?_
  refine WO_p (PS_lenS Hvac.runUnderlying29 rfl) ?_
  refine WO_p (PS_move_slice rfl) ?_
  refine WO_p (PS_lenS Hvac.runUnderlying29 rfl) ?_
  refine WO_p (PS_neq rfl rfl) ?_
  refine WO_nil ?_
  refine thn_normal ?_
  refine W_if rfl (fun hb2 => ?_) (fun hb2 => ?_)
  · have hb2p := hb2.h; try simp only [al_ete, al_dfn, Bool.not_eq_true', Bool.not_eq_false', al_ne, Bool.not_not, al_nn] at hb2p
    exfalso; omega --END
  · have hb2p := hb2.h; try simp only [al_ete, al_dfn, Bool.not_eq_true', Bool.not_eq_false', al_ne, Bool.not_not, al_nn] at hb2p
    refine W_skip ?_
    refine thn_normal ?_
    refine W_seq ?_
    refine W_seq ?_
    refine W_region rfl ?_
    refine WO_p (PS_move_slice rfl) ?_
    refine WO_p (PS_lenS Hvac.runUnderlying29 rfl) ?_
    refine WO_p (PS_move_int rfl) ?_
    refine WO_nil ?_
    refine thn_normal ?_
    refine W_block ?_
    refine W_loopN (fun k ρ w' => ∃ (i : Nat), i + k = n ∧ Ext w w' ∧ Fr [(0, .slice p n cp), (1, .slice p' n' cp'), (12, .int .i64 n), (13, .int .i64 i)] ρ) n ?_ ?_
    · exact ⟨0, by omega, (by repeat (first | assumption | exact Ext.refl _ | refine Ext.alloc ?_ _ | refine Ext.drew ?_ | refine Ext.setB ?_ (by first | omega | (simp only [size_alloc, size_setB, size_drew]; omega)) _ | exact Ext.trans (by assumption) (by assumption) | refine Ext.trans ?_ (by assumption))), ⟨rfl, rfl, rfl, rfl, trivial⟩⟩
    intro kL ρL wL hIL
    obtain ⟨i, hik, hEL, hFrL⟩ := hIL
    refine W_env _ hFrL ?_
    refine W_seq ?_
    refine W_region rfl ?_
    refine WO_p (PS_lss rfl rfl) ?_
    refine WO_nil ?_
    refine thn_normal ?_
    refine W_seq ?_
    refine W_if rfl (fun hb4 => ?_) (fun hb4 => ?_)
    · have hb4p := hb4.h; try simp only [al_ete, al_dfn, Bool.not_eq_true', Bool.not_eq_false', al_ne, Bool.not_not, al_nn] at hb4p
      obtain ⟨x, hx⟩ : ∃ x, l[i]? = some x := ⟨_, List.getElem?_eq_getElem (by omega)⟩
      have hxb := hb x (List.mem_of_getElem? hx)
      have hxE : (encW32 x).length = 32 := by unfold encW32; rw [List.length_map]; exact hxb.1
      obtain ⟨b, r, fz, hp, hbb, hrs, hXi⟩ := pla_at (h.ext hEL) hx hxE
      obtain ⟨b', r', fz', hp', hbb', hrs', hXi'⟩ := pla_at (h'.ext hEL) hx hxE
      subst hp
      subst hp'
      have hAB : AB wL (some ⟨b, 0 + i * 32, none⟩, 32, 32) x := ⟨hxb.1, Nat.le_refl _, hxb.2, fun _ => ⟨b, _, r, _, fz, rfl, hbb, hrs, hXi⟩⟩
      have hAB' : AB wL (some ⟨b', 0 + i * 32, none⟩, 32, 32) x := ⟨hxb.1, Nat.le_refl _, hxb.2, fun _ => ⟨b', _, r', _, fz', rfl, hbb', hrs', hXi'⟩⟩
      refine W_skip ?_
      refine thn_normal ?_
      refine W_seq ?_
      refine W_block ?_
      refine W_seq ?_
      refine W_region rfl ?_
      refine WO_p (PS_move_int rfl) ?_
      refine WO_p (PS_assign_int rfl) ?_
      refine WO_nil ?_
      refine thn_normal ?_
      refine W_seq ?_
      refine W_drawE [false, false, false, false, false, false, false, false, false, false] hmix (by kernel_rfl) rfl ?_
      refine WH_p (PS_move_slice rfl) rfl ?_
      refine WH_p (PS_move_int rfl) rfl ?_
      refine WH_p (PS_indexS Hvac.runUnderlying29 Hvac.sizeOf28 rfl rfl (by omega) (by omega)) rfl ?_
      refine WH_p (PS_slA Hvac.runUnderlying28 Hvac.sizeOf5 rfl (by omega)) rfl ?_
      refine WH_p (PS_move_slice rfl) rfl ?_
      refine WH_p (PS_move_int rfl) rfl ?_
      refine WH_p (PS_indexS Hvac.runUnderlying29 Hvac.sizeOf28 rfl rfl (by omega) (by omega)) rfl ?_
      refine WH_p (PS_slA Hvac.runUnderlying28 Hvac.sizeOf5 rfl (by omega)) rfl ?_
      refine WH_call Hvac.call34 (by rfl) (Ret.mono (equalBytes_spec (some ⟨b, 0 + i * 32, none⟩, 32, 32) (some ⟨b', 0 + i * 32, none⟩, 32, 32) x _ (AB.ext hAB (by repeat (first | assumption | exact Ext.refl _ | refine Ext.alloc ?_ _ | refine Ext.drew ?_ | refine Ext.setB ?_ (by first | omega | (simp only [size_alloc, size_setB, size_drew]; omega)) _ | exact Ext.trans (by assumption) (by assumption) | refine Ext.trans ?_ (by assumption)))) (AB.ext hAB' (by repeat (first | assumption | exact Ext.refl _ | refine Ext.alloc ?_ _ | refine Ext.drew ?_ | refine Ext.setB ?_ (by first | omega | (simp only [size_alloc, size_setB, size_drew]; omega)) _ | exact Ext.trans (by assumption) (by assumption) | refine Ext.trans ?_ (by assumption))))) ?_)
      rintro _ w34_4 ⟨rfl, hE34_4⟩
      refine ⟨(fun h => by cases h), ?_⟩
      have hz34_4 := hE34_4.1
      try simp only [size_alloc, size_setB, size_drew] at hz34_4
      refine WH_p (PS_not rfl) rfl ?_
      refine WH_nil ?_
      refine thn_normal ?_
      refine W_if rfl (fun hb8 => ?_) (fun hb8 => ?_)
      · have hb8p := hb8.h; try simp only [al_ete, al_dfn, Bool.not_eq_true', Bool.not_eq_false', al_ne, Bool.not_not, al_nn] at hb8p
        exfalso; simp at hb8p --END
      · have hb8p := hb8.h; try simp only [al_ete, al_dfn, Bool.not_eq_true', Bool.not_eq_false', al_ne, Bool.not_not, al_nn] at hb8p
        refine W_skip ?_
        refine inBlk_normal ?_
        refine thn_normal ?_
        refine W_region rfl ?_
        refine WO_p (PS_add_i64n rfl rfl (by omega) (by omega)) ?_
        refine WO_p (PS_move_int rfl) ?_
        refine WO_nil ?_
        refine thn_normal ?_
        exact ⟨kL - 1, by omega, i + 1, by omega, (by repeat (first | assumption | exact Ext.refl _ | refine Ext.alloc ?_ _ | refine Ext.drew ?_ | refine Ext.setB ?_ (by first | omega | (simp only [size_alloc, size_setB, size_drew]; omega)) _ | exact Ext.trans (by assumption) (by assumption) | refine Ext.trans ?_ (by assumption))), ⟨rfl, rfl, rfl, congrArg (Value.int .i64) (by omega), trivial⟩⟩
    · have hb4p := hb4.h; try simp only [al_ete, al_dfn, Bool.not_eq_true', Bool.not_eq_false', al_ne, Bool.not_not, al_nn] at hb4p
      refine W_exit ?_
      refine thn_exit ?_
      refine thn_exit ?_
      refine inBlk_exit ?_
      refine thn_normal ?_
      refine W_seq ?_
      refine W_region rfl ?_
      refine WO_p (PS_assign_bool rfl) ?_
      refine WO_nil ?_
      refine thn_normal ?_
      refine W_ret ?_
      refine bodyQ_ret1 Hvac.results35 rfl (.bool _) rfl ?_
      exact ⟨rfl, (by repeat (first | assumption | exact Ext.refl _ | refine Ext.alloc ?_ _ | refine Ext.drew ?_ | refine Ext.setB ?_ (by first | omega | (simp only [size_alloc, size_setB, size_drew]; omega)) _ | refine Ext.trans ?_ (by assumption)))⟩

set_option maxRecDepth 10000 in
set_option maxHeartbeats 4000000 in
theorem viewsMeet_spec (d q : Bool) (de pc g r nl : Int) (A B : List Int) (s8 s9 s10 t8 t9 t10 : SV) (l : List (List Int)) (M R : List Int) (w : World) (hA : By A 20) (hB : By B 20) (h8 : PLA encW32 32 28 w s8 l) (h8' : PLA encW32 32 28 w t8 l) (hb : ∀ x ∈ l, By x 32) (hl : l.length ≤ 1000) (h9 : AB w s9 M) (h9' : AB w t9 M) (h10 : AB w s10 R) (h10' : AB w t10 R) : Ret Hvac.prog 7 #[.agg (encVw ⟨d, q, de, pc, g, r, A, B, s8, s9, s10, nl⟩).toArray, .agg (encVw ⟨d, q, de, pc, g, r, A, B, t8, t9, t10, nl⟩).toArray] w fun u w' => u = .bool true ∧ Ext w w' := by
  have hza : (encVw ⟨d, q, de, pc, g, r, A, B, s8, s9, s10, nl⟩).toArray.size = 50 := encVw_sz hA.1 hB.1
  have hoa := one_Vw ⟨d, q, de, pc, g, r, A, B, s8, s9, s10, nl⟩
  have hXa : Xt (encVw ⟨d, q, de, pc, g, r, A, B, s8, s9, s10, nl⟩).toArray 0 (0 + 50) (encVw ⟨d, q, de, pc, g, r, A, B, s8, s9, s10, nl⟩).toArray := Xt.whole rfl hza
  have hka0 : Ce (encVw ⟨d, q, de, pc, g, r, A, B, s8, s9, s10, nl⟩).toArray (0 + 0) (.bool d) := ⟨rfl⟩
  have hka1 : Ce (encVw ⟨d, q, de, pc, g, r, A, B, s8, s9, s10, nl⟩).toArray (0 + 1) (.bool q) := ⟨rfl⟩
  have hka2 : Ce (encVw ⟨d, q, de, pc, g, r, A, B, s8, s9, s10, nl⟩).toArray (0 + 2) (.int .u8 de) := ⟨rfl⟩
  have hka3 : Ce (encVw ⟨d, q, de, pc, g, r, A, B, s8, s9, s10, nl⟩).toArray (0 + 3) (.int .u16 pc) := ⟨rfl⟩
  have hka4 : Ce (encVw ⟨d, q, de, pc, g, r, A, B, s8, s9, s10, nl⟩).toArray (0 + 4) (.int .u64 g) := ⟨rfl⟩
  have hka5 : Ce (encVw ⟨d, q, de, pc, g, r, A, B, s8, s9, s10, nl⟩).toArray (0 + 5) (.int .u64 r) := ⟨rfl⟩
  have hka8 := encVw_8 (v := ⟨d, q, de, pc, g, r, A, B, s8, s9, s10, nl⟩) hA.1 hB.1
  obtain ⟨hka9, hka10, hka11⟩ := encVw_9 (v := ⟨d, q, de, pc, g, r, A, B, s8, s9, s10, nl⟩) hA.1 hB.1
  obtain ⟨hka6, hka7⟩ := encVw_s (v := ⟨d, q, de, pc, g, r, A, B, s8, s9, s10, nl⟩) hA.1 hB.1
  dsimp only at hka6 hka7 hka8 hka9 hka10 hka11
  have hzb : (encVw ⟨d, q, de, pc, g, r, A, B, t8, t9, t10, nl⟩).toArray.size = 50 := encVw_sz hA.1 hB.1
  have hob := one_Vw ⟨d, q, de, pc, g, r, A, B, t8, t9, t10, nl⟩
  have hXb : Xt (encVw ⟨d, q, de, pc, g, r, A, B, t8, t9, t10, nl⟩).toArray 0 (0 + 50) (encVw ⟨d, q, de, pc, g, r, A, B, t8, t9, t10, nl⟩).toArray := Xt.whole rfl hzb
  have hkb0 : Ce (encVw ⟨d, q, de, pc, g, r, A, B, t8, t9, t10, nl⟩).toArray (0 + 0) (.bool d) := ⟨rfl⟩
  have hkb1 : Ce (encVw ⟨d, q, de, pc, g, r, A, B, t8, t9, t10, nl⟩).toArray (0 + 1) (.bool q) := ⟨rfl⟩
  have hkb2 : Ce (encVw ⟨d, q, de, pc, g, r, A, B, t8, t9, t10, nl⟩).toArray (0 + 2) (.int .u8 de) := ⟨rfl⟩
  have hkb3 : Ce (encVw ⟨d, q, de, pc, g, r, A, B, t8, t9, t10, nl⟩).toArray (0 + 3) (.int .u16 pc) := ⟨rfl⟩
  have hkb4 : Ce (encVw ⟨d, q, de, pc, g, r, A, B, t8, t9, t10, nl⟩).toArray (0 + 4) (.int .u64 g) := ⟨rfl⟩
  have hkb5 : Ce (encVw ⟨d, q, de, pc, g, r, A, B, t8, t9, t10, nl⟩).toArray (0 + 5) (.int .u64 r) := ⟨rfl⟩
  have hkb8 := encVw_8 (v := ⟨d, q, de, pc, g, r, A, B, t8, t9, t10, nl⟩) hA.1 hB.1
  obtain ⟨hkb9, hkb10, hkb11⟩ := encVw_9 (v := ⟨d, q, de, pc, g, r, A, B, t8, t9, t10, nl⟩) hA.1 hB.1
  obtain ⟨hkb6, hkb7⟩ := encVw_s (v := ⟨d, q, de, pc, g, r, A, B, t8, t9, t10, nl⟩) hA.1 hB.1
  dsimp only at hkb6 hkb7 hkb8 hkb9 hkb10 hkb11
  
  refine Ret_of_W Hvac.func7 rfl rfl ?_
  refine W_seq ?_
  refine W_region rfl ?_
  refine WO_boxG (.agg _) rfl ?_
  intro b2 v2 hg2 hE2 hH2 hl2
  try simp only [size_alloc, size_setB, size_drew] at hg2
  have hzz2 := hE2.1
  try simp only [size_alloc, size_setB, size_drew] at hzz2
  refine WO_boxG (.agg _) rfl ?_
  intro b3 v3 hg3 hE3 hH3 hl3
  try simp only [size_alloc, size_setB, size_drew] at hg3
  have hzz3 := hE3.1
  try simp only [size_alloc, size_setB, size_drew] at hzz3
  refine WO_p (PS_assign_bool rfl) ?_
  refine WO_nil ?_
  refine thn_normal ?_
  refine W_seq ?_
  refine W_region rfl ?_
  refine WO_p (PS_fieldAddr 0 Hvac.runUnderlying44 rfl Hvac.sizeOf4 rfl rfl) ?_
  refine WO_load (.bool _) Hvac.isAgg4 rfl (Hb.h (by repeat (first | assumption | exact Hb.newY _ _ | refine Hb.alloc ?_ | refine Hb.drew ?_ | refine Hb.ext (by assumption) ?_ | exact Hb.setSameL (by first | omega | (simp only [size_alloc, size_setB, size_drew]; omega)) | exact Hb.setSame (by assumption) | refine Hb.set (by first | omega | (simp only [size_alloc, size_setB, size_drew]; omega)) ?_ ))) (Ce.h (by first | assumption | exact ⟨rfl⟩)) ?_
  refine WO_p (PS_fieldAddr 0 Hvac.runUnderlying44 rfl Hvac.sizeOf4 rfl rfl) ?_
  refine WO_load (.bool _) Hvac.isAgg4 rfl (Hb.h (by repeat (first | assumption | exact Hb.newY _ _ | refine Hb.alloc ?_ | refine Hb.drew ?_ | refine Hb.ext (by assumption) ?_ | exact Hb.setSameL (by first | omega | (simp only [size_alloc, size_setB, size_drew]; omega)) | exact Hb.setSame (by assumption) | refine Hb.set (by first | omega | (simp only [size_alloc, size_setB, size_drew]; omega)) ?_ ))) (Ce.h (by first | assumption | exact ⟨rfl⟩)) ?_
  refine WO_p (PS_eqlbool Hvac.underlying4 rfl rfl) ?_
  refine WO_p (PS_move_bool rfl) ?_
  refine WO_if (t := 14) rfl (fun hb4 => ?_) (fun hb4 => ?_)
  · have hb4p := hb4.h; try simp only [al_ete, al_dfn, Bool.not_eq_true', Bool.not_eq_false', al_ne, Bool.not_not, al_nn] at hb4p
    refine WO_guardT rfl rfl hb4.h ?_
    refine WO_p (PS_fieldAddr 1 Hvac.runUnderlying44 rfl Hvac.sizeOf4 rfl rfl) ?_
    refine WO_guardT rfl rfl hb4.h ?_
    refine WO_load (.bool _) Hvac.isAgg4 rfl (Hb.h (by repeat (first | assumption | exact Hb.newY _ _ | refine Hb.alloc ?_ | refine Hb.drew ?_ | refine Hb.ext (by assumption) ?_ | exact Hb.setSameL (by first | omega | (simp only [size_alloc, size_setB, size_drew]; omega)) | exact Hb.setSame (by assumption) | refine Hb.set (by first | omega | (simp only [size_alloc, size_setB, size_drew]; omega)) ?_ ))) (Ce.h (by first | assumption | exact ⟨rfl⟩)) ?_
    refine WO_guardT rfl rfl hb4.h ?_
    refine WO_p (PS_fieldAddr 1 Hvac.runUnderlying44 rfl Hvac.sizeOf4 rfl rfl) ?_
    refine WO_guardT rfl rfl hb4.h ?_
    refine WO_load (.bool _) Hvac.isAgg4 rfl (Hb.h (by repeat (first | assumption | exact Hb.newY _ _ | refine Hb.alloc ?_ | refine Hb.drew ?_ | refine Hb.ext (by assumption) ?_ | exact Hb.setSameL (by first | omega | (simp only [size_alloc, size_setB, size_drew]; omega)) | exact Hb.setSame (by assumption) | refine Hb.set (by first | omega | (simp only [size_alloc, size_setB, size_drew]; omega)) ?_ ))) (Ce.h (by first | assumption | exact ⟨rfl⟩)) ?_
    refine WO_guardT rfl rfl hb4.h ?_
    refine WO_p (PS_eqlbool Hvac.underlying4 rfl rfl) ?_
    refine WO_p (PS_pickT rfl hb4.h rfl) ?_
    refine WO_p (PS_assign_bool rfl) ?_
    refine WO_nil ?_
    refine thn_normal ?_
    refine W_seq ?_
    refine W_region rfl ?_
    refine WO_p (PS_fieldAddr 2 Hvac.runUnderlying44 rfl Hvac.sizeOf5 rfl rfl) ?_
    refine WO_load (.int _ _) Hvac.isAgg5 rfl (Hb.h (by repeat (first | assumption | exact Hb.newY _ _ | refine Hb.alloc ?_ | refine Hb.drew ?_ | refine Hb.ext (by assumption) ?_ | exact Hb.setSameL (by first | omega | (simp only [size_alloc, size_setB, size_drew]; omega)) | exact Hb.setSame (by assumption) | refine Hb.set (by first | omega | (simp only [size_alloc, size_setB, size_drew]; omega)) ?_ ))) (Ce.h (by first | assumption | exact ⟨rfl⟩)) ?_
    refine WO_p (PS_fieldAddr 2 Hvac.runUnderlying44 rfl Hvac.sizeOf5 rfl rfl) ?_
    refine WO_load (.int _ _) Hvac.isAgg5 rfl (Hb.h (by repeat (first | assumption | exact Hb.newY _ _ | refine Hb.alloc ?_ | refine Hb.drew ?_ | refine Hb.ext (by assumption) ?_ | exact Hb.setSameL (by first | omega | (simp only [size_alloc, size_setB, size_drew]; omega)) | exact Hb.setSame (by assumption) | refine Hb.set (by first | omega | (simp only [size_alloc, size_setB, size_drew]; omega)) ?_ ))) (Ce.h (by first | assumption | exact ⟨rfl⟩)) ?_
    refine WO_p (PS_eql rfl rfl) ?_
    refine WO_p (PS_move_bool rfl) ?_
    refine WO_if (t := 26) rfl (fun hb9 => ?_) (fun hb9 => ?_)
    · have hb9p := hb9.h; try simp only [al_ete, al_dfn, Bool.not_eq_true', Bool.not_eq_false', al_ne, Bool.not_not, al_nn] at hb9p
      refine WO_guardT rfl rfl hb9.h ?_
      refine WO_p (PS_fieldAddr 3 Hvac.runUnderlying44 rfl Hvac.sizeOf42 rfl rfl) ?_
      refine WO_guardT rfl rfl hb9.h ?_
      refine WO_load (.int _ _) Hvac.isAgg42 rfl (Hb.h (by repeat (first | assumption | exact Hb.newY _ _ | refine Hb.alloc ?_ | refine Hb.drew ?_ | refine Hb.ext (by assumption) ?_ | exact Hb.setSameL (by first | omega | (simp only [size_alloc, size_setB, size_drew]; omega)) | exact Hb.setSame (by assumption) | refine Hb.set (by first | omega | (simp only [size_alloc, size_setB, size_drew]; omega)) ?_ ))) (Ce.h (by first | assumption | exact ⟨rfl⟩)) ?_
      refine WO_guardT rfl rfl hb9.h ?_
      refine WO_p (PS_fieldAddr 3 Hvac.runUnderlying44 rfl Hvac.sizeOf42 rfl rfl) ?_
      refine WO_guardT rfl rfl hb9.h ?_
      refine WO_load (.int _ _) Hvac.isAgg42 rfl (Hb.h (by repeat (first | assumption | exact Hb.newY _ _ | refine Hb.alloc ?_ | refine Hb.drew ?_ | refine Hb.ext (by assumption) ?_ | exact Hb.setSameL (by first | omega | (simp only [size_alloc, size_setB, size_drew]; omega)) | exact Hb.setSame (by assumption) | refine Hb.set (by first | omega | (simp only [size_alloc, size_setB, size_drew]; omega)) ?_ ))) (Ce.h (by first | assumption | exact ⟨rfl⟩)) ?_
      refine WO_guardT rfl rfl hb9.h ?_
      refine WO_p (PS_eql rfl rfl) ?_
      refine WO_p (PS_pickT rfl hb9.h rfl) ?_
      refine WO_p (PS_move_bool rfl) ?_
      refine WO_if (t := 33) rfl (fun hb11 => ?_) (fun hb11 => ?_)
      · have hb11p := hb11.h; try simp only [al_ete, al_dfn, Bool.not_eq_true', Bool.not_eq_false', al_ne, Bool.not_not, al_nn] at hb11p
        refine WO_guardT rfl rfl hb11.h ?_
        refine WO_p (PS_fieldAddr 4 Hvac.runUnderlying44 rfl Hvac.sizeOf26 rfl rfl) ?_
        refine WO_guardT rfl rfl hb11.h ?_
        refine WO_load (.int _ _) Hvac.isAgg26 rfl (Hb.h (by repeat (first | assumption | exact Hb.newY _ _ | refine Hb.alloc ?_ | refine Hb.drew ?_ | refine Hb.ext (by assumption) ?_ | exact Hb.setSameL (by first | omega | (simp only [size_alloc, size_setB, size_drew]; omega)) | exact Hb.setSame (by assumption) | refine Hb.set (by first | omega | (simp only [size_alloc, size_setB, size_drew]; omega)) ?_ ))) (Ce.h (by first | assumption | exact ⟨rfl⟩)) ?_
        refine WO_guardT rfl rfl hb11.h ?_
        refine WO_p (PS_fieldAddr 4 Hvac.runUnderlying44 rfl Hvac.sizeOf26 rfl rfl) ?_
        refine WO_guardT rfl rfl hb11.h ?_
        refine WO_load (.int _ _) Hvac.isAgg26 rfl (Hb.h (by repeat (first | assumption | exact Hb.newY _ _ | refine Hb.alloc ?_ | refine Hb.drew ?_ | refine Hb.ext (by assumption) ?_ | exact Hb.setSameL (by first | omega | (simp only [size_alloc, size_setB, size_drew]; omega)) | exact Hb.setSame (by assumption) | refine Hb.set (by first | omega | (simp only [size_alloc, size_setB, size_drew]; omega)) ?_ ))) (Ce.h (by first | assumption | exact ⟨rfl⟩)) ?_
        refine WO_guardT rfl rfl hb11.h ?_
        refine WO_p (PS_eql rfl rfl) ?_
        refine WO_p (PS_pickT rfl hb11.h rfl) ?_
        refine WO_p (PS_move_bool rfl) ?_
        refine WO_if (t := 40) rfl (fun hb13 => ?_) (fun hb13 => ?_)
        · have hb13p := hb13.h; try simp only [al_ete, al_dfn, Bool.not_eq_true', Bool.not_eq_false', al_ne, Bool.not_not, al_nn] at hb13p
          refine WO_guardT rfl rfl hb13.h ?_
          refine WO_p (PS_fieldAddr 5 Hvac.runUnderlying44 rfl Hvac.sizeOf26 rfl rfl) ?_
          refine WO_guardT rfl rfl hb13.h ?_
          refine WO_load (.int _ _) Hvac.isAgg26 rfl (Hb.h (by repeat (first | assumption | exact Hb.newY _ _ | refine Hb.alloc ?_ | refine Hb.drew ?_ | refine Hb.ext (by assumption) ?_ | exact Hb.setSameL (by first | omega | (simp only [size_alloc, size_setB, size_drew]; omega)) | exact Hb.setSame (by assumption) | refine Hb.set (by first | omega | (simp only [size_alloc, size_setB, size_drew]; omega)) ?_ ))) (Ce.h (by first | assumption | exact ⟨rfl⟩)) ?_
          refine WO_guardT rfl rfl hb13.h ?_
          refine WO_p (PS_fieldAddr 5 Hvac.runUnderlying44 rfl Hvac.sizeOf26 rfl rfl) ?_
          refine WO_guardT rfl rfl hb13.h ?_
          refine WO_load (.int _ _) Hvac.isAgg26 rfl (Hb.h (by repeat (first | assumption | exact Hb.newY _ _ | refine Hb.alloc ?_ | refine Hb.drew ?_ | refine Hb.ext (by assumption) ?_ | exact Hb.setSameL (by first | omega | (simp only [size_alloc, size_setB, size_drew]; omega)) | exact Hb.setSame (by assumption) | refine Hb.set (by first | omega | (simp only [size_alloc, size_setB, size_drew]; omega)) ?_ ))) (Ce.h (by first | assumption | exact ⟨rfl⟩)) ?_
          refine WO_guardT rfl rfl hb13.h ?_
          refine WO_p (PS_eql rfl rfl) ?_
          refine WO_p (PS_pickT rfl hb13.h rfl) ?_
          refine WO_p (PS_move_bool rfl) ?_
          refine WO_if (t := 47) rfl (fun hb15 => ?_) (fun hb15 => ?_)
          · have hb15p := hb15.h; try simp only [al_ete, al_dfn, Bool.not_eq_true', Bool.not_eq_false', al_ne, Bool.not_not, al_nn] at hb15p
            refine WO_guardT rfl rfl hb15.h ?_
            refine WO_p (PS_fieldAddr 49 Hvac.runUnderlying44 rfl Hvac.sizeOf42 rfl rfl) ?_
            refine WO_guardT rfl rfl hb15.h ?_
            refine WO_load (.int _ _) Hvac.isAgg42 rfl (Hb.h (by repeat (first | assumption | exact Hb.newY _ _ | refine Hb.alloc ?_ | refine Hb.drew ?_ | refine Hb.ext (by assumption) ?_ | exact Hb.setSameL (by first | omega | (simp only [size_alloc, size_setB, size_drew]; omega)) | exact Hb.setSame (by assumption) | refine Hb.set (by first | omega | (simp only [size_alloc, size_setB, size_drew]; omega)) ?_ ))) (Ce.h (by first | assumption | exact ⟨rfl⟩)) ?_
            refine WO_guardT rfl rfl hb15.h ?_
            refine WO_p (PS_fieldAddr 49 Hvac.runUnderlying44 rfl Hvac.sizeOf42 rfl rfl) ?_
            refine WO_guardT rfl rfl hb15.h ?_
            refine WO_load (.int _ _) Hvac.isAgg42 rfl (Hb.h (by repeat (first | assumption | exact Hb.newY _ _ | refine Hb.alloc ?_ | refine Hb.drew ?_ | refine Hb.ext (by assumption) ?_ | exact Hb.setSameL (by first | omega | (simp only [size_alloc, size_setB, size_drew]; omega)) | exact Hb.setSame (by assumption) | refine Hb.set (by first | omega | (simp only [size_alloc, size_setB, size_drew]; omega)) ?_ ))) (Ce.h (by first | assumption | exact ⟨rfl⟩)) ?_
            refine WO_guardT rfl rfl hb15.h ?_
            refine WO_p (PS_eql rfl rfl) ?_
            refine WO_p (PS_pickT rfl hb15.h rfl) ?_
            refine WO_p (PS_assign_bool rfl) ?_
            refine WO_nil ?_
            refine thn_normal ?_
            refine W_seq ?_
            refine W_drawE [false, false, false, false, false, false, false, false, false, false, false, false, false] hmix (by kernel_rfl) rfl ?_
            refine WH_p (PS_fieldAddr 6 Hvac.runUnderlying44 rfl Hvac.sizeOf25 rfl rfl) rfl ?_
            refine WH_p (PS_slA Hvac.runUnderlying25 Hvac.sizeOf5 rfl (by omega)) rfl ?_
            refine WH_p (PS_fieldAddr 6 Hvac.runUnderlying44 rfl Hvac.sizeOf25 rfl rfl) rfl ?_
            refine WH_p (PS_slA Hvac.runUnderlying25 Hvac.sizeOf5 rfl (by omega)) rfl ?_
            refine WH_call Hvac.call34 (by rfl) (Ret.mono (equalBytes_spec (some ⟨b2, 0 + 6, none⟩, 20, 20) (some ⟨b3, 0 + 6, none⟩, 20, 20) A _ (⟨hA.1, Nat.le_refl _, hA.2, fun _ => ⟨b2, _, _, 44, (0, 0), rfl, Hb.mk (Hb.h (by repeat (first | assumption | exact Hb.newY _ _ | refine Hb.alloc ?_ | refine Hb.drew ?_ | refine Hb.ext (by assumption) ?_ | exact Hb.setSameL (by first | omega | (simp only [size_alloc, size_setB, size_drew]; omega)) | exact Hb.setSame (by assumption) | refine Hb.set (by first | omega | (simp only [size_alloc, size_setB, size_drew]; omega)) ?_ ))), by rw [hza]; show 6 + 20 ≤ 50; decide, hka6⟩⟩ : AB _ (some ⟨b2, 0 + 6, none⟩, 20, 20) A) (⟨hA.1, Nat.le_refl _, hA.2, fun _ => ⟨b3, _, _, 44, (0, 0), rfl, Hb.mk (Hb.h (by repeat (first | assumption | exact Hb.newY _ _ | refine Hb.alloc ?_ | refine Hb.drew ?_ | refine Hb.ext (by assumption) ?_ | exact Hb.setSameL (by first | omega | (simp only [size_alloc, size_setB, size_drew]; omega)) | exact Hb.setSame (by assumption) | refine Hb.set (by first | omega | (simp only [size_alloc, size_setB, size_drew]; omega)) ?_ ))), by rw [hzb]; show 6 + 20 ≤ 50; decide, hkb6⟩⟩ : AB _ (some ⟨b3, 0 + 6, none⟩, 20, 20) A)) ?_)
            rintro _ w34_16 ⟨rfl, hE34_16⟩
            refine ⟨(fun h => by cases h), ?_⟩
            have hz34_16 := hE34_16.1
            try simp only [size_alloc, size_setB, size_drew] at hz34_16
            refine WH_p (PS_move_bool rfl) rfl ?_
            refine WH_if (t := 59) rfl (fun hb19 => ?_) (fun hb19 => ?_)
            · have hb19p := hb19.h; try simp only [al_ete, al_dfn, Bool.not_eq_true', Bool.not_eq_false', al_ne, Bool.not_not, al_nn] at hb19p
              refine WH_guardT rfl rfl hb19.h ?_
              refine WH_p (PS_fieldAddr 26 Hvac.runUnderlying44 rfl Hvac.sizeOf25 rfl rfl) rfl ?_
              refine WH_guardT rfl rfl hb19.h ?_
              refine WH_p (PS_slA Hvac.runUnderlying25 Hvac.sizeOf5 rfl (by omega)) rfl ?_
              refine WH_guardT rfl rfl hb19.h ?_
              refine WH_p (PS_fieldAddr 26 Hvac.runUnderlying44 rfl Hvac.sizeOf25 rfl rfl) rfl ?_
              refine WH_guardT rfl rfl hb19.h ?_
              refine WH_p (PS_slA Hvac.runUnderlying25 Hvac.sizeOf5 rfl (by omega)) rfl ?_
              refine WH_guardT rfl rfl hb19.h ?_
              refine WH_call Hvac.call34 (by rfl) (Ret.mono (equalBytes_spec (some ⟨b2, 0 + 26, none⟩, 20, 20) (some ⟨b3, 0 + 26, none⟩, 20, 20) B _ (⟨hB.1, Nat.le_refl _, hB.2, fun _ => ⟨b2, _, _, 44, (0, 0), rfl, Hb.mk (Hb.h (by repeat (first | assumption | exact Hb.newY _ _ | refine Hb.alloc ?_ | refine Hb.drew ?_ | refine Hb.ext (by assumption) ?_ | exact Hb.setSameL (by first | omega | (simp only [size_alloc, size_setB, size_drew]; omega)) | exact Hb.setSame (by assumption) | refine Hb.set (by first | omega | (simp only [size_alloc, size_setB, size_drew]; omega)) ?_ ))), by rw [hza]; show 26 + 20 ≤ 50; decide, hka7⟩⟩ : AB _ (some ⟨b2, 0 + 26, none⟩, 20, 20) B) (⟨hB.1, Nat.le_refl _, hB.2, fun _ => ⟨b3, _, _, 44, (0, 0), rfl, Hb.mk (Hb.h (by repeat (first | assumption | exact Hb.newY _ _ | refine Hb.alloc ?_ | refine Hb.drew ?_ | refine Hb.ext (by assumption) ?_ | exact Hb.setSameL (by first | omega | (simp only [size_alloc, size_setB, size_drew]; omega)) | exact Hb.setSame (by assumption) | refine Hb.set (by first | omega | (simp only [size_alloc, size_setB, size_drew]; omega)) ?_ ))), by rw [hzb]; show 26 + 20 ≤ 50; decide, hkb7⟩⟩ : AB _ (some ⟨b3, 0 + 26, none⟩, 20, 20) B)) ?_)
              rintro _ w34_19 ⟨rfl, hE34_19⟩
              refine ⟨(fun h => by cases h), ?_⟩
              have hz34_19 := hE34_19.1
              try simp only [size_alloc, size_setB, size_drew] at hz34_19
              refine WH_p (PS_pickT rfl hb19.h rfl) rfl ?_
              refine WH_p (PS_assign_bool rfl) rfl ?_
              refine WH_nil ?_
              refine thn_normal ?_
              refine W_seq ?_
              refine W_region rfl ?_
              refine WO_p (PS_fieldAddr 46 Hvac.runUnderlying44 rfl Hvac.sizeOf29 rfl rfl) ?_
              refine WO_load (.slice _ _ _) Hvac.isAgg29 rfl (Hb.h (by repeat (first | assumption | exact Hb.newY _ _ | refine Hb.alloc ?_ | refine Hb.drew ?_ | refine Hb.ext (by assumption) ?_ | exact Hb.setSameL (by first | omega | (simp only [size_alloc, size_setB, size_drew]; omega)) | exact Hb.setSame (by assumption) | refine Hb.set (by first | omega | (simp only [size_alloc, size_setB, size_drew]; omega)) ?_ ))) (Ce.h (by first | assumption | exact ⟨rfl⟩)) ?_
              refine WO_p (PS_fieldAddr 46 Hvac.runUnderlying44 rfl Hvac.sizeOf29 rfl rfl) ?_
              refine WO_load (.slice _ _ _) Hvac.isAgg29 rfl (Hb.h (by repeat (first | assumption | exact Hb.newY _ _ | refine Hb.alloc ?_ | refine Hb.drew ?_ | refine Hb.ext (by assumption) ?_ | exact Hb.setSameL (by first | omega | (simp only [size_alloc, size_setB, size_drew]; omega)) | exact Hb.setSame (by assumption) | refine Hb.set (by first | omega | (simp only [size_alloc, size_setB, size_drew]; omega)) ?_ ))) (Ce.h (by first | assumption | exact ⟨rfl⟩)) ?_
              refine WO_call Hvac.call35 (by rfl) (Ret.mono (wordsMeet_spec s8 t8 l _ (PLA.ext h8 (by repeat (first | assumption | exact Ext.refl _ | refine Ext.alloc ?_ _ | refine Ext.drew ?_ | refine Ext.setB ?_ (by first | omega | (simp only [size_alloc, size_setB, size_drew]; omega)) _ | exact Ext.trans (by assumption) (by assumption) | refine Ext.trans ?_ (by assumption)))) (PLA.ext h8' (by repeat (first | assumption | exact Ext.refl _ | refine Ext.alloc ?_ _ | refine Ext.drew ?_ | refine Ext.setB ?_ (by first | omega | (simp only [size_alloc, size_setB, size_drew]; omega)) _ | exact Ext.trans (by assumption) (by assumption) | refine Ext.trans ?_ (by assumption)))) hb hl) ?_)
              rintro _ w35_21 ⟨rfl, hE35_21⟩
              have hz35_21 := hE35_21.1
              try simp only [size_alloc, size_setB, size_drew] at hz35_21
              refine WO_p (PS_move_bool rfl) ?_
              refine WO_if (t := 71) rfl (fun hb24 => ?_) (fun hb24 => ?_)
              · have hb24p := hb24.h; try simp only [al_ete, al_dfn, Bool.not_eq_true', Bool.not_eq_false', al_ne, Bool.not_not, al_nn] at hb24p
                refine WO_guardT rfl rfl hb24.h ?_
                refine WO_p (PS_fieldAddr 47 Hvac.runUnderlying44 rfl Hvac.sizeOf32 rfl rfl) ?_
                refine WO_guardT rfl rfl hb24.h ?_
                refine WO_load (.slice _ _ _) Hvac.isAgg32 rfl (Hb.h (by repeat (first | assumption | exact Hb.newY _ _ | refine Hb.alloc ?_ | refine Hb.drew ?_ | refine Hb.ext (by assumption) ?_ | exact Hb.setSameL (by first | omega | (simp only [size_alloc, size_setB, size_drew]; omega)) | exact Hb.setSame (by assumption) | refine Hb.set (by first | omega | (simp only [size_alloc, size_setB, size_drew]; omega)) ?_ ))) (Ce.h (by first | assumption | exact ⟨rfl⟩)) ?_
                refine WO_guardT rfl rfl hb24.h ?_
                refine WO_p (PS_fieldAddr 47 Hvac.runUnderlying44 rfl Hvac.sizeOf32 rfl rfl) ?_
                refine WO_guardT rfl rfl hb24.h ?_
                refine WO_load (.slice _ _ _) Hvac.isAgg32 rfl (Hb.h (by repeat (first | assumption | exact Hb.newY _ _ | refine Hb.alloc ?_ | refine Hb.drew ?_ | refine Hb.ext (by assumption) ?_ | exact Hb.setSameL (by first | omega | (simp only [size_alloc, size_setB, size_drew]; omega)) | exact Hb.setSame (by assumption) | refine Hb.set (by first | omega | (simp only [size_alloc, size_setB, size_drew]; omega)) ?_ ))) (Ce.h (by first | assumption | exact ⟨rfl⟩)) ?_
                refine WO_guardT rfl rfl hb24.h ?_
                refine WO_call Hvac.call34 (by rfl) (Ret.mono (equalBytes_spec s9 t9 M _ (AB.ext h9 (by repeat (first | assumption | exact Ext.refl _ | refine Ext.alloc ?_ _ | refine Ext.drew ?_ | refine Ext.setB ?_ (by first | omega | (simp only [size_alloc, size_setB, size_drew]; omega)) _ | exact Ext.trans (by assumption) (by assumption) | refine Ext.trans ?_ (by assumption)))) (AB.ext h9' (by repeat (first | assumption | exact Ext.refl _ | refine Ext.alloc ?_ _ | refine Ext.drew ?_ | refine Ext.setB ?_ (by first | omega | (simp only [size_alloc, size_setB, size_drew]; omega)) _ | exact Ext.trans (by assumption) (by assumption) | refine Ext.trans ?_ (by assumption))))) ?_)
                rintro _ w34_24 ⟨rfl, hE34_24⟩
                have hz34_24 := hE34_24.1
                try simp only [size_alloc, size_setB, size_drew] at hz34_24
                refine WO_p (PS_pickT rfl hb24.h rfl) ?_
                refine WO_p (PS_move_bool rfl) ?_
                refine WO_if (t := 78) rfl (fun hb27 => ?_) (fun hb27 => ?_)
                · have hb27p := hb27.h; try simp only [al_ete, al_dfn, Bool.not_eq_true', Bool.not_eq_false', al_ne, Bool.not_not, al_nn] at hb27p
                  refine WO_guardT rfl rfl hb27.h ?_
                  refine WO_p (PS_fieldAddr 48 Hvac.runUnderlying44 rfl Hvac.sizeOf32 rfl rfl) ?_
                  refine WO_guardT rfl rfl hb27.h ?_
                  refine WO_load (.slice _ _ _) Hvac.isAgg32 rfl (Hb.h (by repeat (first | assumption | exact Hb.newY _ _ | refine Hb.alloc ?_ | refine Hb.drew ?_ | refine Hb.ext (by assumption) ?_ | exact Hb.setSameL (by first | omega | (simp only [size_alloc, size_setB, size_drew]; omega)) | exact Hb.setSame (by assumption) | refine Hb.set (by first | omega | (simp only [size_alloc, size_setB, size_drew]; omega)) ?_ ))) (Ce.h (by first | assumption | exact ⟨rfl⟩)) ?_
                  refine WO_guardT rfl rfl hb27.h ?_
                  refine WO_p (PS_fieldAddr 48 Hvac.runUnderlying44 rfl Hvac.sizeOf32 rfl rfl) ?_
                  refine WO_guardT rfl rfl hb27.h ?_
                  refine WO_load (.slice _ _ _) Hvac.isAgg32 rfl (Hb.h (by repeat (first | assumption | exact Hb.newY _ _ | refine Hb.alloc ?_ | refine Hb.drew ?_ | refine Hb.ext (by assumption) ?_ | exact Hb.setSameL (by first | omega | (simp only [size_alloc, size_setB, size_drew]; omega)) | exact Hb.setSame (by assumption) | refine Hb.set (by first | omega | (simp only [size_alloc, size_setB, size_drew]; omega)) ?_ ))) (Ce.h (by first | assumption | exact ⟨rfl⟩)) ?_
                  refine WO_guardT rfl rfl hb27.h ?_
                  refine WO_call Hvac.call34 (by rfl) (Ret.mono (equalBytes_spec s10 t10 R _ (AB.ext h10 (by repeat (first | assumption | exact Ext.refl _ | refine Ext.alloc ?_ _ | refine Ext.drew ?_ | refine Ext.setB ?_ (by first | omega | (simp only [size_alloc, size_setB, size_drew]; omega)) _ | exact Ext.trans (by assumption) (by assumption) | refine Ext.trans ?_ (by assumption)))) (AB.ext h10' (by repeat (first | assumption | exact Ext.refl _ | refine Ext.alloc ?_ _ | refine Ext.drew ?_ | refine Ext.setB ?_ (by first | omega | (simp only [size_alloc, size_setB, size_drew]; omega)) _ | exact Ext.trans (by assumption) (by assumption) | refine Ext.trans ?_ (by assumption))))) ?_)
                  rintro _ w34_27 ⟨rfl, hE34_27⟩
                  have hz34_27 := hE34_27.1
                  try simp only [size_alloc, size_setB, size_drew] at hz34_27
                  refine WO_p (PS_pickT rfl hb27.h rfl) ?_
                  refine WO_p (PS_assign_bool rfl) ?_
                  refine WO_nil ?_
                  refine thn_normal ?_
                  refine W_seq ?_
                  refine W_region rfl ?_
                  refine WO_p (PS_move_bool rfl) ?_
                  refine WO_p (PS_move_bool rfl) ?_
                  refine WO_if (t := 86) rfl (fun hb30 => ?_) (fun hb30 => ?_)
                  · have hb30p := hb30.h; try simp only [al_ete, al_dfn, Bool.not_eq_true', Bool.not_eq_false', al_ne, Bool.not_not, al_nn] at hb30p
                    refine WO_guardT rfl rfl hb30.h ?_
                    refine WO_p (PS_move_bool rfl) ?_
                    refine WO_p (PS_pickT rfl hb30.h rfl) ?_
                    refine WO_p (PS_move_bool rfl) ?_
                    refine WO_if (t := 89) rfl (fun hb31 => ?_) (fun hb31 => ?_)
                    · have hb31p := hb31.h; try simp only [al_ete, al_dfn, Bool.not_eq_true', Bool.not_eq_false', al_ne, Bool.not_not, al_nn] at hb31p
                      refine WO_guardT rfl rfl hb31.h ?_
                      refine WO_p (PS_move_bool rfl) ?_
                      refine WO_p (PS_pickT rfl hb31.h rfl) ?_
                      refine WO_p (PS_move_bool rfl) ?_
                      refine WO_if (t := 92) rfl (fun hb32 => ?_) (fun hb32 => ?_)
                      · have hb32p := hb32.h; try simp only [al_ete, al_dfn, Bool.not_eq_true', Bool.not_eq_false', al_ne, Bool.not_not, al_nn] at hb32p
                        refine WO_guardT rfl rfl hb32.h ?_
                        refine WO_p (PS_move_bool rfl) ?_
                        refine WO_p (PS_pickT rfl hb32.h rfl) ?_
                        refine WO_p (PS_assign_bool rfl) ?_
                        refine WO_nil ?_
                        refine thn_normal ?_
                        refine W_ret ?_
                        refine bodyQ_ret1 Hvac.results7 rfl (.bool _) rfl ?_
                        exact ⟨congrArg Value.bool (by simp), (by repeat (first | assumption | exact Ext.refl _ | refine Ext.alloc ?_ _ | refine Ext.drew ?_ | refine Ext.setB ?_ (by first | omega | (simp only [size_alloc, size_setB, size_drew]; omega)) _ | refine Ext.trans ?_ (by assumption)))⟩
                      · have hb32p := hb32.h; try simp only [al_ete, al_dfn, Bool.not_eq_true', Bool.not_eq_false', al_ne, Bool.not_not, al_nn] at hb32p
                        exfalso; simp at hb32p --END
                    · have hb31p := hb31.h; try simp only [al_ete, al_dfn, Bool.not_eq_true', Bool.not_eq_false', al_ne, Bool.not_not, al_nn] at hb31p
                      exfalso; simp at hb31p --END
                  · have hb30p := hb30.h; try simp only [al_ete, al_dfn, Bool.not_eq_true', Bool.not_eq_false', al_ne, Bool.not_not, al_nn] at hb30p
                    exfalso; simp at hb30p --END
                · have hb27p := hb27.h; try simp only [al_ete, al_dfn, Bool.not_eq_true', Bool.not_eq_false', al_ne, Bool.not_not, al_nn] at hb27p
                  exfalso; simp at hb27p --END
              · have hb24p := hb24.h; try simp only [al_ete, al_dfn, Bool.not_eq_true', Bool.not_eq_false', al_ne, Bool.not_not, al_nn] at hb24p
                exfalso; simp at hb24p --END
            · have hb19p := hb19.h; try simp only [al_ete, al_dfn, Bool.not_eq_true', Bool.not_eq_false', al_ne, Bool.not_not, al_nn] at hb19p
              exfalso; simp at hb19p --END
          · have hb15p := hb15.h; try simp only [al_ete, al_dfn, Bool.not_eq_true', Bool.not_eq_false', al_ne, Bool.not_not, al_nn] at hb15p
            exfalso; simp at hb15p --END
        · have hb13p := hb13.h; try simp only [al_ete, al_dfn, Bool.not_eq_true', Bool.not_eq_false', al_ne, Bool.not_not, al_nn] at hb13p
          exfalso; simp at hb13p --END
      · have hb11p := hb11.h; try simp only [al_ete, al_dfn, Bool.not_eq_true', Bool.not_eq_false', al_ne, Bool.not_not, al_nn] at hb11p
        exfalso; simp at hb11p --END
    · have hb9p := hb9.h; try simp only [al_ete, al_dfn, Bool.not_eq_true', Bool.not_eq_false', al_ne, Bool.not_not, al_nn] at hb9p
      exfalso; simp at hb9p --END
  · have hb4p := hb4.h; try simp only [al_ete, al_dfn, Bool.not_eq_true', Bool.not_eq_false', al_ne, Bool.not_not, al_nn] at hb4p
    exfalso; simp at hb4p --END

end Go.Proofs.YgvacwGreat
