import Derived.Test.YgvadwGreatVi
namespace Go.Proofs.YgvadwGreat
set_option linter.unusedSimpArgs false
set_option linter.unusedVariables false
theorem SC.keepB {w w' : World} {O : Nat → Prop} {k : IntKind} {u : Nat} {s : SV} {L : List Int} (hs : SC w k u s L) (h : KeepO O w w') (hT : ∀ b o, s.1 = some ⟨b, o, none⟩ → ¬ O b) : SC w' k u s L := by
  obtain ⟨h1, h2⟩ := hs
  refine ⟨h1, ?_⟩
  rcases h2 with h2 | ⟨b, o, r, T, fz, h3, h4, h5⟩
  · exact Or.inl h2
  · exact Or.inr ⟨b, o, r, T, fz, h3, h4.keepO h (hT b o h3), h5⟩

set_option maxRecDepth 10000 in
theorem putCode_spec (C : Nat) (c : Array Value) (v : V) (B : VB) (β : Option Nat) (A : List Int) (s : SV) (L : List Int) (w : World) (hv : VS w C c v B β) (hA : By A 20) (hsc : SC w .u8 1 s L) (hLb : ∀ x ∈ L, 0 ≤ x ∧ x ≤ 255) (hβ : ∀ b, β = some b → b < w.heap.size) (hown : ∀ b o, s.1 = some ⟨b, o, none⟩ → ¬ VOwn C B b) : Ret Hvad.prog 151 #[.pointer (some ⟨C, 2435, none⟩), .agg (ic .u8 A), .slice s.1 s.2.1 s.2.2] w fun u w' => ∃ s' : SV, s'.2.1 = L.length ∧ (L = [] → s' = (none, 0, 0)) ∧ u = .bool (v.putCode A L.length s').1 ∧ VRet w C c B β w' (v.putCode A L.length s').2 := by
  have hAl := hA.1
  have hlj := hv.ty.lj
  have hai := acct_i32 hv A
  have hLl : L.length = s.2.1 := by have := hsc.1; omega
  refine Ret_of_W Hvad.func151 rfl rfl ?_
  refine W_seq ?_
  refine W_region rfl ?_
  refine WO_box (.agg _) rfl ?_
  refine WO_p (PS_assign_bool rfl) ?_
  refine WO_nil ?_
  refine thn_normal ?_
  refine W_seq ?_
  refine W_seq ?_
  refine W_region rfl ?_
  refine WO_p (PS_move_ptr rfl) ?_
  refine WO_call Hvad.call73 (by rfl) (Ret.mono (room_spec C c v B β _ (hv.ext (by repeat (first | assumption | exact Ext.refl _ | refine Ext.alloc ?_ _ | refine Ext.drew ?_ | refine Ext.setB ?_ (by first | omega | (simp only [size_alloc, size_setB, size_drew]; omega)) _ | exact Ext.trans (by assumption) (by assumption) | refine Ext.trans ?_ (by assumption))))) ?_)
  rintro _ w1 ⟨rfl, hE1⟩
  have hA1 : Hb w1 w.heap.size (.cells (ic .u8 A) 25 (0, 0)) := Hb.ext hE1 (Hb.newY _ _)
  replace hE1 : Ext w w1 := Ext.trans (Ext.alloc (Ext.refl w) _) hE1
  have hv1 := hv.ext hE1
  have hs1 := hsc.ext hE1
  refine WO_p (PS_not rfl) ?_
  refine WO_p (PS_move_bool rfl) ?_
  refine WO_if (t := 12) rfl (fun hb4 => ?_) (fun hb4 => ?_)
  · have hb4p := hb4.h; try simp only [al_ete, al_dfn, Bool.not_eq_true', Bool.not_eq_false', al_ne, Bool.not_not, al_nn] at hb4p
    have h16 : 65536 ≤ v.journal.length ∨ 256 < L.length := by omega
    refine WO_guardF rfl rfl hb4.h ?_
    refine WO_guardF rfl rfl hb4.h ?_
    refine WO_guardF rfl rfl hb4.h ?_
    refine WO_p (PS_pickT rfl hb4.h rfl) ?_
    refine WO_nil ?_
    refine thn_normal ?_
    refine W_condT rfl rfl ?_
    refine W_seq ?_
    refine W_region rfl ?_
    refine WO_p (PS_assign_bool rfl) ?_
    refine WO_nil ?_
    refine thn_normal ?_
    refine W_ret ?_
    refine thn_ret ?_
    refine bodyQ_ret1 Hvad.results151 rfl (.bool _) rfl ?_
    first
    | (refine ⟨if L = [] then (none, 0, 0) else (none, L.length, 0), by split; (rename_i h; rw [h]; rfl); rfl, fun h => if_pos h, ?_⟩; rw [V.putCode, if_pos h16]; exact ⟨rfl, VRet.ext hv hE1⟩)
    | (refine ⟨if L = [] then (none, 0, 0) else (none, L.length, 0), by split; (rename_i h; rw [h]; rfl); rfl, fun h => if_pos h, ?_⟩; rw [V.putCode, if_neg h16, V.setA, if_neg (by omega), if_neg (by rw [hok]; decide)]; exact ⟨rfl, ⟨_, _, hv2, VStep.pre hE1 hs2⟩⟩)
    | (refine ⟨s8, hn8.len, fun h => by rcases hn8 with ⟨_, h8⟩ | ⟨h8, _⟩; exact h8; exact absurd h h8, ?_⟩; rw [V.putCode, if_neg h16, V.setA, if_neg (by omega), if_pos hok, hx]; exact ⟨rfl, ⟨_, _, hV7, ((VStep.pre hE1 hs2).trans (VStep.pre (by repeat (first | assumption | exact Ext.refl _ | refine Ext.alloc ?_ _ | refine Ext.drew ?_ | refine Ext.setB ?_ (by first | omega | (simp only [size_alloc, size_setB, size_drew]; omega)) _ | refine Ext.trans ?_ (by assumption))) hS6)).trans (VStep.pre (Ext.trans (by repeat (first | assumption | exact Ext.refl _ | refine Ext.alloc ?_ _ | refine Ext.drew ?_ | refine Ext.setB ?_ (by first | omega | (simp only [size_alloc, size_setB, size_drew]; omega)) _ | refine Ext.trans ?_ (by assumption))) hE8) hS7)⟩⟩)
  · have hb4p := hb4.h; try simp only [al_ete, al_dfn, Bool.not_eq_true', Bool.not_eq_false', al_ne, Bool.not_not, al_nn] at hb4p
    refine WO_guardT rfl rfl hb4.h ?_
    refine WO_p (PS_move_slice rfl) ?_
    refine WO_guardT rfl rfl hb4.h ?_
    refine WO_p (PS_lenS Hvad.runUnderlying32 rfl) ?_
    refine WO_guardT rfl rfl hb4.h ?_
    refine WO_p (PS_gtr rfl rfl) ?_
    refine WO_p (PS_pickF rfl hb4.h rfl) ?_
    refine WO_nil ?_
    refine thn_normal ?_
    refine W_if rfl (fun hb6 => ?_) (fun hb6 => ?_)
    · have hb6p := hb6.h; try simp only [al_ete, al_dfn, Bool.not_eq_true', Bool.not_eq_false', al_ne, Bool.not_not, al_nn] at hb6p
      have h16 : 65536 ≤ v.journal.length ∨ 256 < L.length := by omega
      refine W_seq ?_
      refine W_region rfl ?_
      refine WO_p (PS_assign_bool rfl) ?_
      refine WO_nil ?_
      refine thn_normal ?_
      refine W_ret ?_
      refine thn_ret ?_
      refine bodyQ_ret1 Hvad.results151 rfl (.bool _) rfl ?_
      first
      | (refine ⟨if L = [] then (none, 0, 0) else (none, L.length, 0), by split; (rename_i h; rw [h]; rfl); rfl, fun h => if_pos h, ?_⟩; rw [V.putCode, if_pos h16]; exact ⟨rfl, VRet.ext hv hE1⟩)
      | (refine ⟨if L = [] then (none, 0, 0) else (none, L.length, 0), by split; (rename_i h; rw [h]; rfl); rfl, fun h => if_pos h, ?_⟩; rw [V.putCode, if_neg h16, V.setA, if_neg (by omega), if_neg (by rw [hok]; decide)]; exact ⟨rfl, ⟨_, _, hv2, VStep.pre hE1 hs2⟩⟩)
      | (refine ⟨s8, hn8.len, fun h => by rcases hn8 with ⟨_, h8⟩ | ⟨h8, _⟩; exact h8; exact absurd h h8, ?_⟩; rw [V.putCode, if_neg h16, V.setA, if_neg (by omega), if_pos hok, hx]; exact ⟨rfl, ⟨_, _, hV7, ((VStep.pre hE1 hs2).trans (VStep.pre (by repeat (first | assumption | exact Ext.refl _ | refine Ext.alloc ?_ _ | refine Ext.drew ?_ | refine Ext.setB ?_ (by first | omega | (simp only [size_alloc, size_setB, size_drew]; omega)) _ | refine Ext.trans ?_ (by assumption))) hS6)).trans (VStep.pre (Ext.trans (by repeat (first | assumption | exact Ext.refl _ | refine Ext.alloc ?_ _ | refine Ext.drew ?_ | refine Ext.setB ?_ (by first | omega | (simp only [size_alloc, size_setB, size_drew]; omega)) _ | refine Ext.trans ?_ (by assumption))) hE8) hS7)⟩⟩)
    · have hb6p := hb6.h; try simp only [al_ete, al_dfn, Bool.not_eq_true', Bool.not_eq_false', al_ne, Bool.not_not, al_nn] at hb6p
      have h16 : ¬ (65536 ≤ v.journal.length ∨ 256 < L.length) := by omega
      refine W_skip ?_
      refine thn_normal ?_
      refine W_seq ?_
      refine W_region rfl ?_
      refine WO_p (PS_move_ptr rfl) ?_
      refine WO_loadA _ Hvad.isAgg25 Hvad.sizeOf25 rfl (Hb.h (by repeat (first | assumption | exact Hb.newY _ _ | refine Hb.alloc ?_ | refine Hb.drew ?_ | refine Hb.ext (by assumption) ?_ | exact Hb.setSameL (by first | omega | (simp only [size_alloc, size_setB, size_drew]; omega)) | exact Hb.setSame (by assumption) | refine Hb.set (by first | omega | (simp only [size_alloc, size_setB, size_drew]; omega)) ?_ ))) (by first | omega | assumption | rfl | decide | (simp only [size_ic, Value.cells]; omega) | simp) (Xt.h (by first | assumption | exact Xt.whole rfl rfl | exact Xt.whole rfl (by simp only [size_ic, Value.cells]; omega) | exact ⟨rfl⟩)) ?_
      refine WO_call Hvad.call53 (by rfl) (Ret.mono (acct_spec C c v B β A _ hv1 hA) ?_)
      rintro _ w2 ⟨rfl, c2, B2, hv2, hs2⟩
      have hb2 := hv2.blk
      have hdj : Ce c2 10629 (.slice (slp B2.j) (v.acct A).2.journal.length (slc B2.j)) := hv2.rep.journal
      refine WO_p (PS_move_tuple rfl) ?_
      refine WO_p (PS_extract_int rfl rfl) ?_
      refine WO_p (PS_extract_bool rfl rfl) ?_
      refine WO_p (PS_assign_int rfl) ?_
      refine WO_p (PS_assign_bool rfl) ?_
      refine WO_nil ?_
      refine thn_normal ?_
      refine W_seq ?_
      refine W_seq ?_
      refine W_region rfl ?_
      refine WO_p (PS_move_bool rfl) ?_
      refine WO_p (PS_not rfl) ?_
      refine WO_nil ?_
      refine thn_normal ?_
      refine W_if rfl (fun hb10 => ?_) (fun hb10 => ?_)
      · have hb10p := hb10.h; try simp only [al_ete, al_dfn, Bool.not_eq_true', Bool.not_eq_false', al_ne, Bool.not_not, al_nn] at hb10p
        have hok := hb10p
        refine W_seq ?_
        refine W_region rfl ?_
        refine WO_p (PS_assign_bool rfl) ?_
        refine WO_nil ?_
        refine thn_normal ?_
        refine W_ret ?_
        refine thn_ret ?_
        refine bodyQ_ret1 Hvad.results151 rfl (.bool _) rfl ?_
        first
        | (refine ⟨if L = [] then (none, 0, 0) else (none, L.length, 0), by split; (rename_i h; rw [h]; rfl); rfl, fun h => if_pos h, ?_⟩; rw [V.putCode, if_pos h16]; exact ⟨rfl, VRet.ext hv hE1⟩)
        | (refine ⟨if L = [] then (none, 0, 0) else (none, L.length, 0), by split; (rename_i h; rw [h]; rfl); rfl, fun h => if_pos h, ?_⟩; rw [V.putCode, if_neg h16, V.setA, if_neg (by omega), if_neg (by rw [hok]; decide)]; exact ⟨rfl, ⟨_, _, hv2, VStep.pre hE1 hs2⟩⟩)
        | (refine ⟨s8, hn8.len, fun h => by rcases hn8 with ⟨_, h8⟩ | ⟨h8, _⟩; exact h8; exact absurd h h8, ?_⟩; rw [V.putCode, if_neg h16, V.setA, if_neg (by omega), if_pos hok, hx]; exact ⟨rfl, ⟨_, _, hV7, ((VStep.pre hE1 hs2).trans (VStep.pre (by repeat (first | assumption | exact Ext.refl _ | refine Ext.alloc ?_ _ | refine Ext.drew ?_ | refine Ext.setB ?_ (by first | omega | (simp only [size_alloc, size_setB, size_drew]; omega)) _ | refine Ext.trans ?_ (by assumption))) hS6)).trans (VStep.pre (Ext.trans (by repeat (first | assumption | exact Ext.refl _ | refine Ext.alloc ?_ _ | refine Ext.drew ?_ | refine Ext.setB ?_ (by first | omega | (simp only [size_alloc, size_setB, size_drew]; omega)) _ | refine Ext.trans ?_ (by assumption))) hE8) hS7)⟩⟩)
      · have hb10p := hb10.h; try simp only [al_ete, al_dfn, Bool.not_eq_true', Bool.not_eq_false', al_ne, Bool.not_not, al_nn] at hb10p
        have hok := hb10p
        obtain ⟨ha0, x, hx, hxA⟩ := acct_ok hok
        obtain ⟨b, cap, r, hab, hcap, hr, hrs, hrow, hda, hbd, hil, hty, f0, f1, f2, f3, f4, f5, f6⟩ := hv2.openA hx
        have hjl : (v.acct A).2.journal.length < 65536 := by rw [acct_journal]; omega
        have hen : (encE ⟨2, (v.acct A).1.1, 0, [0, 0, 0, 0], x.code, false⟩).toArray.size = 9 := by simp [encE]
        refine W_skip ?_
        refine thn_normal ?_
        refine W_seq ?_
        refine W_drawE [false, false, false, false, false, false, false, false, false, false, false, false, false, false, false, true, false, false, false, false] hmix (by kernel_rfl) rfl ?_
        refine WH_p (PS_move_ptr rfl) rfl ?_
        refine WH_p (PS_move_ptr rfl) rfl ?_
        refine WH_p (PS_nilCheck rfl) rfl ?_
        refine WH_p (PS_fieldAddr 8194 Hvad.runUnderlying79 rfl Hvad.sizeOf73 rfl rfl) rfl ?_
        refine WH_load (.slice _ _ _) Hvad.isAgg73 rfl (Hb.h (by repeat (first | assumption | exact Hb.newY _ _ | refine Hb.alloc ?_ | refine Hb.drew ?_ | refine Hb.ext (by assumption) ?_ | exact Hb.setSameL (by first | omega | (simp only [size_alloc, size_setB, size_drew]; omega)) | exact Hb.setSame (by assumption) | refine Hb.set (by first | omega | (simp only [size_alloc, size_setB, size_drew]; omega)) ?_ ))) (Ce.h (by first | assumption | exact ⟨rfl⟩)) ?_
        refine WH_p (PS_move_int rfl) rfl ?_
        refine WH_p (PS_move_ptr rfl) rfl ?_
        refine WH_p (PS_nilCheck rfl) rfl ?_
        refine WH_p (PS_fieldAddr 0 Hvad.runUnderlying79 rfl Hvad.sizeOf70 rfl rfl) rfl ?_
        refine WH_load (.slice _ _ _) Hvad.isAgg70 rfl (Hb.h (by repeat (first | assumption | exact Hb.newY _ _ | refine Hb.alloc ?_ | refine Hb.drew ?_ | refine Hb.ext (by assumption) ?_ | exact Hb.setSameL (by first | omega | (simp only [size_alloc, size_setB, size_drew]; omega)) | exact Hb.setSame (by assumption) | refine Hb.set (by first | omega | (simp only [size_alloc, size_setB, size_drew]; omega)) ?_ ))) (Ce.h (by first | assumption | exact ⟨rfl⟩)) ?_
        refine WH_p (PS_move_int rfl) rfl ?_
        refine WH_p (PS_indexS Hvad.runUnderlying70 Hvad.sizeOf149 rfl rfl (by omega) (by omega)) rfl ?_
        refine WH_p (PS_fieldAddr 25 Hvad.runUnderlying149 rfl Hvad.sizeOf32 rfl rfl) rfl ?_
        refine WH_load (.slice _ _ _) Hvad.isAgg32 rfl (Hb.h (by repeat (first | assumption | exact Hb.newY _ _ | refine Hb.alloc ?_ | refine Hb.drew ?_ | refine Hb.ext (by assumption) ?_ | exact Hb.setSameL (by first | omega | (simp only [size_alloc, size_setB, size_drew]; omega)) | exact Hb.setSame (by assumption) | refine Hb.set (by first | omega | (simp only [size_alloc, size_setB, size_drew]; omega)) ?_ ))) (Ce.h (by first | assumption | exact ⟨rfl⟩)) ?_
        refine WH_p (PS_b173_014 rfl rfl rfl) rfl ?_
        refine WH_buildSlice1 Hvad.runUnderlying73 Hvad.sizeOf173 Hvad.zeroValue173 rfl (by first | omega | assumption | rfl | decide | (simp only [size_ic, Value.cells]; omega) | simp) (by decide) (by decide) (fun _ => (by repeat (first | assumption | exact Ext.refl _ | refine Ext.alloc ?_ _ | refine Ext.drew ?_ | refine Ext.setB ?_ (by first | omega | (simp only [size_alloc, size_setB, size_drew]; omega)) _ | exact Ext.trans (by assumption) (by assumption) | refine Ext.trans ?_ (by assumption)))) ?_
        refine WH_push_journal (hv2.ext (by repeat (first | assumption | exact Ext.refl _ | refine Ext.alloc ?_ _ | refine Ext.drew ?_ | refine Ext.setB ?_ (by first | omega | (simp only [size_alloc, size_setB, size_drew]; omega)) _ | exact Ext.trans (by assumption) (by assumption) | refine Ext.trans ?_ (by assumption)))) rfl rfl (by simpa using hen) (Hb.newY _ _) ⟨⟨by show (0:Int) ≤ 2; decide, by show (2:Int) ≤ 255; decide⟩, hai, ⟨by show (0:Int) ≤ 0; decide, by show (0:Int) ≤ _; decide⟩, Wd0⟩ ((hv2.codes x (List.mem_of_getElem? hx)).keep fun _ _ _ _ hb => hb.ext (by repeat (first | assumption | exact Ext.refl _ | refine Ext.alloc ?_ _ | refine Ext.drew ?_ | refine Ext.setB ?_ (by first | omega | (simp only [size_alloc, size_setB, size_drew]; omega)) _ | exact Ext.trans (by assumption) (by assumption) | refine Ext.trans ?_ (by assumption)))) hjl ?_
        intro s' wA hC hV
        obtain ⟨hV6, hS6⟩ := hV
        refine WH_p (PS_nilCheck rfl) rfl ?_
        refine WH_p (PS_fieldAddr 8194 Hvad.runUnderlying79 rfl Hvad.sizeOf73 rfl rfl) rfl ?_
        refine WH_store1 Hvad.sizeOf73 rfl (v := slv _ _) rfl hC.h rfl (by rw [hv2.rep.size]; decide) rfl (fun h => by cases h) ?_
        refine WH_nil ?_
        refine thn_normal ?_
        refine W_seq ?_
        have hkE : KeepO (VOwn C B) w (setB wA C _) := ((VStep.pre hE1 hs2).trans (VStep.pre (by repeat (first | assumption | exact Ext.refl _ | refine Ext.alloc ?_ _ | refine Ext.drew ?_ | refine Ext.setB ?_ (by first | omega | (simp only [size_alloc, size_setB, size_drew]; omega)) _ | refine Ext.trans ?_ (by assumption))) hS6)).keep
        have hsc6 : SC _ .u8 1 s L := SC.keepB hsc hkE hown
        clear hr hda hrow hbd f0 f1 f2 f3 f4 f5 f6
        have hb6 := hV6.blk
        obtain ⟨b7, cap7, r7, hab7, hcap7, hr7, hrs7, hrow7, hda7, hbd7, hil7, hty7, g0, g1, g2, g3, g4, g5, g6⟩ := hV6.openA (x := x) hx
        refine W_drawE [false, false, false, false, false, false, true, false, false, false] hmix (by kernel_rfl) rfl ?_
        refine WH_p (PS_move_ptr rfl) rfl ?_
        refine WH_p (PS_nilCheck rfl) rfl ?_
        refine WH_p (PS_fieldAddr 0 Hvad.runUnderlying79 rfl Hvad.sizeOf70 rfl rfl) rfl ?_
        refine WH_load (.slice _ _ _) Hvad.isAgg70 rfl (Hb.h (by repeat (first | assumption | exact Hb.newY _ _ | refine Hb.alloc ?_ | refine Hb.drew ?_ | refine Hb.ext (by assumption) ?_ | exact Hb.setSameL (by first | omega | (simp only [size_alloc, size_setB, size_drew]; omega)) | exact Hb.setSame (by assumption) | refine Hb.set (by first | omega | (simp only [size_alloc, size_setB, size_drew]; omega)) ?_ ))) (Ce.h (by first | assumption | exact ⟨rfl⟩)) ?_
        refine WH_p (PS_move_int rfl) rfl ?_
        refine WH_p (PS_move_slice rfl) rfl ?_
        refine WH_call Hvad.call54 (by rfl) (Ret.mono (copied_spec s L _ (hsc6.ext (by repeat (first | assumption | exact Ext.refl _ | refine Ext.alloc ?_ _ | refine Ext.drew ?_ | refine Ext.setB ?_ (by first | omega | (simp only [size_alloc, size_setB, size_drew]; omega)) _ | exact Ext.trans (by assumption) (by assumption) | refine Ext.trans ?_ (by assumption)))) (by omega)) ?_)
        rintro _ w8 ⟨hE8, s8, rfl, hn8⟩
        refine ⟨fun _ => (by repeat (first | assumption | exact Ext.refl _ | refine Ext.alloc ?_ _ | refine Ext.drew ?_ | refine Ext.setB ?_ (by first | omega | (simp only [size_alloc, size_setB, size_drew]; omega)) _ | exact Ext.trans (by assumption) (by assumption) | refine Ext.trans ?_ (by assumption))), ?_⟩
        refine WH_p (PS_indexS Hvad.runUnderlying70 Hvad.sizeOf149 rfl rfl (by omega) (by omega)) rfl ?_
        refine WH_p (PS_fieldAddr 25 Hvad.runUnderlying149 rfl Hvad.sizeOf32 rfl rfl) rfl ?_
        have hv8 := hV6.ext (Ext.trans (by repeat (first | assumption | exact Ext.refl _ | refine Ext.alloc ?_ _ | refine Ext.drew ?_ | refine Ext.setB ?_ (by first | omega | (simp only [size_alloc, size_setB, size_drew]; omega)) _ | exact Ext.trans (by assumption) (by assumption) | refine Ext.trans ?_ (by assumption))) hE8)
        have hr8 := Hb.ext (Ext.trans (by repeat (first | assumption | exact Ext.refl _ | refine Ext.alloc ?_ _ | refine Ext.drew ?_ | refine Ext.setB ?_ (by first | omega | (simp only [size_alloc, size_setB, size_drew]; omega)) _ | exact Ext.trans (by assumption) (by assumption) | refine Ext.trans ?_ (by assumption))) hE8) hr7
        refine WH_store1 Hvad.sizeOf32 rfl (v := .slice _ _ _) rfl hr8.h rfl (by omega) rfl (fun h => by cases h) ?_
        obtain ⟨hV7, hS7⟩ := hv8.wA_code hx hab7 hcap7 hr8 hrs7 hrow7 s8 (hn8.bs (fun b hb => by have h1 := hβ b hb; have h2 := hE1.1; have h3 := hs2.keep.sz; have h4 := hS6.keep.sz; simp only [size_alloc, size_setB, size_drew] at *; omega) hLb)
        refine WH_nil ?_
        refine thn_normal ?_
        refine W_seq ?_
        refine W_region rfl ?_
        refine WO_p (PS_assign_bool rfl) ?_
        refine WO_nil ?_
        refine thn_normal ?_
        refine W_ret ?_
        refine bodyQ_ret1 Hvad.results151 rfl (.bool _) rfl ?_
        first
        | (refine ⟨if L = [] then (none, 0, 0) else (none, L.length, 0), by split; (rename_i h; rw [h]; rfl); rfl, fun h => if_pos h, ?_⟩; rw [V.putCode, if_pos h16]; exact ⟨rfl, VRet.ext hv hE1⟩)
        | (refine ⟨if L = [] then (none, 0, 0) else (none, L.length, 0), by split; (rename_i h; rw [h]; rfl); rfl, fun h => if_pos h, ?_⟩; rw [V.putCode, if_neg h16, V.setA, if_neg (by omega), if_neg (by rw [hok]; decide)]; exact ⟨rfl, ⟨_, _, hv2, VStep.pre hE1 hs2⟩⟩)
        | (refine ⟨s8, hn8.len, fun h => by rcases hn8 with ⟨_, h8⟩ | ⟨h8, _⟩; exact h8; exact absurd h h8, ?_⟩; rw [V.putCode, if_neg h16, V.setA, if_neg (by omega), if_pos hok, hx]; exact ⟨rfl, ⟨_, _, hV7, ((VStep.pre hE1 hs2).trans (VStep.pre (by repeat (first | assumption | exact Ext.refl _ | refine Ext.alloc ?_ _ | refine Ext.drew ?_ | refine Ext.setB ?_ (by first | omega | (simp only [size_alloc, size_setB, size_drew]; omega)) _ | refine Ext.trans ?_ (by assumption))) hS6)).trans (VStep.pre (Ext.trans (by repeat (first | assumption | exact Ext.refl _ | refine Ext.alloc ?_ _ | refine Ext.drew ?_ | refine Ext.setB ?_ (by first | omega | (simp only [size_alloc, size_setB, size_drew]; omega)) _ | refine Ext.trans ?_ (by assumption))) hE8) hS7)⟩⟩)

end Go.Proofs.YgvadwGreat
