import Derived.Test.YgvacwGreatFw
namespace Go.Proofs.YgvacwGreat
set_option linter.unusedSimpArgs false
set_option linter.unusedVariables false

set_option maxRecDepth 10000 in
theorem memPart0_spec [Om] (C : Nat) (c : Array Value) (v : V) (B : VB) (m : Mc) (k lo n : Nat) (w : World) (hM : MS w C c v B m) (hT : MemT m k lo n) : Ret Hvac.prog 167 #[.pointer (some ⟨C, 1, none⟩), .int .u32 0, .int .u32 0] w fun u w' => Ext w w' ∧ ∃ p : Option Addr, u = .tuple #[.slice p 0 0, .bool true] := by
  have h1 := hT.le
  have h2 := hT.sz
  refine Ret_of_W Hvac.func167 rfl rfl ?_
  refine W_seq ?_
  refine W_region rfl ?_
  refine WO_p (PS_assign_slice rfl) ?_
  refine WO_p (PS_assign_bool rfl) ?_
  refine WO_nil ?_
  refine thn_normal ?_
  refine W_seq ?_
  refine W_region rfl ?_
  refine WO_p (PS_move_ptr rfl) ?_
  refine WO_call Hvac.call168 (by rfl) (Ret.mono (memTop_spec C c v B m k lo n _ hM hT) ?_)
  rintro _ w1 ⟨hE1, p, rfl, hp⟩
  refine WO_p (PS_move_tuple rfl) ?_
  refine WO_p (PS_extract_slice rfl rfl) ?_
  refine WO_p (PS_extract_bool rfl rfl) ?_
  refine WO_p (PS_assign_slice rfl) ?_
  refine WO_p (PS_assign_bool rfl) ?_
  refine WO_nil ?_
  refine thn_normal ?_
  refine W_seq ?_
  refine W_region rfl ?_
  refine WO_p (PS_move_slice rfl) ?_
  refine WO_p (PS_lenS Hvac.runUnderlying32 rfl) ?_
  refine WO_p (PS_conv_u32n Hvac.runUnderlying3 Hvac.runUnderlying56 rfl (by omega) (by omega)) ?_
  refine WO_p (PS_assign_int rfl) ?_
  refine WO_nil ?_
  refine thn_normal ?_
  refine W_seq ?_
  refine W_seq ?_
  refine W_region rfl ?_
  refine WO_p (PS_move_bool rfl) ?_
  refine WO_p (PS_not rfl) ?_
  refine WO_p (PS_move_bool rfl) ?_
  refine WO_if (t := 21) rfl (fun hb4 => ?_) (fun hb4 => ?_)
  · have hb4p := hb4.h; try simp only [al_ete, al_dfn, Bool.not_eq_true', Bool.not_eq_false', al_ne, Bool.not_not, al_nn] at hb4p
    simp at hb4p --END
  · have hb4p := hb4.h; try simp only [al_ete, al_dfn, Bool.not_eq_true', Bool.not_eq_false', al_ne, Bool.not_not, al_nn] at hb4p
    refine WO_guardT rfl rfl hb4.h ?_
    refine WO_p (PS_move_int rfl) ?_
    refine WO_guardT rfl rfl hb4.h ?_
    refine WO_p (PS_move_int rfl) ?_
    refine WO_guardT rfl rfl hb4.h ?_
    refine WO_p (PS_gtr rfl rfl) ?_
    refine WO_p (PS_pickF rfl hb4.h rfl) ?_
    refine WO_p (PS_move_bool rfl) ?_
    refine WO_if (t := 26) rfl (fun hb6 => ?_) (fun hb6 => ?_)
    · have hb6p := hb6.h; try simp only [al_ete, al_dfn, Bool.not_eq_true', Bool.not_eq_false', al_ne, Bool.not_not, al_nn] at hb6p
      omega --END
    · have hb6p := hb6.h; try simp only [al_ete, al_dfn, Bool.not_eq_true', Bool.not_eq_false', al_ne, Bool.not_not, al_nn] at hb6p
      refine WO_guardT rfl rfl hb6.h ?_
      refine WO_p (PS_move_int rfl) ?_
      refine WO_guardT rfl rfl hb6.h ?_
      refine WO_p (PS_move_int rfl) ?_
      refine WO_guardT rfl rfl hb6.h ?_
      refine WO_p (PS_move_int rfl) ?_
      refine WO_guardT rfl rfl hb6.h ?_
      refine WO_p (PS_sub_u32n rfl rfl (by omega) (by omega)) ?_
      refine WO_guardT rfl rfl hb6.h ?_
      refine WO_p (PS_gtr rfl rfl) ?_
      refine WO_p (PS_pickF rfl hb6.h rfl) ?_
      refine WO_nil ?_
      refine thn_normal ?_
      refine W_if rfl (fun hb8 => ?_) (fun hb8 => ?_)
      · have hb8p := hb8.h; try simp only [al_ete, al_dfn, Bool.not_eq_true', Bool.not_eq_false', al_ne, Bool.not_not, al_nn] at hb8p
        omega --END
      · have hb8p := hb8.h; try simp only [al_ete, al_dfn, Bool.not_eq_true', Bool.not_eq_false', al_ne, Bool.not_not, al_nn] at hb8p
        refine W_skip ?_
        refine thn_normal ?_
        refine W_seq ?_
        refine W_region rfl ?_
        refine WO_p (PS_move_slice rfl) ?_
        refine WO_p (PS_move_int rfl) ?_
        refine WO_p (PS_move_int rfl) ?_
        refine WO_p (PS_move_int rfl) ?_
        refine WO_p (PS_add_u32n rfl rfl (by omega) (by omega)) ?_
        refine WO_p (PS_move_int rfl) ?_
        refine WO_p (PS_move_int rfl) ?_
        refine WO_p (PS_add_u32n rfl rfl (by omega) (by omega)) ?_
        refine WO_p (PS_slG_lhm Hvac.runUnderlying32 Hvac.sizeOf5 rfl rfl rfl rfl (by omega) (by omega) (by omega) (by omega) (by omega) (by omega)) ?_
        rw [show ((0 : Int) + (0 : Int)).toNat = 0 by omega, show (0 : Int).toNat = 0 by omega, Nat.sub_self]
        refine WO_p (PS_assign_slice rfl) ?_
        refine WO_p (PS_assign_bool rfl) ?_
        refine WO_nil ?_
        refine thn_normal ?_
        refine W_ret ?_
        refine bodyQ_ret2 Hvac.results167 rfl rfl (.slice _ _ _) (.bool _) rfl rfl ?_
        exact ⟨hE1, _, rfl⟩

set_option maxRecDepth 10000 in
theorem memRead0_spec [Om] (C : Nat) (c : Array Value) (v : V) (B : VB) (m : Mc) (k lo n : Nat) (w : World) (hM : MS w C c v B m) (hT : MemT m k lo n) : Ret Hvac.prog 98 #[.pointer (some ⟨C, 1, none⟩), .int .u32 0, .int .u32 0] w fun u w' => Ext w w' ∧ u = .slice none 0 0 := by
  refine Ret_of_W Hvac.func98 rfl rfl ?_
  refine W_seq ?_
  refine W_region rfl ?_
  refine WO_p (PS_assign_slice rfl) ?_
  refine WO_nil ?_
  refine thn_normal ?_
  refine W_seq ?_
  refine W_region rfl ?_
  refine WO_p (PS_move_ptr rfl) ?_
  refine WO_p (PS_move_int rfl) ?_
  refine WO_p (PS_move_int rfl) ?_
  refine WO_call Hvac.call167 (by rfl) (Ret.mono (memPart0_spec C c v B m k lo n _ hM hT) ?_)
  rintro _ w1 ⟨hE1, p1, rfl⟩
  refine WO_p (PS_move_tuple rfl) ?_
  refine WO_p (PS_extract_slice rfl rfl) ?_
  refine WO_p (PS_extract_bool rfl rfl) ?_
  refine WO_p (PS_assign_slice rfl) ?_
  refine WO_p (PS_assign_bool rfl) ?_
  refine WO_nil ?_
  refine thn_normal ?_
  refine W_seq ?_
  refine W_seq ?_
  refine W_region rfl ?_
  refine WO_p (PS_move_bool rfl) ?_
  refine WO_p (PS_not rfl) ?_
  refine WO_p (PS_move_bool rfl) ?_
  refine WO_if (t := 19) rfl (fun hb4 => ?_) (fun hb4 => ?_)
  · have hb4p := hb4.h; try simp only [al_ete, al_dfn, Bool.not_eq_true', Bool.not_eq_false', al_ne, Bool.not_not, al_nn] at hb4p
    simp at hb4p --END
  · have hb4p := hb4.h; try simp only [al_ete, al_dfn, Bool.not_eq_true', Bool.not_eq_false', al_ne, Bool.not_not, al_nn] at hb4p
    refine WO_guardT rfl rfl hb4.h ?_
    refine WO_p (PS_move_int rfl) ?_
    refine WO_guardT rfl rfl hb4.h ?_
    refine WO_p (PS_eql rfl rfl) ?_
    refine WO_p (PS_pickF rfl hb4.h rfl) ?_
    refine WO_nil ?_
    refine thn_normal ?_
    refine W_if rfl (fun hb6 => ?_) (fun hb6 => ?_)
    · have hb6p := hb6.h; try simp only [al_ete, al_dfn, Bool.not_eq_true', Bool.not_eq_false', al_ne, Bool.not_not, al_nn] at hb6p
      refine W_seq ?_
      refine W_region rfl ?_
      refine WO_p (PS_assign_slice rfl) ?_
      refine WO_nil ?_
      refine thn_normal ?_
      refine W_ret ?_
      refine thn_ret ?_
      refine bodyQ_ret1 Hvac.results98 rfl (.slice _ _ _) rfl ?_
      exact ⟨(by repeat (first | assumption | exact Ext.refl _ | refine Ext.alloc ?_ _ | refine Ext.drew ?_ | refine Ext.setB ?_ (by first | omega | (simp only [size_alloc, size_setB, size_drew]; omega)) _ | refine Ext.trans ?_ (by assumption))), rfl⟩
    · have hb6p := hb6.h; try simp only [al_ete, al_dfn, Bool.not_eq_true', Bool.not_eq_false', al_ne, Bool.not_not, al_nn] at hb6p
      exfalso; simp at hb6p --END

theorem memAll_spec [Om] (C : Nat) (c : Array Value) (v : V) (B : VB) (m : Mc) (k lo n : Nat) (w : World) (hM : MS w C c v B m) (L : List Int) (hBX : BufX w m.buf L) (hT : MemT m k lo n) : Ret Hvac.prog 98 #[.pointer (some ⟨C, 1, none⟩), .int .u32 0, .int .u32 n] w fun u w' => Ext w w' ∧ ∃ s' : SV, u = .slice s'.1 s'.2.1 s'.2.2 ∧ NewB w w' s' ((L.drop lo).take n) := by
  rcases Nat.eq_zero_or_pos n with h0 | h0
  · subst h0
    refine Ret.mono (memRead0_spec C c v B m k lo 0 w hM hT) ?_
    rintro u w' ⟨h1, rfl⟩
    exact ⟨h1, (none, 0, 0), rfl, Or.inl ⟨by simp, rfl⟩⟩
  · have h1 := hT.le
    obtain ⟨b, hb⟩ : ∃ b, m.buf.1 = some ⟨b, 0, none⟩ := by
      rcases hBX with ⟨h2, _⟩ | ⟨b, h2, _⟩
      · rw [h2] at h1; simp at h1; omega
      · exact ⟨b, by rw [h2]⟩
    exact memRead_ex C c v B m k lo n 0 n b w hM L hBX hT hb h0 (by omega)
set_option maxRecDepth 10000 in
theorem runningNo_spec [Om] (C : Nat) (c : Array Value) (v : V) (B : VB) (m : Mc) (w : World) (hM : MS w C c v B m) (hp : m.phase ≠ 1) : Ret Hvac.prog 95 #[.pointer (some ⟨C, 0, none⟩)] w fun u w' => Ext w w' ∧ u = .pointer none := by
  have hblk := hM.vs.blk
  have hcs := hM.sz
  have hc_s := hM.rep.s
  have hc_top := hM.rep.top
  have hc_ph := hM.rep.phase
  refine Ret_of_W Hvac.func95 rfl rfl ?_
  refine W_seq ?_
  refine W_region rfl ?_
  refine WO_p (PS_assign_ptr rfl) ?_
  refine WO_nil ?_
  refine thn_normal ?_
  refine W_seq ?_
  refine W_seq ?_
  refine W_region rfl ?_
  refine WO_p (PS_move_ptr rfl) ?_
  refine WO_p (PS_nilCheck rfl) ?_
  refine WO_p (PS_fieldAddr 2404 Hvac.runUnderlying70 rfl Hvac.sizeOf5 rfl rfl) ?_
  refine WO_load (.int _ _) Hvac.isAgg5 rfl (Hb.h (by repeat (first | assumption | exact Hb.newY _ _ | refine Hb.alloc ?_ | refine Hb.drew ?_ | refine Hb.ext (by assumption) ?_ | exact Hb.setSameL (by first | omega | (simp only [size_alloc, size_setB, size_drew]; omega)) | exact Hb.setSame (by assumption) | refine Hb.set (by first | omega | (simp only [size_alloc, size_setB, size_drew]; omega)) ?_ ))) (Ce.h (by first | assumption | exact ⟨rfl⟩)) ?_
  refine WO_p (PS_neq rfl rfl) ?_
  refine WO_p (PS_move_bool rfl) ?_
  refine WO_if (t := 8) rfl (fun hb2 => ?_) (fun hb2 => ?_)
  · have hb2p := hb2.h; try simp only [al_ete, al_dfn, Bool.not_eq_true', Bool.not_eq_false', al_ne, Bool.not_not, al_nn] at hb2p
    refine WO_guardF rfl rfl hb2.h ?_
    refine WO_guardF rfl rfl hb2.h ?_
    refine WO_guardF rfl rfl hb2.h ?_
    refine WO_guardF rfl rfl hb2.h ?_
    refine WO_guardF rfl rfl hb2.h ?_
    refine WO_p (PS_pickT rfl hb2.h rfl) ?_
    refine WO_p (PS_move_bool rfl) ?_
    refine WO_guardF rfl rfl rfl ?_
    refine WO_guardF rfl rfl rfl ?_
    refine WO_guardF rfl rfl rfl ?_
    refine WO_guardF rfl rfl rfl ?_
    refine WO_guardF rfl rfl rfl ?_
    refine WO_p (PS_pickT rfl rfl rfl) ?_
    refine WO_p (PS_move_bool rfl) ?_
    refine WO_guardF rfl rfl rfl ?_
    refine WO_guardF rfl rfl rfl ?_
    refine WO_guardF rfl rfl rfl ?_
    refine WO_guardF rfl rfl rfl ?_
    refine WO_guardF rfl rfl rfl ?_
    refine WO_p (PS_pickT rfl rfl rfl) ?_
    refine WO_nil ?_
    refine thn_normal ?_
    refine W_condT rfl rfl ?_
    refine W_seq ?_
    refine W_region rfl ?_
    refine WO_p (PS_assign_ptr rfl) ?_
    refine WO_nil ?_
    refine thn_normal ?_
    refine W_ret ?_
    refine thn_ret ?_
    refine bodyQ_ret1 Hvac.results95 rfl (.pointer _) rfl ?_
    exact ⟨(by repeat (first | assumption | exact Ext.refl _ | refine Ext.alloc ?_ _ | refine Ext.drew ?_ | refine Ext.setB ?_ (by first | omega | (simp only [size_alloc, size_setB, size_drew]; omega)) _ | refine Ext.trans ?_ (by assumption))), rfl⟩
  · have hb2p := hb2.h; try simp only [al_ete, al_dfn, Bool.not_eq_true', Bool.not_eq_false', al_ne, Bool.not_not, al_nn] at hb2p
    exfalso; omega --END

set_option maxRecDepth 10000 in
theorem refund_spec [Om] (C : Nat) (c : Array Value) (v : V) (B : VB) (m : Mc) (w : World) (hM : MS w C c v B m) : Ret Hvac.prog 96 #[.pointer (some ⟨C, 2435, none⟩)] w fun u w' => Ext w w' ∧ u = .int .u64 v.ref := by
  have hblk := hM.vs.blk
  have hcs := hM.sz
  have hc_ref := hM.vs.rep.ref
  refine Ret_of_W Hvac.func96 rfl rfl ?_
  refine W_seq ?_
  refine W_region rfl ?_
  refine WO_p (PS_assign_int rfl) ?_
  refine WO_nil ?_
  refine thn_normal ?_
  refine W_seq ?_
  refine W_region rfl ?_
  refine WO_p (PS_move_ptr rfl) ?_
  refine WO_p (PS_nilCheck rfl) ?_
  refine WO_p (PS_fieldAddr 24580 Hvac.runUnderlying80 rfl Hvac.sizeOf26 rfl rfl) ?_
  refine WO_load (.int _ _) Hvac.isAgg26 rfl (Hb.h (by repeat (first | assumption | exact Hb.newY _ _ | refine Hb.alloc ?_ | refine Hb.drew ?_ | refine Hb.ext (by assumption) ?_ | exact Hb.setSameL (by first | omega | (simp only [size_alloc, size_setB, size_drew]; omega)) | exact Hb.setSame (by assumption) | refine Hb.set (by first | omega | (simp only [size_alloc, size_setB, size_drew]; omega)) ?_ ))) (Ce.h (by first | assumption | exact ⟨rfl⟩)) ?_
  refine WO_p (PS_assign_int rfl) ?_
  refine WO_nil ?_
  refine thn_normal ?_
  refine W_ret ?_
  refine bodyQ_ret1 Hvac.results96 rfl (.int _ _) rfl ?_
  exact ⟨(by repeat (first | assumption | exact Ext.refl _ | refine Ext.alloc ?_ _ | refine Ext.drew ?_ | refine Ext.setB ?_ (by first | omega | (simp only [size_alloc, size_setB, size_drew]; omega)) _ | refine Ext.trans ?_ (by assumption))), rfl⟩

end Go.Proofs.YgvacwGreat
