import Derived.Test.YgvacwGreatPg
namespace Go.Proofs.YgvacwGreat
set_option linter.unusedSimpArgs false
set_option linter.unusedVariables false
theorem NewB.pb [Om] {w w' : World} {s : SV} {L : List Int} (h : NewB w w' s L) (hO : OmB w) (hL : ∀ x ∈ L, 0 ≤ x ∧ x ≤ 255) : PB w' s L := by
  rcases h with ⟨h1, h2⟩ | ⟨h1, b, h2, h3, h4⟩
  · subst h1; subst h2; exact PB.nil _
  · subst h2; exact PB.newY h4 (hO.fresh h3) hL rfl
theorem NewB.ab {w w' : World} {s : SV} {L : List Int} (h : NewB w w' s L) (hL : ∀ x ∈ L, 0 ≤ x ∧ x ≤ 255) : AB w' s L := by
  rcases h with ⟨h1, h2⟩ | ⟨h1, b, h2, h3, h4⟩
  · subst h1; subst h2; exact ⟨rfl, Nat.le_refl _, hL, fun h => absurd h (Nat.lt_irrefl 0)⟩
  · subst h2; exact AB.whole h4 ⟨rfl, hL⟩
theorem dv_set (M : List Int) (i : Nat) (v : Int) (h : i < M.length) : dv (M.set i v) + 256 ^ i * (M.getD i 0).toNat = dv M + 256 ^ i * v.toNat := by
  have e1 := dv_take (M.set i v) (i + 1) (by simp; omega)
  have e2 := dv_take M (i + 1) (by omega)
  rw [dv_set_take _ _ _ h] at e1
  rw [dv_take1] at e2
  have e3 : (M.set i v).drop (i + 1) = M.drop (i + 1) := by rw [List.drop_set_of_lt (by omega)]
  rw [e3] at e1
  omega

set_option maxRecDepth 10000 in
set_option maxHeartbeats 4000000 in
theorem normN_spec (s : SV) (L : List Int) (w : World) (hs : AB w s L) (hm : s.2.1 ≤ 100000000) : Ret Hvac.prog 79 #[.slice s.1 s.2.1 s.2.2] w fun u w' => Ext w w' ∧ ∃ s' : SV, u = .slice s'.1 s'.2.1 s'.2.2 ∧ NewB w w' s' (dg (dv L)) := by
  obtain ⟨p, n, cp⟩ := s
  have hlc := hs.cap
  have hln := hs.len
  have hby := hs.by_
  dsimp only at hlc hln hby hm ⊢
  have htr := hs.trim
  dsimp only at htr
  obtain ⟨htA, htl⟩ := htr
  
  refine Ret_of_W Hvac.func79 rfl rfl ?_
  refine W_seq ?_
  refine W_region rfl ?_
  refine WO_p (PS_assign_slice rfl) ?_
  refine WO_nil ?_
  refine thn_normal ?_
  refine W_seq ?_
  refine W_region rfl ?_
  refine WO_p (PS_move_slice rfl) ?_
  refine WO_call Hvac.call86 (by rfl) (Ret.mono (trimX_spec (p, n, cp) L _ (AB.ext hs (by repeat (first | assumption | exact Ext.refl _ | refine Ext.alloc ?_ _ | refine Ext.drew ?_ | refine Ext.setB ?_ (by first | omega | (simp only [size_alloc, size_setB, size_drew]; omega)) _ | exact Ext.trans (by assumption) (by assumption) | refine Ext.trans ?_ (by assumption)))) (by dsimp only; omega)) ?_)
  rintro _ w1 ⟨hE1, rfl⟩
  dsimp only
  have hz1 := hE1.1
  refine WO_p (PS_assign_slice rfl) ?_
  refine WO_nil ?_
  refine thn_normal ?_
  refine W_seq ?_
  refine W_seq ?_
  refine W_region rfl ?_
  refine WO_p (PS_move_slice rfl) ?_
  refine WO_p (PS_lenS Hvac.runUnderlying92 rfl) ?_
  refine WO_p (PS_eql rfl rfl) ?_
  refine WO_nil ?_
  refine thn_normal ?_
  refine W_if rfl (fun hb3 => ?_) (fun hb3 => ?_)
  · have hb3p := hb3.h; try simp only [al_ete, al_dfn, Bool.not_eq_true', Bool.not_eq_false', al_ne, Bool.not_not, al_nn] at hb3p
    have hz0 : sz (dv L) = 0 := by omega
    refine W_seq ?_
    refine W_region rfl ?_
    refine WO_p (PS_assign_slice rfl) ?_
    refine WO_nil ?_
    refine thn_normal ?_
    refine W_ret ?_
    refine thn_ret ?_
    refine bodyQ_ret1 Hvac.results79 rfl (.slice _ _ _) rfl ?_
    first
    | (refine ⟨(by repeat (first | assumption | exact Ext.refl _ | refine Ext.alloc ?_ _ | refine Ext.drew ?_ | refine Ext.setB ?_ (by first | omega | (simp only [size_alloc, size_setB, size_drew]; omega)) _ | refine Ext.trans ?_ (by assumption))), (none, 0, 0), rfl, Or.inl ⟨?_, rfl⟩⟩
       rw [sz_eq_zero hz0, dg_zero]; done)
    | exact ⟨(by repeat (first | assumption | exact Ext.refl _ | refine Ext.alloc ?_ _ | refine Ext.drew ?_ | refine Ext.setB ?_ (by first | omega | (simp only [size_alloc, size_setB, size_drew]; omega)) _ | refine Ext.trans ?_ (by assumption))), (some ⟨_, 0, none⟩, sz (dv L), sz (dv L)), rfl, Or.inr ⟨hz0, _, rfl, hz1, Hb.setSame (Hb.newY _ _)⟩⟩
  · have hb3p := hb3.h; try simp only [al_ete, al_dfn, Bool.not_eq_true', Bool.not_eq_false', al_ne, Bool.not_not, al_nn] at hb3p
    obtain ⟨b', o', r', T', fz', hp', hb', hrs', hX'⟩ := htA.row (by show 0 < sz (dv L); omega)
    dsimp only at hp' hrs' hX'
    subst hp'
    have hz0 : dg (dv L) ≠ [] := by intro h0; have := congrArg List.length h0; rw [dg_len, List.length_nil] at this; omega
    refine W_skip ?_
    refine thn_normal ?_
    refine W_seq ?_
    refine W_region rfl ?_
    refine WO_p (PS_move_slice rfl) ?_
    refine WO_p (PS_lenS Hvac.runUnderlying92 rfl) ?_
    refine WO_make (z := .int .u8 0) Hvac.underlying92 info5 rfl rfl rfl (by omega) (by omega) (by show (1:Int) * _ ≤ _; omega) (by omega) ?_
    rw [show (((sz (dv L)):Int)).toNat = (sz (dv L)) from Int.toNat_natCast _, show madeCells (Value.int IntKind.u8 0).cells ((sz (dv L)) * Hvac.t5.size) = ic .u8 (List.replicate (sz (dv L)) 0) from by rw [show Hvac.t5.size = 1 from rfl, Nat.mul_one]; exact made_ic .u8 _]
    refine WO_p (PS_assign_slice rfl) ?_
    refine WO_nil ?_
    refine thn_normal ?_
    refine W_seq ?_
    refine W_region rfl ?_
    refine WO_p (PS_move_slice rfl) ?_
    refine WO_p (PS_move_slice rfl) ?_
    refine WO_copy (sz (dv L)) (vs := ic .u8 (dg (dv L))) Hvac.runUnderlying92 Hvac.sizeOf5 rfl rfl (Hb.h (Hb.newY _ _)) (Hb.h (Hb.alloc (hb'.ext hE1))) (Nat.min_self _) (by rw [size_ic, List.length_replicate]; omega) (by omega) (by rw [Nat.mul_one]; exact hX'.h) oneCell_ic ?_
    rw [splice_whole rfl (by simp [ic, dg_len]), show (ic .u8 (dg (dv L))).toList.toArray = ic .u8 (dg (dv L)) from Array.toArray_toList]
    refine WO_nil ?_
    refine thn_normal ?_
    refine W_seq ?_
    refine W_region rfl ?_
    refine WO_p (PS_move_slice rfl) ?_
    refine WO_p (PS_assign_slice rfl) ?_
    refine WO_nil ?_
    refine thn_normal ?_
    refine W_ret ?_
    refine bodyQ_ret1 Hvac.results79 rfl (.slice _ _ _) rfl ?_
    first
    | (refine ⟨(by repeat (first | assumption | exact Ext.refl _ | refine Ext.alloc ?_ _ | refine Ext.drew ?_ | refine Ext.setB ?_ (by first | omega | (simp only [size_alloc, size_setB, size_drew]; omega)) _ | refine Ext.trans ?_ (by assumption))), (none, 0, 0), rfl, Or.inl ⟨?_, rfl⟩⟩
       rw [sz_eq_zero hz0, dg_zero]; done)
    | exact ⟨(by repeat (first | assumption | exact Ext.refl _ | refine Ext.alloc ?_ _ | refine Ext.drew ?_ | refine Ext.setB ?_ (by first | omega | (simp only [size_alloc, size_setB, size_drew]; omega)) _ | refine Ext.trans ?_ (by assumption))), (some ⟨_, 0, none⟩, sz (dv L), sz (dv L)), rfl, Or.inr ⟨hz0, _, rfl, hz1, Hb.setSame (Hb.newY _ _)⟩⟩

set_option maxRecDepth 10000 in
set_option maxHeartbeats 4000000 in
theorem take0_spec (p : Option Addr) (cp : Nat) (t : Value) (w : World) : Ret Hvac.prog 161 #[.slice p 0 cp, t] w fun u w' => Ext w w' ∧ u = .int .u16 0 := by
  refine Ret_of_W Hvac.func161 rfl rfl ?_
  refine W_seq ?_
  refine W_region rfl ?_
  refine WO_p (PS_assign_int rfl) ?_
  refine WO_nil ?_
  refine thn_normal ?_
  refine W_seq ?_
  refine W_region rfl ?_
  refine WO_p (PS_assign_int rfl) ?_
  refine WO_nil ?_
  refine thn_normal ?_
  refine W_seq ?_
  refine W_seq ?_
  refine W_region rfl ?_
  refine WO_p (PS_move_slice rfl) ?_
  refine WO_p (PS_lenS Hvac.runUnderlying92 rfl) ?_
  refine WO_p (PS_move_int rfl) ?_
  refine WO_nil ?_
  refine thn_normal ?_
  refine W_block ?_
  refine W_loopN (fun k ρ w' => ∃ (i : Nat), i = 0 ∧ Fr [(5, .int .u16 0), (10, .int .i64 0), (11, .int .i64 i)] ρ ∧ Ext w w') 0 ?_ ?_
  · exact ⟨0, rfl, ⟨rfl, rfl, rfl, trivial⟩, (by repeat (first | assumption | exact Ext.refl _ | refine Ext.alloc ?_ _ | refine Ext.drew ?_ | refine Ext.setB ?_ (by first | omega | (simp only [size_alloc, size_setB, size_drew]; omega)) _ | refine Ext.trans ?_ (by assumption)))⟩
  intro k2 ρ2 w2 hI2
  obtain ⟨i, hik, hFr2, hE2⟩ := hI2
  refine W_env _ hFr2 ?_
  have hz2 := hE2.1
  refine W_seq ?_
  refine W_region rfl ?_
  refine WO_p (PS_lss rfl rfl) ?_
  refine WO_nil ?_
  refine thn_normal ?_
  refine W_seq ?_
  refine W_if rfl (fun hb2 => ?_) (fun hb2 => ?_)
  · have hb2p := hb2.h; try simp only [al_ete, al_dfn, Bool.not_eq_true', Bool.not_eq_false', al_ne, Bool.not_not, al_nn] at hb2p
    exfalso; omega --END
  · have hb2p := hb2.h; try simp only [al_ete, al_dfn, Bool.not_eq_true', Bool.not_eq_false', al_ne, Bool.not_not, al_nn] at hb2p
    refine W_exit ?_
    refine thn_exit ?_
    refine thn_exit ?_
    refine inBlk_exit ?_
    refine thn_normal ?_
    refine W_seq ?_
    refine W_region rfl ?_
    refine WO_p (PS_move_int rfl) ?_
    refine WO_p (PS_assign_int rfl) ?_
    refine WO_nil ?_
    refine thn_normal ?_
    refine W_ret ?_
    refine bodyQ_ret1 Hvac.results161 rfl (.int _ _) rfl ?_
    exact ⟨(by repeat (first | assumption | exact Ext.refl _ | refine Ext.alloc ?_ _ | refine Ext.drew ?_ | refine Ext.setB ?_ (by first | omega | (simp only [size_alloc, size_setB, size_drew]; omega)) _ | refine Ext.trans ?_ (by assumption))), rfl⟩

set_option maxRecDepth 10000 in
set_option maxHeartbeats 4000000 in
theorem takeX_spec (ba n cp : Nat) (t : SV) (A B : List Int) (w : World) (ha : Hb w ba (.cells (ic .u8 A) 5 (0, 0))) (hA : By A n) (ht : AB w t B) (hne : 0 < t.2.1 → ∀ b o, t.1 = some ⟨b, o, none⟩ → b ≠ ba) (hm : n ≤ 20000000) (hm2 : t.2.1 ≤ n) : Ret Hvac.prog 161 #[.slice (some ⟨ba, 0, none⟩) n cp, .slice t.1 t.2.1 t.2.2] w fun u w' => ∃ (c : Nat) (A' : List Int), u = .int .u16 (c : Int) ∧ c ≤ 1 ∧ BufT ba 5 A w w' A' ∧ dv A' + dv B = dv A + 256 ^ n * c := by
  obtain ⟨p', n', cp'⟩ := t
  have hln2 := ht.len
  have hAl := hA.1
  dsimp only at hm2 hln2 hne ⊢
  refine Ret_of_W Hvac.func161 rfl rfl ?_
  refine W_seq ?_
  refine W_region rfl ?_
  refine WO_p (PS_assign_int rfl) ?_
  refine WO_nil ?_
  refine thn_normal ?_
  refine W_seq ?_
  refine W_region rfl ?_
  refine WO_p (PS_assign_int rfl) ?_
  refine WO_nil ?_
  refine thn_normal ?_
  refine W_seq ?_
  refine W_seq ?_
  refine W_region rfl ?_
  refine WO_p (PS_move_slice rfl) ?_
  refine WO_p (PS_lenS Hvac.runUnderlying92 rfl) ?_
  refine WO_p (PS_move_int rfl) ?_
  refine WO_nil ?_
  refine thn_normal ?_
  refine W_block ?_
  refine W_loopN (fun k ρ w' => ∃ (i : Nat) (c : Nat) (M : List Int), i + k = n ∧ By M n ∧ c ≤ 1 ∧ (∀ q, i ≤ q → M.getD q 0 = A.getD q 0) ∧ dv (M.take i) + dv (B.take i) = dv (A.take i) + 256 ^ i * c ∧ Fr [(0, .slice (some ⟨ba, 0, none⟩) n cp), (1, .slice p' n' cp'), (5, .int .u16 (c : Int)), (10, .int .i64 n), (11, .int .i64 i)] ρ ∧ KeepO (fun b => b = ba) w w' ∧ Hb w' ba (.cells (ic .u8 M) 5 (0, 0))) n ?_ ?_
  · exact ⟨0, 0, A, by omega, hA, by omega, fun q _ => rfl, rfl, ⟨rfl, rfl, rfl, rfl, rfl, trivial⟩, KeepO.refl _ _, ha⟩
  intro k2 ρ2 w2 hI2
  obtain ⟨i, c, M, hik, hL, hc1, hrest, hsumI, hFr2, hE2, hbp2⟩ := hI2
  refine W_env _ hFr2 ?_
  have hz2 := hE2.1
  refine W_seq ?_
  refine W_region rfl ?_
  refine WO_p (PS_lss rfl rfl) ?_
  refine WO_nil ?_
  refine thn_normal ?_
  refine W_seq ?_
  refine W_if rfl (fun hb2 => ?_) (fun hb2 => ?_)
  · have hb2p := hb2.h; try simp only [al_ete, al_dfn, Bool.not_eq_true', Bool.not_eq_false', al_ne, Bool.not_not, al_nn] at hb2p
    have hga := gd_by hA.2 i
    have hgb := gd_by ht.by_ i
    have hced : Ce (ic .u8 M) (0 + i * 1) (.int .u8 (A.getD i 0)) := by rw [← hrest i (Nat.le_refl _)]; exact ce_ic (by rw [hL.1]; omega)
    refine W_skip ?_
    refine thn_normal ?_
    refine W_seq ?_
    refine W_block ?_
    refine W_seq ?_
    refine W_region rfl ?_
    refine WO_p (PS_move_int rfl) ?_
    refine WO_p (PS_assign_int rfl) ?_
    refine WO_nil ?_
    refine thn_normal ?_
    refine W_seq ?_
    refine W_region rfl ?_
    refine WO_p (PS_move_int rfl) ?_
    refine WO_p (PS_assign_int rfl) ?_
    refine WO_nil ?_
    refine thn_normal ?_
    refine W_seq ?_
    refine W_seq ?_
    refine W_region rfl ?_
    refine WO_p (PS_move_int rfl) ?_
    refine WO_p (PS_move_slice rfl) ?_
    refine WO_p (PS_lenS Hvac.runUnderlying92 rfl) ?_
    refine WO_p (PS_lss rfl rfl) ?_
    refine WO_nil ?_
    refine thn_normal ?_
    refine W_if rfl (fun hb4 => ?_) (fun hb4 => ?_)
    · have hb4p := hb4.h; try simp only [al_ete, al_dfn, Bool.not_eq_true', Bool.not_eq_false', al_ne, Bool.not_not, al_nn] at hb4p
      obtain ⟨b', o', r', T', fz', hp', hb', hrs', hat'⟩ := (ht.kp hE2 hne).at_ (by omega)
      subst hp'
      have hneb : b' ≠ ba := hne (by omega) b' o' rfl
      have hce' := hat' i (by omega)
      refine W_region rfl ?_
      refine WO_p (PS_move_int rfl) ?_
      refine WO_p (PS_move_slice rfl) ?_
      refine WO_p (PS_move_int rfl) ?_
      refine WO_p (PS_indexS Hvac.runUnderlying92 Hvac.sizeOf5 rfl rfl (by omega) (by omega)) ?_
      refine WO_load (.int _ _) Hvac.isAgg5 rfl (Hb.h (by repeat (first | assumption | exact Hb.newY _ _ | refine Hb.alloc ?_ | refine Hb.drew ?_ | refine Hb.ext (by assumption) ?_ | exact Hb.setSameL (by first | omega | (simp only [size_alloc, size_setB, size_drew]; omega)) | exact Hb.setSame (by assumption) | refine Hb.set (by first | omega | (simp only [size_alloc, size_setB, size_drew]; omega)) ?_ ))) (Ce.h (by first | assumption | exact ⟨rfl⟩)) ?_
      refine WO_p (PS_conv_u16n Hvac.runUnderlying5 Hvac.runUnderlying42 rfl (by omega) (by omega)) ?_
      refine WO_p (PS_add_u16n rfl rfl (by omega) (by omega)) ?_
      refine WO_p (PS_assign_int rfl) ?_
      refine WO_nil ?_
      refine thn_normal ?_
      refine W_seq ?_
      refine W_region rfl ?_
      refine WO_p (PS_move_slice rfl) ?_
      refine WO_p (PS_move_int rfl) ?_
      refine WO_p (PS_indexS Hvac.runUnderlying92 Hvac.sizeOf5 rfl rfl (by omega) (by omega)) ?_
      refine WO_load (.int _ _) Hvac.isAgg5 rfl (Hb.h (by repeat (first | assumption | exact Hb.newY _ _ | refine Hb.alloc ?_ | refine Hb.drew ?_ | refine Hb.ext (by assumption) ?_ | exact Hb.setSameL (by first | omega | (simp only [size_alloc, size_setB, size_drew]; omega)) | exact Hb.setSame (by assumption) | refine Hb.set (by first | omega | (simp only [size_alloc, size_setB, size_drew]; omega)) ?_ ))) (Ce.h (by first | assumption | exact ⟨rfl⟩)) ?_
      refine WO_p (PS_conv_u16n Hvac.runUnderlying5 Hvac.runUnderlying42 rfl (by omega) (by omega)) ?_
      refine WO_p (PS_assign_int rfl) ?_
      refine WO_nil ?_
      refine thn_normal ?_
      refine W_seq ?_
      refine W_region rfl ?_
      refine WO_p (PS_assign_int rfl) ?_
      refine WO_nil ?_
      refine thn_normal ?_
      refine W_seq ?_
      refine W_seq ?_
      refine W_region rfl ?_
      refine WO_p (PS_move_int rfl) ?_
      refine WO_p (PS_move_int rfl) ?_
      refine WO_p (PS_lss rfl rfl) ?_
      refine WO_nil ?_
      refine thn_normal ?_
      refine W_if rfl (fun hb6 => ?_) (fun hb6 => ?_)
      · have hb6p := hb6.h; try simp only [al_ete, al_dfn, Bool.not_eq_true', Bool.not_eq_false', al_ne, Bool.not_not, al_nn] at hb6p
        refine W_seq ?_
        refine W_region rfl ?_
        refine WO_p (PS_move_int rfl) ?_
        refine WO_p (PS_add_u16n rfl rfl (by omega) (by omega)) ?_
        refine WO_p (PS_assign_int rfl) ?_
        refine WO_nil ?_
        refine thn_normal ?_
        refine W_region rfl ?_
        refine WO_p (PS_assign_int rfl) ?_
        refine WO_nil ?_
        refine thn_normal ?_
        refine W_region rfl ?_
        refine WO_p (PS_move_slice rfl) ?_
        refine WO_p (PS_move_int rfl) ?_
        refine WO_p (PS_move_int rfl) ?_
        refine WO_p (PS_move_int rfl) ?_
        refine WO_p (PS_sub_u16n rfl rfl (by omega) (by omega)) ?_
        refine WO_p (PS_conv_u8n Hvac.runUnderlying42 Hvac.runUnderlying5 rfl (by omega) (by omega)) ?_
        refine WO_p (PS_indexS Hvac.runUnderlying92 Hvac.sizeOf5 rfl rfl (by omega) (by omega)) ?_
        refine WO_store1 Hvac.sizeOf5 rfl (v := .int _ _) rfl hbp2.h rfl (by rw [size_ic, hL.1]; omega) rfl ?_
        rw [show ((i : Int)).toNat = i from Int.toNat_natCast i, ic_set]
        refine WO_nil ?_
        refine inBlk_normal ?_
        refine thn_normal ?_
        refine W_region rfl ?_
        refine WO_p (PS_add_i64n rfl rfl (by omega) (by omega)) ?_
        refine WO_p (PS_move_int rfl) ?_
        refine WO_nil ?_
        refine thn_normal ?_
        have hst := subd_step (M := M) (c' := 1) hA.2 ht.by_ (by rw [hL.1]; omega) hsumI (v := (A.getD i 0 + 256) - ((c : Int) + B.getD i 0)) (by omega) (by omega)
        exact ⟨k2 - 1, by omega, i + 1, 1, _, by omega, set_by hL (by omega), by omega, fun q hq => by rw [gd_set _ _ _ _ (by rw [hL.1]; omega), if_neg (by omega)]; exact hrest q (by omega), hst, ⟨rfl, rfl, rfl, rfl, congrArg (Value.int .i64) (by omega), trivial⟩, KeepO.setB hE2 (fun _ => rfl) _, Hb.setSame hbp2⟩
      · have hb6p := hb6.h; try simp only [al_ete, al_dfn, Bool.not_eq_true', Bool.not_eq_false', al_ne, Bool.not_not, al_nn] at hb6p
        refine W_skip ?_
        refine thn_normal ?_
        refine W_region rfl ?_
        refine WO_p (PS_move_slice rfl) ?_
        refine WO_p (PS_move_int rfl) ?_
        refine WO_p (PS_move_int rfl) ?_
        refine WO_p (PS_move_int rfl) ?_
        refine WO_p (PS_sub_u16n rfl rfl (by omega) (by omega)) ?_
        refine WO_p (PS_conv_u8n Hvac.runUnderlying42 Hvac.runUnderlying5 rfl (by omega) (by omega)) ?_
        refine WO_p (PS_indexS Hvac.runUnderlying92 Hvac.sizeOf5 rfl rfl (by omega) (by omega)) ?_
        refine WO_store1 Hvac.sizeOf5 rfl (v := .int _ _) rfl hbp2.h rfl (by rw [size_ic, hL.1]; omega) rfl ?_
        rw [show ((i : Int)).toNat = i from Int.toNat_natCast i, ic_set]
        refine WO_nil ?_
        refine inBlk_normal ?_
        refine thn_normal ?_
        refine W_region rfl ?_
        refine WO_p (PS_add_i64n rfl rfl (by omega) (by omega)) ?_
        refine WO_p (PS_move_int rfl) ?_
        refine WO_nil ?_
        refine thn_normal ?_
        have hst := subd_step (M := M) (c' := 0) hA.2 ht.by_ (by rw [hL.1]; omega) hsumI (v := (A.getD i 0) - ((c : Int) + B.getD i 0)) (by omega) (by omega)
        exact ⟨k2 - 1, by omega, i + 1, 0, _, by omega, set_by hL (by omega), by omega, fun q hq => by rw [gd_set _ _ _ _ (by rw [hL.1]; omega), if_neg (by omega)]; exact hrest q (by omega), hst, ⟨rfl, rfl, rfl, rfl, congrArg (Value.int .i64) (by omega), trivial⟩, KeepO.setB hE2 (fun _ => rfl) _, Hb.setSame hbp2⟩
    · have hb4p := hb4.h; try simp only [al_ete, al_dfn, Bool.not_eq_true', Bool.not_eq_false', al_ne, Bool.not_not, al_nn] at hb4p
      have hy0 : B.getD i 0 = 0 := gd_ge (by omega)
      refine W_skip ?_
      refine thn_normal ?_
      refine W_seq ?_
      refine W_region rfl ?_
      refine WO_p (PS_move_slice rfl) ?_
      refine WO_p (PS_move_int rfl) ?_
      refine WO_p (PS_indexS Hvac.runUnderlying92 Hvac.sizeOf5 rfl rfl (by omega) (by omega)) ?_
      refine WO_load (.int _ _) Hvac.isAgg5 rfl (Hb.h (by repeat (first | assumption | exact Hb.newY _ _ | refine Hb.alloc ?_ | refine Hb.drew ?_ | refine Hb.ext (by assumption) ?_ | exact Hb.setSameL (by first | omega | (simp only [size_alloc, size_setB, size_drew]; omega)) | exact Hb.setSame (by assumption) | refine Hb.set (by first | omega | (simp only [size_alloc, size_setB, size_drew]; omega)) ?_ ))) (Ce.h (by first | assumption | exact ⟨rfl⟩)) ?_
      refine WO_p (PS_conv_u16n Hvac.runUnderlying5 Hvac.runUnderlying42 rfl (by omega) (by omega)) ?_
      refine WO_p (PS_assign_int rfl) ?_
      refine WO_nil ?_
      refine thn_normal ?_
      refine W_seq ?_
      refine W_region rfl ?_
      refine WO_p (PS_assign_int rfl) ?_
      refine WO_nil ?_
      refine thn_normal ?_
      refine W_seq ?_
      refine W_seq ?_
      refine W_region rfl ?_
      refine WO_p (PS_move_int rfl) ?_
      refine WO_p (PS_move_int rfl) ?_
      refine WO_p (PS_lss rfl rfl) ?_
      refine WO_nil ?_
      refine thn_normal ?_
      refine W_if rfl (fun hb8 => ?_) (fun hb8 => ?_)
      · have hb8p := hb8.h; try simp only [al_ete, al_dfn, Bool.not_eq_true', Bool.not_eq_false', al_ne, Bool.not_not, al_nn] at hb8p
        refine W_seq ?_
        refine W_region rfl ?_
        refine WO_p (PS_move_int rfl) ?_
        refine WO_p (PS_add_u16n rfl rfl (by omega) (by omega)) ?_
        refine WO_p (PS_assign_int rfl) ?_
        refine WO_nil ?_
        refine thn_normal ?_
        refine W_region rfl ?_
        refine WO_p (PS_assign_int rfl) ?_
        refine WO_nil ?_
        refine thn_normal ?_
        refine W_region rfl ?_
        refine WO_p (PS_move_slice rfl) ?_
        refine WO_p (PS_move_int rfl) ?_
        refine WO_p (PS_move_int rfl) ?_
        refine WO_p (PS_move_int rfl) ?_
        refine WO_p (PS_sub_u16n rfl rfl (by omega) (by omega)) ?_
        refine WO_p (PS_conv_u8n Hvac.runUnderlying42 Hvac.runUnderlying5 rfl (by omega) (by omega)) ?_
        refine WO_p (PS_indexS Hvac.runUnderlying92 Hvac.sizeOf5 rfl rfl (by omega) (by omega)) ?_
        refine WO_store1 Hvac.sizeOf5 rfl (v := .int _ _) rfl hbp2.h rfl (by rw [size_ic, hL.1]; omega) rfl ?_
        rw [show ((i : Int)).toNat = i from Int.toNat_natCast i, ic_set]
        refine WO_nil ?_
        refine inBlk_normal ?_
        refine thn_normal ?_
        refine W_region rfl ?_
        refine WO_p (PS_add_i64n rfl rfl (by omega) (by omega)) ?_
        refine WO_p (PS_move_int rfl) ?_
        refine WO_nil ?_
        refine thn_normal ?_
        have hst := subd_step (M := M) (c' := 1) hA.2 ht.by_ (by rw [hL.1]; omega) hsumI (v := (A.getD i 0 + 256) - (c : Int)) (by omega) (by omega)
        exact ⟨k2 - 1, by omega, i + 1, 1, _, by omega, set_by hL (by omega), by omega, fun q hq => by rw [gd_set _ _ _ _ (by rw [hL.1]; omega), if_neg (by omega)]; exact hrest q (by omega), hst, ⟨rfl, rfl, rfl, rfl, congrArg (Value.int .i64) (by omega), trivial⟩, KeepO.setB hE2 (fun _ => rfl) _, Hb.setSame hbp2⟩
      · have hb8p := hb8.h; try simp only [al_ete, al_dfn, Bool.not_eq_true', Bool.not_eq_false', al_ne, Bool.not_not, al_nn] at hb8p
        refine W_skip ?_
        refine thn_normal ?_
        refine W_region rfl ?_
        refine WO_p (PS_move_slice rfl) ?_
        refine WO_p (PS_move_int rfl) ?_
        refine WO_p (PS_move_int rfl) ?_
        refine WO_p (PS_move_int rfl) ?_
        refine WO_p (PS_sub_u16n rfl rfl (by omega) (by omega)) ?_
        refine WO_p (PS_conv_u8n Hvac.runUnderlying42 Hvac.runUnderlying5 rfl (by omega) (by omega)) ?_
        refine WO_p (PS_indexS Hvac.runUnderlying92 Hvac.sizeOf5 rfl rfl (by omega) (by omega)) ?_
        refine WO_store1 Hvac.sizeOf5 rfl (v := .int _ _) rfl hbp2.h rfl (by rw [size_ic, hL.1]; omega) rfl ?_
        rw [show ((i : Int)).toNat = i from Int.toNat_natCast i, ic_set]
        refine WO_nil ?_
        refine inBlk_normal ?_
        refine thn_normal ?_
        refine W_region rfl ?_
        refine WO_p (PS_add_i64n rfl rfl (by omega) (by omega)) ?_
        refine WO_p (PS_move_int rfl) ?_
        refine WO_nil ?_
        refine thn_normal ?_
        have hst := subd_step (M := M) (c' := 0) hA.2 ht.by_ (by rw [hL.1]; omega) hsumI (v := (A.getD i 0) - (c : Int)) (by omega) (by omega)
        exact ⟨k2 - 1, by omega, i + 1, 0, _, by omega, set_by hL (by omega), by omega, fun q hq => by rw [gd_set _ _ _ _ (by rw [hL.1]; omega), if_neg (by omega)]; exact hrest q (by omega), hst, ⟨rfl, rfl, rfl, rfl, congrArg (Value.int .i64) (by omega), trivial⟩, KeepO.setB hE2 (fun _ => rfl) _, Hb.setSame hbp2⟩
  · have hb2p := hb2.h; try simp only [al_ete, al_dfn, Bool.not_eq_true', Bool.not_eq_false', al_ne, Bool.not_not, al_nn] at hb2p
    refine W_exit ?_
    refine thn_exit ?_
    refine thn_exit ?_
    refine inBlk_exit ?_
    refine thn_normal ?_
    refine W_seq ?_
    refine W_region rfl ?_
    refine WO_p (PS_move_int rfl) ?_
    refine WO_p (PS_assign_int rfl) ?_
    refine WO_nil ?_
    refine thn_normal ?_
    refine W_ret ?_
    refine bodyQ_ret1 Hvac.results161 rfl (.int _ _) rfl ?_
    have hi0 : i = n := by omega
    refine ⟨c, M, rfl, hc1, ⟨by rw [hL.1, hA.1], fun _ => hL.2, hbp2, hE2⟩, ?_⟩
    have e1 : M.take n = M := List.take_of_length_le (by rw [hL.1]; exact Nat.le_refl _)
    have e2 : A.take n = A := List.take_of_length_le (by rw [hA.1]; exact Nat.le_refl _)
    have e3 : B.take n = B := List.take_of_length_le (by omega)
    rw [hi0, e1, e2, e3] at hsumI
    exact hsumI

theorem NewB.ext2 {w0 w w' : World} {s : SV} {L : List Int} (h : NewB w0 w s L) (he : Ext w w') : NewB w0 w' s L := by
  rcases h with h | ⟨h1, b, h2, h3, h4⟩
  · exact Or.inl h
  · exact Or.inr ⟨h1, b, h2, h3, h4.ext he⟩
theorem takeN_spec (s t : SV) (A B : List Int) (w0 w : World) (he : Ext w0 w) (hs : NewB w0 w s A) (hA : ∀ x ∈ A, 0 ≤ x ∧ x ≤ 255) (ht : AB w t B) (hb : 0 < t.2.1 → ∀ b o, t.1 = some ⟨b, o, none⟩ → b < w0.heap.size) (hm : A.length ≤ 10000000) (hm2 : t.2.1 ≤ A.length) :
    Ret Hvac.prog 161 #[.slice s.1 s.2.1 s.2.2, .slice t.1 t.2.1 t.2.2] w fun u w' => ∃ (c : Nat) (A' : List Int), u = .int .u16 (c : Int) ∧ Ext w0 w' ∧ NewB w0 w' s A' ∧ A'.length = A.length ∧ (∀ x ∈ A', 0 ≤ x ∧ x ≤ 255) ∧ dv A' + dv B = dv A + 256 ^ A.length * c := by
  rcases hs with ⟨h1, h2⟩ | ⟨h1, b, h2, h3, h4⟩
  · subst h1; subst h2
    have hB : B = [] := by
      have := ht.len
      simp at hm2
      exact List.eq_nil_of_length_eq_zero (by omega)
    subst hB
    refine (take0_spec none 0 _ w).mono ?_
    rintro u w' ⟨hE, rfl⟩
    exact ⟨0, [], rfl, he.trans hE, Or.inl ⟨rfl, rfl⟩, rfl, (by intro x hx; cases hx), rfl⟩
  · subst h2
    refine (takeX_spec b A.length A.length t A B w h4 ⟨rfl, hA⟩ ht (fun h0 b' o e => by have := hb h0 b' o e; omega) (by omega) hm2).mono ?_
    rintro u w' ⟨c, A', rfl, _, hT, hd⟩
    have hl := hT.len
    refine ⟨c, A', rfl, hT.ext he h3, Or.inr ⟨?_, b, by rw [hl], h3, hT.hb⟩, hl, hT.ty hA, hd⟩
    intro h0; rw [h0] at hl
    exact h1 (List.eq_nil_of_length_eq_zero hl.symm)

end Go.Proofs.YgvacwGreat
