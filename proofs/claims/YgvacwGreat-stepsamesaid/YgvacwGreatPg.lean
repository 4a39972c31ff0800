import Derived.Test.YgvacwGreatPf
namespace Go.Proofs.YgvacwGreat
set_option linter.unusedSimpArgs false
set_option linter.unusedVariables false
theorem dv_take1 (L : List Int) (i : Nat) : dv (L.take (i + 1)) = dv (L.take i) + 256 ^ i * (L.getD i 0).toNat := by
  rcases Nat.lt_or_ge i L.length with h | h
  · exact dv_take_succ L i h
  · rw [List.take_of_length_le (by omega), List.take_of_length_le h, gd_ge h]; rfl
theorem dv_set_take (M : List Int) (i : Nat) (v : Int) (h : i < M.length) : dv ((M.set i v).take (i + 1)) = dv (M.take i) + 256 ^ i * v.toNat := by
  rw [dv_take1, gd_set _ _ _ _ h, if_pos rfl, List.take_set_of_le (Nat.le_refl i)]
theorem add_step {A B : List Int} (hA : ∀ x ∈ A, 0 ≤ x ∧ x ≤ 255) (hB : ∀ x ∈ B, 0 ≤ x ∧ x ≤ 255) {i c : Nat} {M : List Int} {s : Int} (hM : i < M.length) (hI : dv (M.take i) + 256 ^ i * c = dv (A.take i) + dv (B.take i))
    (hs : s = (c : Int) + A.getD i 0 + B.getD i 0) : dv ((M.set i (s % 256)).take (i + 1)) + 256 ^ (i + 1) * (s / 2 ^ 8).toNat = dv (A.take (i + 1)) + dv (B.take (i + 1)) := by
  have h1 := gd_by hA i
  have h2 := gd_by hB i
  rw [dv_set_take _ _ _ hM, dv_take1 A, dv_take1 B, Nat.pow_succ]
  have e : (s % 256).toNat + 256 * (s / 2 ^ 8).toNat = c + (A.getD i 0).toNat + (B.getD i 0).toNat := by omega
  have e2 := congrArg (fun z => 256 ^ i * z) e
  simp only [Nat.mul_add] at e2
  have e3 : 256 ^ i * 256 * (s / 2 ^ 8).toNat = 256 ^ i * (256 * (s / 2 ^ 8).toNat) := Nat.mul_assoc _ _ _
  omega
/-- subtraction digit by digit -/
theorem subd_step {A B : List Int} (hA : ∀ x ∈ A, 0 ≤ x ∧ x ≤ 255) (hB : ∀ x ∈ B, 0 ≤ x ∧ x ≤ 255) {i c c' : Nat} {M : List Int} {v : Int} (hM : i < M.length) (hI : dv (M.take i) + dv (B.take i) = dv (A.take i) + 256 ^ i * c) (h0 : 0 ≤ v)
    (hs : v + (c : Int) + B.getD i 0 = A.getD i 0 + 256 * (c' : Int)) : dv ((M.set i v).take (i + 1)) + dv (B.take (i + 1)) = dv (A.take (i + 1)) + 256 ^ (i + 1) * c' := by
  have h1 := gd_by hA i
  have h2 := gd_by hB i
  rw [dv_set_take _ _ _ hM, dv_take1 A, dv_take1 B, Nat.pow_succ]
  have e : v.toNat + c + (B.getD i 0).toNat = (A.getD i 0).toNat + 256 * c' := by omega
  have e2 := congrArg (fun z => 256 ^ i * z) e
  simp only [Nat.mul_add] at e2
  have e3 : 256 ^ i * 256 * c' = 256 ^ i * (256 * c') := Nat.mul_assoc _ _ _
  omega
theorem AB.kp {w w' : World} {s : SV} {L : List Int} {b0 : Nat} (h : AB w s L) (hk : KeepO (fun b => b = b0) w w') (hn : 0 < s.2.1 → ∀ b o, s.1 = some ⟨b, o, none⟩ → b ≠ b0) : AB w' s L :=
  { h with row := fun h0 => by obtain ⟨b, o, r, T, fz, h1, h2, h3⟩ := h.row h0; exact ⟨b, o, r, T, fz, h1, h2.keepO hk (hn h0 b o h1), h3⟩ }

set_option maxRecDepth 10000 in
set_option maxHeartbeats 4000000 in
theorem addX_spec [Om] (s t : SV) (A B : List Int) (w : World) (hO : OmB w) (hs : AB w s A) (ht : AB w t B) (hm : s.2.1 ≤ 10000000) (hm2 : t.2.1 ≤ 10000000) : Ret Hvac.prog 24 #[.slice s.1 s.2.1 s.2.2, .slice t.1 t.2.1 t.2.2] w fun u w' => Ext w w' ∧ ∃ s' : SV, u = .slice s'.1 s'.2.1 s'.2.2 ∧ NN w' s' (dv A + dv B) := by
  obtain ⟨p, n, cp⟩ := s
  obtain ⟨p', n', cp'⟩ := t
  have htr := hs.trim
  have htr2 := ht.trim
  dsimp only at htr htr2 hm hm2 ⊢
  obtain ⟨htA, htl⟩ := htr
  obtain ⟨htB, htl2⟩ := htr2
  generalize hnn : dv A = nn at *
  generalize hnn2 : dv B = mm at *
  refine Ret_of_W Hvac.func24 rfl rfl ?_
  refine W_seq ?_
  refine W_region rfl ?_
  refine WO_p (PS_assign_slice rfl) ?_
  refine WO_nil ?_
  refine thn_normal ?_
  refine W_seq ?_
  refine W_region rfl ?_
  refine WO_p (PS_move_slice rfl) ?_
  refine WO_call Hvac.call86 (by rfl) (Ret.mono (trimX_spec (p, n, cp) A _ (AB.ext hs (by repeat (first | assumption | exact Ext.refl _ | refine Ext.alloc ?_ _ | refine Ext.drew ?_ | refine Ext.setB ?_ (by first | omega | (simp only [size_alloc, size_setB, size_drew]; omega)) _ | exact Ext.trans (by assumption) (by assumption) | refine Ext.trans ?_ (by assumption)))) (by dsimp only; omega)) ?_)
  rintro _ w1 ⟨hE1, hu1⟩
  rw [hnn] at hu1
  subst hu1
  have hz1 := hE1.1
  refine WO_p (PS_assign_slice rfl) ?_
  refine WO_nil ?_
  refine thn_normal ?_
  refine W_seq ?_
  refine W_region rfl ?_
  refine WO_p (PS_move_slice rfl) ?_
  refine WO_call Hvac.call86 (by rfl) (Ret.mono (trimX_spec (p', n', cp') B _ (AB.ext ht (by repeat (first | assumption | exact Ext.refl _ | refine Ext.alloc ?_ _ | refine Ext.drew ?_ | refine Ext.setB ?_ (by first | omega | (simp only [size_alloc, size_setB, size_drew]; omega)) _ | exact Ext.trans (by assumption) (by assumption) | refine Ext.trans ?_ (by assumption)))) (by dsimp only; omega)) ?_)
  rintro _ w2 ⟨hE2, hu2⟩
  rw [hnn2] at hu2
  subst hu2
  have hz2 := hE2.1
  refine WO_p (PS_assign_slice rfl) ?_
  refine WO_nil ?_
  refine thn_normal ?_
  refine W_seqJ (fun ρ w' => ∃ (p0 p1 : Option Addr) (x y : Nat), x + y = nn + mm ∧ sz y ≤ sz x ∧ sz x ≤ 10000000 ∧ AB w' (p0, sz x, sz x) (dg x) ∧ AB w' (p1, sz y, sz y) (dg y) ∧ Fr [(0, .slice p0 (sz x) (sz x)), (1, .slice p1 (sz y) (sz y))] ρ ∧ Ext w w') ?_ ?_
  · skip
    refine W_seq ?_
    refine W_region rfl ?_
    refine WO_p (PS_move_slice rfl) ?_
    refine WO_p (PS_lenS Hvac.runUnderlying92 rfl) ?_
    refine WO_p (PS_move_slice rfl) ?_
    refine WO_p (PS_lenS Hvac.runUnderlying92 rfl) ?_
    refine WO_p (PS_lss rfl rfl) ?_
    refine WO_nil ?_
    refine thn_normal ?_
    refine W_if rfl (fun hb4 => ?_) (fun hb4 => ?_)
    · have hb4p := hb4.h; try simp only [al_ete, al_dfn, Bool.not_eq_true', Bool.not_eq_false', al_ne, Bool.not_not, al_nn] at hb4p
      refine W_region rfl ?_
      refine WO_p (PS_move_slice rfl) ?_
      refine WO_p (PS_move_slice rfl) ?_
      refine WO_p (PS_assign_slice rfl) ?_
      refine WO_p (PS_assign_slice rfl) ?_
      refine WO_nil ?_
      refine thn_normal ?_
      first
      | exact ⟨p, p', nn, mm, rfl, by omega, by omega, AB.ext htA (by repeat (first | assumption | exact Ext.refl _ | refine Ext.alloc ?_ _ | refine Ext.drew ?_ | refine Ext.setB ?_ (by first | omega | (simp only [size_alloc, size_setB, size_drew]; omega)) _ | exact Ext.trans (by assumption) (by assumption) | refine Ext.trans ?_ (by assumption))), AB.ext htB (by repeat (first | assumption | exact Ext.refl _ | refine Ext.alloc ?_ _ | refine Ext.drew ?_ | refine Ext.setB ?_ (by first | omega | (simp only [size_alloc, size_setB, size_drew]; omega)) _ | exact Ext.trans (by assumption) (by assumption) | refine Ext.trans ?_ (by assumption))), ⟨rfl, rfl, trivial⟩, (by repeat (first | assumption | exact Ext.refl _ | refine Ext.alloc ?_ _ | refine Ext.drew ?_ | refine Ext.setB ?_ (by first | omega | (simp only [size_alloc, size_setB, size_drew]; omega)) _ | exact Ext.trans (by assumption) (by assumption) | refine Ext.trans ?_ (by assumption)))⟩
      | exact ⟨p', p, mm, nn, Nat.add_comm _ _, by omega, by omega, AB.ext htB (by repeat (first | assumption | exact Ext.refl _ | refine Ext.alloc ?_ _ | refine Ext.drew ?_ | refine Ext.setB ?_ (by first | omega | (simp only [size_alloc, size_setB, size_drew]; omega)) _ | exact Ext.trans (by assumption) (by assumption) | refine Ext.trans ?_ (by assumption))), AB.ext htA (by repeat (first | assumption | exact Ext.refl _ | refine Ext.alloc ?_ _ | refine Ext.drew ?_ | refine Ext.setB ?_ (by first | omega | (simp only [size_alloc, size_setB, size_drew]; omega)) _ | exact Ext.trans (by assumption) (by assumption) | refine Ext.trans ?_ (by assumption))), ⟨rfl, rfl, trivial⟩, (by repeat (first | assumption | exact Ext.refl _ | refine Ext.alloc ?_ _ | refine Ext.drew ?_ | refine Ext.setB ?_ (by first | omega | (simp only [size_alloc, size_setB, size_drew]; omega)) _ | exact Ext.trans (by assumption) (by assumption) | refine Ext.trans ?_ (by assumption)))⟩
    · have hb4p := hb4.h; try simp only [al_ete, al_dfn, Bool.not_eq_true', Bool.not_eq_false', al_ne, Bool.not_not, al_nn] at hb4p
      refine W_skip ?_
      refine thn_normal ?_
      first
      | exact ⟨p, p', nn, mm, rfl, by omega, by omega, AB.ext htA (by repeat (first | assumption | exact Ext.refl _ | refine Ext.alloc ?_ _ | refine Ext.drew ?_ | refine Ext.setB ?_ (by first | omega | (simp only [size_alloc, size_setB, size_drew]; omega)) _ | exact Ext.trans (by assumption) (by assumption) | refine Ext.trans ?_ (by assumption))), AB.ext htB (by repeat (first | assumption | exact Ext.refl _ | refine Ext.alloc ?_ _ | refine Ext.drew ?_ | refine Ext.setB ?_ (by first | omega | (simp only [size_alloc, size_setB, size_drew]; omega)) _ | exact Ext.trans (by assumption) (by assumption) | refine Ext.trans ?_ (by assumption))), ⟨rfl, rfl, trivial⟩, (by repeat (first | assumption | exact Ext.refl _ | refine Ext.alloc ?_ _ | refine Ext.drew ?_ | refine Ext.setB ?_ (by first | omega | (simp only [size_alloc, size_setB, size_drew]; omega)) _ | exact Ext.trans (by assumption) (by assumption) | refine Ext.trans ?_ (by assumption)))⟩
      | exact ⟨p', p, mm, nn, Nat.add_comm _ _, by omega, by omega, AB.ext htB (by repeat (first | assumption | exact Ext.refl _ | refine Ext.alloc ?_ _ | refine Ext.drew ?_ | refine Ext.setB ?_ (by first | omega | (simp only [size_alloc, size_setB, size_drew]; omega)) _ | exact Ext.trans (by assumption) (by assumption) | refine Ext.trans ?_ (by assumption))), AB.ext htA (by repeat (first | assumption | exact Ext.refl _ | refine Ext.alloc ?_ _ | refine Ext.drew ?_ | refine Ext.setB ?_ (by first | omega | (simp only [size_alloc, size_setB, size_drew]; omega)) _ | exact Ext.trans (by assumption) (by assumption) | refine Ext.trans ?_ (by assumption))), ⟨rfl, rfl, trivial⟩, (by repeat (first | assumption | exact Ext.refl _ | refine Ext.alloc ?_ _ | refine Ext.drew ?_ | refine Ext.setB ?_ (by first | omega | (simp only [size_alloc, size_setB, size_drew]; omega)) _ | exact Ext.trans (by assumption) (by assumption) | refine Ext.trans ?_ (by assumption)))⟩
  · rintro ρ3 w3 ⟨p0, p1, x, y, hsum, hyx, hx8, hAx, hAy, hFr3, hE3⟩
    refine W_env _ hFr3 ?_
    have hz3 := hE3.1
    obtain ⟨n1, hn1⟩ : ∃ n1 : Nat, n1 = sz x + 1 := ⟨_, rfl⟩
    have hn2 : (sz x : Int) + 1 = (n1 : Int) := by omega
    refine W_seq ?_
    refine W_region rfl ?_
    refine WO_p (PS_move_slice rfl) ?_
    refine WO_p (PS_lenS Hvac.runUnderlying92 rfl) ?_
    refine WO_p (PS_add_i64n rfl rfl (by omega) (by omega)) ?_
    rw [hn2]
    refine WO_make (z := .int .u8 0) Hvac.underlying92 info5 rfl rfl rfl (by omega) (by omega) (by show (1:Int) * _ ≤ _; omega) (by omega) ?_
    rw [show ((n1:Int)).toNat = n1 from Int.toNat_natCast _, show madeCells (Value.int IntKind.u8 0).cells (n1 * Hvac.t5.size) = ic .u8 (List.replicate n1 0) from by rw [show Hvac.t5.size = 1 from rfl, Nat.mul_one]; exact made_ic .u8 _]
    apply WO_gen4; intro w27 hw27
    have hb27 : Hb w27 w3.heap.size (.cells (ic .u8 (List.replicate n1 0)) 5 (0, 0)) := by rw [hw27]; exact Hb.newY _ _
    have hE27 : Ext w w27 := by rw [hw27]; exact Ext.alloc hE3 _
    have hE37 : Ext w3 w27 := by rw [hw27]; exact Ext.alloc (Ext.refl _) _
    have hfr := hO.fresh hE3.1
    have hz37 := hE37.1
    have hkx : ∀ w', Ext w3 w' → AB w' (p0, sz x, sz x) (dg x) ∧ AB w' (p1, sz y, sz y) (dg y) := fun w' he => ⟨hAx.ext he, hAy.ext he⟩
    obtain ⟨b4, hb4e⟩ : ∃ b4, b4 = w3.heap.size := ⟨_, rfl⟩
    rw [← hb4e] at hb27 hfr ⊢
    clear hw27
    refine WO_p (PS_assign_slice rfl) ?_
    refine WO_nil ?_
    refine thn_normal ?_
    refine W_seq ?_
    refine W_region rfl ?_
    refine WO_p (PS_assign_int rfl) ?_
    refine WO_nil ?_
    refine thn_normal ?_
    refine W_seq ?_
    refine W_seq ?_
    refine W_region rfl ?_
    refine WO_p (PS_move_slice rfl) ?_
    refine WO_p (PS_lenS Hvac.runUnderlying92 rfl) ?_
    refine WO_p (PS_move_int rfl) ?_
    refine WO_nil ?_
    refine thn_normal ?_
    refine W_block ?_
    refine W_loopN (fun k ρ w' => ∃ (i : Nat) (c : Nat) (M : List Int), i + k = sz x ∧ By M n1 ∧ c ≤ 1 ∧ dv (M.take i) + 256 ^ i * c = dv ((dg x).take i) + dv ((dg y).take i) ∧ Fr [(0, .slice p0 (sz x) (sz x)), (1, .slice p1 (sz y) (sz y)), (5, .slice (some ⟨b4, 0, none⟩) n1 n1), (6, .int .u16 (c : Int)), (24, .slice p0 (sz x) (sz x)), (25, .int .i64 (sz x)), (26, .int .i64 i)] ρ ∧ Ext w w' ∧ Ext w3 w' ∧ Hb w' b4 (.cells (ic .u8 M) 5 (0, 0))) (sz x) ?_ ?_
    · exact ⟨0, 0, List.replicate n1 0, by omega, rep_by n1, by omega, rfl, ⟨rfl, rfl, rfl, rfl, rfl, rfl, rfl, trivial⟩, hE27, hE37, hb27⟩
    intro k4 ρ4 w4 hI4
    obtain ⟨i, c, M, hik, hL, hc1, hsumI, hFr4, hE4, hE34, hbp4⟩ := hI4
    refine W_env _ hFr4 ?_
    have hz4 := hE4.1
    refine W_seq ?_
    refine W_region rfl ?_
    refine WO_p (PS_lss rfl rfl) ?_
    refine WO_nil ?_
    refine thn_normal ?_
    refine W_seq ?_
    refine W_if rfl (fun hb6 => ?_) (fun hb6 => ?_)
    · have hb6p := hb6.h; try simp only [al_ete, al_dfn, Bool.not_eq_true', Bool.not_eq_false', al_ne, Bool.not_not, al_nn] at hb6p
      obtain ⟨hAx4, hAy4⟩ := hkx _ hE34
      obtain ⟨b, o, r, T, fz, hp, hb, hrs, hat⟩ := hAx4.at_ (by omega)
      subst hp
      have hce := hat i (by omega)
      have hgb := gd_by (dg_by x) i
      have hgy := gd_by (dg_by y) i
      refine W_skip ?_
      refine thn_normal ?_
      refine W_seq ?_
      refine W_block ?_
      refine W_seq ?_
      refine W_region rfl ?_
      refine WO_p (PS_move_int rfl) ?_
      refine WO_p (PS_indexS Hvac.runUnderlying92 Hvac.sizeOf5 rfl rfl (by omega) (by omega)) ?_
      refine WO_load (.int _ _) Hvac.isAgg5 rfl (Hb.h (by repeat (first | assumption | exact Hb.newY _ _ | refine Hb.alloc ?_ | refine Hb.drew ?_ | refine Hb.ext (by assumption) ?_ | exact Hb.setSameL (by first | omega | (simp only [size_alloc, size_setB, size_drew]; omega)) | exact Hb.setSame (by assumption) | refine Hb.set (by first | omega | (simp only [size_alloc, size_setB, size_drew]; omega)) ?_ ))) (Ce.h (by first | assumption | exact ⟨rfl⟩)) ?_
      refine WO_p (PS_assign_int rfl) ?_
      refine WO_p (PS_assign_int rfl) ?_
      refine WO_nil ?_
      refine thn_normal ?_
      refine W_seq ?_
      refine W_region rfl ?_
      refine WO_p (PS_move_int rfl) ?_
      refine WO_p (PS_move_int rfl) ?_
      refine WO_p (PS_conv_u16n Hvac.runUnderlying5 Hvac.runUnderlying42 rfl (by omega) (by omega)) ?_
      refine WO_p (PS_add_u16n rfl rfl (by omega) (by omega)) ?_
      refine WO_p (PS_assign_int rfl) ?_
      refine WO_nil ?_
      refine thn_normal ?_
      refine W_seq ?_
      refine W_seq ?_
      refine W_region rfl ?_
      refine WO_p (PS_move_int rfl) ?_
      refine WO_p (PS_move_slice rfl) ?_
      refine WO_p (PS_lenS Hvac.runUnderlying92 rfl) ?_
      refine WO_p (PS_lss rfl rfl) ?_
      refine WO_nil ?_
      refine thn_normal ?_
      refine W_if rfl (fun hb8 => ?_) (fun hb8 => ?_)
      · have hb8p := hb8.h; try simp only [al_ete, al_dfn, Bool.not_eq_true', Bool.not_eq_false', al_ne, Bool.not_not, al_nn] at hb8p
        obtain ⟨b', o', r', T', fz', hp', hb', hrs', hat'⟩ := hAy4.at_ (by omega)
        subst hp'
        have hce' := hat' i (by omega)
        have hst := add_step (dg_by x) (dg_by y) (by rw [hL.1]; omega) hsumI (s := (c : Int) + (dg x).getD i 0 + (dg y).getD i 0) rfl
        refine W_region rfl ?_
        refine WO_p (PS_move_int rfl) ?_
        refine WO_p (PS_move_slice rfl) ?_
        refine WO_p (PS_move_int rfl) ?_
        refine WO_p (PS_indexS Hvac.runUnderlying92 Hvac.sizeOf5 rfl rfl (by omega) (by omega)) ?_
        refine WO_load (.int _ _) Hvac.isAgg5 rfl (Hb.h (by repeat (first | assumption | exact Hb.newY _ _ | refine Hb.alloc ?_ | refine Hb.drew ?_ | refine Hb.ext (by assumption) ?_ | exact Hb.setSameL (by first | omega | (simp only [size_alloc, size_setB, size_drew]; omega)) | exact Hb.setSame (by assumption) | refine Hb.set (by first | omega | (simp only [size_alloc, size_setB, size_drew]; omega)) ?_ ))) (Ce.h (by first | assumption | exact ⟨rfl⟩)) ?_
        refine WO_p (PS_conv_u16n Hvac.runUnderlying5 Hvac.runUnderlying42 rfl (by omega) (by omega)) ?_
        refine WO_p (PS_add_u16n rfl rfl (by omega) (by omega)) ?_
        refine WO_p (PS_assign_int rfl) ?_
        refine WO_nil ?_
        refine thn_normal ?_
        refine W_seq ?_
        refine W_region rfl ?_
        refine WO_p (PS_move_slice rfl) ?_
        refine WO_p (PS_move_int rfl) ?_
        refine WO_p (PS_move_int rfl) ?_
        refine WO_p (PS_conv_u8w Hvac.runUnderlying42 Hvac.runUnderlying5 rfl) ?_
        refine WO_p (PS_indexS Hvac.runUnderlying92 Hvac.sizeOf5 rfl rfl (by omega) (by omega)) ?_
        refine WO_store1 Hvac.sizeOf5 rfl (v := .int _ _) rfl hbp4.h rfl (by rw [size_ic, hL.1]; omega) rfl ?_
        rw [show ((i : Int)).toNat = i from Int.toNat_natCast i, ic_set]
        refine WO_nil ?_
        refine thn_normal ?_
        refine W_region rfl ?_
        refine WO_p (PS_move_int rfl) ?_
        refine WO_p (PS_shr_u16 8 rfl rfl (by decide) rfl) ?_
        refine WO_p (PS_assign_int rfl) ?_
        refine WO_nil ?_
        refine inBlk_normal ?_
        refine thn_normal ?_
        refine W_region rfl ?_
        refine WO_p (PS_add_i64n rfl rfl (by omega) (by omega)) ?_
        refine WO_p (PS_move_int rfl) ?_
        refine WO_nil ?_
        refine thn_normal ?_
        exact ⟨k4 - 1, by omega, i + 1, _, _, by omega, set_by hL (by omega), by omega, hst, ⟨rfl, rfl, rfl, congrArg (Value.int .u16) (by omega), rfl, rfl, congrArg (Value.int .i64) (by omega), trivial⟩, Ext.setB hE4 (by omega) _, Ext.setB hE34 (by omega) _, Hb.setSame hbp4⟩
      · have hb8p := hb8.h; try simp only [al_ete, al_dfn, Bool.not_eq_true', Bool.not_eq_false', al_ne, Bool.not_not, al_nn] at hb8p
        have hy0 : (dg y).getD i 0 = 0 := gd_ge (by rw [dg_len]; omega)
        have hst := add_step (dg_by x) (dg_by y) (by rw [hL.1]; omega) hsumI (s := (c : Int) + (dg x).getD i 0) (by rw [hy0]; omega)
        refine W_skip ?_
        refine thn_normal ?_
        refine W_seq ?_
        refine W_region rfl ?_
        refine WO_p (PS_move_slice rfl) ?_
        refine WO_p (PS_move_int rfl) ?_
        refine WO_p (PS_move_int rfl) ?_
        refine WO_p (PS_conv_u8w Hvac.runUnderlying42 Hvac.runUnderlying5 rfl) ?_
        refine WO_p (PS_indexS Hvac.runUnderlying92 Hvac.sizeOf5 rfl rfl (by omega) (by omega)) ?_
        refine WO_store1 Hvac.sizeOf5 rfl (v := .int _ _) rfl hbp4.h rfl (by rw [size_ic, hL.1]; omega) rfl ?_
        rw [show ((i : Int)).toNat = i from Int.toNat_natCast i, ic_set]
        refine WO_nil ?_
        refine thn_normal ?_
        refine W_region rfl ?_
        refine WO_p (PS_move_int rfl) ?_
        refine WO_p (PS_shr_u16 8 rfl rfl (by decide) rfl) ?_
        refine WO_p (PS_assign_int rfl) ?_
        refine WO_nil ?_
        refine inBlk_normal ?_
        refine thn_normal ?_
        refine W_region rfl ?_
        refine WO_p (PS_add_i64n rfl rfl (by omega) (by omega)) ?_
        refine WO_p (PS_move_int rfl) ?_
        refine WO_nil ?_
        refine thn_normal ?_
        exact ⟨k4 - 1, by omega, i + 1, _, _, by omega, set_by hL (by omega), by omega, hst, ⟨rfl, rfl, rfl, congrArg (Value.int .u16) (by omega), rfl, rfl, congrArg (Value.int .i64) (by omega), trivial⟩, Ext.setB hE4 (by omega) _, Ext.setB hE34 (by omega) _, Hb.setSame hbp4⟩
    · have hb6p := hb6.h; try simp only [al_ete, al_dfn, Bool.not_eq_true', Bool.not_eq_false', al_ne, Bool.not_not, al_nn] at hb6p
      refine W_exit ?_
      refine thn_exit ?_
      refine thn_exit ?_
      refine inBlk_exit ?_
      refine thn_normal ?_
      refine W_seq ?_
      refine W_region rfl ?_
      refine WO_p (PS_move_slice rfl) ?_
      refine WO_p (PS_move_slice rfl) ?_
      refine WO_p (PS_lenS Hvac.runUnderlying92 rfl) ?_
      refine WO_p (PS_move_int rfl) ?_
      refine WO_p (PS_conv_u8w Hvac.runUnderlying42 Hvac.runUnderlying5 rfl) ?_
      refine WO_p (PS_indexS Hvac.runUnderlying92 Hvac.sizeOf5 rfl rfl (by omega) (by omega)) ?_
      refine WO_store1 Hvac.sizeOf5 rfl (v := .int _ _) rfl hbp4.h rfl (by rw [size_ic, hL.1]; omega) rfl ?_
      rw [show ((sz x : Nat) : Int).toNat = sz x from Int.toNat_natCast _, ic_set]
      refine WO_nil ?_
      refine thn_normal ?_
      refine W_seq ?_
      refine W_region rfl ?_
      refine WO_p (PS_move_slice rfl) ?_
      refine WO_call Hvac.call87 (by rfl) (Ret.mono (clipX_spec (some ⟨b4, 0, none⟩, n1, n1) _ _ (PB.newY (Hb.setSame hbp4) hfr (set_by hL (by omega)).2 (set_by hL (i := sz x) (x := (c : Int) % 256) (by omega)).1) (by show n1 ≤ _; omega)) ?_)
      rintro _ w9 ⟨hE9, s9, rfl, hs9⟩
      refine WO_p (PS_assign_slice rfl) ?_
      refine WO_nil ?_
      refine thn_normal ?_
      refine W_ret ?_
      refine bodyQ_ret1 Hvac.results24 rfl (.slice _ _ _) rfl ?_
      have hi0 : i = sz x := by omega
      have hfinal : dv (M.set (sz x) ((c : Int) % 256)) = nn + mm := by
        have h1 := dv_set_take M (sz x) ((c : Int) % 256) (by rw [hL.1]; omega)
        rw [List.take_of_length_le (by rw [List.length_set, hL.1]; omega)] at h1
        have e1 : (dg x).take (sz x) = dg x := List.take_of_length_le (by rw [dg_len]; exact Nat.le_refl _)
        have e2 : (dg y).take (sz x) = dg y := List.take_of_length_le (by rw [dg_len]; exact hyx)
        rw [hi0, e1, e2, dv_dg, dv_dg] at hsumI
        rw [h1, ← hsum, ← hsumI]
        congr 2; omega
      rw [hfinal] at hs9
      exact ⟨(by repeat (first | assumption | exact Ext.refl _ | refine Ext.alloc ?_ _ | refine Ext.drew ?_ | refine Ext.setB ?_ (by first | omega | (simp only [size_alloc, size_setB, size_drew]; omega)) _ | refine Ext.trans ?_ (by assumption))), s9, rfl, hs9⟩

end Go.Proofs.YgvacwGreat
