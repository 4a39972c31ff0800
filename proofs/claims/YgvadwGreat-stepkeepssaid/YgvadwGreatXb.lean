import Derived.Test.YgvadwGreatXa
import Derived.Test.YgvadwGreatSa
namespace Go.Proofs.YgvadwGreat
set_option linter.unusedSimpArgs false
set_option linter.unusedVariables false
theorem xt_ce1 {r : Array Value} {o n : Nat} {k : IntKind} {L : List Int} (h : Xt r o (o + n) (ic k L)) (hn : L.length = n) {i : Nat} (hi : i < n) : Ce r (o + i * 1) (.int k (L.getD i 0)) :=
  xt_ce (n := n) (by rw [Nat.mul_one]; exact h) hn hi
theorem accOK_iff {x : Ac} : accOK x = true ↔ ¬ (x.nonce = 0 ∧ x.cb.length = 0 ∧ (x.bal = Z32 ∨ 0 < x.sl.length)) ∧ (x.cb.length ≤ 256 ∧ x.sl.length ≤ 16) ∧ ∀ j, j < x.sl.length → slBad x.sl j = false := by
  unfold accOK
  rw [Bool.and_eq_true, Bool.and_eq_true, all_range]
  simp only [Bool.not_eq_true', Bool.and_eq_false_iff, Bool.or_eq_false_iff, al_dfn, Nat.not_lt]
  constructor
  · rintro ⟨⟨h1, h2⟩, h3⟩
    refine ⟨?_, h2, h3⟩
    rintro ⟨a, b, c⟩
    rcases h1 with (h1 | h1) | h1
    · exact h1 a
    · exact h1 b
    · rcases c with c | c
      · exact h1.1 c
      · omega
  · rintro ⟨h1, h2, h3⟩
    refine ⟨⟨?_, h2⟩, h3⟩
    by_cases a : x.nonce = 0
    · by_cases b : x.cb.length = 0
      · refine Or.inr ⟨fun c => h1 ⟨a, b, Or.inl c⟩, ?_⟩
        rcases Nat.lt_or_ge 0 x.sl.length with c | c
        · exact absurd ⟨a, b, Or.inr c⟩ h1
        · exact c
      · exact Or.inl (Or.inr b)
    · exact Or.inl (Or.inl a)

set_option maxRecDepth 10000 in
set_option maxHeartbeats 4000000 in
theorem addTo_spec (bs bb o : Nat) (S A : List Int) (r : Array Value) (T : TypeId) (fz : Nat × Nat) (w : World) (hs : Hb w bs (.cells (ic .u8 S) 28 (0, 0))) (hb : Hb w bb (.cells r T fz)) (hne : bb ≠ bs) (hX : Xt r o (o + 32) (ic .u8 A)) (hS : By S 32) (hA : By A 32) : Ret Hvad.prog 57 #[.pointer (some ⟨bs, 0, none⟩), .pointer (some ⟨bb, o, none⟩)] w fun u w' => u = .bool (addK S A) ∧ KeepO (fun b => b = bs) w w' ∧ Hb w' bs (.cells (ic .u8 (addS S A)) 28 (0, 0)) := by
  generalize hR : addGo A 32 S 0 = R
  refine Ret_of_W Hvad.func57 rfl rfl ?_
  refine W_seq ?_
  refine W_region rfl ?_
  refine WO_p (PS_assign_bool rfl) ?_
  refine WO_nil ?_
  refine thn_normal ?_
  refine W_seq ?_
  refine W_region rfl ?_
  refine WO_p (PS_assign_int rfl) ?_
  refine WO_nil ?_
  refine thn_normal ?_
  refine W_seq ?_
  refine W_seq ?_
  refine W_region rfl ?_
  refine WO_p (PS_assign_int rfl) ?_
  refine WO_nil ?_
  refine thn_normal ?_
  refine W_block ?_
  refine W_loopN (fun k ρ w' => ∃ (i : Nat) (S2 : List Int) (cy : Int), i = k ∧ i ≤ 32 ∧ By S2 32 ∧ (0 ≤ cy ∧ cy ≤ 1) ∧ addGo A i S2 cy = R ∧ Fr [(0, .pointer (some ⟨bs, 0, none⟩)), (1, .pointer (some ⟨bb, o, none⟩)), (5, .int .u16 cy), (6, .int .i64 i)] ρ ∧ KeepO (fun b => b = bs) w w' ∧ Hb w' bs (.cells (ic .u8 S2) 28 (0, 0))) 32 ?_ ?_
  · exact ⟨32, S, 0, rfl, by omega, hS, by omega, hR, ⟨rfl, rfl, rfl, rfl, trivial⟩, KeepO.refl _ _, hs⟩
  intro k ρ w2 hI
  obtain ⟨i, S2, cy, hik, hi32, hS2, hcy, hgo, hFr, hK2, hs2⟩ := hI
  refine W_env _ hFr ?_
  have hb2 := Hb.keepO hK2 hne hb
  refine W_seq ?_
  refine W_seq ?_
  refine W_region rfl ?_
  refine WO_p (PS_move_int rfl) ?_
  refine WO_p (PS_gtr rfl rfl) ?_
  refine WO_nil ?_
  refine thn_normal ?_
  refine W_if rfl (fun hb2 => ?_) (fun hb2 => ?_)
  · have hb2p := hb2.h; try simp only [al_ete, al_dfn, Bool.not_eq_true', Bool.not_eq_false', al_ne, Bool.not_not, al_nn] at hb2p
    obtain ⟨j, rfl⟩ : ∃ j, i = j + 1 := ⟨i - 1, by omega⟩
    have hj1 : ((j + 1 : Nat) : Int) - 1 = (j : Int) := by omega
    have hg1 := getD_byte hA.2 j
    have hg2 := getD_byte hS2.2 j
    have hce1 : Ce (ic .u8 S2) (0 + (((j + 1 : Nat) : Int) - 1).toNat * 1) (.int .u8 (S2.getD j 0)) := by rw [hj1, Int.toNat_natCast]; exact ce_ic (by rw [hS2.1]; omega)
    have hce2 : Ce r (o + (((j + 1 : Nat) : Int) - 1).toNat * 1) (.int .u8 (A.getD j 0)) := by rw [hj1, Int.toNat_natCast]; exact xt_ce1 hX hA.1 (by omega)
    unfold addGo at hgo
    refine W_skip ?_
    refine thn_normal ?_
    refine W_seq ?_
    refine W_block ?_
    refine W_seq ?_
    refine W_drawE [false, false, false, false, false, false, false, false, false, false, false, false, false, false, false, false, false, false] hmix (by kernel_rfl) rfl ?_
    refine WH_p (PS_move_int rfl) rfl ?_
    refine WH_p (PS_move_ptr rfl) rfl ?_
    refine WH_p (PS_move_int rfl) rfl ?_
    refine WH_p (PS_sub_i64n rfl rfl (by omega) (by omega)) rfl ?_
    refine WH_p (PS_nilCheck rfl) rfl ?_
    refine WH_p (PS_indexA Hvad.runUnderlying28 Hvad.sizeOf5 rfl rfl (by omega) (by omega)) rfl ?_
    refine WH_load (.int _ _) Hvad.isAgg5 rfl (Hb.h (by repeat (first | assumption | exact Hb.newY _ _ | refine Hb.alloc ?_ | refine Hb.drew ?_ | refine Hb.ext (by assumption) ?_ | exact Hb.setSameL (by first | omega | (simp only [size_alloc, size_setB, size_drew]; omega)) | exact Hb.setSame (by assumption) | refine Hb.set (by first | omega | (simp only [size_alloc, size_setB, size_drew]; omega)) ?_ ))) (Ce.h (by first | assumption | exact ⟨rfl⟩)) ?_
    refine WH_p (PS_conv_u16n Hvad.runUnderlying5 Hvad.runUnderlying61 rfl (by omega) (by omega)) rfl ?_
    refine WH_p (PS_move_ptr rfl) rfl ?_
    refine WH_p (PS_move_int rfl) rfl ?_
    refine WH_p (PS_sub_i64n rfl rfl (by omega) (by omega)) rfl ?_
    refine WH_p (PS_nilCheck rfl) rfl ?_
    refine WH_p (PS_indexA Hvad.runUnderlying28 Hvad.sizeOf5 rfl rfl (by omega) (by omega)) rfl ?_
    refine WH_load (.int _ _) Hvad.isAgg5 rfl (Hb.h (by repeat (first | assumption | exact Hb.newY _ _ | refine Hb.alloc ?_ | refine Hb.drew ?_ | refine Hb.ext (by assumption) ?_ | exact Hb.setSameL (by first | omega | (simp only [size_alloc, size_setB, size_drew]; omega)) | exact Hb.setSame (by assumption) | refine Hb.set (by first | omega | (simp only [size_alloc, size_setB, size_drew]; omega)) ?_ ))) (Ce.h (by first | assumption | exact ⟨rfl⟩)) ?_
    refine WH_p (PS_conv_u16n Hvad.runUnderlying5 Hvad.runUnderlying61 rfl (by omega) (by omega)) rfl ?_
    refine WH_p (PS_add_u16n rfl rfl (by omega) (by omega)) rfl ?_
    refine WH_p (PS_add_u16n rfl rfl (by omega) (by omega)) rfl ?_
    refine WH_p (PS_assign_int rfl) rfl ?_
    refine WH_nil ?_
    refine thn_normal ?_
    refine W_seq ?_
    refine W_region rfl ?_
    refine WO_p (PS_move_ptr rfl) ?_
    refine WO_p (PS_move_int rfl) ?_
    refine WO_p (PS_sub_i64n rfl rfl (by omega) (by omega)) ?_
    refine WO_p (PS_move_int rfl) ?_
    refine WO_p (PS_conv_u8w Hvad.runUnderlying61 Hvad.runUnderlying5 rfl) ?_
    refine WO_p (PS_nilCheck rfl) ?_
    refine WO_p (PS_indexA Hvad.runUnderlying28 Hvad.sizeOf5 rfl rfl (by omega) (by omega)) ?_
    refine WO_store1 Hvad.sizeOf5 rfl (v := .int _ _) rfl (Hb.h (by repeat (first | assumption | exact Hb.newY _ _ | refine Hb.alloc ?_ | refine Hb.drew ?_ | refine Hb.ext (by assumption) ?_ | exact Hb.setSameL (by first | omega | (simp only [size_alloc, size_setB, size_drew]; omega)) | exact Hb.setSame (by assumption) | refine Hb.set (by first | omega | (simp only [size_alloc, size_setB, size_drew]; omega)) ?_ ))) rfl (by rw [size_ic, hS2.1]; omega) rfl ?_
    rw [hj1, Int.toNat_natCast, ic_set]
    have hS3 : By (S2.set j ((cy + (S2.getD j 0 + A.getD j 0)) % 256)) 32 := by
      refine ⟨by rw [List.length_set]; exact hS2.1, fun x hx => ?_⟩
      rcases List.mem_or_eq_of_mem_set hx with hx | rfl
      · exact hS2.2 x hx
      · omega
    refine WO_nil ?_
    refine thn_normal ?_
    refine W_region rfl ?_
    refine WO_p (PS_move_int rfl) ?_
    refine WO_p (PS_shr_u16 8 rfl rfl (by decide) rfl) ?_
    refine WO_p (PS_assign_int rfl) ?_
    refine WO_nil ?_
    refine inBlk_normal ?_
    refine thn_normal ?_
    refine W_region rfl ?_
    refine WO_p (PS_move_int rfl) ?_
    refine WO_p (PS_sub_i64n rfl rfl (by omega) (by omega)) ?_
    refine WO_p (PS_assign_int rfl) ?_
    refine WO_nil ?_
    refine thn_normal ?_
    exact ⟨k - 1, by omega, j, _, (cy + (S2.getD j 0 + A.getD j 0)) / 256, by omega, by omega, hS3, by omega, hgo, ⟨rfl, rfl, rfl, congrArg (Value.int .i64) (by omega), trivial⟩, KeepO.setB (hK2.trans (Ext.keepO (Ext.drew (Ext.refl _)) _) (fun _ _ h => h)) (fun _ => rfl) _, Hb.setSame (Hb.drew hs2)⟩
  · have hb2p := hb2.h; try simp only [al_ete, al_dfn, Bool.not_eq_true', Bool.not_eq_false', al_ne, Bool.not_not, al_nn] at hb2p
    obtain rfl : i = 0 := by omega
    unfold addGo at hgo
    refine W_exit ?_
    refine thn_exit ?_
    refine thn_exit ?_
    refine inBlk_exit ?_
    refine thn_normal ?_
    refine W_seq ?_
    refine W_region rfl ?_
    refine WO_p (PS_move_int rfl) ?_
    refine WO_p (PS_eql rfl rfl) ?_
    refine WO_p (PS_assign_bool rfl) ?_
    refine WO_nil ?_
    refine thn_normal ?_
    refine W_ret ?_
    refine bodyQ_ret1 Hvad.results57 rfl (.bool _) rfl ?_
    subst hgo
    exact ⟨by unfold addK; rw [hR], hK2, by unfold addS; rw [hR]; exact hs2⟩

set_option maxRecDepth 10000 in
set_option maxHeartbeats 4000000 in
theorem accountOK_spec (bb q : Nat) (r : Array Value) (T : TypeId) (fz : Nat × Nat) (x : Ac) (w : World) (hb : Hb w bb (.cells r T fz)) (hat : AcAt r q x) (hk : AcOK w x) : Ret Hvad.prog 56 #[.pointer (some ⟨bb, q, none⟩)] w fun u w' => u = .bool (accOK x) ∧ Ext w w' := by
  have hbd := hat.bd
  have hno := hat.no
  have hba := hat.ba
  have hcd := hat.cd
  have hso := hat.so
  have hbl := hk.ba.1
  have hcl := hk.cd.len
  have hsl := hk.so.len
  refine Ret_of_W Hvad.func56 rfl rfl ?_
  refine W_seq ?_
  refine W_region rfl ?_
  refine WO_p (PS_assign_bool rfl) ?_
  refine WO_nil ?_
  refine thn_normal ?_
  refine W_seq ?_
  refine W_seq ?_
  refine W_region rfl ?_
  refine WO_p (PS_move_ptr rfl) ?_
  refine WO_p (PS_nilCheck rfl) ?_
  refine WO_p (PS_fieldAddr 20 Hvad.runUnderlying108 rfl Hvad.sizeOf26 rfl rfl) ?_
  refine WO_load (.int _ _) Hvad.isAgg26 rfl (Hb.h (by repeat (first | assumption | exact Hb.newY _ _ | refine Hb.alloc ?_ | refine Hb.drew ?_ | refine Hb.ext (by assumption) ?_ | exact Hb.setSameL (by first | omega | (simp only [size_alloc, size_setB, size_drew]; omega)) | exact Hb.setSame (by assumption) | refine Hb.set (by first | omega | (simp only [size_alloc, size_setB, size_drew]; omega)) ?_ ))) (Ce.h (by first | assumption | exact ⟨rfl⟩)) ?_
  refine WO_p (PS_eql rfl rfl) ?_
  refine WO_p (PS_move_bool rfl) ?_
  refine WO_if (t := 9) rfl (fun hb2 => ?_) (fun hb2 => ?_)
  · have hb2p := hb2.h; try simp only [al_ete, al_dfn, Bool.not_eq_true', Bool.not_eq_false', al_ne, Bool.not_not, al_nn] at hb2p
    have hq1 : x.nonce = 0 := hb2p
    refine WO_guardT rfl rfl hb2.h ?_
    refine WO_p (PS_move_ptr rfl) ?_
    refine WO_guardT rfl rfl hb2.h ?_
    refine WO_p (PS_nilCheck rfl) ?_
    refine WO_guardT rfl rfl hb2.h ?_
    refine WO_p (PS_fieldAddr 53 Hvad.runUnderlying108 rfl Hvad.sizeOf32 rfl rfl) ?_
    refine WO_guardT rfl rfl hb2.h ?_
    refine WO_load (.slice _ _ _) Hvad.isAgg32 rfl (Hb.h (by repeat (first | assumption | exact Hb.newY _ _ | refine Hb.alloc ?_ | refine Hb.drew ?_ | refine Hb.ext (by assumption) ?_ | exact Hb.setSameL (by first | omega | (simp only [size_alloc, size_setB, size_drew]; omega)) | exact Hb.setSame (by assumption) | refine Hb.set (by first | omega | (simp only [size_alloc, size_setB, size_drew]; omega)) ?_ ))) (Ce.h (by first | assumption | exact ⟨rfl⟩)) ?_
    refine WO_guardT rfl rfl hb2.h ?_
    refine WO_p (PS_lenS Hvad.runUnderlying32 rfl) ?_
    refine WO_guardT rfl rfl hb2.h ?_
    refine WO_p (PS_eql rfl rfl) ?_
    refine WO_p (PS_pickT rfl hb2.h rfl) ?_
    refine WO_p (PS_move_bool rfl) ?_
    refine WO_if (t := 17) rfl (fun hb4 => ?_) (fun hb4 => ?_)
    · have hb4p := hb4.h; try simp only [al_ete, al_dfn, Bool.not_eq_true', Bool.not_eq_false', al_ne, Bool.not_not, al_nn] at hb4p
      have hq2 : x.cb.length = 0 := by omega
      refine WO_guardT rfl rfl hb4.h ?_
      refine WO_p (PS_move_ptr rfl) ?_
      refine WO_guardT rfl rfl hb4.h ?_
      refine WO_p (PS_nilCheck rfl) ?_
      refine WO_guardT rfl rfl hb4.h ?_
      refine WO_p (PS_fieldAddr 21 Hvad.runUnderlying108 rfl Hvad.sizeOf28 rfl rfl) ?_
      refine WO_guardT rfl rfl hb4.h ?_
      refine WO_loadA _ Hvad.isAgg28 Hvad.sizeOf28 rfl (Hb.h (by repeat (first | assumption | exact Hb.newY _ _ | refine Hb.alloc ?_ | refine Hb.drew ?_ | refine Hb.ext (by assumption) ?_ | exact Hb.setSameL (by first | omega | (simp only [size_alloc, size_setB, size_drew]; omega)) | exact Hb.setSame (by assumption) | refine Hb.set (by first | omega | (simp only [size_alloc, size_setB, size_drew]; omega)) ?_ ))) (by first | omega | assumption | rfl | decide | exact Nat.le_refl _ | (simp only [size_ic, Value.cells]; omega) | simp) (Xt.h (by first | assumption | exact Xt.whole rfl rfl | exact Xt.whole rfl (by simp only [size_ic, Value.cells]; omega) | exact ⟨rfl⟩)) ?_
      refine WO_guardT rfl rfl hb4.h ?_
      refine WO_p (PS_buildI (k := .u8) (zs := [0, 0, 0, 0, 0, 0, 0, 0, 0, 0, 0, 0, 0, 0, 0, 0, 0, 0, 0, 0, 0, 0, 0, 0, 0, 0, 0, 0, 0, 0, 0, 0]) (ps := []) (L := [0, 0, 0, 0, 0, 0, 0, 0, 0, 0, 0, 0, 0, 0, 0, 0, 0, 0, 0, 0, 0, 0, 0, 0, 0, 0, 0, 0, 0, 0, 0, 0]) Hvad.zeroValue28 Hvad.runUnderlying28 Hvad.sizeOf5 rfl rfl rfl rfl) ?_
      refine WO_guardT rfl rfl hb4.h ?_
      refine WO_p (PS_eqlA Hvad.underlying28 Hvad.underlying5 Hvad.sizeOf5 Hvad.eqGuardType28 rfl rfl (by first | omega | assumption | rfl | decide | exact Nat.le_refl _ | (simp only [size_ic, Value.cells]; omega) | simp) (by first | omega | assumption | rfl | decide | exact Nat.le_refl _ | (simp only [size_ic, Value.cells]; omega) | simp)) ?_
      refine WO_guardT rfl rfl hb4.h ?_
      refine WO_p (PS_move_bool rfl) ?_
      refine WO_if (t := 24) rfl (fun hb6 => ?_) (fun hb6 => ?_)
      · have hb6p := hb6.h; try simp only [al_ete, al_dfn, Bool.not_eq_true', Bool.not_eq_false', al_ne, Bool.not_not, al_nn] at hb6p
        have hq3 : x.bal = Z32 := hb6p
        refine WO_guardF rfl rfl hb6.h ?_
        refine WO_guardF rfl rfl hb6.h ?_
        refine WO_guardF rfl rfl hb6.h ?_
        refine WO_guardF rfl rfl hb6.h ?_
        refine WO_guardF rfl rfl hb6.h ?_
        refine WO_guardF rfl rfl hb6.h ?_
        refine WO_guardT rfl rfl hb4.h ?_
        refine WO_p (PS_pickT rfl hb6.h rfl) ?_
        refine WO_p (PS_pickT rfl hb4.h rfl) ?_
        refine WO_nil ?_
        refine thn_normal ?_
        refine W_condT rfl rfl ?_
        refine W_seq ?_
        refine W_region rfl ?_
        refine WO_p (PS_assign_bool rfl) ?_
        refine WO_nil ?_
        refine thn_normal ?_
        refine W_ret ?_
        refine thn_ret ?_
        refine bodyQ_ret1 Hvad.results56 rfl (.bool _) rfl ?_
        refine ⟨congrArg Value.bool ?_, (by repeat (first | assumption | exact Ext.refl _ | refine Ext.alloc ?_ _ | refine Ext.drew ?_ | refine Ext.setB ?_ (by first | omega | (simp only [size_alloc, size_setB, size_drew]; omega)) _ | refine Ext.trans ?_ (by assumption)))⟩
        symm
        first
        | (refine accOK_iff.2 ⟨?_, by omega, fun j hj => hgood j (by omega)⟩
           rintro ⟨e1, e2, e3⟩
           first
           | exact hq1 e1
           | exact hq2 e2
           | (rcases e3 with e3 | e3
              · exact hq3 e3
              · exact hq4 e3))
        | (refine Bool.eq_false_iff.2 fun hh => ?_
           obtain ⟨e1, e2, e3⟩ := accOK_iff.1 hh
           first
           | exact e1 ⟨hq1, hq2, Or.inl hq3⟩
           | exact e1 ⟨hq1, hq2, Or.inr hq4⟩
           | (exfalso; omega)
           | (have h9 := e3 i hiz
              unfold slBad at h9
              first
              | (rw [hgy, al_et hzz, al_bto] at h9; cases h9)
              | (rw [hgy, hgy0, hge, al_et hi0, al_bta, al_bot] at h9; cases h9)))
      · have hb6p := hb6.h; try simp only [al_ete, al_dfn, Bool.not_eq_true', Bool.not_eq_false', al_ne, Bool.not_not, al_nn] at hb6p
        have hq3 : ¬ x.bal = Z32 := hb6p
        refine WO_guardT rfl rfl hb6.h ?_
        refine WO_p (PS_move_ptr rfl) ?_
        refine WO_guardT rfl rfl hb6.h ?_
        refine WO_p (PS_nilCheck rfl) ?_
        refine WO_guardT rfl rfl hb6.h ?_
        refine WO_p (PS_fieldAddr 54 Hvad.runUnderlying108 rfl Hvad.sizeOf106 rfl rfl) ?_
        refine WO_guardT rfl rfl hb6.h ?_
        refine WO_load (.slice _ _ _) Hvad.isAgg106 rfl (Hb.h (by repeat (first | assumption | exact Hb.newY _ _ | refine Hb.alloc ?_ | refine Hb.drew ?_ | refine Hb.ext (by assumption) ?_ | exact Hb.setSameL (by first | omega | (simp only [size_alloc, size_setB, size_drew]; omega)) | exact Hb.setSame (by assumption) | refine Hb.set (by first | omega | (simp only [size_alloc, size_setB, size_drew]; omega)) ?_ ))) (Ce.h (by first | assumption | exact ⟨rfl⟩)) ?_
        refine WO_guardT rfl rfl hb6.h ?_
        refine WO_p (PS_lenS Hvad.runUnderlying106 rfl) ?_
        refine WO_guardT rfl rfl hb6.h ?_
        refine WO_p (PS_gtr rfl rfl) ?_
        refine WO_guardT rfl rfl hb4.h ?_
        refine WO_p (PS_pickF rfl hb6.h rfl) ?_
        refine WO_p (PS_pickT rfl hb4.h rfl) ?_
        refine WO_nil ?_
        refine thn_normal ?_
        refine W_if rfl (fun hb8 => ?_) (fun hb8 => ?_)
        · have hb8p := hb8.h; try simp only [al_ete, al_dfn, Bool.not_eq_true', Bool.not_eq_false', al_ne, Bool.not_not, al_nn] at hb8p
          have hq4 : 0 < x.sl.length := by omega
          refine W_seq ?_
          refine W_region rfl ?_
          refine WO_p (PS_assign_bool rfl) ?_
          refine WO_nil ?_
          refine thn_normal ?_
          refine W_ret ?_
          refine thn_ret ?_
          refine bodyQ_ret1 Hvad.results56 rfl (.bool _) rfl ?_
          refine ⟨congrArg Value.bool ?_, (by repeat (first | assumption | exact Ext.refl _ | refine Ext.alloc ?_ _ | refine Ext.drew ?_ | refine Ext.setB ?_ (by first | omega | (simp only [size_alloc, size_setB, size_drew]; omega)) _ | refine Ext.trans ?_ (by assumption)))⟩
          symm
          first
          | (refine accOK_iff.2 ⟨?_, by omega, fun j hj => hgood j (by omega)⟩
             rintro ⟨e1, e2, e3⟩
             first
             | exact hq1 e1
             | exact hq2 e2
             | (rcases e3 with e3 | e3
                · exact hq3 e3
                · exact hq4 e3))
          | (refine Bool.eq_false_iff.2 fun hh => ?_
             obtain ⟨e1, e2, e3⟩ := accOK_iff.1 hh
             first
             | exact e1 ⟨hq1, hq2, Or.inl hq3⟩
             | exact e1 ⟨hq1, hq2, Or.inr hq4⟩
             | (exfalso; omega)
             | (have h9 := e3 i hiz
                unfold slBad at h9
                first
                | (rw [hgy, al_et hzz, al_bto] at h9; cases h9)
                | (rw [hgy, hgy0, hge, al_et hi0, al_bta, al_bot] at h9; cases h9)))
        · have hb8p := hb8.h; try simp only [al_ete, al_dfn, Bool.not_eq_true', Bool.not_eq_false', al_ne, Bool.not_not, al_nn] at hb8p
          have hq4 : ¬ 0 < x.sl.length := by omega
          refine W_skip ?_
          refine thn_normal ?_
          refine W_seq ?_
          refine W_seq ?_
          refine W_region rfl ?_
          refine WO_p (PS_move_ptr rfl) ?_
          refine WO_p (PS_nilCheck rfl) ?_
          refine WO_p (PS_fieldAddr 53 Hvad.runUnderlying108 rfl Hvad.sizeOf32 rfl rfl) ?_
          refine WO_load (.slice _ _ _) Hvad.isAgg32 rfl (Hb.h (by repeat (first | assumption | exact Hb.newY _ _ | refine Hb.alloc ?_ | refine Hb.drew ?_ | refine Hb.ext (by assumption) ?_ | exact Hb.setSameL (by first | omega | (simp only [size_alloc, size_setB, size_drew]; omega)) | exact Hb.setSame (by assumption) | refine Hb.set (by first | omega | (simp only [size_alloc, size_setB, size_drew]; omega)) ?_ ))) (Ce.h (by first | assumption | exact ⟨rfl⟩)) ?_
          refine WO_p (PS_lenS Hvad.runUnderlying32 rfl) ?_
          refine WO_p (PS_gtr rfl rfl) ?_
          refine WO_p (PS_move_bool rfl) ?_
          refine WO_if (t := 39) rfl (fun hb10 => ?_) (fun hb10 => ?_)
          · have hb10p := hb10.h; try simp only [al_ete, al_dfn, Bool.not_eq_true', Bool.not_eq_false', al_ne, Bool.not_not, al_nn] at hb10p
            refine WO_guardF rfl rfl hb10.h ?_
            refine WO_guardF rfl rfl hb10.h ?_
            refine WO_guardF rfl rfl hb10.h ?_
            refine WO_guardF rfl rfl hb10.h ?_
            refine WO_guardF rfl rfl hb10.h ?_
            refine WO_guardF rfl rfl hb10.h ?_
            refine WO_p (PS_pickT rfl hb10.h rfl) ?_
            refine WO_nil ?_
            refine thn_normal ?_
            refine W_condT rfl rfl ?_
            refine W_seq ?_
            refine W_region rfl ?_
            refine WO_p (PS_assign_bool rfl) ?_
            refine WO_nil ?_
            refine thn_normal ?_
            refine W_ret ?_
            refine thn_ret ?_
            refine bodyQ_ret1 Hvad.results56 rfl (.bool _) rfl ?_
            refine ⟨congrArg Value.bool ?_, (by repeat (first | assumption | exact Ext.refl _ | refine Ext.alloc ?_ _ | refine Ext.drew ?_ | refine Ext.setB ?_ (by first | omega | (simp only [size_alloc, size_setB, size_drew]; omega)) _ | refine Ext.trans ?_ (by assumption)))⟩
            symm
            first
            | (refine accOK_iff.2 ⟨?_, by omega, fun j hj => hgood j (by omega)⟩
               rintro ⟨e1, e2, e3⟩
               first
               | exact hq1 e1
               | exact hq2 e2
               | (rcases e3 with e3 | e3
                  · exact hq3 e3
                  · exact hq4 e3))
            | (refine Bool.eq_false_iff.2 fun hh => ?_
               obtain ⟨e1, e2, e3⟩ := accOK_iff.1 hh
               first
               | exact e1 ⟨hq1, hq2, Or.inl hq3⟩
               | exact e1 ⟨hq1, hq2, Or.inr hq4⟩
               | (exfalso; omega)
               | (have h9 := e3 i hiz
                  unfold slBad at h9
                  first
                  | (rw [hgy, al_et hzz, al_bto] at h9; cases h9)
                  | (rw [hgy, hgy0, hge, al_et hi0, al_bta, al_bot] at h9; cases h9)))
          · have hb10p := hb10.h; try simp only [al_ete, al_dfn, Bool.not_eq_true', Bool.not_eq_false', al_ne, Bool.not_not, al_nn] at hb10p
            refine WO_guardT rfl rfl hb10.h ?_
            refine WO_p (PS_move_ptr rfl) ?_
            refine WO_guardT rfl rfl hb10.h ?_
            refine WO_p (PS_nilCheck rfl) ?_
            refine WO_guardT rfl rfl hb10.h ?_
            refine WO_p (PS_fieldAddr 54 Hvad.runUnderlying108 rfl Hvad.sizeOf106 rfl rfl) ?_
            refine WO_guardT rfl rfl hb10.h ?_
            refine WO_load (.slice _ _ _) Hvad.isAgg106 rfl (Hb.h (by repeat (first | assumption | exact Hb.newY _ _ | refine Hb.alloc ?_ | refine Hb.drew ?_ | refine Hb.ext (by assumption) ?_ | exact Hb.setSameL (by first | omega | (simp only [size_alloc, size_setB, size_drew]; omega)) | exact Hb.setSame (by assumption) | refine Hb.set (by first | omega | (simp only [size_alloc, size_setB, size_drew]; omega)) ?_ ))) (Ce.h (by first | assumption | exact ⟨rfl⟩)) ?_
            refine WO_guardT rfl rfl hb10.h ?_
            refine WO_p (PS_lenS Hvad.runUnderlying106 rfl) ?_
            refine WO_guardT rfl rfl hb10.h ?_
            refine WO_p (PS_gtr rfl rfl) ?_
            refine WO_p (PS_pickF rfl hb10.h rfl) ?_
            refine WO_nil ?_
            refine thn_normal ?_
            refine W_if rfl (fun hb12 => ?_) (fun hb12 => ?_)
            · have hb12p := hb12.h; try simp only [al_ete, al_dfn, Bool.not_eq_true', Bool.not_eq_false', al_ne, Bool.not_not, al_nn] at hb12p
              refine W_seq ?_
              refine W_region rfl ?_
              refine WO_p (PS_assign_bool rfl) ?_
              refine WO_nil ?_
              refine thn_normal ?_
              refine W_ret ?_
              refine thn_ret ?_
              refine bodyQ_ret1 Hvad.results56 rfl (.bool _) rfl ?_
              refine ⟨congrArg Value.bool ?_, (by repeat (first | assumption | exact Ext.refl _ | refine Ext.alloc ?_ _ | refine Ext.drew ?_ | refine Ext.setB ?_ (by first | omega | (simp only [size_alloc, size_setB, size_drew]; omega)) _ | refine Ext.trans ?_ (by assumption)))⟩
              symm
              first
              | (refine accOK_iff.2 ⟨?_, by omega, fun j hj => hgood j (by omega)⟩
                 rintro ⟨e1, e2, e3⟩
                 first
                 | exact hq1 e1
                 | exact hq2 e2
                 | (rcases e3 with e3 | e3
                    · exact hq3 e3
                    · exact hq4 e3))
              | (refine Bool.eq_false_iff.2 fun hh => ?_
                 obtain ⟨e1, e2, e3⟩ := accOK_iff.1 hh
                 first
                 | exact e1 ⟨hq1, hq2, Or.inl hq3⟩
                 | exact e1 ⟨hq1, hq2, Or.inr hq4⟩
                 | (exfalso; omega)
                 | (have h9 := e3 i hiz
                    unfold slBad at h9
                    first
                    | (rw [hgy, al_et hzz, al_bto] at h9; cases h9)
                    | (rw [hgy, hgy0, hge, al_et hi0, al_bta, al_bot] at h9; cases h9)))
            · have hb12p := hb12.h; try simp only [al_ete, al_dfn, Bool.not_eq_true', Bool.not_eq_false', al_ne, Bool.not_not, al_nn] at hb12p
              refine W_skip ?_
              refine thn_normal ?_
              refine W_seq ?_
              refine W_seq ?_
              refine W_region rfl ?_
              refine WO_p (PS_move_ptr rfl) ?_
              refine WO_p (PS_nilCheck rfl) ?_
              refine WO_p (PS_fieldAddr 54 Hvad.runUnderlying108 rfl Hvad.sizeOf106 rfl rfl) ?_
              refine WO_load (.slice _ _ _) Hvad.isAgg106 rfl (Hb.h (by repeat (first | assumption | exact Hb.newY _ _ | refine Hb.alloc ?_ | refine Hb.drew ?_ | refine Hb.ext (by assumption) ?_ | exact Hb.setSameL (by first | omega | (simp only [size_alloc, size_setB, size_drew]; omega)) | exact Hb.setSame (by assumption) | refine Hb.set (by first | omega | (simp only [size_alloc, size_setB, size_drew]; omega)) ?_ ))) (Ce.h (by first | assumption | exact ⟨rfl⟩)) ?_
              refine WO_p (PS_lenS Hvad.runUnderlying106 rfl) ?_
              refine WO_p (PS_move_int rfl) ?_
              refine WO_nil ?_
              refine thn_normal ?_
              refine W_block ?_
              refine W_loopN (fun k ρ w' => ∃ (i : Nat), i + k = x.sl.length ∧ (∀ j, j < i → slBad x.sl j = false) ∧ Fr [(0, .pointer (some ⟨bb, q, none⟩)), (51, .int .i64 x.sto.2.1), (52, .int .i64 i)] ρ ∧ Ext w w') x.sl.length ?_ ?_
              · exact ⟨0, by omega, fun j hj => absurd hj (by omega), ⟨rfl, rfl, rfl, trivial⟩, (by repeat (first | assumption | exact Ext.refl _ | refine Ext.alloc ?_ _ | refine Ext.drew ?_ | refine Ext.setB ?_ (by first | omega | (simp only [size_alloc, size_setB, size_drew]; omega)) _ | refine Ext.trans ?_ (by assumption)))⟩
              intro k ρ w2 hI2
              obtain ⟨i, hik, hgood, hFr, hE2⟩ := hI2
              refine W_env _ hFr ?_
              have hz2 := hE2.1
              refine W_seq ?_
              refine W_region rfl ?_
              refine WO_p (PS_lss rfl rfl) ?_
              refine WO_nil ?_
              refine thn_normal ?_
              refine W_seq ?_
              refine W_if rfl (fun hb14 => ?_) (fun hb14 => ?_)
              · have hb14p := hb14.h; try simp only [al_ete, al_dfn, Bool.not_eq_true', Bool.not_eq_false', al_ne, Bool.not_not, al_nn] at hb14p
                have hiz : i < x.sl.length := by omega
                obtain ⟨y, hy⟩ : ∃ y, x.sl[i]? = some y := ⟨_, List.getElem?_eq_getElem hiz⟩
                obtain ⟨bb2, o2, r2, T2, fz2, hp2, hbb2, hrl2⟩ := (hk.so.ext hE2).get hy
                have hyk := hk.sr y (List.mem_of_getElem? hy)
                have hya := hrl2.sl hy hyk
                have hyb := hya.bd
                have hyv := hya.va
                have hyke := hya.ke
                have hso2 : Ce r (q + 54) (.slice (some ⟨bb2, o2, none⟩) x.sto.2.1 x.sto.2.2) := by have := hat.so; rw [hp2] at this; exact this
                have hvl := hyk.v.1
                have hkl := hyk.k.1
                have hgy : x.sl.getD i ⟨[], []⟩ = y := getD_some hy
                refine W_skip ?_
                refine thn_normal ?_
                refine W_seq ?_
                refine W_block ?_
                refine W_seq ?_
                refine W_region rfl ?_
                refine WO_p (PS_move_int rfl) ?_
                refine WO_p (PS_assign_int rfl) ?_
                refine WO_nil ?_
                refine thn_normal ?_
                refine W_seq ?_
                refine W_seq ?_
                refine W_region rfl ?_
                refine WO_p (PS_move_ptr rfl) ?_
                refine WO_p (PS_nilCheck rfl) ?_
                refine WO_p (PS_fieldAddr 54 Hvad.runUnderlying108 rfl Hvad.sizeOf106 rfl rfl) ?_
                refine WO_load (.slice _ _ _) Hvad.isAgg106 rfl (Hb.h (by repeat (first | assumption | exact Hb.newY _ _ | refine Hb.alloc ?_ | refine Hb.drew ?_ | refine Hb.ext (by assumption) ?_ | exact Hb.setSameL (by first | omega | (simp only [size_alloc, size_setB, size_drew]; omega)) | exact Hb.setSame (by assumption) | refine Hb.set (by first | omega | (simp only [size_alloc, size_setB, size_drew]; omega)) ?_ ))) (Ce.h (by first | assumption | exact ⟨rfl⟩)) ?_
                refine WO_p (PS_move_int rfl) ?_
                refine WO_p (PS_indexS Hvad.runUnderlying106 Hvad.sizeOf116 rfl rfl (by omega) (by omega)) ?_
                refine WO_p (PS_fieldAddr 32 Hvad.runUnderlying116 rfl Hvad.sizeOf28 rfl rfl) ?_
                refine WO_loadA _ Hvad.isAgg28 Hvad.sizeOf28 rfl (Hb.h (by repeat (first | assumption | exact Hb.newY _ _ | refine Hb.alloc ?_ | refine Hb.drew ?_ | refine Hb.ext (by assumption) ?_ | exact Hb.setSameL (by first | omega | (simp only [size_alloc, size_setB, size_drew]; omega)) | exact Hb.setSame (by assumption) | refine Hb.set (by first | omega | (simp only [size_alloc, size_setB, size_drew]; omega)) ?_ ))) (by first | omega | assumption | rfl | decide | exact Nat.le_refl _ | (simp only [size_ic, Value.cells]; omega) | simp) (Xt.h (by first | assumption | exact Xt.whole rfl rfl | exact Xt.whole rfl (by simp only [size_ic, Value.cells]; omega) | exact ⟨rfl⟩)) ?_
                refine WO_p (PS_buildI (k := .u8) (zs := [0, 0, 0, 0, 0, 0, 0, 0, 0, 0, 0, 0, 0, 0, 0, 0, 0, 0, 0, 0, 0, 0, 0, 0, 0, 0, 0, 0, 0, 0, 0, 0]) (ps := []) (L := [0, 0, 0, 0, 0, 0, 0, 0, 0, 0, 0, 0, 0, 0, 0, 0, 0, 0, 0, 0, 0, 0, 0, 0, 0, 0, 0, 0, 0, 0, 0, 0]) Hvad.zeroValue28 Hvad.runUnderlying28 Hvad.sizeOf5 rfl rfl rfl rfl) ?_
                refine WO_p (PS_eqlA Hvad.underlying28 Hvad.underlying5 Hvad.sizeOf5 Hvad.eqGuardType28 rfl rfl (by first | omega | assumption | rfl | decide | exact Nat.le_refl _ | (simp only [size_ic, Value.cells]; omega) | simp) (by first | omega | assumption | rfl | decide | exact Nat.le_refl _ | (simp only [size_ic, Value.cells]; omega) | simp)) ?_
                refine WO_nil ?_
                refine thn_normal ?_
                refine W_if rfl (fun hb16 => ?_) (fun hb16 => ?_)
                · have hb16p := hb16.h; try simp only [al_ete, al_dfn, Bool.not_eq_true', Bool.not_eq_false', al_ne, Bool.not_not, al_nn] at hb16p
                  have hzz : y.val = Z32 := hb16p
                  refine W_seq ?_
                  refine W_region rfl ?_
                  refine WO_p (PS_assign_bool rfl) ?_
                  refine WO_nil ?_
                  refine thn_normal ?_
                  refine W_ret ?_
                  refine thn_ret ?_
                  refine inBlk_ret ?_
                  refine thn_ret ?_
                  refine thn_ret ?_
                  refine inBlk_ret ?_
                  refine thn_ret ?_
                  refine bodyQ_ret1 Hvad.results56 rfl (.bool _) rfl ?_
                  refine ⟨congrArg Value.bool ?_, (by repeat (first | assumption | exact Ext.refl _ | refine Ext.alloc ?_ _ | refine Ext.drew ?_ | refine Ext.setB ?_ (by first | omega | (simp only [size_alloc, size_setB, size_drew]; omega)) _ | refine Ext.trans ?_ (by assumption)))⟩
                  symm
                  first
                  | (refine accOK_iff.2 ⟨?_, by omega, fun j hj => hgood j (by omega)⟩
                     rintro ⟨e1, e2, e3⟩
                     first
                     | exact hq1 e1
                     | exact hq2 e2
                     | (rcases e3 with e3 | e3
                        · exact hq3 e3
                        · exact hq4 e3))
                  | (refine Bool.eq_false_iff.2 fun hh => ?_
                     obtain ⟨e1, e2, e3⟩ := accOK_iff.1 hh
                     first
                     | exact e1 ⟨hq1, hq2, Or.inl hq3⟩
                     | exact e1 ⟨hq1, hq2, Or.inr hq4⟩
                     | (exfalso; omega)
                     | (have h9 := e3 i hiz
                        unfold slBad at h9
                        first
                        | (rw [hgy, al_et hzz, al_bto] at h9; cases h9)
                        | (rw [hgy, hgy0, hge, al_et hi0, al_bta, al_bot] at h9; cases h9)))
                · have hb16p := hb16.h; try simp only [al_ete, al_dfn, Bool.not_eq_true', Bool.not_eq_false', al_ne, Bool.not_not, al_nn] at hb16p
                  have hnz : ¬ y.val = Z32 := hb16p
                  refine W_skip ?_
                  refine thn_normal ?_
                  refine W_seq ?_
                  refine W_drawE [false, false, false, false, false, false, false, false, false, false, false, false, false, false, false, false, false, false, false, false, false, false, false, false] hmix (by kernel_rfl) rfl ?_
                  refine WH_p (PS_move_int rfl) rfl ?_
                  refine WH_p (PS_gtr rfl rfl) rfl ?_
                  refine WH_p (PS_move_bool rfl) rfl ?_
                  refine WH_if (t := 67) rfl (fun hb18 => ?_) (fun hb18 => ?_)
                  · have hb18p := hb18.h; try simp only [al_ete, al_dfn, Bool.not_eq_true', Bool.not_eq_false', al_ne, Bool.not_not, al_nn] at hb18p
                    have hi0 : 0 < i := by omega
                    obtain ⟨y0, hy0⟩ : ∃ y, x.sl[i - 1]? = some y := ⟨_, List.getElem?_eq_getElem (by omega)⟩
                    have hyk0 := hk.sr y0 (List.mem_of_getElem? hy0)
                    have hya0 := hrl2.sl hy0 hyk0
                    have hyb0 := hya0.bd
                    have hkl0 := hyk0.k.1
                    have hi1 : ((i : Int) - 1).toNat = i - 1 := by omega
                    have hyke0 : Xt r2 (o2 + ((i : Int) - 1).toNat * 64 + 0) (o2 + ((i : Int) - 1).toNat * 64 + 0 + 32) (ic .u8 y0.key) := by rw [hi1]; exact hya0.ke
                    have hyb01 : o2 + ((i : Int) - 1).toNat * 64 + 64 ≤ r2.size := by rw [hi1]; exact hyb0
                    have hgy0 : x.sl.getD (i - 1) ⟨[], []⟩ = y0 := getD_some hy0
                    refine WH_guardT rfl rfl hb18.h ?_
                    refine WH_p (PS_move_ptr rfl) rfl ?_
                    refine WH_guardT rfl rfl hb18.h ?_
                    refine WH_p (PS_nilCheck rfl) rfl ?_
                    refine WH_guardT rfl rfl hb18.h ?_
                    refine WH_p (PS_fieldAddr 54 Hvad.runUnderlying108 rfl Hvad.sizeOf106 rfl rfl) rfl ?_
                    refine WH_guardT rfl rfl hb18.h ?_
                    refine WH_load (.slice _ _ _) Hvad.isAgg106 rfl (Hb.h (by repeat (first | assumption | exact Hb.newY _ _ | refine Hb.alloc ?_ | refine Hb.drew ?_ | refine Hb.ext (by assumption) ?_ | exact Hb.setSameL (by first | omega | (simp only [size_alloc, size_setB, size_drew]; omega)) | exact Hb.setSame (by assumption) | refine Hb.set (by first | omega | (simp only [size_alloc, size_setB, size_drew]; omega)) ?_ ))) (Ce.h (by first | assumption | exact ⟨rfl⟩)) ?_
                    refine WH_guardT rfl rfl hb18.h ?_
                    refine WH_p (PS_move_int rfl) rfl ?_
                    refine WH_guardT rfl rfl hb18.h ?_
                    refine WH_p (PS_sub_i64n rfl rfl (by omega) (by omega)) rfl ?_
                    refine WH_guardT rfl rfl hb18.h ?_
                    refine WH_p (PS_indexS Hvad.runUnderlying106 Hvad.sizeOf116 rfl rfl (by omega) (by omega)) rfl ?_
                    refine WH_guardT rfl rfl hb18.h ?_
                    refine WH_p (PS_fieldAddr 0 Hvad.runUnderlying116 rfl Hvad.sizeOf28 rfl rfl) rfl ?_
                    refine WH_guardT rfl rfl hb18.h ?_
                    refine WH_p (PS_slA Hvad.runUnderlying28 Hvad.sizeOf5 rfl (by omega)) rfl ?_
                    refine WH_guardT rfl rfl hb18.h ?_
                    refine WH_tostr Hvad.runUnderlying32 Hvad.runUnderlying9 Hvad.runUnderlying5 rfl (Hb.h (by repeat (first | assumption | exact Hb.newY _ _ | refine Hb.alloc ?_ | refine Hb.drew ?_ | refine Hb.ext (by assumption) ?_ | exact Hb.setSameL (by first | omega | (simp only [size_alloc, size_setB, size_drew]; omega)) | exact Hb.setSame (by assumption) | refine Hb.set (by first | omega | (simp only [size_alloc, size_setB, size_drew]; omega)) ?_ ))) (by first | omega | assumption | rfl | decide | exact Nat.le_refl _ | (simp only [size_ic, Value.cells]; omega) | simp) (Xt.h (by first | assumption | exact Xt.whole rfl rfl | exact Xt.whole rfl (by simp only [size_ic, Value.cells]; omega) | exact ⟨rfl⟩)) ?_
                    refine WH_guardT rfl rfl hb18.h ?_
                    refine WH_p (PS_move_ptr rfl) rfl ?_
                    refine WH_guardT rfl rfl hb18.h ?_
                    refine WH_p (PS_nilCheck rfl) rfl ?_
                    refine WH_guardT rfl rfl hb18.h ?_
                    refine WH_p (PS_fieldAddr 54 Hvad.runUnderlying108 rfl Hvad.sizeOf106 rfl rfl) rfl ?_
                    refine WH_guardT rfl rfl hb18.h ?_
                    refine WH_load (.slice _ _ _) Hvad.isAgg106 rfl (Hb.h (by repeat (first | assumption | exact Hb.newY _ _ | refine Hb.alloc ?_ | refine Hb.drew ?_ | refine Hb.ext (by assumption) ?_ | exact Hb.setSameL (by first | omega | (simp only [size_alloc, size_setB, size_drew]; omega)) | exact Hb.setSame (by assumption) | refine Hb.set (by first | omega | (simp only [size_alloc, size_setB, size_drew]; omega)) ?_ ))) (Ce.h (by first | assumption | exact ⟨rfl⟩)) ?_
                    refine WH_guardT rfl rfl hb18.h ?_
                    refine WH_p (PS_move_int rfl) rfl ?_
                    refine WH_guardT rfl rfl hb18.h ?_
                    refine WH_p (PS_indexS Hvad.runUnderlying106 Hvad.sizeOf116 rfl rfl (by omega) (by omega)) rfl ?_
                    refine WH_guardT rfl rfl hb18.h ?_
                    refine WH_p (PS_fieldAddr 0 Hvad.runUnderlying116 rfl Hvad.sizeOf28 rfl rfl) rfl ?_
                    refine WH_guardT rfl rfl hb18.h ?_
                    refine WH_p (PS_slA Hvad.runUnderlying28 Hvad.sizeOf5 rfl (by omega)) rfl ?_
                    refine WH_guardT rfl rfl hb18.h ?_
                    refine WH_tostr Hvad.runUnderlying32 Hvad.runUnderlying9 Hvad.runUnderlying5 rfl (Hb.h (by repeat (first | assumption | exact Hb.newY _ _ | refine Hb.alloc ?_ | refine Hb.drew ?_ | refine Hb.ext (by assumption) ?_ | exact Hb.setSameL (by first | omega | (simp only [size_alloc, size_setB, size_drew]; omega)) | exact Hb.setSame (by assumption) | refine Hb.set (by first | omega | (simp only [size_alloc, size_setB, size_drew]; omega)) ?_ ))) (by first | omega | assumption | rfl | decide | exact Nat.le_refl _ | (simp only [size_ic, Value.cells]; omega) | simp) (Xt.h (by first | assumption | exact Xt.whole rfl rfl | exact Xt.whole rfl (by simp only [size_ic, Value.cells]; omega) | exact ⟨rfl⟩)) ?_
                    refine WH_guardT rfl rfl hb18.h ?_
                    refine WH_p (PS_geqstr rfl rfl) rfl ?_
                    refine WH_p (PS_pickT rfl hb18.h rfl) rfl ?_
                    refine WH_nil ?_
                    refine thn_normal ?_
                    refine W_if rfl (fun hb20 => ?_) (fun hb20 => ?_)
                    · have hb20p := hb20.h; try simp only [al_ete, al_dfn, Bool.not_eq_true', Bool.not_eq_false', al_ne, Bool.not_not, al_nn] at hb20p
                      have hge : strGe y0.key y.key = true := by unfold strGe; simpa using hb20p
                      refine W_seq ?_
                      refine W_region rfl ?_
                      refine WO_p (PS_assign_bool rfl) ?_
                      refine WO_nil ?_
                      refine thn_normal ?_
                      refine W_ret ?_
                      refine inBlk_ret ?_
                      refine thn_ret ?_
                      refine thn_ret ?_
                      refine inBlk_ret ?_
                      refine thn_ret ?_
                      refine bodyQ_ret1 Hvad.results56 rfl (.bool _) rfl ?_
                      refine ⟨congrArg Value.bool ?_, (by repeat (first | assumption | exact Ext.refl _ | refine Ext.alloc ?_ _ | refine Ext.drew ?_ | refine Ext.setB ?_ (by first | omega | (simp only [size_alloc, size_setB, size_drew]; omega)) _ | refine Ext.trans ?_ (by assumption)))⟩
                      symm
                      first
                      | (refine accOK_iff.2 ⟨?_, by omega, fun j hj => hgood j (by omega)⟩
                         rintro ⟨e1, e2, e3⟩
                         first
                         | exact hq1 e1
                         | exact hq2 e2
                         | (rcases e3 with e3 | e3
                            · exact hq3 e3
                            · exact hq4 e3))
                      | (refine Bool.eq_false_iff.2 fun hh => ?_
                         obtain ⟨e1, e2, e3⟩ := accOK_iff.1 hh
                         first
                         | exact e1 ⟨hq1, hq2, Or.inl hq3⟩
                         | exact e1 ⟨hq1, hq2, Or.inr hq4⟩
                         | (exfalso; omega)
                         | (have h9 := e3 i hiz
                            unfold slBad at h9
                            first
                            | (rw [hgy, al_et hzz, al_bto] at h9; cases h9)
                            | (rw [hgy, hgy0, hge, al_et hi0, al_bta, al_bot] at h9; cases h9)))
                    · have hb20p := hb20.h; try simp only [al_ete, al_dfn, Bool.not_eq_true', Bool.not_eq_false', al_ne, Bool.not_not, al_nn] at hb20p
                      have hge : strGe y0.key y.key = false := by unfold strGe; simpa using hb20p
                      refine W_skip ?_
                      refine inBlk_normal ?_
                      refine thn_normal ?_
                      refine W_region rfl ?_
                      refine WO_p (PS_add_i64n rfl rfl (by omega) (by omega)) ?_
                      refine WO_p (PS_move_int rfl) ?_
                      refine WO_nil ?_
                      refine thn_normal ?_
                      exact ⟨k - 1, by omega, i + 1, by omega, (by
                          intro j hj
                          by_cases hji : j < i
                          · exact hgood j hji
                          obtain rfl : j = i := by omega
                          unfold slBad
                          rw [hgy, al_ef hnz, al_bfo]
                          first
                          | rw [hgy0, hge, al_baf]
                          | rw [al_ef hi0, al_bfa]), ⟨rfl, rfl, congrArg (Value.int .i64) (by omega), trivial⟩, (by repeat (first | assumption | exact Ext.refl _ | refine Ext.alloc ?_ _ | refine Ext.drew ?_ | refine Ext.setB ?_ (by first | omega | (simp only [size_alloc, size_setB, size_drew]; omega)) _ | refine Ext.trans ?_ (by assumption)))⟩
                  · have hb18p := hb18.h; try simp only [al_ete, al_dfn, Bool.not_eq_true', Bool.not_eq_false', al_ne, Bool.not_not, al_nn] at hb18p
                    have hi0 : ¬ 0 < i := by omega
                    refine WH_guardF rfl rfl hb18.h ?_
                    refine WH_guardF rfl rfl hb18.h ?_
                    refine WH_guardF rfl rfl hb18.h ?_
                    refine WH_guardF rfl rfl hb18.h ?_
                    refine WH_guardF rfl rfl hb18.h ?_
                    refine WH_guardF rfl rfl hb18.h ?_
                    refine WH_guardF rfl rfl hb18.h ?_
                    refine WH_guardF rfl rfl hb18.h ?_
                    refine WH_guardF rfl rfl hb18.h ?_
                    refine WH_guardF rfl rfl hb18.h ?_
                    refine WH_guardF rfl rfl hb18.h ?_
                    refine WH_guardF rfl rfl hb18.h ?_
                    refine WH_guardF rfl rfl hb18.h ?_
                    refine WH_guardF rfl rfl hb18.h ?_
                    refine WH_guardF rfl rfl hb18.h ?_
                    refine WH_guardF rfl rfl hb18.h ?_
                    refine WH_guardF rfl rfl hb18.h ?_
                    refine WH_guardF rfl rfl hb18.h ?_
                    refine WH_guardF rfl rfl hb18.h ?_
                    refine WH_guardF rfl rfl hb18.h ?_
                    refine WH_p (PS_pickF rfl hb18.h rfl) rfl ?_
                    refine WH_nil ?_
                    refine thn_normal ?_
                    refine W_condF rfl rfl ?_
                    refine W_skip ?_
                    refine inBlk_normal ?_
                    refine thn_normal ?_
                    refine W_region rfl ?_
                    refine WO_p (PS_add_i64n rfl rfl (by omega) (by omega)) ?_
                    refine WO_p (PS_move_int rfl) ?_
                    refine WO_nil ?_
                    refine thn_normal ?_
                    exact ⟨k - 1, by omega, i + 1, by omega, (by
                        intro j hj
                        by_cases hji : j < i
                        · exact hgood j hji
                        obtain rfl : j = i := by omega
                        unfold slBad
                        rw [hgy, al_ef hnz, al_bfo]
                        first
                        | rw [hgy0, hge, al_baf]
                        | rw [al_ef hi0, al_bfa]), ⟨rfl, rfl, congrArg (Value.int .i64) (by omega), trivial⟩, (by repeat (first | assumption | exact Ext.refl _ | refine Ext.alloc ?_ _ | refine Ext.drew ?_ | refine Ext.setB ?_ (by first | omega | (simp only [size_alloc, size_setB, size_drew]; omega)) _ | refine Ext.trans ?_ (by assumption)))⟩
              · have hb14p := hb14.h; try simp only [al_ete, al_dfn, Bool.not_eq_true', Bool.not_eq_false', al_ne, Bool.not_not, al_nn] at hb14p
                refine W_exit ?_
                refine thn_exit ?_
                refine thn_exit ?_
                refine inBlk_exit ?_
                refine thn_normal ?_
                refine W_seq ?_
                refine W_region rfl ?_
                refine WO_p (PS_assign_bool rfl) ?_
                refine WO_nil ?_
                refine thn_normal ?_
                refine W_ret ?_
                refine bodyQ_ret1 Hvad.results56 rfl (.bool _) rfl ?_
                refine ⟨congrArg Value.bool ?_, (by repeat (first | assumption | exact Ext.refl _ | refine Ext.alloc ?_ _ | refine Ext.drew ?_ | refine Ext.setB ?_ (by first | omega | (simp only [size_alloc, size_setB, size_drew]; omega)) _ | refine Ext.trans ?_ (by assumption)))⟩
                symm
                first
                | (refine accOK_iff.2 ⟨?_, by omega, fun j hj => hgood j (by omega)⟩
                   rintro ⟨e1, e2, e3⟩
                   first
                   | exact hq1 e1
                   | exact hq2 e2
                   | (rcases e3 with e3 | e3
                      · exact hq3 e3
                      · exact hq4 e3))
                | (refine Bool.eq_false_iff.2 fun hh => ?_
                   obtain ⟨e1, e2, e3⟩ := accOK_iff.1 hh
                   first
                   | exact e1 ⟨hq1, hq2, Or.inl hq3⟩
                   | exact e1 ⟨hq1, hq2, Or.inr hq4⟩
                   | (exfalso; omega)
                   | (have h9 := e3 i hiz
                      unfold slBad at h9
                      first
                      | (rw [hgy, al_et hzz, al_bto] at h9; cases h9)
                      | (rw [hgy, hgy0, hge, al_et hi0, al_bta, al_bot] at h9; cases h9)))
    · have hb4p := hb4.h; try simp only [al_ete, al_dfn, Bool.not_eq_true', Bool.not_eq_false', al_ne, Bool.not_not, al_nn] at hb4p
      have hq2 : ¬ x.cb.length = 0 := by omega
      refine WO_guardF rfl rfl hb4.h ?_
      refine WO_guardF rfl rfl hb4.h ?_
      refine WO_guardF rfl rfl hb4.h ?_
      refine WO_guardF rfl rfl hb4.h ?_
      refine WO_guardF rfl rfl hb4.h ?_
      refine WO_guardF rfl rfl hb4.h ?_
      refine WO_guardF rfl rfl hb4.h ?_
      refine WO_guardU rfl rfl ?_
      refine WO_guardU rfl rfl ?_
      refine WO_guardU rfl rfl ?_
      refine WO_guardU rfl rfl ?_
      refine WO_guardU rfl rfl ?_
      refine WO_guardU rfl rfl ?_
      refine WO_guardF rfl rfl hb4.h ?_
      refine WO_p (PS_pickF rfl hb4.h rfl) ?_
      refine WO_nil ?_
      refine thn_normal ?_
      refine W_condF rfl rfl ?_
      refine W_skip ?_
      refine thn_normal ?_
      refine W_seq ?_
      refine W_seq ?_
      refine W_region rfl ?_
      refine WO_p (PS_move_ptr rfl) ?_
      refine WO_p (PS_nilCheck rfl) ?_
      refine WO_p (PS_fieldAddr 53 Hvad.runUnderlying108 rfl Hvad.sizeOf32 rfl rfl) ?_
      refine WO_load (.slice _ _ _) Hvad.isAgg32 rfl (Hb.h (by repeat (first | assumption | exact Hb.newY _ _ | refine Hb.alloc ?_ | refine Hb.drew ?_ | refine Hb.ext (by assumption) ?_ | exact Hb.setSameL (by first | omega | (simp only [size_alloc, size_setB, size_drew]; omega)) | exact Hb.setSame (by assumption) | refine Hb.set (by first | omega | (simp only [size_alloc, size_setB, size_drew]; omega)) ?_ ))) (Ce.h (by first | assumption | exact ⟨rfl⟩)) ?_
      refine WO_p (PS_lenS Hvad.runUnderlying32 rfl) ?_
      refine WO_p (PS_gtr rfl rfl) ?_
      refine WO_p (PS_move_bool rfl) ?_
      refine WO_if (t := 39) rfl (fun hb22 => ?_) (fun hb22 => ?_)
      · have hb22p := hb22.h; try simp only [al_ete, al_dfn, Bool.not_eq_true', Bool.not_eq_false', al_ne, Bool.not_not, al_nn] at hb22p
        refine WO_guardF rfl rfl hb22.h ?_
        refine WO_guardF rfl rfl hb22.h ?_
        refine WO_guardF rfl rfl hb22.h ?_
        refine WO_guardF rfl rfl hb22.h ?_
        refine WO_guardF rfl rfl hb22.h ?_
        refine WO_guardF rfl rfl hb22.h ?_
        refine WO_p (PS_pickT rfl hb22.h rfl) ?_
        refine WO_nil ?_
        refine thn_normal ?_
        refine W_condT rfl rfl ?_
        refine W_seq ?_
        refine W_region rfl ?_
        refine WO_p (PS_assign_bool rfl) ?_
        refine WO_nil ?_
        refine thn_normal ?_
        refine W_ret ?_
        refine thn_ret ?_
        refine bodyQ_ret1 Hvad.results56 rfl (.bool _) rfl ?_
        refine ⟨congrArg Value.bool ?_, (by repeat (first | assumption | exact Ext.refl _ | refine Ext.alloc ?_ _ | refine Ext.drew ?_ | refine Ext.setB ?_ (by first | omega | (simp only [size_alloc, size_setB, size_drew]; omega)) _ | refine Ext.trans ?_ (by assumption)))⟩
        symm
        first
        | (refine accOK_iff.2 ⟨?_, by omega, fun j hj => hgood j (by omega)⟩
           rintro ⟨e1, e2, e3⟩
           first
           | exact hq1 e1
           | exact hq2 e2
           | (rcases e3 with e3 | e3
              · exact hq3 e3
              · exact hq4 e3))
        | (refine Bool.eq_false_iff.2 fun hh => ?_
           obtain ⟨e1, e2, e3⟩ := accOK_iff.1 hh
           first
           | exact e1 ⟨hq1, hq2, Or.inl hq3⟩
           | exact e1 ⟨hq1, hq2, Or.inr hq4⟩
           | (exfalso; omega)
           | (have h9 := e3 i hiz
              unfold slBad at h9
              first
              | (rw [hgy, al_et hzz, al_bto] at h9; cases h9)
              | (rw [hgy, hgy0, hge, al_et hi0, al_bta, al_bot] at h9; cases h9)))
      · have hb22p := hb22.h; try simp only [al_ete, al_dfn, Bool.not_eq_true', Bool.not_eq_false', al_ne, Bool.not_not, al_nn] at hb22p
        refine WO_guardT rfl rfl hb22.h ?_
        refine WO_p (PS_move_ptr rfl) ?_
        refine WO_guardT rfl rfl hb22.h ?_
        refine WO_p (PS_nilCheck rfl) ?_
        refine WO_guardT rfl rfl hb22.h ?_
        refine WO_p (PS_fieldAddr 54 Hvad.runUnderlying108 rfl Hvad.sizeOf106 rfl rfl) ?_
        refine WO_guardT rfl rfl hb22.h ?_
        refine WO_load (.slice _ _ _) Hvad.isAgg106 rfl (Hb.h (by repeat (first | assumption | exact Hb.newY _ _ | refine Hb.alloc ?_ | refine Hb.drew ?_ | refine Hb.ext (by assumption) ?_ | exact Hb.setSameL (by first | omega | (simp only [size_alloc, size_setB, size_drew]; omega)) | exact Hb.setSame (by assumption) | refine Hb.set (by first | omega | (simp only [size_alloc, size_setB, size_drew]; omega)) ?_ ))) (Ce.h (by first | assumption | exact ⟨rfl⟩)) ?_
        refine WO_guardT rfl rfl hb22.h ?_
        refine WO_p (PS_lenS Hvad.runUnderlying106 rfl) ?_
        refine WO_guardT rfl rfl hb22.h ?_
        refine WO_p (PS_gtr rfl rfl) ?_
        refine WO_p (PS_pickF rfl hb22.h rfl) ?_
        refine WO_nil ?_
        refine thn_normal ?_
        refine W_if rfl (fun hb24 => ?_) (fun hb24 => ?_)
        · have hb24p := hb24.h; try simp only [al_ete, al_dfn, Bool.not_eq_true', Bool.not_eq_false', al_ne, Bool.not_not, al_nn] at hb24p
          refine W_seq ?_
          refine W_region rfl ?_
          refine WO_p (PS_assign_bool rfl) ?_
          refine WO_nil ?_
          refine thn_normal ?_
          refine W_ret ?_
          refine thn_ret ?_
          refine bodyQ_ret1 Hvad.results56 rfl (.bool _) rfl ?_
          refine ⟨congrArg Value.bool ?_, (by repeat (first | assumption | exact Ext.refl _ | refine Ext.alloc ?_ _ | refine Ext.drew ?_ | refine Ext.setB ?_ (by first | omega | (simp only [size_alloc, size_setB, size_drew]; omega)) _ | refine Ext.trans ?_ (by assumption)))⟩
          symm
          first
          | (refine accOK_iff.2 ⟨?_, by omega, fun j hj => hgood j (by omega)⟩
             rintro ⟨e1, e2, e3⟩
             first
             | exact hq1 e1
             | exact hq2 e2
             | (rcases e3 with e3 | e3
                · exact hq3 e3
                · exact hq4 e3))
          | (refine Bool.eq_false_iff.2 fun hh => ?_
             obtain ⟨e1, e2, e3⟩ := accOK_iff.1 hh
             first
             | exact e1 ⟨hq1, hq2, Or.inl hq3⟩
             | exact e1 ⟨hq1, hq2, Or.inr hq4⟩
             | (exfalso; omega)
             | (have h9 := e3 i hiz
                unfold slBad at h9
                first
                | (rw [hgy, al_et hzz, al_bto] at h9; cases h9)
                | (rw [hgy, hgy0, hge, al_et hi0, al_bta, al_bot] at h9; cases h9)))
        · have hb24p := hb24.h; try simp only [al_ete, al_dfn, Bool.not_eq_true', Bool.not_eq_false', al_ne, Bool.not_not, al_nn] at hb24p
          refine W_skip ?_
          refine thn_normal ?_
          refine W_seq ?_
          refine W_seq ?_
          refine W_region rfl ?_
          refine WO_p (PS_move_ptr rfl) ?_
          refine WO_p (PS_nilCheck rfl) ?_
          refine WO_p (PS_fieldAddr 54 Hvad.runUnderlying108 rfl Hvad.sizeOf106 rfl rfl) ?_
          refine WO_load (.slice _ _ _) Hvad.isAgg106 rfl (Hb.h (by repeat (first | assumption | exact Hb.newY _ _ | refine Hb.alloc ?_ | refine Hb.drew ?_ | refine Hb.ext (by assumption) ?_ | exact Hb.setSameL (by first | omega | (simp only [size_alloc, size_setB, size_drew]; omega)) | exact Hb.setSame (by assumption) | refine Hb.set (by first | omega | (simp only [size_alloc, size_setB, size_drew]; omega)) ?_ ))) (Ce.h (by first | assumption | exact ⟨rfl⟩)) ?_
          refine WO_p (PS_lenS Hvad.runUnderlying106 rfl) ?_
          refine WO_p (PS_move_int rfl) ?_
          refine WO_nil ?_
          refine thn_normal ?_
          refine W_block ?_
          refine W_loopN (fun k ρ w' => ∃ (i : Nat), i + k = x.sl.length ∧ (∀ j, j < i → slBad x.sl j = false) ∧ Fr [(0, .pointer (some ⟨bb, q, none⟩)), (51, .int .i64 x.sto.2.1), (52, .int .i64 i)] ρ ∧ Ext w w') x.sl.length ?_ ?_
          · exact ⟨0, by omega, fun j hj => absurd hj (by omega), ⟨rfl, rfl, rfl, trivial⟩, (by repeat (first | assumption | exact Ext.refl _ | refine Ext.alloc ?_ _ | refine Ext.drew ?_ | refine Ext.setB ?_ (by first | omega | (simp only [size_alloc, size_setB, size_drew]; omega)) _ | refine Ext.trans ?_ (by assumption)))⟩
          intro k ρ w2 hI2
          obtain ⟨i, hik, hgood, hFr, hE2⟩ := hI2
          refine W_env _ hFr ?_
          have hz2 := hE2.1
          refine W_seq ?_
          refine W_region rfl ?_
          refine WO_p (PS_lss rfl rfl) ?_
          refine WO_nil ?_
          refine thn_normal ?_
          refine W_seq ?_
          refine W_if rfl (fun hb26 => ?_) (fun hb26 => ?_)
          · have hb26p := hb26.h; try simp only [al_ete, al_dfn, Bool.not_eq_true', Bool.not_eq_false', al_ne, Bool.not_not, al_nn] at hb26p
            have hiz : i < x.sl.length := by omega
            obtain ⟨y, hy⟩ : ∃ y, x.sl[i]? = some y := ⟨_, List.getElem?_eq_getElem hiz⟩
            obtain ⟨bb2, o2, r2, T2, fz2, hp2, hbb2, hrl2⟩ := (hk.so.ext hE2).get hy
            have hyk := hk.sr y (List.mem_of_getElem? hy)
            have hya := hrl2.sl hy hyk
            have hyb := hya.bd
            have hyv := hya.va
            have hyke := hya.ke
            have hso2 : Ce r (q + 54) (.slice (some ⟨bb2, o2, none⟩) x.sto.2.1 x.sto.2.2) := by have := hat.so; rw [hp2] at this; exact this
            have hvl := hyk.v.1
            have hkl := hyk.k.1
            have hgy : x.sl.getD i ⟨[], []⟩ = y := getD_some hy
            refine W_skip ?_
            refine thn_normal ?_
            refine W_seq ?_
            refine W_block ?_
            refine W_seq ?_
            refine W_region rfl ?_
            refine WO_p (PS_move_int rfl) ?_
            refine WO_p (PS_assign_int rfl) ?_
            refine WO_nil ?_
            refine thn_normal ?_
            refine W_seq ?_
            refine W_seq ?_
            refine W_region rfl ?_
            refine WO_p (PS_move_ptr rfl) ?_
            refine WO_p (PS_nilCheck rfl) ?_
            refine WO_p (PS_fieldAddr 54 Hvad.runUnderlying108 rfl Hvad.sizeOf106 rfl rfl) ?_
            refine WO_load (.slice _ _ _) Hvad.isAgg106 rfl (Hb.h (by repeat (first | assumption | exact Hb.newY _ _ | refine Hb.alloc ?_ | refine Hb.drew ?_ | refine Hb.ext (by assumption) ?_ | exact Hb.setSameL (by first | omega | (simp only [size_alloc, size_setB, size_drew]; omega)) | exact Hb.setSame (by assumption) | refine Hb.set (by first | omega | (simp only [size_alloc, size_setB, size_drew]; omega)) ?_ ))) (Ce.h (by first | assumption | exact ⟨rfl⟩)) ?_
            refine WO_p (PS_move_int rfl) ?_
            refine WO_p (PS_indexS Hvad.runUnderlying106 Hvad.sizeOf116 rfl rfl (by omega) (by omega)) ?_
            refine WO_p (PS_fieldAddr 32 Hvad.runUnderlying116 rfl Hvad.sizeOf28 rfl rfl) ?_
            refine WO_loadA _ Hvad.isAgg28 Hvad.sizeOf28 rfl (Hb.h (by repeat (first | assumption | exact Hb.newY _ _ | refine Hb.alloc ?_ | refine Hb.drew ?_ | refine Hb.ext (by assumption) ?_ | exact Hb.setSameL (by first | omega | (simp only [size_alloc, size_setB, size_drew]; omega)) | exact Hb.setSame (by assumption) | refine Hb.set (by first | omega | (simp only [size_alloc, size_setB, size_drew]; omega)) ?_ ))) (by first | omega | assumption | rfl | decide | exact Nat.le_refl _ | (simp only [size_ic, Value.cells]; omega) | simp) (Xt.h (by first | assumption | exact Xt.whole rfl rfl | exact Xt.whole rfl (by simp only [size_ic, Value.cells]; omega) | exact ⟨rfl⟩)) ?_
            refine WO_p (PS_buildI (k := .u8) (zs := [0, 0, 0, 0, 0, 0, 0, 0, 0, 0, 0, 0, 0, 0, 0, 0, 0, 0, 0, 0, 0, 0, 0, 0, 0, 0, 0, 0, 0, 0, 0, 0]) (ps := []) (L := [0, 0, 0, 0, 0, 0, 0, 0, 0, 0, 0, 0, 0, 0, 0, 0, 0, 0, 0, 0, 0, 0, 0, 0, 0, 0, 0, 0, 0, 0, 0, 0]) Hvad.zeroValue28 Hvad.runUnderlying28 Hvad.sizeOf5 rfl rfl rfl rfl) ?_
            refine WO_p (PS_eqlA Hvad.underlying28 Hvad.underlying5 Hvad.sizeOf5 Hvad.eqGuardType28 rfl rfl (by first | omega | assumption | rfl | decide | exact Nat.le_refl _ | (simp only [size_ic, Value.cells]; omega) | simp) (by first | omega | assumption | rfl | decide | exact Nat.le_refl _ | (simp only [size_ic, Value.cells]; omega) | simp)) ?_
            refine WO_nil ?_
            refine thn_normal ?_
            refine W_if rfl (fun hb28 => ?_) (fun hb28 => ?_)
            · have hb28p := hb28.h; try simp only [al_ete, al_dfn, Bool.not_eq_true', Bool.not_eq_false', al_ne, Bool.not_not, al_nn] at hb28p
              have hzz : y.val = Z32 := hb28p
              refine W_seq ?_
              refine W_region rfl ?_
              refine WO_p (PS_assign_bool rfl) ?_
              refine WO_nil ?_
              refine thn_normal ?_
              refine W_ret ?_
              refine thn_ret ?_
              refine inBlk_ret ?_
              refine thn_ret ?_
              refine thn_ret ?_
              refine inBlk_ret ?_
              refine thn_ret ?_
              refine bodyQ_ret1 Hvad.results56 rfl (.bool _) rfl ?_
              refine ⟨congrArg Value.bool ?_, (by repeat (first | assumption | exact Ext.refl _ | refine Ext.alloc ?_ _ | refine Ext.drew ?_ | refine Ext.setB ?_ (by first | omega | (simp only [size_alloc, size_setB, size_drew]; omega)) _ | refine Ext.trans ?_ (by assumption)))⟩
              symm
              first
              | (refine accOK_iff.2 ⟨?_, by omega, fun j hj => hgood j (by omega)⟩
                 rintro ⟨e1, e2, e3⟩
                 first
                 | exact hq1 e1
                 | exact hq2 e2
                 | (rcases e3 with e3 | e3
                    · exact hq3 e3
                    · exact hq4 e3))
              | (refine Bool.eq_false_iff.2 fun hh => ?_
                 obtain ⟨e1, e2, e3⟩ := accOK_iff.1 hh
                 first
                 | exact e1 ⟨hq1, hq2, Or.inl hq3⟩
                 | exact e1 ⟨hq1, hq2, Or.inr hq4⟩
                 | (exfalso; omega)
                 | (have h9 := e3 i hiz
                    unfold slBad at h9
                    first
                    | (rw [hgy, al_et hzz, al_bto] at h9; cases h9)
                    | (rw [hgy, hgy0, hge, al_et hi0, al_bta, al_bot] at h9; cases h9)))
            · have hb28p := hb28.h; try simp only [al_ete, al_dfn, Bool.not_eq_true', Bool.not_eq_false', al_ne, Bool.not_not, al_nn] at hb28p
              have hnz : ¬ y.val = Z32 := hb28p
              refine W_skip ?_
              refine thn_normal ?_
              refine W_seq ?_
              refine W_drawE [false, false, false, false, false, false, false, false, false, false, false, false, false, false, false, false, false, false, false, false, false, false, false, false] hmix (by kernel_rfl) rfl ?_
              refine WH_p (PS_move_int rfl) rfl ?_
              refine WH_p (PS_gtr rfl rfl) rfl ?_
              refine WH_p (PS_move_bool rfl) rfl ?_
              refine WH_if (t := 67) rfl (fun hb30 => ?_) (fun hb30 => ?_)
              · have hb30p := hb30.h; try simp only [al_ete, al_dfn, Bool.not_eq_true', Bool.not_eq_false', al_ne, Bool.not_not, al_nn] at hb30p
                have hi0 : 0 < i := by omega
                obtain ⟨y0, hy0⟩ : ∃ y, x.sl[i - 1]? = some y := ⟨_, List.getElem?_eq_getElem (by omega)⟩
                have hyk0 := hk.sr y0 (List.mem_of_getElem? hy0)
                have hya0 := hrl2.sl hy0 hyk0
                have hyb0 := hya0.bd
                have hkl0 := hyk0.k.1
                have hi1 : ((i : Int) - 1).toNat = i - 1 := by omega
                have hyke0 : Xt r2 (o2 + ((i : Int) - 1).toNat * 64 + 0) (o2 + ((i : Int) - 1).toNat * 64 + 0 + 32) (ic .u8 y0.key) := by rw [hi1]; exact hya0.ke
                have hyb01 : o2 + ((i : Int) - 1).toNat * 64 + 64 ≤ r2.size := by rw [hi1]; exact hyb0
                have hgy0 : x.sl.getD (i - 1) ⟨[], []⟩ = y0 := getD_some hy0
                refine WH_guardT rfl rfl hb30.h ?_
                refine WH_p (PS_move_ptr rfl) rfl ?_
                refine WH_guardT rfl rfl hb30.h ?_
                refine WH_p (PS_nilCheck rfl) rfl ?_
                refine WH_guardT rfl rfl hb30.h ?_
                refine WH_p (PS_fieldAddr 54 Hvad.runUnderlying108 rfl Hvad.sizeOf106 rfl rfl) rfl ?_
                refine WH_guardT rfl rfl hb30.h ?_
                refine WH_load (.slice _ _ _) Hvad.isAgg106 rfl (Hb.h (by repeat (first | assumption | exact Hb.newY _ _ | refine Hb.alloc ?_ | refine Hb.drew ?_ | refine Hb.ext (by assumption) ?_ | exact Hb.setSameL (by first | omega | (simp only [size_alloc, size_setB, size_drew]; omega)) | exact Hb.setSame (by assumption) | refine Hb.set (by first | omega | (simp only [size_alloc, size_setB, size_drew]; omega)) ?_ ))) (Ce.h (by first | assumption | exact ⟨rfl⟩)) ?_
                refine WH_guardT rfl rfl hb30.h ?_
                refine WH_p (PS_move_int rfl) rfl ?_
                refine WH_guardT rfl rfl hb30.h ?_
                refine WH_p (PS_sub_i64n rfl rfl (by omega) (by omega)) rfl ?_
                refine WH_guardT rfl rfl hb30.h ?_
                refine WH_p (PS_indexS Hvad.runUnderlying106 Hvad.sizeOf116 rfl rfl (by omega) (by omega)) rfl ?_
                refine WH_guardT rfl rfl hb30.h ?_
                refine WH_p (PS_fieldAddr 0 Hvad.runUnderlying116 rfl Hvad.sizeOf28 rfl rfl) rfl ?_
                refine WH_guardT rfl rfl hb30.h ?_
                refine WH_p (PS_slA Hvad.runUnderlying28 Hvad.sizeOf5 rfl (by omega)) rfl ?_
                refine WH_guardT rfl rfl hb30.h ?_
                refine WH_tostr Hvad.runUnderlying32 Hvad.runUnderlying9 Hvad.runUnderlying5 rfl (Hb.h (by repeat (first | assumption | exact Hb.newY _ _ | refine Hb.alloc ?_ | refine Hb.drew ?_ | refine Hb.ext (by assumption) ?_ | exact Hb.setSameL (by first | omega | (simp only [size_alloc, size_setB, size_drew]; omega)) | exact Hb.setSame (by assumption) | refine Hb.set (by first | omega | (simp only [size_alloc, size_setB, size_drew]; omega)) ?_ ))) (by first | omega | assumption | rfl | decide | exact Nat.le_refl _ | (simp only [size_ic, Value.cells]; omega) | simp) (Xt.h (by first | assumption | exact Xt.whole rfl rfl | exact Xt.whole rfl (by simp only [size_ic, Value.cells]; omega) | exact ⟨rfl⟩)) ?_
                refine WH_guardT rfl rfl hb30.h ?_
                refine WH_p (PS_move_ptr rfl) rfl ?_
                refine WH_guardT rfl rfl hb30.h ?_
                refine WH_p (PS_nilCheck rfl) rfl ?_
                refine WH_guardT rfl rfl hb30.h ?_
                refine WH_p (PS_fieldAddr 54 Hvad.runUnderlying108 rfl Hvad.sizeOf106 rfl rfl) rfl ?_
                refine WH_guardT rfl rfl hb30.h ?_
                refine WH_load (.slice _ _ _) Hvad.isAgg106 rfl (Hb.h (by repeat (first | assumption | exact Hb.newY _ _ | refine Hb.alloc ?_ | refine Hb.drew ?_ | refine Hb.ext (by assumption) ?_ | exact Hb.setSameL (by first | omega | (simp only [size_alloc, size_setB, size_drew]; omega)) | exact Hb.setSame (by assumption) | refine Hb.set (by first | omega | (simp only [size_alloc, size_setB, size_drew]; omega)) ?_ ))) (Ce.h (by first | assumption | exact ⟨rfl⟩)) ?_
                refine WH_guardT rfl rfl hb30.h ?_
                refine WH_p (PS_move_int rfl) rfl ?_
                refine WH_guardT rfl rfl hb30.h ?_
                refine WH_p (PS_indexS Hvad.runUnderlying106 Hvad.sizeOf116 rfl rfl (by omega) (by omega)) rfl ?_
                refine WH_guardT rfl rfl hb30.h ?_
                refine WH_p (PS_fieldAddr 0 Hvad.runUnderlying116 rfl Hvad.sizeOf28 rfl rfl) rfl ?_
                refine WH_guardT rfl rfl hb30.h ?_
                refine WH_p (PS_slA Hvad.runUnderlying28 Hvad.sizeOf5 rfl (by omega)) rfl ?_
                refine WH_guardT rfl rfl hb30.h ?_
                refine WH_tostr Hvad.runUnderlying32 Hvad.runUnderlying9 Hvad.runUnderlying5 rfl (Hb.h (by repeat (first | assumption | exact Hb.newY _ _ | refine Hb.alloc ?_ | refine Hb.drew ?_ | refine Hb.ext (by assumption) ?_ | exact Hb.setSameL (by first | omega | (simp only [size_alloc, size_setB, size_drew]; omega)) | exact Hb.setSame (by assumption) | refine Hb.set (by first | omega | (simp only [size_alloc, size_setB, size_drew]; omega)) ?_ ))) (by first | omega | assumption | rfl | decide | exact Nat.le_refl _ | (simp only [size_ic, Value.cells]; omega) | simp) (Xt.h (by first | assumption | exact Xt.whole rfl rfl | exact Xt.whole rfl (by simp only [size_ic, Value.cells]; omega) | exact ⟨rfl⟩)) ?_
                refine WH_guardT rfl rfl hb30.h ?_
                refine WH_p (PS_geqstr rfl rfl) rfl ?_
                refine WH_p (PS_pickT rfl hb30.h rfl) rfl ?_
                refine WH_nil ?_
                refine thn_normal ?_
                refine W_if rfl (fun hb32 => ?_) (fun hb32 => ?_)
                · have hb32p := hb32.h; try simp only [al_ete, al_dfn, Bool.not_eq_true', Bool.not_eq_false', al_ne, Bool.not_not, al_nn] at hb32p
                  have hge : strGe y0.key y.key = true := by unfold strGe; simpa using hb32p
                  refine W_seq ?_
                  refine W_region rfl ?_
                  refine WO_p (PS_assign_bool rfl) ?_
                  refine WO_nil ?_
                  refine thn_normal ?_
                  refine W_ret ?_
                  refine inBlk_ret ?_
                  refine thn_ret ?_
                  refine thn_ret ?_
                  refine inBlk_ret ?_
                  refine thn_ret ?_
                  refine bodyQ_ret1 Hvad.results56 rfl (.bool _) rfl ?_
                  refine ⟨congrArg Value.bool ?_, (by repeat (first | assumption | exact Ext.refl _ | refine Ext.alloc ?_ _ | refine Ext.drew ?_ | refine Ext.setB ?_ (by first | omega | (simp only [size_alloc, size_setB, size_drew]; omega)) _ | refine Ext.trans ?_ (by assumption)))⟩
                  symm
                  first
                  | (refine accOK_iff.2 ⟨?_, by omega, fun j hj => hgood j (by omega)⟩
                     rintro ⟨e1, e2, e3⟩
                     first
                     | exact hq1 e1
                     | exact hq2 e2
                     | (rcases e3 with e3 | e3
                        · exact hq3 e3
                        · exact hq4 e3))
                  | (refine Bool.eq_false_iff.2 fun hh => ?_
                     obtain ⟨e1, e2, e3⟩ := accOK_iff.1 hh
                     first
                     | exact e1 ⟨hq1, hq2, Or.inl hq3⟩
                     | exact e1 ⟨hq1, hq2, Or.inr hq4⟩
                     | (exfalso; omega)
                     | (have h9 := e3 i hiz
                        unfold slBad at h9
                        first
                        | (rw [hgy, al_et hzz, al_bto] at h9; cases h9)
                        | (rw [hgy, hgy0, hge, al_et hi0, al_bta, al_bot] at h9; cases h9)))
                · have hb32p := hb32.h; try simp only [al_ete, al_dfn, Bool.not_eq_true', Bool.not_eq_false', al_ne, Bool.not_not, al_nn] at hb32p
                  have hge : strGe y0.key y.key = false := by unfold strGe; simpa using hb32p
                  refine W_skip ?_
                  refine inBlk_normal ?_
                  refine thn_normal ?_
                  refine W_region rfl ?_
                  refine WO_p (PS_add_i64n rfl rfl (by omega) (by omega)) ?_
                  refine WO_p (PS_move_int rfl) ?_
                  refine WO_nil ?_
                  refine thn_normal ?_
                  exact ⟨k - 1, by omega, i + 1, by omega, (by
                      intro j hj
                      by_cases hji : j < i
                      · exact hgood j hji
                      obtain rfl : j = i := by omega
                      unfold slBad
                      rw [hgy, al_ef hnz, al_bfo]
                      first
                      | rw [hgy0, hge, al_baf]
                      | rw [al_ef hi0, al_bfa]), ⟨rfl, rfl, congrArg (Value.int .i64) (by omega), trivial⟩, (by repeat (first | assumption | exact Ext.refl _ | refine Ext.alloc ?_ _ | refine Ext.drew ?_ | refine Ext.setB ?_ (by first | omega | (simp only [size_alloc, size_setB, size_drew]; omega)) _ | refine Ext.trans ?_ (by assumption)))⟩
              · have hb30p := hb30.h; try simp only [al_ete, al_dfn, Bool.not_eq_true', Bool.not_eq_false', al_ne, Bool.not_not, al_nn] at hb30p
                have hi0 : ¬ 0 < i := by omega
                refine WH_guardF rfl rfl hb30.h ?_
                refine WH_guardF rfl rfl hb30.h ?_
                refine WH_guardF rfl rfl hb30.h ?_
                refine WH_guardF rfl rfl hb30.h ?_
                refine WH_guardF rfl rfl hb30.h ?_
                refine WH_guardF rfl rfl hb30.h ?_
                refine WH_guardF rfl rfl hb30.h ?_
                refine WH_guardF rfl rfl hb30.h ?_
                refine WH_guardF rfl rfl hb30.h ?_
                refine WH_guardF rfl rfl hb30.h ?_
                refine WH_guardF rfl rfl hb30.h ?_
                refine WH_guardF rfl rfl hb30.h ?_
                refine WH_guardF rfl rfl hb30.h ?_
                refine WH_guardF rfl rfl hb30.h ?_
                refine WH_guardF rfl rfl hb30.h ?_
                refine WH_guardF rfl rfl hb30.h ?_
                refine WH_guardF rfl rfl hb30.h ?_
                refine WH_guardF rfl rfl hb30.h ?_
                refine WH_guardF rfl rfl hb30.h ?_
                refine WH_guardF rfl rfl hb30.h ?_
                refine WH_p (PS_pickF rfl hb30.h rfl) rfl ?_
                refine WH_nil ?_
                refine thn_normal ?_
                refine W_condF rfl rfl ?_
                refine W_skip ?_
                refine inBlk_normal ?_
                refine thn_normal ?_
                refine W_region rfl ?_
                refine WO_p (PS_add_i64n rfl rfl (by omega) (by omega)) ?_
                refine WO_p (PS_move_int rfl) ?_
                refine WO_nil ?_
                refine thn_normal ?_
                exact ⟨k - 1, by omega, i + 1, by omega, (by
                    intro j hj
                    by_cases hji : j < i
                    · exact hgood j hji
                    obtain rfl : j = i := by omega
                    unfold slBad
                    rw [hgy, al_ef hnz, al_bfo]
                    first
                    | rw [hgy0, hge, al_baf]
                    | rw [al_ef hi0, al_bfa]), ⟨rfl, rfl, congrArg (Value.int .i64) (by omega), trivial⟩, (by repeat (first | assumption | exact Ext.refl _ | refine Ext.alloc ?_ _ | refine Ext.drew ?_ | refine Ext.setB ?_ (by first | omega | (simp only [size_alloc, size_setB, size_drew]; omega)) _ | refine Ext.trans ?_ (by assumption)))⟩
          · have hb26p := hb26.h; try simp only [al_ete, al_dfn, Bool.not_eq_true', Bool.not_eq_false', al_ne, Bool.not_not, al_nn] at hb26p
            refine W_exit ?_
            refine thn_exit ?_
            refine thn_exit ?_
            refine inBlk_exit ?_
            refine thn_normal ?_
            refine W_seq ?_
            refine W_region rfl ?_
            refine WO_p (PS_assign_bool rfl) ?_
            refine WO_nil ?_
            refine thn_normal ?_
            refine W_ret ?_
            refine bodyQ_ret1 Hvad.results56 rfl (.bool _) rfl ?_
            refine ⟨congrArg Value.bool ?_, (by repeat (first | assumption | exact Ext.refl _ | refine Ext.alloc ?_ _ | refine Ext.drew ?_ | refine Ext.setB ?_ (by first | omega | (simp only [size_alloc, size_setB, size_drew]; omega)) _ | refine Ext.trans ?_ (by assumption)))⟩
            symm
            first
            | (refine accOK_iff.2 ⟨?_, by omega, fun j hj => hgood j (by omega)⟩
               rintro ⟨e1, e2, e3⟩
               first
               | exact hq1 e1
               | exact hq2 e2
               | (rcases e3 with e3 | e3
                  · exact hq3 e3
                  · exact hq4 e3))
            | (refine Bool.eq_false_iff.2 fun hh => ?_
               obtain ⟨e1, e2, e3⟩ := accOK_iff.1 hh
               first
               | exact e1 ⟨hq1, hq2, Or.inl hq3⟩
               | exact e1 ⟨hq1, hq2, Or.inr hq4⟩
               | (exfalso; omega)
               | (have h9 := e3 i hiz
                  unfold slBad at h9
                  first
                  | (rw [hgy, al_et hzz, al_bto] at h9; cases h9)
                  | (rw [hgy, hgy0, hge, al_et hi0, al_bta, al_bot] at h9; cases h9)))
  · have hb2p := hb2.h; try simp only [al_ete, al_dfn, Bool.not_eq_true', Bool.not_eq_false', al_ne, Bool.not_not, al_nn] at hb2p
    have hq1 : ¬ x.nonce = 0 := hb2p
    refine WO_guardF rfl rfl hb2.h ?_
    refine WO_guardF rfl rfl hb2.h ?_
    refine WO_guardF rfl rfl hb2.h ?_
    refine WO_guardF rfl rfl hb2.h ?_
    refine WO_guardF rfl rfl hb2.h ?_
    refine WO_guardF rfl rfl hb2.h ?_
    refine WO_p (PS_pickF rfl hb2.h rfl) ?_
    refine WO_p (PS_move_bool rfl) ?_
    refine WO_guardF rfl rfl rfl ?_
    refine WO_guardF rfl rfl rfl ?_
    refine WO_guardF rfl rfl rfl ?_
    refine WO_guardF rfl rfl rfl ?_
    refine WO_guardF rfl rfl rfl ?_
    refine WO_guardF rfl rfl rfl ?_
    refine WO_guardF rfl rfl rfl ?_
    refine WO_guardU rfl rfl ?_
    refine WO_guardU rfl rfl ?_
    refine WO_guardU rfl rfl ?_
    refine WO_guardU rfl rfl ?_
    refine WO_guardU rfl rfl ?_
    refine WO_guardU rfl rfl ?_
    refine WO_guardF rfl rfl rfl ?_
    refine WO_p (PS_pickF rfl rfl rfl) ?_
    refine WO_nil ?_
    refine thn_normal ?_
    refine W_condF rfl rfl ?_
    refine W_skip ?_
    refine thn_normal ?_
    refine W_seq ?_
    refine W_seq ?_
    refine W_region rfl ?_
    refine WO_p (PS_move_ptr rfl) ?_
    refine WO_p (PS_nilCheck rfl) ?_
    refine WO_p (PS_fieldAddr 53 Hvad.runUnderlying108 rfl Hvad.sizeOf32 rfl rfl) ?_
    refine WO_load (.slice _ _ _) Hvad.isAgg32 rfl (Hb.h (by repeat (first | assumption | exact Hb.newY _ _ | refine Hb.alloc ?_ | refine Hb.drew ?_ | refine Hb.ext (by assumption) ?_ | exact Hb.setSameL (by first | omega | (simp only [size_alloc, size_setB, size_drew]; omega)) | exact Hb.setSame (by assumption) | refine Hb.set (by first | omega | (simp only [size_alloc, size_setB, size_drew]; omega)) ?_ ))) (Ce.h (by first | assumption | exact ⟨rfl⟩)) ?_
    refine WO_p (PS_lenS Hvad.runUnderlying32 rfl) ?_
    refine WO_p (PS_gtr rfl rfl) ?_
    refine WO_p (PS_move_bool rfl) ?_
    refine WO_if (t := 39) rfl (fun hb34 => ?_) (fun hb34 => ?_)
    · have hb34p := hb34.h; try simp only [al_ete, al_dfn, Bool.not_eq_true', Bool.not_eq_false', al_ne, Bool.not_not, al_nn] at hb34p
      refine WO_guardF rfl rfl hb34.h ?_
      refine WO_guardF rfl rfl hb34.h ?_
      refine WO_guardF rfl rfl hb34.h ?_
      refine WO_guardF rfl rfl hb34.h ?_
      refine WO_guardF rfl rfl hb34.h ?_
      refine WO_guardF rfl rfl hb34.h ?_
      refine WO_p (PS_pickT rfl hb34.h rfl) ?_
      refine WO_nil ?_
      refine thn_normal ?_
      refine W_condT rfl rfl ?_
      refine W_seq ?_
      refine W_region rfl ?_
      refine WO_p (PS_assign_bool rfl) ?_
      refine WO_nil ?_
      refine thn_normal ?_
      refine W_ret ?_
      refine thn_ret ?_
      refine bodyQ_ret1 Hvad.results56 rfl (.bool _) rfl ?_
      refine ⟨congrArg Value.bool ?_, (by repeat (first | assumption | exact Ext.refl _ | refine Ext.alloc ?_ _ | refine Ext.drew ?_ | refine Ext.setB ?_ (by first | omega | (simp only [size_alloc, size_setB, size_drew]; omega)) _ | refine Ext.trans ?_ (by assumption)))⟩
      symm
      first
      | (refine accOK_iff.2 ⟨?_, by omega, fun j hj => hgood j (by omega)⟩
         rintro ⟨e1, e2, e3⟩
         first
         | exact hq1 e1
         | exact hq2 e2
         | (rcases e3 with e3 | e3
            · exact hq3 e3
            · exact hq4 e3))
      | (refine Bool.eq_false_iff.2 fun hh => ?_
         obtain ⟨e1, e2, e3⟩ := accOK_iff.1 hh
         first
         | exact e1 ⟨hq1, hq2, Or.inl hq3⟩
         | exact e1 ⟨hq1, hq2, Or.inr hq4⟩
         | (exfalso; omega)
         | (have h9 := e3 i hiz
            unfold slBad at h9
            first
            | (rw [hgy, al_et hzz, al_bto] at h9; cases h9)
            | (rw [hgy, hgy0, hge, al_et hi0, al_bta, al_bot] at h9; cases h9)))
    · have hb34p := hb34.h; try simp only [al_ete, al_dfn, Bool.not_eq_true', Bool.not_eq_false', al_ne, Bool.not_not, al_nn] at hb34p
      refine WO_guardT rfl rfl hb34.h ?_
      refine WO_p (PS_move_ptr rfl) ?_
      refine WO_guardT rfl rfl hb34.h ?_
      refine WO_p (PS_nilCheck rfl) ?_
      refine WO_guardT rfl rfl hb34.h ?_
      refine WO_p (PS_fieldAddr 54 Hvad.runUnderlying108 rfl Hvad.sizeOf106 rfl rfl) ?_
      refine WO_guardT rfl rfl hb34.h ?_
      refine WO_load (.slice _ _ _) Hvad.isAgg106 rfl (Hb.h (by repeat (first | assumption | exact Hb.newY _ _ | refine Hb.alloc ?_ | refine Hb.drew ?_ | refine Hb.ext (by assumption) ?_ | exact Hb.setSameL (by first | omega | (simp only [size_alloc, size_setB, size_drew]; omega)) | exact Hb.setSame (by assumption) | refine Hb.set (by first | omega | (simp only [size_alloc, size_setB, size_drew]; omega)) ?_ ))) (Ce.h (by first | assumption | exact ⟨rfl⟩)) ?_
      refine WO_guardT rfl rfl hb34.h ?_
      refine WO_p (PS_lenS Hvad.runUnderlying106 rfl) ?_
      refine WO_guardT rfl rfl hb34.h ?_
      refine WO_p (PS_gtr rfl rfl) ?_
      refine WO_p (PS_pickF rfl hb34.h rfl) ?_
      refine WO_nil ?_
      refine thn_normal ?_
      refine W_if rfl (fun hb36 => ?_) (fun hb36 => ?_)
      · have hb36p := hb36.h; try simp only [al_ete, al_dfn, Bool.not_eq_true', Bool.not_eq_false', al_ne, Bool.not_not, al_nn] at hb36p
        refine W_seq ?_
        refine W_region rfl ?_
        refine WO_p (PS_assign_bool rfl) ?_
        refine WO_nil ?_
        refine thn_normal ?_
        refine W_ret ?_
        refine thn_ret ?_
        refine bodyQ_ret1 Hvad.results56 rfl (.bool _) rfl ?_
        refine ⟨congrArg Value.bool ?_, (by repeat (first | assumption | exact Ext.refl _ | refine Ext.alloc ?_ _ | refine Ext.drew ?_ | refine Ext.setB ?_ (by first | omega | (simp only [size_alloc, size_setB, size_drew]; omega)) _ | refine Ext.trans ?_ (by assumption)))⟩
        symm
        first
        | (refine accOK_iff.2 ⟨?_, by omega, fun j hj => hgood j (by omega)⟩
           rintro ⟨e1, e2, e3⟩
           first
           | exact hq1 e1
           | exact hq2 e2
           | (rcases e3 with e3 | e3
              · exact hq3 e3
              · exact hq4 e3))
        | (refine Bool.eq_false_iff.2 fun hh => ?_
           obtain ⟨e1, e2, e3⟩ := accOK_iff.1 hh
           first
           | exact e1 ⟨hq1, hq2, Or.inl hq3⟩
           | exact e1 ⟨hq1, hq2, Or.inr hq4⟩
           | (exfalso; omega)
           | (have h9 := e3 i hiz
              unfold slBad at h9
              first
              | (rw [hgy, al_et hzz, al_bto] at h9; cases h9)
              | (rw [hgy, hgy0, hge, al_et hi0, al_bta, al_bot] at h9; cases h9)))
      · have hb36p := hb36.h; try simp only [al_ete, al_dfn, Bool.not_eq_true', Bool.not_eq_false', al_ne, Bool.not_not, al_nn] at hb36p
        refine W_skip ?_
        refine thn_normal ?_
        refine W_seq ?_
        refine W_seq ?_
        refine W_region rfl ?_
        refine WO_p (PS_move_ptr rfl) ?_
        refine WO_p (PS_nilCheck rfl) ?_
        refine WO_p (PS_fieldAddr 54 Hvad.runUnderlying108 rfl Hvad.sizeOf106 rfl rfl) ?_
        refine WO_load (.slice _ _ _) Hvad.isAgg106 rfl (Hb.h (by repeat (first | assumption | exact Hb.newY _ _ | refine Hb.alloc ?_ | refine Hb.drew ?_ | refine Hb.ext (by assumption) ?_ | exact Hb.setSameL (by first | omega | (simp only [size_alloc, size_setB, size_drew]; omega)) | exact Hb.setSame (by assumption) | refine Hb.set (by first | omega | (simp only [size_alloc, size_setB, size_drew]; omega)) ?_ ))) (Ce.h (by first | assumption | exact ⟨rfl⟩)) ?_
        refine WO_p (PS_lenS Hvad.runUnderlying106 rfl) ?_
        refine WO_p (PS_move_int rfl) ?_
        refine WO_nil ?_
        refine thn_normal ?_
        refine W_block ?_
        refine W_loopN (fun k ρ w' => ∃ (i : Nat), i + k = x.sl.length ∧ (∀ j, j < i → slBad x.sl j = false) ∧ Fr [(0, .pointer (some ⟨bb, q, none⟩)), (51, .int .i64 x.sto.2.1), (52, .int .i64 i)] ρ ∧ Ext w w') x.sl.length ?_ ?_
        · exact ⟨0, by omega, fun j hj => absurd hj (by omega), ⟨rfl, rfl, rfl, trivial⟩, (by repeat (first | assumption | exact Ext.refl _ | refine Ext.alloc ?_ _ | refine Ext.drew ?_ | refine Ext.setB ?_ (by first | omega | (simp only [size_alloc, size_setB, size_drew]; omega)) _ | refine Ext.trans ?_ (by assumption)))⟩
        intro k ρ w2 hI2
        obtain ⟨i, hik, hgood, hFr, hE2⟩ := hI2
        refine W_env _ hFr ?_
        have hz2 := hE2.1
        refine W_seq ?_
        refine W_region rfl ?_
        refine WO_p (PS_lss rfl rfl) ?_
        refine WO_nil ?_
        refine thn_normal ?_
        refine W_seq ?_
        refine W_if rfl (fun hb38 => ?_) (fun hb38 => ?_)
        · have hb38p := hb38.h; try simp only [al_ete, al_dfn, Bool.not_eq_true', Bool.not_eq_false', al_ne, Bool.not_not, al_nn] at hb38p
          have hiz : i < x.sl.length := by omega
          obtain ⟨y, hy⟩ : ∃ y, x.sl[i]? = some y := ⟨_, List.getElem?_eq_getElem hiz⟩
          obtain ⟨bb2, o2, r2, T2, fz2, hp2, hbb2, hrl2⟩ := (hk.so.ext hE2).get hy
          have hyk := hk.sr y (List.mem_of_getElem? hy)
          have hya := hrl2.sl hy hyk
          have hyb := hya.bd
          have hyv := hya.va
          have hyke := hya.ke
          have hso2 : Ce r (q + 54) (.slice (some ⟨bb2, o2, none⟩) x.sto.2.1 x.sto.2.2) := by have := hat.so; rw [hp2] at this; exact this
          have hvl := hyk.v.1
          have hkl := hyk.k.1
          have hgy : x.sl.getD i ⟨[], []⟩ = y := getD_some hy
          refine W_skip ?_
          refine thn_normal ?_
          refine W_seq ?_
          refine W_block ?_
          refine W_seq ?_
          refine W_region rfl ?_
          refine WO_p (PS_move_int rfl) ?_
          refine WO_p (PS_assign_int rfl) ?_
          refine WO_nil ?_
          refine thn_normal ?_
          refine W_seq ?_
          refine W_seq ?_
          refine W_region rfl ?_
          refine WO_p (PS_move_ptr rfl) ?_
          refine WO_p (PS_nilCheck rfl) ?_
          refine WO_p (PS_fieldAddr 54 Hvad.runUnderlying108 rfl Hvad.sizeOf106 rfl rfl) ?_
          refine WO_load (.slice _ _ _) Hvad.isAgg106 rfl (Hb.h (by repeat (first | assumption | exact Hb.newY _ _ | refine Hb.alloc ?_ | refine Hb.drew ?_ | refine Hb.ext (by assumption) ?_ | exact Hb.setSameL (by first | omega | (simp only [size_alloc, size_setB, size_drew]; omega)) | exact Hb.setSame (by assumption) | refine Hb.set (by first | omega | (simp only [size_alloc, size_setB, size_drew]; omega)) ?_ ))) (Ce.h (by first | assumption | exact ⟨rfl⟩)) ?_
          refine WO_p (PS_move_int rfl) ?_
          refine WO_p (PS_indexS Hvad.runUnderlying106 Hvad.sizeOf116 rfl rfl (by omega) (by omega)) ?_
          refine WO_p (PS_fieldAddr 32 Hvad.runUnderlying116 rfl Hvad.sizeOf28 rfl rfl) ?_
          refine WO_loadA _ Hvad.isAgg28 Hvad.sizeOf28 rfl (Hb.h (by repeat (first | assumption | exact Hb.newY _ _ | refine Hb.alloc ?_ | refine Hb.drew ?_ | refine Hb.ext (by assumption) ?_ | exact Hb.setSameL (by first | omega | (simp only [size_alloc, size_setB, size_drew]; omega)) | exact Hb.setSame (by assumption) | refine Hb.set (by first | omega | (simp only [size_alloc, size_setB, size_drew]; omega)) ?_ ))) (by first | omega | assumption | rfl | decide | exact Nat.le_refl _ | (simp only [size_ic, Value.cells]; omega) | simp) (Xt.h (by first | assumption | exact Xt.whole rfl rfl | exact Xt.whole rfl (by simp only [size_ic, Value.cells]; omega) | exact ⟨rfl⟩)) ?_
          refine WO_p (PS_buildI (k := .u8) (zs := [0, 0, 0, 0, 0, 0, 0, 0, 0, 0, 0, 0, 0, 0, 0, 0, 0, 0, 0, 0, 0, 0, 0, 0, 0, 0, 0, 0, 0, 0, 0, 0]) (ps := []) (L := [0, 0, 0, 0, 0, 0, 0, 0, 0, 0, 0, 0, 0, 0, 0, 0, 0, 0, 0, 0, 0, 0, 0, 0, 0, 0, 0, 0, 0, 0, 0, 0]) Hvad.zeroValue28 Hvad.runUnderlying28 Hvad.sizeOf5 rfl rfl rfl rfl) ?_
          refine WO_p (PS_eqlA Hvad.underlying28 Hvad.underlying5 Hvad.sizeOf5 Hvad.eqGuardType28 rfl rfl (by first | omega | assumption | rfl | decide | exact Nat.le_refl _ | (simp only [size_ic, Value.cells]; omega) | simp) (by first | omega | assumption | rfl | decide | exact Nat.le_refl _ | (simp only [size_ic, Value.cells]; omega) | simp)) ?_
          refine WO_nil ?_
          refine thn_normal ?_
          refine W_if rfl (fun hb40 => ?_) (fun hb40 => ?_)
          · have hb40p := hb40.h; try simp only [al_ete, al_dfn, Bool.not_eq_true', Bool.not_eq_false', al_ne, Bool.not_not, al_nn] at hb40p
            have hzz : y.val = Z32 := hb40p
            refine W_seq ?_
            refine W_region rfl ?_
            refine WO_p (PS_assign_bool rfl) ?_
            refine WO_nil ?_
            refine thn_normal ?_
            refine W_ret ?_
            refine thn_ret ?_
            refine inBlk_ret ?_
            refine thn_ret ?_
            refine thn_ret ?_
            refine inBlk_ret ?_
            refine thn_ret ?_
            refine bodyQ_ret1 Hvad.results56 rfl (.bool _) rfl ?_
            refine ⟨congrArg Value.bool ?_, (by repeat (first | assumption | exact Ext.refl _ | refine Ext.alloc ?_ _ | refine Ext.drew ?_ | refine Ext.setB ?_ (by first | omega | (simp only [size_alloc, size_setB, size_drew]; omega)) _ | refine Ext.trans ?_ (by assumption)))⟩
            symm
            first
            | (refine accOK_iff.2 ⟨?_, by omega, fun j hj => hgood j (by omega)⟩
               rintro ⟨e1, e2, e3⟩
               first
               | exact hq1 e1
               | exact hq2 e2
               | (rcases e3 with e3 | e3
                  · exact hq3 e3
                  · exact hq4 e3))
            | (refine Bool.eq_false_iff.2 fun hh => ?_
               obtain ⟨e1, e2, e3⟩ := accOK_iff.1 hh
               first
               | exact e1 ⟨hq1, hq2, Or.inl hq3⟩
               | exact e1 ⟨hq1, hq2, Or.inr hq4⟩
               | (exfalso; omega)
               | (have h9 := e3 i hiz
                  unfold slBad at h9
                  first
                  | (rw [hgy, al_et hzz, al_bto] at h9; cases h9)
                  | (rw [hgy, hgy0, hge, al_et hi0, al_bta, al_bot] at h9; cases h9)))
          · have hb40p := hb40.h; try simp only [al_ete, al_dfn, Bool.not_eq_true', Bool.not_eq_false', al_ne, Bool.not_not, al_nn] at hb40p
            have hnz : ¬ y.val = Z32 := hb40p
            refine W_skip ?_
            refine thn_normal ?_
            refine W_seq ?_
            refine W_drawE [false, false, false, false, false, false, false, false, false, false, false, false, false, false, false, false, false, false, false, false, false, false, false, false] hmix (by kernel_rfl) rfl ?_
            refine WH_p (PS_move_int rfl) rfl ?_
            refine WH_p (PS_gtr rfl rfl) rfl ?_
            refine WH_p (PS_move_bool rfl) rfl ?_
            refine WH_if (t := 67) rfl (fun hb42 => ?_) (fun hb42 => ?_)
            · have hb42p := hb42.h; try simp only [al_ete, al_dfn, Bool.not_eq_true', Bool.not_eq_false', al_ne, Bool.not_not, al_nn] at hb42p
              have hi0 : 0 < i := by omega
              obtain ⟨y0, hy0⟩ : ∃ y, x.sl[i - 1]? = some y := ⟨_, List.getElem?_eq_getElem (by omega)⟩
              have hyk0 := hk.sr y0 (List.mem_of_getElem? hy0)
              have hya0 := hrl2.sl hy0 hyk0
              have hyb0 := hya0.bd
              have hkl0 := hyk0.k.1
              have hi1 : ((i : Int) - 1).toNat = i - 1 := by omega
              have hyke0 : Xt r2 (o2 + ((i : Int) - 1).toNat * 64 + 0) (o2 + ((i : Int) - 1).toNat * 64 + 0 + 32) (ic .u8 y0.key) := by rw [hi1]; exact hya0.ke
              have hyb01 : o2 + ((i : Int) - 1).toNat * 64 + 64 ≤ r2.size := by rw [hi1]; exact hyb0
              have hgy0 : x.sl.getD (i - 1) ⟨[], []⟩ = y0 := getD_some hy0
              refine WH_guardT rfl rfl hb42.h ?_
              refine WH_p (PS_move_ptr rfl) rfl ?_
              refine WH_guardT rfl rfl hb42.h ?_
              refine WH_p (PS_nilCheck rfl) rfl ?_
              refine WH_guardT rfl rfl hb42.h ?_
              refine WH_p (PS_fieldAddr 54 Hvad.runUnderlying108 rfl Hvad.sizeOf106 rfl rfl) rfl ?_
              refine WH_guardT rfl rfl hb42.h ?_
              refine WH_load (.slice _ _ _) Hvad.isAgg106 rfl (Hb.h (by repeat (first | assumption | exact Hb.newY _ _ | refine Hb.alloc ?_ | refine Hb.drew ?_ | refine Hb.ext (by assumption) ?_ | exact Hb.setSameL (by first | omega | (simp only [size_alloc, size_setB, size_drew]; omega)) | exact Hb.setSame (by assumption) | refine Hb.set (by first | omega | (simp only [size_alloc, size_setB, size_drew]; omega)) ?_ ))) (Ce.h (by first | assumption | exact ⟨rfl⟩)) ?_
              refine WH_guardT rfl rfl hb42.h ?_
              refine WH_p (PS_move_int rfl) rfl ?_
              refine WH_guardT rfl rfl hb42.h ?_
              refine WH_p (PS_sub_i64n rfl rfl (by omega) (by omega)) rfl ?_
              refine WH_guardT rfl rfl hb42.h ?_
              refine WH_p (PS_indexS Hvad.runUnderlying106 Hvad.sizeOf116 rfl rfl (by omega) (by omega)) rfl ?_
              refine WH_guardT rfl rfl hb42.h ?_
              refine WH_p (PS_fieldAddr 0 Hvad.runUnderlying116 rfl Hvad.sizeOf28 rfl rfl) rfl ?_
              refine WH_guardT rfl rfl hb42.h ?_
              refine WH_p (PS_slA Hvad.runUnderlying28 Hvad.sizeOf5 rfl (by omega)) rfl ?_
              refine WH_guardT rfl rfl hb42.h ?_
              refine WH_tostr Hvad.runUnderlying32 Hvad.runUnderlying9 Hvad.runUnderlying5 rfl (Hb.h (by repeat (first | assumption | exact Hb.newY _ _ | refine Hb.alloc ?_ | refine Hb.drew ?_ | refine Hb.ext (by assumption) ?_ | exact Hb.setSameL (by first | omega | (simp only [size_alloc, size_setB, size_drew]; omega)) | exact Hb.setSame (by assumption) | refine Hb.set (by first | omega | (simp only [size_alloc, size_setB, size_drew]; omega)) ?_ ))) (by first | omega | assumption | rfl | decide | exact Nat.le_refl _ | (simp only [size_ic, Value.cells]; omega) | simp) (Xt.h (by first | assumption | exact Xt.whole rfl rfl | exact Xt.whole rfl (by simp only [size_ic, Value.cells]; omega) | exact ⟨rfl⟩)) ?_
              refine WH_guardT rfl rfl hb42.h ?_
              refine WH_p (PS_move_ptr rfl) rfl ?_
              refine WH_guardT rfl rfl hb42.h ?_
              refine WH_p (PS_nilCheck rfl) rfl ?_
              refine WH_guardT rfl rfl hb42.h ?_
              refine WH_p (PS_fieldAddr 54 Hvad.runUnderlying108 rfl Hvad.sizeOf106 rfl rfl) rfl ?_
              refine WH_guardT rfl rfl hb42.h ?_
              refine WH_load (.slice _ _ _) Hvad.isAgg106 rfl (Hb.h (by repeat (first | assumption | exact Hb.newY _ _ | refine Hb.alloc ?_ | refine Hb.drew ?_ | refine Hb.ext (by assumption) ?_ | exact Hb.setSameL (by first | omega | (simp only [size_alloc, size_setB, size_drew]; omega)) | exact Hb.setSame (by assumption) | refine Hb.set (by first | omega | (simp only [size_alloc, size_setB, size_drew]; omega)) ?_ ))) (Ce.h (by first | assumption | exact ⟨rfl⟩)) ?_
              refine WH_guardT rfl rfl hb42.h ?_
              refine WH_p (PS_move_int rfl) rfl ?_
              refine WH_guardT rfl rfl hb42.h ?_
              refine WH_p (PS_indexS Hvad.runUnderlying106 Hvad.sizeOf116 rfl rfl (by omega) (by omega)) rfl ?_
              refine WH_guardT rfl rfl hb42.h ?_
              refine WH_p (PS_fieldAddr 0 Hvad.runUnderlying116 rfl Hvad.sizeOf28 rfl rfl) rfl ?_
              refine WH_guardT rfl rfl hb42.h ?_
              refine WH_p (PS_slA Hvad.runUnderlying28 Hvad.sizeOf5 rfl (by omega)) rfl ?_
              refine WH_guardT rfl rfl hb42.h ?_
              refine WH_tostr Hvad.runUnderlying32 Hvad.runUnderlying9 Hvad.runUnderlying5 rfl (Hb.h (by repeat (first | assumption | exact Hb.newY _ _ | refine Hb.alloc ?_ | refine Hb.drew ?_ | refine Hb.ext (by assumption) ?_ | exact Hb.setSameL (by first | omega | (simp only [size_alloc, size_setB, size_drew]; omega)) | exact Hb.setSame (by assumption) | refine Hb.set (by first | omega | (simp only [size_alloc, size_setB, size_drew]; omega)) ?_ ))) (by first | omega | assumption | rfl | decide | exact Nat.le_refl _ | (simp only [size_ic, Value.cells]; omega) | simp) (Xt.h (by first | assumption | exact Xt.whole rfl rfl | exact Xt.whole rfl (by simp only [size_ic, Value.cells]; omega) | exact ⟨rfl⟩)) ?_
              refine WH_guardT rfl rfl hb42.h ?_
              refine WH_p (PS_geqstr rfl rfl) rfl ?_
              refine WH_p (PS_pickT rfl hb42.h rfl) rfl ?_
              refine WH_nil ?_
              refine thn_normal ?_
              refine W_if rfl (fun hb44 => ?_) (fun hb44 => ?_)
              · have hb44p := hb44.h; try simp only [al_ete, al_dfn, Bool.not_eq_true', Bool.not_eq_false', al_ne, Bool.not_not, al_nn] at hb44p
                have hge : strGe y0.key y.key = true := by unfold strGe; simpa using hb44p
                refine W_seq ?_
                refine W_region rfl ?_
                refine WO_p (PS_assign_bool rfl) ?_
                refine WO_nil ?_
                refine thn_normal ?_
                refine W_ret ?_
                refine inBlk_ret ?_
                refine thn_ret ?_
                refine thn_ret ?_
                refine inBlk_ret ?_
                refine thn_ret ?_
                refine bodyQ_ret1 Hvad.results56 rfl (.bool _) rfl ?_
                refine ⟨congrArg Value.bool ?_, (by repeat (first | assumption | exact Ext.refl _ | refine Ext.alloc ?_ _ | refine Ext.drew ?_ | refine Ext.setB ?_ (by first | omega | (simp only [size_alloc, size_setB, size_drew]; omega)) _ | refine Ext.trans ?_ (by assumption)))⟩
                symm
                first
                | (refine accOK_iff.2 ⟨?_, by omega, fun j hj => hgood j (by omega)⟩
                   rintro ⟨e1, e2, e3⟩
                   first
                   | exact hq1 e1
                   | exact hq2 e2
                   | (rcases e3 with e3 | e3
                      · exact hq3 e3
                      · exact hq4 e3))
                | (refine Bool.eq_false_iff.2 fun hh => ?_
                   obtain ⟨e1, e2, e3⟩ := accOK_iff.1 hh
                   first
                   | exact e1 ⟨hq1, hq2, Or.inl hq3⟩
                   | exact e1 ⟨hq1, hq2, Or.inr hq4⟩
                   | (exfalso; omega)
                   | (have h9 := e3 i hiz
                      unfold slBad at h9
                      first
                      | (rw [hgy, al_et hzz, al_bto] at h9; cases h9)
                      | (rw [hgy, hgy0, hge, al_et hi0, al_bta, al_bot] at h9; cases h9)))
              · have hb44p := hb44.h; try simp only [al_ete, al_dfn, Bool.not_eq_true', Bool.not_eq_false', al_ne, Bool.not_not, al_nn] at hb44p
                have hge : strGe y0.key y.key = false := by unfold strGe; simpa using hb44p
                refine W_skip ?_
                refine inBlk_normal ?_
                refine thn_normal ?_
                refine W_region rfl ?_
                refine WO_p (PS_add_i64n rfl rfl (by omega) (by omega)) ?_
                refine WO_p (PS_move_int rfl) ?_
                refine WO_nil ?_
                refine thn_normal ?_
                exact ⟨k - 1, by omega, i + 1, by omega, (by
                    intro j hj
                    by_cases hji : j < i
                    · exact hgood j hji
                    obtain rfl : j = i := by omega
                    unfold slBad
                    rw [hgy, al_ef hnz, al_bfo]
                    first
                    | rw [hgy0, hge, al_baf]
                    | rw [al_ef hi0, al_bfa]), ⟨rfl, rfl, congrArg (Value.int .i64) (by omega), trivial⟩, (by repeat (first | assumption | exact Ext.refl _ | refine Ext.alloc ?_ _ | refine Ext.drew ?_ | refine Ext.setB ?_ (by first | omega | (simp only [size_alloc, size_setB, size_drew]; omega)) _ | refine Ext.trans ?_ (by assumption)))⟩
            · have hb42p := hb42.h; try simp only [al_ete, al_dfn, Bool.not_eq_true', Bool.not_eq_false', al_ne, Bool.not_not, al_nn] at hb42p
              have hi0 : ¬ 0 < i := by omega
              refine WH_guardF rfl rfl hb42.h ?_
              refine WH_guardF rfl rfl hb42.h ?_
              refine WH_guardF rfl rfl hb42.h ?_
              refine WH_guardF rfl rfl hb42.h ?_
              refine WH_guardF rfl rfl hb42.h ?_
              refine WH_guardF rfl rfl hb42.h ?_
              refine WH_guardF rfl rfl hb42.h ?_
              refine WH_guardF rfl rfl hb42.h ?_
              refine WH_guardF rfl rfl hb42.h ?_
              refine WH_guardF rfl rfl hb42.h ?_
              refine WH_guardF rfl rfl hb42.h ?_
              refine WH_guardF rfl rfl hb42.h ?_
              refine WH_guardF rfl rfl hb42.h ?_
              refine WH_guardF rfl rfl hb42.h ?_
              refine WH_guardF rfl rfl hb42.h ?_
              refine WH_guardF rfl rfl hb42.h ?_
              refine WH_guardF rfl rfl hb42.h ?_
              refine WH_guardF rfl rfl hb42.h ?_
              refine WH_guardF rfl rfl hb42.h ?_
              refine WH_guardF rfl rfl hb42.h ?_
              refine WH_p (PS_pickF rfl hb42.h rfl) rfl ?_
              refine WH_nil ?_
              refine thn_normal ?_
              refine W_condF rfl rfl ?_
              refine W_skip ?_
              refine inBlk_normal ?_
              refine thn_normal ?_
              refine W_region rfl ?_
              refine WO_p (PS_add_i64n rfl rfl (by omega) (by omega)) ?_
              refine WO_p (PS_move_int rfl) ?_
              refine WO_nil ?_
              refine thn_normal ?_
              exact ⟨k - 1, by omega, i + 1, by omega, (by
                  intro j hj
                  by_cases hji : j < i
                  · exact hgood j hji
                  obtain rfl : j = i := by omega
                  unfold slBad
                  rw [hgy, al_ef hnz, al_bfo]
                  first
                  | rw [hgy0, hge, al_baf]
                  | rw [al_ef hi0, al_bfa]), ⟨rfl, rfl, congrArg (Value.int .i64) (by omega), trivial⟩, (by repeat (first | assumption | exact Ext.refl _ | refine Ext.alloc ?_ _ | refine Ext.drew ?_ | refine Ext.setB ?_ (by first | omega | (simp only [size_alloc, size_setB, size_drew]; omega)) _ | refine Ext.trans ?_ (by assumption)))⟩
        · have hb38p := hb38.h; try simp only [al_ete, al_dfn, Bool.not_eq_true', Bool.not_eq_false', al_ne, Bool.not_not, al_nn] at hb38p
          refine W_exit ?_
          refine thn_exit ?_
          refine thn_exit ?_
          refine inBlk_exit ?_
          refine thn_normal ?_
          refine W_seq ?_
          refine W_region rfl ?_
          refine WO_p (PS_assign_bool rfl) ?_
          refine WO_nil ?_
          refine thn_normal ?_
          refine W_ret ?_
          refine bodyQ_ret1 Hvad.results56 rfl (.bool _) rfl ?_
          refine ⟨congrArg Value.bool ?_, (by repeat (first | assumption | exact Ext.refl _ | refine Ext.alloc ?_ _ | refine Ext.drew ?_ | refine Ext.setB ?_ (by first | omega | (simp only [size_alloc, size_setB, size_drew]; omega)) _ | refine Ext.trans ?_ (by assumption)))⟩
          symm
          first
          | (refine accOK_iff.2 ⟨?_, by omega, fun j hj => hgood j (by omega)⟩
             rintro ⟨e1, e2, e3⟩
             first
             | exact hq1 e1
             | exact hq2 e2
             | (rcases e3 with e3 | e3
                · exact hq3 e3
                · exact hq4 e3))
          | (refine Bool.eq_false_iff.2 fun hh => ?_
             obtain ⟨e1, e2, e3⟩ := accOK_iff.1 hh
             first
             | exact e1 ⟨hq1, hq2, Or.inl hq3⟩
             | exact e1 ⟨hq1, hq2, Or.inr hq4⟩
             | (exfalso; omega)
             | (have h9 := e3 i hiz
                unfold slBad at h9
                first
                | (rw [hgy, al_et hzz, al_bto] at h9; cases h9)
                | (rw [hgy, hgy0, hge, al_et hi0, al_bta, al_bot] at h9; cases h9)))

theorem wok_iff {l : List Ac} : wok l = true ↔ l.length ≤ 8 ∧ ∀ j, j < l.length → acBad l j = false := by
  unfold wok
  rw [Bool.and_eq_true, all_range, al_ete]
  simp only [Bool.not_eq_true']
theorem Ext.keepC {w w1 w2 : World} {O : Nat → Prop} (he : Ext w w1) (hk : KeepO O w1 w2) (hO : ∀ b, O b → w.heap.size ≤ b) : Ext w w2 :=
  ⟨Nat.le_trans he.1 hk.sz, fun x hx => (hk.old x (Nat.lt_of_lt_of_le hx he.1) (fun h => by have := hO x h; omega)).trans (he.2 x hx), hk.en.1.trans he.3.1, hk.en.2.1.trans he.3.2.1, hk.en.2.2.trans he.3.2.2⟩
set_option maxRecDepth 10000 in
set_option maxHeartbeats 4000000 in
theorem worldOK_spec (s : SV) (l : List Ac) (w : World) (hin : InW w s l) : Ret Hvad.prog 21 #[.slice s.1 s.2.1 s.2.2] w fun u w' => u = .bool (wok l) ∧ Ext w w' := by
  obtain ⟨p, n, cp⟩ := s
  have hsl := hin.row.len
  dsimp only at hsl ⊢
  subst hsl
  refine Ret_of_W Hvad.func21 rfl rfl ?_
  refine W_seq ?_
  refine W_region rfl ?_
  refine WO_p (PS_assign_bool rfl) ?_
  refine WO_nil ?_
  refine thn_normal ?_
  refine W_seq ?_
  refine W_seq ?_
  refine W_region rfl ?_
  refine WO_p (PS_move_slice rfl) ?_
  refine WO_p (PS_lenS Hvad.runUnderlying23 rfl) ?_
  refine WO_p (PS_gtr rfl rfl) ?_
  refine WO_nil ?_
  refine thn_normal ?_
  refine W_if rfl (fun hb2 => ?_) (fun hb2 => ?_)
  · have hb2p := hb2.h; try simp only [al_ete, al_dfn, Bool.not_eq_true', Bool.not_eq_false', al_ne, Bool.not_not, al_nn] at hb2p
    have hl8 : ¬ l.length ≤ 8 := by omega
    refine W_seq ?_
    refine W_region rfl ?_
    refine WO_p (PS_assign_bool rfl) ?_
    refine WO_nil ?_
    refine thn_normal ?_
    refine W_ret ?_
    refine thn_ret ?_
    refine bodyQ_ret1 Hvad.results21 rfl (.bool _) rfl ?_
    refine ⟨congrArg Value.bool ?_, (by repeat (first | assumption | exact Ext.refl _ | refine Ext.alloc ?_ _ | refine Ext.drew ?_ | refine Ext.setB ?_ (by first | omega | (simp only [size_alloc, size_setB, size_drew]; omega)) _ | refine Ext.trans ?_ (by assumption)))⟩
    symm
    first
    | exact wok_iff.2 ⟨hl8, fun j hj => hgood j (by omega)⟩
    | (refine Bool.eq_false_iff.2 fun hh => ?_
       obtain ⟨e2, e3⟩ := wok_iff.1 hh
       first
       | exact hl8 e2
       | (have h9 := e3 i hiz
          unfold acBad at h9
          first
          | (rw [hgx, hac, al_bnf, al_bto, al_bot] at h9; cases h9)
          | (rw [hgx, hkk, al_bnf, al_bot, al_bot] at h9; cases h9)
          | (rw [hgx, hgy0, hge, al_et hi0, al_bta, al_bto] at h9; cases h9)))
  · have hb2p := hb2.h; try simp only [al_ete, al_dfn, Bool.not_eq_true', Bool.not_eq_false', al_ne, Bool.not_not, al_nn] at hb2p
    have hl8 : l.length ≤ 8 := by omega
    refine W_skip ?_
    refine thn_normal ?_
    refine W_seq ?_
    refine W_region rfl ?_
    refine WO_allocG Hvad.zeroValue28 ?_
    intro b3 v3 hg3 hE3 hH3 hl3
    try simp only [size_alloc, size_setB, size_drew] at hg3
    have hzz3 := hE3.1
    try simp only [size_alloc, size_setB, size_drew] at hzz3
    replace hH3 : Hb v3 b3 (.cells (ic .u8 Z32) 28 (0, 0)) := hH3
    refine WO_nil ?_
    refine thn_normal ?_
    refine W_seq ?_
    refine W_seq ?_
    refine W_region rfl ?_
    refine WO_p (PS_move_slice rfl) ?_
    refine WO_p (PS_lenS Hvad.runUnderlying23 rfl) ?_
    refine WO_p (PS_move_int rfl) ?_
    refine WO_nil ?_
    refine thn_normal ?_
    refine W_block ?_
    refine W_loopN (fun k ρ w' => ∃ (i : Nat), i + k = l.length ∧ (∀ j, j < i → acBad l j = false) ∧ By (wsum l i) 32 ∧ Fr [(0, .slice p l.length cp), (3, .pointer (some ⟨b3, 0, none⟩)), (9, .int .i64 l.length), (10, .int .i64 i)] ρ ∧ Ext w w' ∧ Hb w' b3 (.cells (ic .u8 (wsum l i)) 28 (0, 0))) l.length ?_ ?_
    · exact ⟨0, by omega, fun j hj => absurd hj (by omega), By.z32, ⟨rfl, rfl, rfl, rfl, trivial⟩, (by repeat (first | assumption | exact Ext.refl _ | refine Ext.alloc ?_ _ | refine Ext.drew ?_ | refine Ext.setB ?_ (by first | omega | (simp only [size_alloc, size_setB, size_drew]; omega)) _ | refine Ext.trans ?_ (by assumption))), hH3⟩
    intro k ρ w2 hI2
    obtain ⟨i, hik, hgood, hsum, hFr, hE2, hbs2⟩ := hI2
    refine W_env _ hFr ?_
    have hz2 := hE2.1
    refine W_seq ?_
    refine W_region rfl ?_
    refine WO_p (PS_lss rfl rfl) ?_
    refine WO_nil ?_
    refine thn_normal ?_
    refine W_seq ?_
    refine W_if rfl (fun hb4 => ?_) (fun hb4 => ?_)
    · have hb4p := hb4.h; try simp only [al_ete, al_dfn, Bool.not_eq_true', Bool.not_eq_false', al_ne, Bool.not_not, al_nn] at hb4p
      obtain ⟨bb, o, r, T, fz, hp, hbb, hrl0⟩ := hin.row.row (by omega)
      dsimp only at hp
      subst hp
      have hbl := hbb.lt
      have hiz : i < l.length := by omega
      obtain ⟨x, hx⟩ : ∃ x, l[i]? = some x := ⟨_, List.getElem?_eq_getElem hiz⟩
      have hk := hin.ok x (List.mem_of_getElem? hx)
      have hat := hrl0.acY hx hk
      have hbd := hat.bd
      have hba := hat.ba
      have had := hat.ad
      have hadl := hk.ad.1
      have hgx : l.getD i acD = x := getD_some hx
      refine W_skip ?_
      refine thn_normal ?_
      refine W_seq ?_
      refine W_block ?_
      refine W_seq ?_
      refine W_region rfl ?_
      refine WO_p (PS_move_int rfl) ?_
      refine WO_p (PS_assign_int rfl) ?_
      refine WO_nil ?_
      refine thn_normal ?_
      refine W_seq ?_
      refine W_seq ?_
      refine W_drawE [false, false, false, false, false, false, false, false, false, false, false, false, false, false, false, false, false, false] hmix (by kernel_rfl) rfl ?_
      refine WH_p (PS_move_int rfl) rfl ?_
      refine WH_p (PS_gtr rfl rfl) rfl ?_
      refine WH_p (PS_move_bool rfl) rfl ?_
      refine WH_if (t := 15) rfl (fun hb6 => ?_) (fun hb6 => ?_)
      · have hb6p := hb6.h; try simp only [al_ete, al_dfn, Bool.not_eq_true', Bool.not_eq_false', al_ne, Bool.not_not, al_nn] at hb6p
        have hi0 : 0 < i := by omega
        obtain ⟨y0, hy0⟩ : ∃ y, l[i - 1]? = some y := ⟨_, List.getElem?_eq_getElem (by omega)⟩
        have hyk0 := hin.ok y0 (List.mem_of_getElem? hy0)
        have hya0 := hrl0.acY hy0 hyk0
        have hkl0 := hyk0.ad.1
        have hi1 : ((i : Int) - 1).toNat = i - 1 := by omega
        have hyke0 : Xt r (o + ((i : Int) - 1).toNat * 55 + 0) (o + ((i : Int) - 1).toNat * 55 + 0 + 20) (ic .u8 y0.addr) := by rw [hi1]; exact hya0.ad
        have hyb01 : o + ((i : Int) - 1).toNat * 55 + 55 ≤ r.size := by rw [hi1]; exact hya0.bd
        have hgy0 : l.getD (i - 1) acD = y0 := getD_some hy0
        refine WH_guardT rfl rfl hb6.h ?_
        refine WH_p (PS_move_slice rfl) rfl ?_
        refine WH_guardT rfl rfl hb6.h ?_
        refine WH_p (PS_move_int rfl) rfl ?_
        refine WH_guardT rfl rfl hb6.h ?_
        refine WH_p (PS_sub_i64n rfl rfl (by omega) (by omega)) rfl ?_
        refine WH_guardT rfl rfl hb6.h ?_
        refine WH_p (PS_indexS Hvad.runUnderlying23 Hvad.sizeOf108 rfl rfl (by omega) (by omega)) rfl ?_
        refine WH_guardT rfl rfl hb6.h ?_
        refine WH_p (PS_fieldAddr 0 Hvad.runUnderlying108 rfl Hvad.sizeOf25 rfl rfl) rfl ?_
        refine WH_guardT rfl rfl hb6.h ?_
        refine WH_p (PS_slA Hvad.runUnderlying25 Hvad.sizeOf5 rfl (by omega)) rfl ?_
        refine WH_guardT rfl rfl hb6.h ?_
        refine WH_tostr Hvad.runUnderlying32 Hvad.runUnderlying9 Hvad.runUnderlying5 rfl (Hb.h (by repeat (first | assumption | exact Hb.newY _ _ | refine Hb.alloc ?_ | refine Hb.drew ?_ | refine Hb.ext (by assumption) ?_ | exact Hb.setSameL (by first | omega | (simp only [size_alloc, size_setB, size_drew]; omega)) | exact Hb.setSame (by assumption) | refine Hb.set (by first | omega | (simp only [size_alloc, size_setB, size_drew]; omega)) ?_ ))) (by first | omega | assumption | rfl | decide | exact Nat.le_refl _ | (simp only [size_ic, Value.cells]; omega) | simp) (Xt.h (by first | assumption | exact Xt.whole rfl rfl | exact Xt.whole rfl (by simp only [size_ic, Value.cells]; omega) | exact ⟨rfl⟩)) ?_
        refine WH_guardT rfl rfl hb6.h ?_
        refine WH_p (PS_move_slice rfl) rfl ?_
        refine WH_guardT rfl rfl hb6.h ?_
        refine WH_p (PS_move_int rfl) rfl ?_
        refine WH_guardT rfl rfl hb6.h ?_
        refine WH_p (PS_indexS Hvad.runUnderlying23 Hvad.sizeOf108 rfl rfl (by omega) (by omega)) rfl ?_
        refine WH_guardT rfl rfl hb6.h ?_
        refine WH_p (PS_fieldAddr 0 Hvad.runUnderlying108 rfl Hvad.sizeOf25 rfl rfl) rfl ?_
        refine WH_guardT rfl rfl hb6.h ?_
        refine WH_p (PS_slA Hvad.runUnderlying25 Hvad.sizeOf5 rfl (by omega)) rfl ?_
        refine WH_guardT rfl rfl hb6.h ?_
        refine WH_tostr Hvad.runUnderlying32 Hvad.runUnderlying9 Hvad.runUnderlying5 rfl (Hb.h (by repeat (first | assumption | exact Hb.newY _ _ | refine Hb.alloc ?_ | refine Hb.drew ?_ | refine Hb.ext (by assumption) ?_ | exact Hb.setSameL (by first | omega | (simp only [size_alloc, size_setB, size_drew]; omega)) | exact Hb.setSame (by assumption) | refine Hb.set (by first | omega | (simp only [size_alloc, size_setB, size_drew]; omega)) ?_ ))) (by first | omega | assumption | rfl | decide | exact Nat.le_refl _ | (simp only [size_ic, Value.cells]; omega) | simp) (Xt.h (by first | assumption | exact Xt.whole rfl rfl | exact Xt.whole rfl (by simp only [size_ic, Value.cells]; omega) | exact ⟨rfl⟩)) ?_
        refine WH_guardT rfl rfl hb6.h ?_
        refine WH_p (PS_geqstr rfl rfl) rfl ?_
        refine WH_p (PS_pickT rfl hb6.h rfl) rfl ?_
        refine WH_nil ?_
        refine thn_normal ?_
        refine W_if rfl (fun hb8 => ?_) (fun hb8 => ?_)
        · have hb8p := hb8.h; try simp only [al_ete, al_dfn, Bool.not_eq_true', Bool.not_eq_false', al_ne, Bool.not_not, al_nn] at hb8p
          have hge : strGe y0.addr x.addr = true := by unfold strGe; simpa using hb8p
          refine W_seq ?_
          refine W_region rfl ?_
          refine WO_p (PS_assign_bool rfl) ?_
          refine WO_nil ?_
          refine thn_normal ?_
          refine W_ret ?_
          refine thn_ret ?_
          refine inBlk_ret ?_
          refine thn_ret ?_
          refine thn_ret ?_
          refine inBlk_ret ?_
          refine thn_ret ?_
          refine bodyQ_ret1 Hvad.results21 rfl (.bool _) rfl ?_
          refine ⟨congrArg Value.bool ?_, (by repeat (first | assumption | exact Ext.refl _ | refine Ext.alloc ?_ _ | refine Ext.drew ?_ | refine Ext.setB ?_ (by first | omega | (simp only [size_alloc, size_setB, size_drew]; omega)) _ | refine Ext.trans ?_ (by assumption)))⟩
          symm
          first
          | exact wok_iff.2 ⟨hl8, fun j hj => hgood j (by omega)⟩
          | (refine Bool.eq_false_iff.2 fun hh => ?_
             obtain ⟨e2, e3⟩ := wok_iff.1 hh
             first
             | exact hl8 e2
             | (have h9 := e3 i hiz
                unfold acBad at h9
                first
                | (rw [hgx, hac, al_bnf, al_bto, al_bot] at h9; cases h9)
                | (rw [hgx, hkk, al_bnf, al_bot, al_bot] at h9; cases h9)
                | (rw [hgx, hgy0, hge, al_et hi0, al_bta, al_bto] at h9; cases h9)))
        · have hb8p := hb8.h; try simp only [al_ete, al_dfn, Bool.not_eq_true', Bool.not_eq_false', al_ne, Bool.not_not, al_nn] at hb8p
          have hge : strGe y0.addr x.addr = false := by unfold strGe; simpa using hb8p
          refine W_skip ?_
          refine thn_normal ?_
          refine W_seq ?_
          refine W_region rfl ?_
          refine WO_p (PS_move_slice rfl) ?_
          refine WO_p (PS_move_int rfl) ?_
          refine WO_p (PS_indexS Hvad.runUnderlying23 Hvad.sizeOf108 rfl rfl (by omega) (by omega)) ?_
          refine WO_call Hvad.call56 (by rfl) (Ret.mono (accountOK_spec bb (o + i * 55) r T fz x _ (Hb.mk (Hb.h (by repeat (first | assumption | exact Hb.newY _ _ | refine Hb.alloc ?_ | refine Hb.drew ?_ | refine Hb.ext (by assumption) ?_ | exact Hb.setSameL (by first | omega | (simp only [size_alloc, size_setB, size_drew]; omega)) | exact Hb.setSame (by assumption) | refine Hb.set (by first | omega | (simp only [size_alloc, size_setB, size_drew]; omega)) ?_ )))) hat (hk.ext (by repeat (first | assumption | exact Ext.refl _ | refine Ext.alloc ?_ _ | refine Ext.drew ?_ | refine Ext.setB ?_ (by first | omega | (simp only [size_alloc, size_setB, size_drew]; omega)) _ | exact Ext.trans (by assumption) (by assumption) | refine Ext.trans ?_ (by assumption))))) ?_)
          rintro _ w56_8 ⟨rfl, hE56_8⟩
          have hz56_8 := hE56_8.1
          try simp only [size_alloc, size_setB, size_drew] at hz56_8
          refine WO_p (PS_not rfl) ?_
          refine WO_p (PS_move_bool rfl) ?_
          refine WO_if (t := 36) rfl (fun hb12 => ?_) (fun hb12 => ?_)
          · have hb12p := hb12.h; try simp only [al_ete, al_dfn, Bool.not_eq_true', Bool.not_eq_false', al_ne, Bool.not_not, al_nn] at hb12p
            have hac : accOK x = false := by simpa using hb12p
            refine WO_guardF rfl rfl hb12.h ?_
            refine WO_guardF rfl rfl hb12.h ?_
            refine WO_guardF rfl rfl hb12.h ?_
            refine WO_guardF rfl rfl hb12.h ?_
            refine WO_guardF rfl rfl hb12.h ?_
            refine WO_guardF rfl rfl hb12.h ?_
            refine WO_p (PS_pickT rfl hb12.h rfl) ?_
            refine WO_nil ?_
            refine thn_normal ?_
            refine W_condT rfl rfl ?_
            refine W_seq ?_
            refine W_region rfl ?_
            refine WO_p (PS_assign_bool rfl) ?_
            refine WO_nil ?_
            refine thn_normal ?_
            refine W_ret ?_
            refine inBlk_ret ?_
            refine thn_ret ?_
            refine thn_ret ?_
            refine inBlk_ret ?_
            refine thn_ret ?_
            refine bodyQ_ret1 Hvad.results21 rfl (.bool _) rfl ?_
            refine ⟨congrArg Value.bool ?_, (by repeat (first | assumption | exact Ext.refl _ | refine Ext.alloc ?_ _ | refine Ext.drew ?_ | refine Ext.setB ?_ (by first | omega | (simp only [size_alloc, size_setB, size_drew]; omega)) _ | refine Ext.trans ?_ (by assumption)))⟩
            symm
            first
            | exact wok_iff.2 ⟨hl8, fun j hj => hgood j (by omega)⟩
            | (refine Bool.eq_false_iff.2 fun hh => ?_
               obtain ⟨e2, e3⟩ := wok_iff.1 hh
               first
               | exact hl8 e2
               | (have h9 := e3 i hiz
                  unfold acBad at h9
                  first
                  | (rw [hgx, hac, al_bnf, al_bto, al_bot] at h9; cases h9)
                  | (rw [hgx, hkk, al_bnf, al_bot, al_bot] at h9; cases h9)
                  | (rw [hgx, hgy0, hge, al_et hi0, al_bta, al_bto] at h9; cases h9)))
          · have hb12p := hb12.h; try simp only [al_ete, al_dfn, Bool.not_eq_true', Bool.not_eq_false', al_ne, Bool.not_not, al_nn] at hb12p
            have hac : accOK x = true := by simpa using hb12p
            refine WO_guardT rfl rfl hb12.h ?_
            refine WO_p (PS_move_slice rfl) ?_
            refine WO_guardT rfl rfl hb12.h ?_
            refine WO_p (PS_move_int rfl) ?_
            refine WO_guardT rfl rfl hb12.h ?_
            refine WO_p (PS_indexS Hvad.runUnderlying23 Hvad.sizeOf108 rfl rfl (by omega) (by omega)) ?_
            refine WO_guardT rfl rfl hb12.h ?_
            refine WO_p (PS_fieldAddr 21 Hvad.runUnderlying108 rfl Hvad.sizeOf28 rfl rfl) ?_
            refine WO_guardT rfl rfl hb12.h ?_
            refine WO_call Hvad.call57 (by rfl) (Ret.mono (addTo_spec b3 bb (o + i * 55 + 21) (wsum l i) x.bal r T fz _ (Hb.mk (Hb.h (by repeat (first | assumption | exact Hb.newY _ _ | refine Hb.alloc ?_ | refine Hb.drew ?_ | refine Hb.ext (by assumption) ?_ | exact Hb.setSameL (by first | omega | (simp only [size_alloc, size_setB, size_drew]; omega)) | exact Hb.setSame (by assumption) | refine Hb.set (by first | omega | (simp only [size_alloc, size_setB, size_drew]; omega)) ?_ )))) (Hb.mk (Hb.h (by repeat (first | assumption | exact Hb.newY _ _ | refine Hb.alloc ?_ | refine Hb.drew ?_ | refine Hb.ext (by assumption) ?_ | exact Hb.setSameL (by first | omega | (simp only [size_alloc, size_setB, size_drew]; omega)) | exact Hb.setSame (by assumption) | refine Hb.set (by first | omega | (simp only [size_alloc, size_setB, size_drew]; omega)) ?_ )))) (by omega) hba hsum hk.ba) ?_)
            rintro _ w5 ⟨rfl, hK5, hs5⟩
            have hE5 : Ext w w5 := Ext.keepC (by repeat (first | assumption | exact Ext.refl _ | refine Ext.alloc ?_ _ | refine Ext.drew ?_ | refine Ext.setB ?_ (by first | omega | (simp only [size_alloc, size_setB, size_drew]; omega)) _ | exact Ext.trans (by assumption) (by assumption) | refine Ext.trans ?_ (by assumption))) hK5 (fun b h => by omega)
            refine WO_guardT rfl rfl hb12.h ?_
            refine WO_p (PS_not rfl) ?_
            refine WO_p (PS_pickF rfl hb12.h rfl) ?_
            refine WO_nil ?_
            refine thn_normal ?_
            refine W_if rfl (fun hb16 => ?_) (fun hb16 => ?_)
            · have hb16p := hb16.h; try simp only [al_ete, al_dfn, Bool.not_eq_true', Bool.not_eq_false', al_ne, Bool.not_not, al_nn] at hb16p
              have hkk : addK (wsum l i) x.bal = false := by simpa using hb16p
              refine W_seq ?_
              refine W_region rfl ?_
              refine WO_p (PS_assign_bool rfl) ?_
              refine WO_nil ?_
              refine thn_normal ?_
              refine W_ret ?_
              refine inBlk_ret ?_
              refine thn_ret ?_
              refine thn_ret ?_
              refine inBlk_ret ?_
              refine thn_ret ?_
              refine bodyQ_ret1 Hvad.results21 rfl (.bool _) rfl ?_
              refine ⟨congrArg Value.bool ?_, (by repeat (first | assumption | exact Ext.refl _ | refine Ext.alloc ?_ _ | refine Ext.drew ?_ | refine Ext.setB ?_ (by first | omega | (simp only [size_alloc, size_setB, size_drew]; omega)) _ | refine Ext.trans ?_ (by assumption)))⟩
              symm
              first
              | exact wok_iff.2 ⟨hl8, fun j hj => hgood j (by omega)⟩
              | (refine Bool.eq_false_iff.2 fun hh => ?_
                 obtain ⟨e2, e3⟩ := wok_iff.1 hh
                 first
                 | exact hl8 e2
                 | (have h9 := e3 i hiz
                    unfold acBad at h9
                    first
                    | (rw [hgx, hac, al_bnf, al_bto, al_bot] at h9; cases h9)
                    | (rw [hgx, hkk, al_bnf, al_bot, al_bot] at h9; cases h9)
                    | (rw [hgx, hgy0, hge, al_et hi0, al_bta, al_bto] at h9; cases h9)))
            · have hb16p := hb16.h; try simp only [al_ete, al_dfn, Bool.not_eq_true', Bool.not_eq_false', al_ne, Bool.not_not, al_nn] at hb16p
              have hkk : addK (wsum l i) x.bal = true := by simpa using hb16p
              refine W_skip ?_
              refine inBlk_normal ?_
              refine thn_normal ?_
              refine W_region rfl ?_
              refine WO_p (PS_add_i64n rfl rfl (by omega) (by omega)) ?_
              refine WO_p (PS_move_int rfl) ?_
              refine WO_nil ?_
              refine thn_normal ?_
              exact ⟨k - 1, by omega, i + 1, by omega, (by
                  intro j hj
                  by_cases hji : j < i
                  · exact hgood j hji
                  obtain rfl : j = i := by omega
                  unfold acBad
                  rw [hgx, hac, hkk]
                  first
                  | rw [hgy0, hge, al_baf]; rfl
                  | rw [al_ef hi0, al_bfa]; rfl), (by unfold wsum; rw [hgx]; exact addS_by hsum hk.ba), ⟨rfl, rfl, rfl, congrArg (Value.int .i64) (by omega), trivial⟩, (by repeat (first | assumption | exact Ext.refl _ | refine Ext.alloc ?_ _ | refine Ext.drew ?_ | refine Ext.setB ?_ (by first | omega | (simp only [size_alloc, size_setB, size_drew]; omega)) _ | refine Ext.trans ?_ (by assumption))), (by unfold wsum; rw [hgx]; exact hs5)⟩
      · have hb6p := hb6.h; try simp only [al_ete, al_dfn, Bool.not_eq_true', Bool.not_eq_false', al_ne, Bool.not_not, al_nn] at hb6p
        have hi0 : ¬ 0 < i := by omega
        refine WH_guardF rfl rfl hb6.h ?_
        refine WH_guardF rfl rfl hb6.h ?_
        refine WH_guardF rfl rfl hb6.h ?_
        refine WH_guardF rfl rfl hb6.h ?_
        refine WH_guardF rfl rfl hb6.h ?_
        refine WH_guardF rfl rfl hb6.h ?_
        refine WH_guardF rfl rfl hb6.h ?_
        refine WH_guardF rfl rfl hb6.h ?_
        refine WH_guardF rfl rfl hb6.h ?_
        refine WH_guardF rfl rfl hb6.h ?_
        refine WH_guardF rfl rfl hb6.h ?_
        refine WH_guardF rfl rfl hb6.h ?_
        refine WH_guardF rfl rfl hb6.h ?_
        refine WH_guardF rfl rfl hb6.h ?_
        refine WH_p (PS_pickF rfl hb6.h rfl) rfl ?_
        refine WH_nil ?_
        refine thn_normal ?_
        refine W_condF rfl rfl ?_
        refine W_skip ?_
        refine thn_normal ?_
        refine W_seq ?_
        refine W_region rfl ?_
        refine WO_p (PS_move_slice rfl) ?_
        refine WO_p (PS_move_int rfl) ?_
        refine WO_p (PS_indexS Hvad.runUnderlying23 Hvad.sizeOf108 rfl rfl (by omega) (by omega)) ?_
        refine WO_call Hvad.call56 (by rfl) (Ret.mono (accountOK_spec bb (o + i * 55) r T fz x _ (Hb.mk (Hb.h (by repeat (first | assumption | exact Hb.newY _ _ | refine Hb.alloc ?_ | refine Hb.drew ?_ | refine Hb.ext (by assumption) ?_ | exact Hb.setSameL (by first | omega | (simp only [size_alloc, size_setB, size_drew]; omega)) | exact Hb.setSame (by assumption) | refine Hb.set (by first | omega | (simp only [size_alloc, size_setB, size_drew]; omega)) ?_ )))) hat (hk.ext (by repeat (first | assumption | exact Ext.refl _ | refine Ext.alloc ?_ _ | refine Ext.drew ?_ | refine Ext.setB ?_ (by first | omega | (simp only [size_alloc, size_setB, size_drew]; omega)) _ | exact Ext.trans (by assumption) (by assumption) | refine Ext.trans ?_ (by assumption))))) ?_)
        rintro _ w56_16 ⟨rfl, hE56_16⟩
        have hz56_16 := hE56_16.1
        try simp only [size_alloc, size_setB, size_drew] at hz56_16
        refine WO_p (PS_not rfl) ?_
        refine WO_p (PS_move_bool rfl) ?_
        refine WO_if (t := 36) rfl (fun hb20 => ?_) (fun hb20 => ?_)
        · have hb20p := hb20.h; try simp only [al_ete, al_dfn, Bool.not_eq_true', Bool.not_eq_false', al_ne, Bool.not_not, al_nn] at hb20p
          have hac : accOK x = false := by simpa using hb20p
          refine WO_guardF rfl rfl hb20.h ?_
          refine WO_guardF rfl rfl hb20.h ?_
          refine WO_guardF rfl rfl hb20.h ?_
          refine WO_guardF rfl rfl hb20.h ?_
          refine WO_guardF rfl rfl hb20.h ?_
          refine WO_guardF rfl rfl hb20.h ?_
          refine WO_p (PS_pickT rfl hb20.h rfl) ?_
          refine WO_nil ?_
          refine thn_normal ?_
          refine W_condT rfl rfl ?_
          refine W_seq ?_
          refine W_region rfl ?_
          refine WO_p (PS_assign_bool rfl) ?_
          refine WO_nil ?_
          refine thn_normal ?_
          refine W_ret ?_
          refine inBlk_ret ?_
          refine thn_ret ?_
          refine thn_ret ?_
          refine inBlk_ret ?_
          refine thn_ret ?_
          refine bodyQ_ret1 Hvad.results21 rfl (.bool _) rfl ?_
          refine ⟨congrArg Value.bool ?_, (by repeat (first | assumption | exact Ext.refl _ | refine Ext.alloc ?_ _ | refine Ext.drew ?_ | refine Ext.setB ?_ (by first | omega | (simp only [size_alloc, size_setB, size_drew]; omega)) _ | refine Ext.trans ?_ (by assumption)))⟩
          symm
          first
          | exact wok_iff.2 ⟨hl8, fun j hj => hgood j (by omega)⟩
          | (refine Bool.eq_false_iff.2 fun hh => ?_
             obtain ⟨e2, e3⟩ := wok_iff.1 hh
             first
             | exact hl8 e2
             | (have h9 := e3 i hiz
                unfold acBad at h9
                first
                | (rw [hgx, hac, al_bnf, al_bto, al_bot] at h9; cases h9)
                | (rw [hgx, hkk, al_bnf, al_bot, al_bot] at h9; cases h9)
                | (rw [hgx, hgy0, hge, al_et hi0, al_bta, al_bto] at h9; cases h9)))
        · have hb20p := hb20.h; try simp only [al_ete, al_dfn, Bool.not_eq_true', Bool.not_eq_false', al_ne, Bool.not_not, al_nn] at hb20p
          have hac : accOK x = true := by simpa using hb20p
          refine WO_guardT rfl rfl hb20.h ?_
          refine WO_p (PS_move_slice rfl) ?_
          refine WO_guardT rfl rfl hb20.h ?_
          refine WO_p (PS_move_int rfl) ?_
          refine WO_guardT rfl rfl hb20.h ?_
          refine WO_p (PS_indexS Hvad.runUnderlying23 Hvad.sizeOf108 rfl rfl (by omega) (by omega)) ?_
          refine WO_guardT rfl rfl hb20.h ?_
          refine WO_p (PS_fieldAddr 21 Hvad.runUnderlying108 rfl Hvad.sizeOf28 rfl rfl) ?_
          refine WO_guardT rfl rfl hb20.h ?_
          refine WO_call Hvad.call57 (by rfl) (Ret.mono (addTo_spec b3 bb (o + i * 55 + 21) (wsum l i) x.bal r T fz _ (Hb.mk (Hb.h (by repeat (first | assumption | exact Hb.newY _ _ | refine Hb.alloc ?_ | refine Hb.drew ?_ | refine Hb.ext (by assumption) ?_ | exact Hb.setSameL (by first | omega | (simp only [size_alloc, size_setB, size_drew]; omega)) | exact Hb.setSame (by assumption) | refine Hb.set (by first | omega | (simp only [size_alloc, size_setB, size_drew]; omega)) ?_ )))) (Hb.mk (Hb.h (by repeat (first | assumption | exact Hb.newY _ _ | refine Hb.alloc ?_ | refine Hb.drew ?_ | refine Hb.ext (by assumption) ?_ | exact Hb.setSameL (by first | omega | (simp only [size_alloc, size_setB, size_drew]; omega)) | exact Hb.setSame (by assumption) | refine Hb.set (by first | omega | (simp only [size_alloc, size_setB, size_drew]; omega)) ?_ )))) (by omega) hba hsum hk.ba) ?_)
          rintro _ w5 ⟨rfl, hK5, hs5⟩
          have hE5 : Ext w w5 := Ext.keepC (by repeat (first | assumption | exact Ext.refl _ | refine Ext.alloc ?_ _ | refine Ext.drew ?_ | refine Ext.setB ?_ (by first | omega | (simp only [size_alloc, size_setB, size_drew]; omega)) _ | exact Ext.trans (by assumption) (by assumption) | refine Ext.trans ?_ (by assumption))) hK5 (fun b h => by omega)
          refine WO_guardT rfl rfl hb20.h ?_
          refine WO_p (PS_not rfl) ?_
          refine WO_p (PS_pickF rfl hb20.h rfl) ?_
          refine WO_nil ?_
          refine thn_normal ?_
          refine W_if rfl (fun hb24 => ?_) (fun hb24 => ?_)
          · have hb24p := hb24.h; try simp only [al_ete, al_dfn, Bool.not_eq_true', Bool.not_eq_false', al_ne, Bool.not_not, al_nn] at hb24p
            have hkk : addK (wsum l i) x.bal = false := by simpa using hb24p
            refine W_seq ?_
            refine W_region rfl ?_
            refine WO_p (PS_assign_bool rfl) ?_
            refine WO_nil ?_
            refine thn_normal ?_
            refine W_ret ?_
            refine inBlk_ret ?_
            refine thn_ret ?_
            refine thn_ret ?_
            refine inBlk_ret ?_
            refine thn_ret ?_
            refine bodyQ_ret1 Hvad.results21 rfl (.bool _) rfl ?_
            refine ⟨congrArg Value.bool ?_, (by repeat (first | assumption | exact Ext.refl _ | refine Ext.alloc ?_ _ | refine Ext.drew ?_ | refine Ext.setB ?_ (by first | omega | (simp only [size_alloc, size_setB, size_drew]; omega)) _ | refine Ext.trans ?_ (by assumption)))⟩
            symm
            first
            | exact wok_iff.2 ⟨hl8, fun j hj => hgood j (by omega)⟩
            | (refine Bool.eq_false_iff.2 fun hh => ?_
               obtain ⟨e2, e3⟩ := wok_iff.1 hh
               first
               | exact hl8 e2
               | (have h9 := e3 i hiz
                  unfold acBad at h9
                  first
                  | (rw [hgx, hac, al_bnf, al_bto, al_bot] at h9; cases h9)
                  | (rw [hgx, hkk, al_bnf, al_bot, al_bot] at h9; cases h9)
                  | (rw [hgx, hgy0, hge, al_et hi0, al_bta, al_bto] at h9; cases h9)))
          · have hb24p := hb24.h; try simp only [al_ete, al_dfn, Bool.not_eq_true', Bool.not_eq_false', al_ne, Bool.not_not, al_nn] at hb24p
            have hkk : addK (wsum l i) x.bal = true := by simpa using hb24p
            refine W_skip ?_
            refine inBlk_normal ?_
            refine thn_normal ?_
            refine W_region rfl ?_
            refine WO_p (PS_add_i64n rfl rfl (by omega) (by omega)) ?_
            refine WO_p (PS_move_int rfl) ?_
            refine WO_nil ?_
            refine thn_normal ?_
            exact ⟨k - 1, by omega, i + 1, by omega, (by
                intro j hj
                by_cases hji : j < i
                · exact hgood j hji
                obtain rfl : j = i := by omega
                unfold acBad
                rw [hgx, hac, hkk]
                first
                | rw [hgy0, hge, al_baf]; rfl
                | rw [al_ef hi0, al_bfa]; rfl), (by unfold wsum; rw [hgx]; exact addS_by hsum hk.ba), ⟨rfl, rfl, rfl, congrArg (Value.int .i64) (by omega), trivial⟩, (by repeat (first | assumption | exact Ext.refl _ | refine Ext.alloc ?_ _ | refine Ext.drew ?_ | refine Ext.setB ?_ (by first | omega | (simp only [size_alloc, size_setB, size_drew]; omega)) _ | refine Ext.trans ?_ (by assumption))), (by unfold wsum; rw [hgx]; exact hs5)⟩
    · have hb4p := hb4.h; try simp only [al_ete, al_dfn, Bool.not_eq_true', Bool.not_eq_false', al_ne, Bool.not_not, al_nn] at hb4p
      refine W_exit ?_
      refine thn_exit ?_
      refine thn_exit ?_
      refine inBlk_exit ?_
      refine thn_normal ?_
      refine W_seq ?_
      refine W_region rfl ?_
      refine WO_p (PS_assign_bool rfl) ?_
      refine WO_nil ?_
      refine thn_normal ?_
      refine W_ret ?_
      refine bodyQ_ret1 Hvad.results21 rfl (.bool _) rfl ?_
      refine ⟨congrArg Value.bool ?_, (by repeat (first | assumption | exact Ext.refl _ | refine Ext.alloc ?_ _ | refine Ext.drew ?_ | refine Ext.setB ?_ (by first | omega | (simp only [size_alloc, size_setB, size_drew]; omega)) _ | refine Ext.trans ?_ (by assumption)))⟩
      symm
      first
      | exact wok_iff.2 ⟨hl8, fun j hj => hgood j (by omega)⟩
      | (refine Bool.eq_false_iff.2 fun hh => ?_
         obtain ⟨e2, e3⟩ := wok_iff.1 hh
         first
         | exact hl8 e2
         | (have h9 := e3 i hiz
            unfold acBad at h9
            first
            | (rw [hgx, hac, al_bnf, al_bto, al_bot] at h9; cases h9)
            | (rw [hgx, hkk, al_bnf, al_bot, al_bot] at h9; cases h9)
            | (rw [hgx, hgy0, hge, al_et hi0, al_bta, al_bto] at h9; cases h9)))

end Go.Proofs.YgvadwGreat
