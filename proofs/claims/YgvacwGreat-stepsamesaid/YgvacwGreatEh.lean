import Derived.Test.YgvacwGreatSa
import Derived.Test.YgvacwGreatGm
import Derived.Test.YgvacwGreatMv
import Derived.Test.YgvacwGreatJa
namespace Go.Proofs.YgvacwGreat
set_option linter.unusedSimpArgs false
set_option linter.unusedVariables false
/-! jump destinations: the map's bits are what yp scans for -/
def bitM (M : List Int) (p : Nat) : Bool := (M.getD (p / 64) 0).toNat.testBit (p % 64)
structure MapOK (M : List Int) : Prop where
  len : M.length = 8
  bd : ∀ k, 0 ≤ M.getD k 0 ∧ M.getD k 0 ≤ 18446744073709551615
theorem pow_mod64 {j : Nat} (h : j < 64) : (1 * 2 ^ (min j 64) % 18446744073709551616 : Int) = ((2 ^ j : Nat) : Int) := by
  have h1 : (2 : Nat) ^ j < 2 ^ 64 := Nat.pow_lt_pow_right (by decide) h
  rw [show min j 64 = j by omega, Int.one_mul]
  have : ((2 ^ j : Nat) : Int) = (2 : Int) ^ j := by simp
  rw [← this]
  have h2 : (2 : Nat) ^ 64 = 18446744073709551616 := by decide
  generalize 2 ^ j = z at *
  omega
theorem bitM_set {M : List Int} (hM : MapOK M) {i : Nat} (hi : i < 512) (p : Nat) (hp : p < 512) : bitM (M.set (i / 64) (bOr (M.getD (i / 64) 0) (1 * 2 ^ (min ((i : Int) % 64).toNat 64) % 18446744073709551616))) p = (bitM M p || decide (p = i)) := by
  rw [show ((i : Int) % 64).toNat = i % 64 by omega, pow_mod64 (by omega)]
  have hb := hM.bd (i / 64)
  have h64 : (2 : Nat) ^ (i % 64) < 2 ^ 64 := Nat.pow_lt_pow_right (by decide) (by omega)
  have h2 : (2 : Nat) ^ 64 = 18446744073709551616 := by decide
  rw [bOr_nat hb.1 hb.2 (Int.natCast_nonneg _) (by generalize (2 : Nat) ^ (i % 64) = z at h64; omega), Int.toNat_natCast]
  unfold bitM
  by_cases hq : p / 64 = i / 64
  · rw [hq]
    have : (M.set (i / 64) (((M.getD (i / 64) 0).toNat ||| 2 ^ (i % 64) : Nat) : Int)).getD (i / 64) 0 = (((M.getD (i / 64) 0).toNat ||| 2 ^ (i % 64) : Nat) : Int) := by
      rw [List.getD_eq_getElem?_getD, List.getElem?_set_self (by rw [hM.len]; omega)]; rfl
    rw [this, Int.toNat_natCast, Nat.testBit_or, Nat.testBit_two_pow]
    congr 1
    exact al_dd.2 (by omega)
  · have : (M.set (i / 64) (((M.getD (i / 64) 0).toNat ||| 2 ^ (i % 64) : Nat) : Int)).getD (p / 64) 0 = M.getD (p / 64) 0 := by
      rw [List.getD_eq_getElem?_getD, List.getElem?_set_ne (by omega), ← List.getD_eq_getElem?_getD]
    rw [this, al_ef (by omega : ¬ p = i), al_bof]
theorem MapOK.set {M : List Int} (hM : MapOK M) (i : Nat) (a b : Int) : MapOK (M.set i (bOr a b)) := by
  refine ⟨by rw [List.length_set]; exact hM.len, fun k => ?_⟩
  rw [List.getD_eq_getElem?_getD, List.getElem?_set]
  split
  · split
    · exact bOr_bd _ _
    · simp
  · rw [← List.getD_eq_getElem?_getD]; exact hM.bd k
theorem scanGo_ok {L : List Int} : ∀ (k i : Nat) (M : List Int), MapOK M → MapOK (scanGo L k i M)
  | 0, _, _, h => h
  | k + 1, i, M, h => by
    unfold scanGo
    split
    · exact h
    · refine scanGo_ok k _ _ ?_
      split
      · exact h.set _ _ _
      · exact h
theorem scanGo_old {L : List Int} (hl : L.length ≤ 512) {p : Nat} (hp : p < 512) : ∀ (k i : Nat) (M : List Int), MapOK M → p < i → bitM (scanGo L k i M) p = bitM M p
  | 0, _, _, _, _ => rfl
  | k + 1, i, M, h, hi => by
    unfold scanGo
    split
    · rfl
    · split
      · rw [scanGo_old hl hp k _ _ (h.set _ _ _) (by omega), bitM_set h (by omega) p hp, al_ef (by omega : ¬ p = i), al_bof]
      · rw [scanGo_old hl hp k _ _ h (by omega)]
theorem scanGo_bit {L : List Int} (hl : L.length ≤ 512) {p : Nat} (hp : p < 512) : ∀ (k i : Nat) (M : List Int), MapOK M → L.length ≤ i + k → bitM (scanGo L k i M) p = (bitM M p || ydestF L p (k + 1) i)
  | 0, i, M, h, hk => by rw [ydestF_end (by omega)]; unfold scanGo; simp
  | k + 1, i, M, h, hk => by
    unfold scanGo
    split
    · rw [ydestF_end (by omega)]; simp
    · rename_i hi
      by_cases hip : i = p
      · rw [ydestF_at (by omega) hip]
        split
        · rename_i h91
          rw [scanGo_old hl hp k _ _ (h.set _ _ _) (by omega), bitM_set h (by omega) p hp, al_et hip.symm, al_et h91]
        · rename_i h91
          rw [scanGo_old hl hp k _ _ h (by omega), al_ef h91, al_bof]
      · rw [ydestF_go (by omega) hip]
        split
        · rw [scanGo_bit hl hp k _ _ (h.set _ _ _) (by omega), bitM_set h (by omega) p hp, al_ef (fun e => hip e.symm), al_bof]
          congr 2; omega
        · rw [scanGo_bit hl hp k _ _ h (by omega)]
          congr 2; omega
theorem map0_ok : MapOK [0, 0, 0, 0, 0, 0, 0, 0] := ⟨rfl, fun k => by
  rw [List.getD_eq_getElem?_getD]
  cases h : [0, 0, 0, 0, 0, 0, 0, (0 : Int)][k]? with
  | none => simp
  | some x => have := List.mem_of_getElem? h; simp at this; simp [this]⟩
theorem scanW_bit {L : List Int} (hl : L.length ≤ 512) {p : Nat} (hp : p < 512) : bitM (scanW L) p = ydest L p := by
  unfold scanW ydest
  rw [if_neg (by omega), scanGo_bit hl hp _ _ _ map0_ok (by omega)]
  have : bitM [0, 0, 0, 0, 0, 0, 0, 0] p = false := by
    unfold bitM
    have : [0, 0, 0, 0, 0, 0, 0, (0 : Int)].getD (p / 64) 0 = 0 := by
      rw [List.getD_eq_getElem?_getD]
      cases h : [0, 0, 0, 0, 0, 0, 0, (0 : Int)][p / 64]? with
      | none => rfl
      | some x => have := List.mem_of_getElem? h; simp at this; simp [this]
    rw [this]; simp
  rw [this, al_bfo]
theorem ydestF_out {L : List Int} {p : Nat} (h : L.length ≤ p) : ∀ k i, ydestF L p k i = false
  | 0, _ => rfl
  | k + 1, i => by
    by_cases hi : i < L.length
    · rw [ydestF_go hi (by omega)]; exact ydestF_out h k _
    · exact ydestF_end hi
theorem ydest_out {L : List Int} {p : Nat} (h : L.length ≤ p) : ydest L p = false := ydestF_out h _ _
theorem bit_shr {x : Int} (h : 0 ≤ x ∧ x ≤ 18446744073709551615) {j : Nat} (hj : j < 64) : decide (bAnd (x / 2 ^ j) 1 = 1) = x.toNat.testBit j := by
  have h0 : (0 : Int) ≤ x / 2 ^ j := Int.ediv_nonneg h.1 (Int.le_of_lt (Int.pow_pos (by decide)))
  have h1 : x / 2 ^ j ≤ x := Int.ediv_le_self _ h.1
  rw [bAnd_nat h0 (by omega) (by decide) (by decide)]
  have e : (x / 2 ^ j).toNat = x.toNat / 2 ^ j := by
    obtain ⟨n, rfl⟩ := Int.eq_ofNat_of_zero_le h.1
    have : ((n : Int) / 2 ^ j) = ((n / 2 ^ j : Nat) : Int) := by rw [Int.natCast_ediv]; simp
    rw [this, Int.toNat_natCast, Int.toNat_natCast]
  rw [e, show (1 : Int).toNat = 1 from rfl, Nat.and_one_is_mod, Nat.testBit_eq_decide_div_mod_eq]
  exact al_dd.2 (by omega)

set_option maxRecDepth 10000 in
theorem isDest_ex (b o : Nat) (r : Array Value) (L : List Int) (p : Int) (T : TypeId) (w : World) (hb : Hb w b (.cells r T (0, 0))) (hx : Xt r o (o + 8) (ic .u64 L)) (hL : L.length = 8 ∧ ∀ x ∈ L, 0 ≤ x ∧ x ≤ 18446744073709551615) (hbd : o + 8 ≤ r.size) (hp : 0 ≤ p ∧ p < 512) : Ret Hvac.prog 340 #[.pointer (some ⟨b, o, none⟩), .int .u16 p] w fun u w' => Ext w w' ∧ u = .bool (bitM L p.toNat) := by
  obtain ⟨hl, hty⟩ := hL
  refine Ret_of_W Hvac.func340 rfl rfl ?_
  refine W_seq ?_
  refine W_region rfl ?_
  refine WO_p (PS_assign_bool rfl) ?_
  refine WO_nil ?_
  refine thn_normal ?_
  refine W_seq ?_
  refine W_region rfl ?_
  refine WO_p (PS_move_ptr rfl) ?_
  refine WO_p (PS_neqnil Hvac.underlying409 rfl) ?_
  refine WO_p (PS_move_bool rfl) ?_
  refine WO_if (t := 7) rfl (fun hb2 => ?_) (fun hb2 => ?_)
  · have hb2p := hb2.h; try simp only [al_ete, al_dfn, Bool.not_eq_true', Bool.not_eq_false', al_ne, Bool.not_not, al_nn] at hb2p
    refine WO_guardT rfl rfl hb2.h ?_
    refine WO_p (PS_move_int rfl) ?_
    refine WO_guardT rfl rfl hb2.h ?_
    refine WO_p (PS_lss rfl rfl) ?_
    refine WO_p (PS_pickT rfl hb2.h rfl) ?_
    refine WO_p (PS_move_bool rfl) ?_
    refine WO_if (t := 11) rfl (fun hb4 => ?_) (fun hb4 => ?_)
    · have hb4p := hb4.h; try simp only [al_ete, al_dfn, Bool.not_eq_true', Bool.not_eq_false', al_ne, Bool.not_not, al_nn] at hb4p
      have hlt : (p / 64).toNat < L.length := by omega
      have hcx : Ce r (o + (p / 64).toNat * 1) (.int .u64 (L.getD (p.toNat / 64) 0)) := ⟨by
        have e : (r.extract o (o + 8))[(p / 64).toNat]? = some (.int .u64 L[(p / 64).toNat]) := by rw [hx.h]; simp [ic, hlt]
        rw [Array.getElem?_extract, if_pos (by omega)] at e
        have e2 : L.getD (p.toNat / 64) 0 = L[(p / 64).toNat] := by rw [List.getD_eq_getElem?_getD, show p.toNat / 64 = (p / 64).toNat by omega, List.getElem?_eq_getElem hlt]; rfl
        rw [Nat.mul_one, e2]; exact e⟩
      have hlx : 0 ≤ L.getD (p.toNat / 64) 0 ∧ L.getD (p.toNat / 64) 0 ≤ 18446744073709551615 := by
        have e2 : L.getD (p.toNat / 64) 0 = L[(p / 64).toNat] := by rw [List.getD_eq_getElem?_getD, show p.toNat / 64 = (p / 64).toNat by omega, List.getElem?_eq_getElem hlt]; rfl
        rw [e2]; exact hty _ (List.getElem_mem hlt)
      refine WO_guardT rfl rfl hb4.h ?_
      refine WO_p (PS_move_ptr rfl) ?_
      refine WO_guardT rfl rfl hb4.h ?_
      refine WO_p (PS_move_int rfl) ?_
      refine WO_guardT rfl rfl hb4.h ?_
      refine WO_p (PS_quo_u16 rfl rfl (by omega) (by omega) (by omega)) ?_
      refine WO_guardT rfl rfl hb4.h ?_
      refine WO_p (PS_nilCheck rfl) ?_
      refine WO_guardT rfl rfl hb4.h ?_
      refine WO_p (PS_indexA Hvac.runUnderlying64 Hvac.sizeOf26 rfl rfl (by omega) (by omega)) ?_
      refine WO_guardT rfl rfl hb4.h ?_
      refine WO_load (.int _ _) Hvac.isAgg26 rfl (Hb.h (by repeat (first | assumption | exact Hb.newY _ _ | refine Hb.alloc ?_ | refine Hb.drew ?_ | refine Hb.ext (by assumption) ?_ | exact Hb.setSameL (by first | omega | (simp only [size_alloc, size_setB, size_drew]; omega)) | exact Hb.setSame (by assumption) | refine Hb.set (by first | omega | (simp only [size_alloc, size_setB, size_drew]; omega)) ?_ ))) (Ce.h (by first | assumption | exact ⟨rfl⟩)) ?_
      refine WO_guardT rfl rfl hb4.h ?_
      refine WO_p (PS_move_int rfl) ?_
      refine WO_guardT rfl rfl hb4.h ?_
      refine WO_p (PS_rem_u16 rfl rfl (by omega) (by omega)) ?_
      refine WO_guardT rfl rfl hb4.h ?_
      refine WO_p (PS_shr_u64 _ rfl rfl (by omega) rfl) ?_
      refine WO_guardT rfl rfl hb4.h ?_
      refine WO_p (PS_and_u64 rfl rfl) ?_
      refine WO_guardT rfl rfl hb4.h ?_
      refine WO_p (PS_eql rfl rfl) ?_
      refine WO_p (PS_pickT rfl hb4.h rfl) ?_
      refine WO_p (PS_assign_bool rfl) ?_
      refine WO_nil ?_
      refine thn_normal ?_
      refine W_ret ?_
      refine bodyQ_ret1 Hvac.results340 rfl (.bool _) rfl ?_
      first
      | (exfalso; omega)
      | (exfalso; simp_all; done)
      | (exfalso; simp_all; omega)
      | (refine ⟨(by repeat (first | assumption | exact Ext.refl _ | refine Ext.alloc ?_ _ | refine Ext.drew ?_ | refine Ext.setB ?_ (by first | omega | (simp only [size_alloc, size_setB, size_drew]; omega)) _ | refine Ext.trans ?_ (by assumption))), congrArg Value.bool ?_⟩
         unfold bitM
         rw [← bit_shr hlx (j := p.toNat % 64) (by omega), show p.toNat % 64 = min (p % 64).toNat 64 by omega])
    · have hb4p := hb4.h; try simp only [al_ete, al_dfn, Bool.not_eq_true', Bool.not_eq_false', al_ne, Bool.not_not, al_nn] at hb4p
      refine WO_guardF rfl rfl hb4.h ?_
      refine WO_guardF rfl rfl hb4.h ?_
      refine WO_guardF rfl rfl hb4.h ?_
      refine WO_guardF rfl rfl hb4.h ?_
      refine WO_guardF rfl rfl hb4.h ?_
      refine WO_guardF rfl rfl hb4.h ?_
      refine WO_guardF rfl rfl hb4.h ?_
      refine WO_guardF rfl rfl hb4.h ?_
      refine WO_guardF rfl rfl hb4.h ?_
      refine WO_guardF rfl rfl hb4.h ?_
      refine WO_guardF rfl rfl hb4.h ?_
      refine WO_p (PS_pickF rfl hb4.h rfl) ?_
      refine WO_p (PS_assign_bool rfl) ?_
      refine WO_nil ?_
      refine thn_normal ?_
      refine W_ret ?_
      refine bodyQ_ret1 Hvac.results340 rfl (.bool _) rfl ?_
      first
      | (exfalso; omega)
      | (exfalso; simp_all; done)
      | (exfalso; simp_all; omega)
      | (refine ⟨(by repeat (first | assumption | exact Ext.refl _ | refine Ext.alloc ?_ _ | refine Ext.drew ?_ | refine Ext.setB ?_ (by first | omega | (simp only [size_alloc, size_setB, size_drew]; omega)) _ | refine Ext.trans ?_ (by assumption))), congrArg Value.bool ?_⟩
         unfold bitM
         rw [← bit_shr hlx (j := p.toNat % 64) (by omega), show p.toNat % 64 = min (p % 64).toNat 64 by omega])
  · have hb2p := hb2.h; try simp only [al_ete, al_dfn, Bool.not_eq_true', Bool.not_eq_false', al_ne, Bool.not_not, al_nn] at hb2p
    refine WO_guardF rfl rfl hb2.h ?_
    refine WO_guardF rfl rfl hb2.h ?_
    refine WO_p (PS_pickF rfl hb2.h rfl) ?_
    refine WO_p (PS_move_bool rfl) ?_
    refine WO_guardF rfl rfl rfl ?_
    refine WO_guardF rfl rfl rfl ?_
    refine WO_guardF rfl rfl rfl ?_
    refine WO_guardF rfl rfl rfl ?_
    refine WO_guardF rfl rfl rfl ?_
    refine WO_guardF rfl rfl rfl ?_
    refine WO_guardF rfl rfl rfl ?_
    refine WO_guardF rfl rfl rfl ?_
    refine WO_guardF rfl rfl rfl ?_
    refine WO_guardF rfl rfl rfl ?_
    refine WO_guardF rfl rfl rfl ?_
    refine WO_p (PS_pickF rfl rfl rfl) ?_
    refine WO_p (PS_assign_bool rfl) ?_
    refine WO_nil ?_
    refine thn_normal ?_
    refine W_ret ?_
    refine bodyQ_ret1 Hvac.results340 rfl (.bool _) rfl ?_
    first
    | (exfalso; omega)
    | (exfalso; simp_all; done)
    | (exfalso; simp_all; omega)
    | (refine ⟨(by repeat (first | assumption | exact Ext.refl _ | refine Ext.alloc ?_ _ | refine Ext.drew ?_ | refine Ext.setB ?_ (by first | omega | (simp only [size_alloc, size_setB, size_drew]; omega)) _ | refine Ext.trans ?_ (by assumption))), congrArg Value.bool ?_⟩
       unfold bitM
       rw [← bit_shr hlx (j := p.toNat % 64) (by omega), show p.toNat % 64 = min (p % 64).toNat 64 by omega])

set_option maxRecDepth 10000 in
theorem good_ex [Om] (C : Nat) (c : Array Value) (v : V) (B : VB) (m : Mc) (t : Nat) (f : Fm) (W : List Int) (w : World) (hM : MS w C c v B m) (hA : FrA m t f) (hW : Wd W) (hds : f.dests = scanW f.cb) (hcb : f.cb.length ≤ 512) (hcl : f.code.2.1 = f.cb.length) : Ret Hvac.prog 245 #[.pointer (some ⟨C, 1803 + t * 65, none⟩), .agg (ic .u64 W)] w fun u w' => Ext w w' ∧ u = .bool (ydest f.cb (wn W)) := by
  have hA0 := hA
  have hblk := hM.vs.blk
  have hCl := hblk.lt
  have hcs := hM.sz
  have hc_s := hM.rep.s
  obtain ⟨ht6, hf, hsb, hsp⟩ := hA0
  obtain ⟨ht7, hfty, hF⟩ := hM.openF hf
  have hf_code := hF.code
  have hf_d := hF.dests
  have hWl := hW.1
  have hwb := wv_bd hW
  have hwi := wn_int hW
  have hfb := hF.bd
  refine Ret_of_W Hvac.func245 rfl rfl ?_
  refine W_seq ?_
  refine W_region rfl ?_
  refine WO_boxG (.agg _) rfl ?_
  intro b3 v3 hg3 hE3 hH3 hl3
  try simp only [size_alloc, size_setB, size_drew] at hg3
  have hzz3 := hE3.1
  try simp only [size_alloc, size_setB, size_drew] at hzz3
  refine WO_p (PS_assign_bool rfl) ?_
  refine WO_nil ?_
  refine thn_normal ?_
  refine W_seq ?_
  refine W_region rfl ?_
  refine WO_loadA _ Hvac.isAgg61 Hvac.sizeOf61 rfl (Hb.h (by repeat (first | assumption | exact Hb.newY _ _ | refine Hb.alloc ?_ | refine Hb.drew ?_ | refine Hb.ext (by assumption) ?_ | exact Hb.setSameL (by first | omega | (simp only [size_alloc, size_setB, size_drew]; omega)) | exact Hb.setSame (by assumption) | refine Hb.set (by first | omega | (simp only [size_alloc, size_setB, size_drew]; omega)) ?_ ))) (by first | omega | assumption | rfl | decide | exact Nat.le_refl _ | (simp only [size_ic, Value.cells]; omega) | (simp; omega) | simp) (Xt.h (by first | assumption | exact Xt.whole rfl rfl | exact Xt.whole rfl (by assumption) | exact Xt.whole rfl (by simp only [size_ic, Value.cells]; omega) | exact ⟨rfl⟩)) ?_
  refine WO_call Hvac.call274 (by rfl) (Ret.mono (u64x_spec _ _ (by first | assumption | exact argW_wd hM.ty _ _ | exact Wd0)) ?_)
  rintro _ w274_0 ⟨hE274_0, x274_0, rfl, hx274_0, hxb274_0⟩
  have hz274_0 := hE274_0.1
  try simp only [size_alloc, size_setB, size_drew] at hz274_0
  refine WO_p (PS_move_tuple rfl) ?_
  refine WO_p (PS_extract_int rfl rfl) ?_
  refine WO_p (PS_extract_bool rfl rfl) ?_
  refine WO_p (PS_assign_int rfl) ?_
  refine WO_p (PS_assign_bool rfl) ?_
  refine WO_nil ?_
  refine thn_normal ?_
  refine W_seq ?_
  refine W_region rfl ?_
  refine WO_p (PS_move_bool rfl) ?_
  refine WO_p (PS_move_bool rfl) ?_
  refine WO_if (t := 13) rfl (fun hb3 => ?_) (fun hb3 => ?_)
  · have hb3p := hb3.h; try simp only [al_ete, al_dfn, Bool.not_eq_true', Bool.not_eq_false', al_ne, Bool.not_not, al_nn] at hb3p
    refine WO_guardT rfl rfl hb3.h ?_
    refine WO_p (PS_move_int rfl) ?_
    refine WO_guardT rfl rfl hb3.h ?_
    refine WO_p (PS_move_ptr rfl) ?_
    refine WO_guardT rfl rfl hb3.h ?_
    refine WO_p (PS_nilCheck rfl) ?_
    refine WO_guardT rfl rfl hb3.h ?_
    refine WO_p (PS_fieldAddr 53 Hvac.runUnderlying66 rfl Hvac.sizeOf32 rfl rfl) ?_
    refine WO_guardT rfl rfl hb3.h ?_
    refine WO_load (.slice _ _ _) Hvac.isAgg32 rfl (Hb.h (by repeat (first | assumption | exact Hb.newY _ _ | refine Hb.alloc ?_ | refine Hb.drew ?_ | refine Hb.ext (by assumption) ?_ | exact Hb.setSameL (by first | omega | (simp only [size_alloc, size_setB, size_drew]; omega)) | exact Hb.setSame (by assumption) | refine Hb.set (by first | omega | (simp only [size_alloc, size_setB, size_drew]; omega)) ?_ ))) (Ce.h (by first | assumption | exact ⟨rfl⟩)) ?_
    refine WO_guardT rfl rfl hb3.h ?_
    refine WO_p (PS_lenS Hvac.runUnderlying32 rfl) ?_
    refine WO_guardT rfl rfl hb3.h ?_
    refine WO_p (PS_conv_u64n Hvac.runUnderlying3 Hvac.runUnderlying26 rfl (by omega) (by omega)) ?_
    refine WO_guardT rfl rfl hb3.h ?_
    refine WO_p (PS_lss rfl rfl) ?_
    refine WO_p (PS_pickT rfl hb3.h rfl) ?_
    refine WO_p (PS_move_bool rfl) ?_
    refine WO_if (t := 23) rfl (fun hb5 => ?_) (fun hb5 => ?_)
    · have hb5p := hb5.h; try simp only [al_ete, al_dfn, Bool.not_eq_true', Bool.not_eq_false', al_ne, Bool.not_not, al_nn] at hb5p
      refine WO_guardT rfl rfl hb5.h ?_
      refine WO_p (PS_move_int rfl) ?_
      refine WO_guardT rfl rfl hb5.h ?_
      refine WO_p (PS_lss rfl rfl) ?_
      refine WO_p (PS_pickT rfl hb5.h rfl) ?_
      refine WO_p (PS_move_bool rfl) ?_
      refine WO_if (t := 27) rfl (fun hb7 => ?_) (fun hb7 => ?_)
      · have hb7p := hb7.h; try simp only [al_ete, al_dfn, Bool.not_eq_true', Bool.not_eq_false', al_ne, Bool.not_not, al_nn] at hb7p
        refine WO_guardT rfl rfl hb7.h ?_
        refine WO_p (PS_move_ptr rfl) ?_
        refine WO_guardT rfl rfl hb7.h ?_
        refine WO_p (PS_nilCheck rfl) ?_
        refine WO_guardT rfl rfl hb7.h ?_
        refine WO_p (PS_fieldAddr 55 Hvac.runUnderlying66 rfl Hvac.sizeOf64 rfl rfl) ?_
        refine WO_guardT rfl rfl hb7.h ?_
        refine WO_p (PS_move_int rfl) ?_
        refine WO_guardT rfl rfl hb7.h ?_
        refine WO_p (PS_conv_u16n Hvac.runUnderlying26 Hvac.runUnderlying42 rfl (by omega) (by omega)) ?_
        refine WO_guardT rfl rfl hb7.h ?_
        refine WO_call Hvac.call340 (by rfl) (Ret.mono (isDest_ex C (1803 + t * 65 + 55) _ f.dests _ 87 _ (Hb.mk (Hb.h (by repeat (first | assumption | exact Hb.newY _ _ | refine Hb.alloc ?_ | refine Hb.drew ?_ | refine Hb.ext (by assumption) ?_ | exact Hb.setSameL (by first | omega | (simp only [size_alloc, size_setB, size_drew]; omega)) | exact Hb.setSame (by assumption) | refine Hb.set (by first | omega | (simp only [size_alloc, size_setB, size_drew]; omega)) ?_ )))) (by assumption) hfty.dests (by omega) (by omega)) ?_)
        rintro _ w340_7 ⟨hE340_7, rfl⟩
        have hz340_7 := hE340_7.1
        try simp only [size_alloc, size_setB, size_drew] at hz340_7
        refine WO_p (PS_pickT rfl hb7.h rfl) ?_
        refine WO_p (PS_assign_bool rfl) ?_
        refine WO_nil ?_
        refine thn_normal ?_
        refine W_ret ?_
        refine bodyQ_ret1 Hvac.results245 rfl (.bool _) rfl ?_
        first
        | exact ⟨(by repeat (first | assumption | exact Ext.refl _ | refine Ext.alloc ?_ _ | refine Ext.drew ?_ | refine Ext.setB ?_ (by first | omega | (simp only [size_alloc, size_setB, size_drew]; omega)) _ | refine Ext.trans ?_ (by assumption))), congrArg Value.bool (ydest_out (by omega)).symm⟩
        | (refine ⟨(by repeat (first | assumption | exact Ext.refl _ | refine Ext.alloc ?_ _ | refine Ext.drew ?_ | refine Ext.setB ?_ (by first | omega | (simp only [size_alloc, size_setB, size_drew]; omega)) _ | refine Ext.trans ?_ (by assumption))), congrArg Value.bool ?_⟩
           rw [hds, scanW_bit hcb (by omega)]
           congr 1; omega)
      · have hb7p := hb7.h; try simp only [al_ete, al_dfn, Bool.not_eq_true', Bool.not_eq_false', al_ne, Bool.not_not, al_nn] at hb7p
        refine WO_guardF rfl rfl hb7.h ?_
        refine WO_guardF rfl rfl hb7.h ?_
        refine WO_guardF rfl rfl hb7.h ?_
        refine WO_guardF rfl rfl hb7.h ?_
        refine WO_guardF rfl rfl hb7.h ?_
        refine WO_guardF rfl rfl hb7.h ?_
        refine WO_p (PS_pickF rfl hb7.h rfl) ?_
        refine WO_p (PS_assign_bool rfl) ?_
        refine WO_nil ?_
        refine thn_normal ?_
        refine W_ret ?_
        refine bodyQ_ret1 Hvac.results245 rfl (.bool _) rfl ?_
        first
        | exact ⟨(by repeat (first | assumption | exact Ext.refl _ | refine Ext.alloc ?_ _ | refine Ext.drew ?_ | refine Ext.setB ?_ (by first | omega | (simp only [size_alloc, size_setB, size_drew]; omega)) _ | refine Ext.trans ?_ (by assumption))), congrArg Value.bool (ydest_out (by omega)).symm⟩
        | (refine ⟨(by repeat (first | assumption | exact Ext.refl _ | refine Ext.alloc ?_ _ | refine Ext.drew ?_ | refine Ext.setB ?_ (by first | omega | (simp only [size_alloc, size_setB, size_drew]; omega)) _ | refine Ext.trans ?_ (by assumption))), congrArg Value.bool ?_⟩
           rw [hds, scanW_bit hcb (by omega)]
           congr 1; omega)
    · have hb5p := hb5.h; try simp only [al_ete, al_dfn, Bool.not_eq_true', Bool.not_eq_false', al_ne, Bool.not_not, al_nn] at hb5p
      refine WO_guardF rfl rfl hb5.h ?_
      refine WO_guardF rfl rfl hb5.h ?_
      refine WO_p (PS_pickF rfl hb5.h rfl) ?_
      refine WO_p (PS_move_bool rfl) ?_
      refine WO_guardF rfl rfl rfl ?_
      refine WO_guardF rfl rfl rfl ?_
      refine WO_guardF rfl rfl rfl ?_
      refine WO_guardF rfl rfl rfl ?_
      refine WO_guardF rfl rfl rfl ?_
      refine WO_guardF rfl rfl rfl ?_
      refine WO_p (PS_pickF rfl rfl rfl) ?_
      refine WO_p (PS_assign_bool rfl) ?_
      refine WO_nil ?_
      refine thn_normal ?_
      refine W_ret ?_
      refine bodyQ_ret1 Hvac.results245 rfl (.bool _) rfl ?_
      first
      | exact ⟨(by repeat (first | assumption | exact Ext.refl _ | refine Ext.alloc ?_ _ | refine Ext.drew ?_ | refine Ext.setB ?_ (by first | omega | (simp only [size_alloc, size_setB, size_drew]; omega)) _ | refine Ext.trans ?_ (by assumption))), congrArg Value.bool (ydest_out (by omega)).symm⟩
      | (refine ⟨(by repeat (first | assumption | exact Ext.refl _ | refine Ext.alloc ?_ _ | refine Ext.drew ?_ | refine Ext.setB ?_ (by first | omega | (simp only [size_alloc, size_setB, size_drew]; omega)) _ | refine Ext.trans ?_ (by assumption))), congrArg Value.bool ?_⟩
         rw [hds, scanW_bit hcb (by omega)]
         congr 1; omega)
  · have hb3p := hb3.h; try simp only [al_ete, al_dfn, Bool.not_eq_true', Bool.not_eq_false', al_ne, Bool.not_not, al_nn] at hb3p
    refine WO_guardF rfl rfl hb3.h ?_
    refine WO_guardF rfl rfl hb3.h ?_
    refine WO_guardF rfl rfl hb3.h ?_
    refine WO_guardF rfl rfl hb3.h ?_
    refine WO_guardF rfl rfl hb3.h ?_
    refine WO_guardF rfl rfl hb3.h ?_
    refine WO_guardF rfl rfl hb3.h ?_
    refine WO_guardF rfl rfl hb3.h ?_
    refine WO_p (PS_pickF rfl hb3.h rfl) ?_
    refine WO_p (PS_move_bool rfl) ?_
    refine WO_guardF rfl rfl rfl ?_
    refine WO_guardF rfl rfl rfl ?_
    refine WO_p (PS_pickF rfl rfl rfl) ?_
    refine WO_p (PS_move_bool rfl) ?_
    refine WO_guardF rfl rfl rfl ?_
    refine WO_guardF rfl rfl rfl ?_
    refine WO_guardF rfl rfl rfl ?_
    refine WO_guardF rfl rfl rfl ?_
    refine WO_guardF rfl rfl rfl ?_
    refine WO_guardF rfl rfl rfl ?_
    refine WO_p (PS_pickF rfl rfl rfl) ?_
    refine WO_p (PS_assign_bool rfl) ?_
    refine WO_nil ?_
    refine thn_normal ?_
    refine W_ret ?_
    refine bodyQ_ret1 Hvac.results245 rfl (.bool _) rfl ?_
    first
    | exact ⟨(by repeat (first | assumption | exact Ext.refl _ | refine Ext.alloc ?_ _ | refine Ext.drew ?_ | refine Ext.setB ?_ (by first | omega | (simp only [size_alloc, size_setB, size_drew]; omega)) _ | refine Ext.trans ?_ (by assumption))), congrArg Value.bool (ydest_out (by omega)).symm⟩
    | (refine ⟨(by repeat (first | assumption | exact Ext.refl _ | refine Ext.alloc ?_ _ | refine Ext.drew ?_ | refine Ext.setB ?_ (by first | omega | (simp only [size_alloc, size_setB, size_drew]; omega)) _ | refine Ext.trans ?_ (by assumption))), congrArg Value.bool ?_⟩
       rw [hds, scanW_bit hcb (by omega)]
       congr 1; omega)

end Go.Proofs.YgvacwGreat
