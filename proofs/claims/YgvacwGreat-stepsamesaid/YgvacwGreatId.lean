import Derived.Test.YgvacwGreatIc
namespace Go.Proofs.YgvacwGreat
set_option linter.unusedSimpArgs false
set_option linter.unusedVariables false
/-! what a transaction costs -/
def yzer (L : List Int) : Nat → Nat
  | 0 => 0
  | i + 1 => yzer L i + (if L.getD i 0 = 0 then 1 else 0)
theorem yzer_le (L : List Int) : ∀ i, yzer L i ≤ i
  | 0 => Nat.le_refl _
  | i + 1 => by have := yzer_le L i; unfold yzer; split <;> omega
def yia (t : Tx) : Nat → Nat
  | 0 => 21000 + 4 * yzer t.db t.db.length + 16 * (t.db.length - yzer t.db t.db.length)
  | i + 1 => yia t i + (2400 + 1900 * (t.al.getD i ⟨[], (none, 0, 0), []⟩).kl.length)
def yintr (t : Tx) : Nat := if t.create = true then yia t t.al.length + 32000 + 2 * ywords t.db.length else yia t t.al.length
theorem yzer_dgas (L : List Int) : ∀ i, dgas L i = 21000 + 4 * (yzer L i : Int) + 16 * ((i : Int) - (yzer L i : Int))
  | 0 => by simp [dgas, yzer]
  | i + 1 => by
    have := yzer_dgas L i
    unfold dgas yzer
    by_cases h : L.getD i 0 = 0
    · rw [if_neg (by simpa using h), if_pos h]; omega
    · rw [if_pos h, if_neg h]; omega
theorem yia_agas (t : Tx) : ∀ i, (yia t i : Int) = agas t i
  | 0 => by
    have := yzer_dgas t.db t.db.length
    have := yzer_le t.db t.db.length
    unfold yia agas
    omega
  | i + 1 => by
    have := yia_agas t i
    unfold yia agas
    omega
theorem yintr_eq (t : Tx) : (yintr t : Int) = intrW t := by
  have := yia_agas t t.al.length
  unfold yintr intrW
  split
  · unfold ywords; omega
  · exact this
theorem yia_bd {t : Tx} (hd : t.db.length ≤ 1024) (h : LOK t) {i : Nat} (hi : i ≤ t.al.length) : yia t i ≤ 1000000 := by
  have h1 := agas_bd hd h i hi
  have h2 := yia_agas t i
  have h3 := h.k i hi
  have h4 := h.a
  omega
theorem sz_yia {t : Tx} (hd : t.db.length ≤ 1024) (h : LOK t) {i : Nat} (hi : i ≤ t.al.length) : sz (yia t i) ≤ 8 := by
  have := yia_bd hd h hi
  exact sz64 (by omega)

set_option maxRecDepth 10000 in
theorem listOK_ex (bt : Nat) (t : Tx) (w : World) (hb : Hb w bt (.cells (encTx t).toArray 35 (0, 0))) (htx : TxOK w t) : Ret Hvac.prog 77 #[.pointer (some ⟨bt, 0, none⟩)] w fun u w' => Ext w w' ∧ ∃ q : Bool, u = .bool q ∧ (q = true ↔ LOK t) := by
  have hat := txAt htx
  have hac := hat.acY
  have hbl := hb.lt
  generalize hpst : t.acc.1 = pst at hac
  have hacl := htx.acY.len
  refine Ret_of_W Hvac.func77 rfl rfl ?_
  refine W_seq ?_
  refine W_region rfl ?_
  refine WO_p (PS_assign_bool rfl) ?_
  refine WO_nil ?_
  refine thn_normal ?_
  refine W_seq ?_
  refine W_seq ?_
  refine W_region rfl ?_
  refine WO_p (PS_move_ptr rfl) ?_
  refine WO_p (PS_nilCheck rfl) ?_
  refine WO_p (PS_fieldAddr 173 Hvac.runUnderlying35 rfl Hvac.sizeOf33 rfl rfl) ?_
  refine WO_load (.slice _ _ _) Hvac.isAgg33 rfl (Hb.h (by repeat (first | assumption | exact Hb.newY _ _ | refine Hb.alloc ?_ | refine Hb.drew ?_ | refine Hb.ext (by assumption) ?_ | exact Hb.setSameL (by first | omega | (simp only [size_alloc, size_setB, size_drew]; omega)) | exact Hb.setSame (by assumption) | refine Hb.set (by first | omega | (simp only [size_alloc, size_setB, size_drew]; omega)) ?_ ))) (Ce.h (by first | assumption | exact ⟨rfl⟩)) ?_
  refine WO_p (PS_lenS Hvac.runUnderlying33 rfl) ?_
  refine WO_p (PS_gtr rfl rfl) ?_
  refine WO_nil ?_
  refine thn_normal ?_
  refine W_if rfl (fun hb2 => ?_) (fun hb2 => ?_)
  · have hb2p := hb2.h; try simp only [al_ete, al_dfn, Bool.not_eq_true', Bool.not_eq_false', al_ne, Bool.not_not, al_nn] at hb2p
    refine W_seq ?_
    refine W_region rfl ?_
    refine WO_p (PS_assign_bool rfl) ?_
    refine WO_nil ?_
    refine thn_normal ?_
    refine W_ret ?_
    refine thn_ret ?_
    refine bodyQ_ret1 Hvac.results77 rfl (.bool _) rfl ?_
    exact ⟨(by repeat (first | assumption | exact Ext.refl _ | refine Ext.alloc ?_ _ | refine Ext.drew ?_ | refine Ext.setB ?_ (by first | omega | (simp only [size_alloc, size_setB, size_drew]; omega)) _ | exact Ext.trans (by assumption) (by assumption) | refine Ext.trans ?_ (by assumption))), false, rfl, fun h => (by cases h), fun h => absurd h.a (by omega)⟩
  · have hb2p := hb2.h; try simp only [al_ete, al_dfn, Bool.not_eq_true', Bool.not_eq_false', al_ne, Bool.not_not, al_nn] at hb2p
    refine W_skip ?_
    refine thn_normal ?_
    refine W_seq ?_
    refine W_region rfl ?_
    refine WO_p (PS_assign_int rfl) ?_
    refine WO_nil ?_
    refine thn_normal ?_
    refine W_seq ?_
    refine W_seq ?_
    refine W_region rfl ?_
    refine WO_p (PS_move_ptr rfl) ?_
    refine WO_p (PS_nilCheck rfl) ?_
    refine WO_p (PS_fieldAddr 173 Hvac.runUnderlying35 rfl Hvac.sizeOf33 rfl rfl) ?_
    refine WO_load (.slice _ _ _) Hvac.isAgg33 rfl (Hb.h (by repeat (first | assumption | exact Hb.newY _ _ | refine Hb.alloc ?_ | refine Hb.drew ?_ | refine Hb.ext (by assumption) ?_ | exact Hb.setSameL (by first | omega | (simp only [size_alloc, size_setB, size_drew]; omega)) | exact Hb.setSame (by assumption) | refine Hb.set (by first | omega | (simp only [size_alloc, size_setB, size_drew]; omega)) ?_ ))) (Ce.h (by first | assumption | exact ⟨rfl⟩)) ?_
    refine WO_p (PS_lenS Hvac.runUnderlying33 rfl) ?_
    refine WO_p (PS_move_int rfl) ?_
    refine WO_nil ?_
    refine thn_normal ?_
    refine W_block ?_
    refine W_loopN (fun k ρ w' => ∃ (i : Nat), i + k = t.al.length ∧ (∀ j, j ≤ i → ksum t.al j ≤ 64) ∧ Fr [(0, .pointer (some ⟨bt, 0, none⟩)), (3, .int .i64 (ksum t.al i)), (15, .slice pst t.acc.2.1 t.acc.2.2), (16, .int .i64 t.acc.2.1), (17, .int .i64 i)] ρ ∧ Ext w w') t.al.length ?_ ?_
    · exact ⟨0, by omega, (fun j hj => by obtain rfl : j = 0 := (by omega); exact Nat.zero_le _), ⟨rfl, rfl, rfl, rfl, rfl, trivial⟩, (by repeat (first | assumption | exact Ext.refl _ | refine Ext.alloc ?_ _ | refine Ext.drew ?_ | refine Ext.setB ?_ (by first | omega | (simp only [size_alloc, size_setB, size_drew]; omega)) _ | refine Ext.trans ?_ (by assumption)))⟩
    intro k ρ w2 hI2
    obtain ⟨i, hik, hgood, hFr, hE2⟩ := hI2
    refine W_env _ hFr ?_
    have hz2 := hE2.1
    have hgi := hgood i (Nat.le_refl _)
    refine W_seq ?_
    refine W_region rfl ?_
    refine WO_p (PS_lss rfl rfl) ?_
    refine WO_nil ?_
    refine thn_normal ?_
    refine W_seq ?_
    refine W_if rfl (fun hb4 => ?_) (fun hb4 => ?_)
    · have hb4p := hb4.h; try simp only [al_ete, al_dfn, Bool.not_eq_true', Bool.not_eq_false', al_ne, Bool.not_not, al_nn] at hb4p
      have hiz : i < t.al.length := by omega
      obtain ⟨x, hx⟩ : ∃ x, t.al[i]? = some x := ⟨_, List.getElem?_eq_getElem hiz⟩
      obtain ⟨bx, ox, rx, Tx_, fzx, hpx, hbx, hrlx⟩ := htx.acY.get hx
      rw [hpst] at hpx
      subst hpx
      have hxk := htx.ar x (List.mem_of_getElem? hx)
      have hxbd := hrlx.bd hx
      have hxw := hrlx.ext hx (k := 0) (n := 21) (by decide) (ax_whole hxk) (encAx_len hxk)
      have hel21 : (encAx x).toArray.size = 21 := by simpa using encAx_len hxk
      have hck := axKeys hxk
      have hkl := hxk.ks.len
      have hgx : t.al.getD i ⟨[], (none, 0, 0), []⟩ = x := getD_some hx
      have hks1 : ksum t.al (i + 1) = ksum t.al i + x.kl.length := by show ksum t.al i + (t.al.getD i ⟨[], (none, 0, 0), []⟩).kl.length = _; rw [hgx]
      have hbx2 := hbx.ext hE2
      refine W_skip ?_
      refine thn_normal ?_
      refine W_seq ?_
      refine W_block ?_
      refine W_seq ?_
      refine W_region rfl ?_
      refine WO_p (PS_indexS Hvac.runUnderlying33 Hvac.sizeOf117 rfl rfl (by omega) (by omega)) ?_
      refine WO_loadA _ Hvac.isAgg117 Hvac.sizeOf117 rfl (Hb.h (by repeat (first | assumption | exact Hb.newY _ _ | refine Hb.alloc ?_ | refine Hb.drew ?_ | refine Hb.ext (by assumption) ?_ | exact Hb.setSameL (by first | omega | (simp only [size_alloc, size_setB, size_drew]; omega)) | exact Hb.setSame (by assumption) | refine Hb.set (by first | omega | (simp only [size_alloc, size_setB, size_drew]; omega)) ?_ ))) (by first | omega | assumption | rfl | decide | exact Nat.le_refl _ | (simp only [size_ic, Value.cells]; omega) | (simp; omega) | simp) (Xt.h (by first | assumption | exact Xt.whole rfl rfl | exact Xt.whole rfl (by assumption) | exact Xt.whole rfl (by simp only [size_ic, Value.cells]; omega) | exact ⟨rfl⟩)) ?_
      refine WO_allocG Hvac.zeroValue117 ?_
      intro b5 v5 hg5 hE5 hH5 hl5
      try simp only [size_alloc, size_setB, size_drew] at hg5
      have hzz5 := hE5.1
      try simp only [size_alloc, size_setB, size_drew] at hzz5
      refine WO_storeW Hvac.sizeOf117 rfl (v := .agg (encAx x).toArray) rfl hH5.h rfl hel21 (by rfl) (one_encAx x) ?_
      refine WO_nil ?_
      refine thn_normal ?_
      refine W_seq ?_
      refine W_seq ?_
      refine W_region rfl ?_
      refine WO_p (PS_fieldAddr 20 Hvac.runUnderlying117 rfl Hvac.sizeOf29 rfl rfl) ?_
      refine WO_load (.slice _ _ _) Hvac.isAgg29 rfl (Hb.h (by repeat (first | assumption | exact Hb.newY _ _ | refine Hb.alloc ?_ | refine Hb.drew ?_ | refine Hb.ext (by assumption) ?_ | exact Hb.setSameL (by first | omega | (simp only [size_alloc, size_setB, size_drew]; omega)) | exact Hb.setSame (by assumption) | refine Hb.set (by first | omega | (simp only [size_alloc, size_setB, size_drew]; omega)) ?_ ))) (Ce.h (by first | assumption | exact ⟨rfl⟩)) ?_
      refine WO_p (PS_lenS Hvac.runUnderlying29 rfl) ?_
      refine WO_p (PS_move_int rfl) ?_
      refine WO_p (PS_sub_i64n rfl rfl (by omega) (by omega)) ?_
      refine WO_p (PS_gtr rfl rfl) ?_
      refine WO_nil ?_
      refine thn_normal ?_
      refine W_if rfl (fun hb6 => ?_) (fun hb6 => ?_)
      · have hb6p := hb6.h; try simp only [al_ete, al_dfn, Bool.not_eq_true', Bool.not_eq_false', al_ne, Bool.not_not, al_nn] at hb6p
        have hbad : ¬ LOK t := fun h => absurd (h.k (i + 1) (by omega)) (by omega)
        refine W_seq ?_
        refine W_region rfl ?_
        refine WO_p (PS_assign_bool rfl) ?_
        refine WO_nil ?_
        refine thn_normal ?_
        refine W_ret ?_
        refine thn_ret ?_
        refine inBlk_ret ?_
        refine thn_ret ?_
        refine thn_ret ?_
        refine inBlk_ret ?_
        refine thn_ret ?_
        refine bodyQ_ret1 Hvac.results77 rfl (.bool _) rfl ?_
        exact ⟨(by repeat (first | assumption | exact Ext.refl _ | refine Ext.alloc ?_ _ | refine Ext.drew ?_ | refine Ext.setB ?_ (by first | omega | (simp only [size_alloc, size_setB, size_drew]; omega)) _ | exact Ext.trans (by assumption) (by assumption) | refine Ext.trans ?_ (by assumption))), false, rfl, fun h => (by cases h), fun h => absurd h hbad⟩
      · have hb6p := hb6.h; try simp only [al_ete, al_dfn, Bool.not_eq_true', Bool.not_eq_false', al_ne, Bool.not_not, al_nn] at hb6p
        have hok2 : ksum t.al (i + 1) ≤ 64 := by omega
        refine W_skip ?_
        refine thn_normal ?_
        refine W_region rfl ?_
        refine WO_p (PS_move_int rfl) ?_
        refine WO_p (PS_fieldAddr 20 Hvac.runUnderlying117 rfl Hvac.sizeOf29 rfl rfl) ?_
        refine WO_load (.slice _ _ _) Hvac.isAgg29 rfl (Hb.h (by repeat (first | assumption | exact Hb.newY _ _ | refine Hb.alloc ?_ | refine Hb.drew ?_ | refine Hb.ext (by assumption) ?_ | exact Hb.setSameL (by first | omega | (simp only [size_alloc, size_setB, size_drew]; omega)) | exact Hb.setSame (by assumption) | refine Hb.set (by first | omega | (simp only [size_alloc, size_setB, size_drew]; omega)) ?_ ))) (Ce.h (by first | assumption | exact ⟨rfl⟩)) ?_
        refine WO_p (PS_lenS Hvac.runUnderlying29 rfl) ?_
        refine WO_p (PS_add_i64n rfl rfl (by omega) (by omega)) ?_
        refine WO_p (PS_assign_int rfl) ?_
        refine WO_nil ?_
        refine inBlk_normal ?_
        refine thn_normal ?_
        refine W_region rfl ?_
        refine WO_p (PS_add_i64n rfl rfl (by omega) (by omega)) ?_
        refine WO_p (PS_move_int rfl) ?_
        refine WO_nil ?_
        refine thn_normal ?_
        exact ⟨k - 1, by omega, i + 1, by omega, (fun j hj => by rcases Nat.lt_or_ge j (i + 1) with h | h; exact hgood j (by omega); obtain rfl : j = i + 1 := (by omega); exact hok2), ⟨rfl, congrArg (Value.int .i64) (by omega), rfl, rfl, congrArg (Value.int .i64) (by omega), trivial⟩, (by repeat (first | assumption | exact Ext.refl _ | refine Ext.alloc ?_ _ | refine Ext.drew ?_ | refine Ext.setB ?_ (by first | omega | (simp only [size_alloc, size_setB, size_drew]; omega)) _ | refine Ext.trans ?_ (by assumption)))⟩
    · have hb4p := hb4.h; try simp only [al_ete, al_dfn, Bool.not_eq_true', Bool.not_eq_false', al_ne, Bool.not_not, al_nn] at hb4p
      refine W_exit ?_
      refine thn_exit ?_
      refine thn_exit ?_
      refine inBlk_exit ?_
      refine thn_normal ?_
      refine W_seq ?_
      refine W_region rfl ?_
      refine WO_p (PS_assign_bool rfl) ?_
      refine WO_nil ?_
      refine thn_normal ?_
      refine W_ret ?_
      refine bodyQ_ret1 Hvac.results77 rfl (.bool _) rfl ?_
      exact ⟨(by repeat (first | assumption | exact Ext.refl _ | refine Ext.alloc ?_ _ | refine Ext.drew ?_ | refine Ext.setB ?_ (by first | omega | (simp only [size_alloc, size_setB, size_drew]; omega)) _ | exact Ext.trans (by assumption) (by assumption) | refine Ext.trans ?_ (by assumption))), true, rfl, fun _ => ⟨by omega, fun j hj => hgood j (by omega)⟩, fun _ => rfl⟩

set_option maxRecDepth 10000 in
set_option maxHeartbeats 4000000 in
theorem yIntrinsic_spec [Om] (w : World) (hO : OmB w) (t : Tx) (htx : TxOK w t) (hd : t.db.length ≤ 1024) (hl : LOK t) : Ret Hvac.prog 21 #[.agg (encTx t).toArray] w fun u w' => Ext w w' ∧ ∃ s' : SV, u = .slice s'.1 s'.2.1 s'.2.2 ∧ NN w' s' (yintr t) := by
  have hat := txAt htx
  have hac := hat.acY
  have hda := hat.da
  have hcr := hat.cr
  have htl := encTx_len htx
  generalize hpst : t.acc.1 = pst at hac
  generalize hpdt : t.data.1 = pdt at hda
  have hacl := htx.acY.len
  have hdal := htx.da.len
  have hl16 := hl.a
  have hzl := yzer_le t.db t.db.length
  refine Ret_of_W Hvac.func21 rfl rfl ?_
  refine W_seq ?_
  refine W_region rfl ?_
  refine WO_boxG (.agg _) rfl ?_
  intro b1 v1 hg1 hE1 hH1 hl1
  try simp only [size_alloc, size_setB, size_drew] at hg1
  have hzz1 := hE1.1
  try simp only [size_alloc, size_setB, size_drew] at hzz1
  refine WO_p (PS_assign_slice rfl) ?_
  refine WO_nil ?_
  refine thn_normal ?_
  refine W_seq ?_
  refine W_region rfl ?_
  refine WO_call Hvac.call19 (by rfl) (Ret.mono (nNum_spec (OmB.ext hO (by repeat (first | assumption | exact Ext.refl _ | refine Ext.alloc ?_ _ | refine Ext.drew ?_ | refine Ext.setB ?_ (by first | omega | (simp only [size_alloc, size_setB, size_drew]; omega)) _ | exact Ext.trans (by assumption) (by assumption) | refine Ext.trans ?_ (by assumption)))) ⟨by omega, by omega⟩) ?_)
  rintro _ w19_0 ⟨hE19_0, s19_0, rfl, hN19_0, hs19_0⟩
  have hz19_0 := hE19_0.1
  try simp only [size_alloc, size_setB, size_drew] at hz19_0
  try simp only [Int.toNat_natCast, toNat_lit] at hN19_0 hs19_0
  refine WO_p (PS_assign_slice rfl) ?_
  refine WO_nil ?_
  refine thn_normal ?_
  refine W_seq ?_
  refine W_region rfl ?_
  refine WO_p (PS_assign_int rfl) ?_
  refine WO_nil ?_
  refine thn_normal ?_
  refine W_seq ?_
  refine W_seq ?_
  refine W_region rfl ?_
  refine WO_p (PS_fieldAddr 107 Hvac.runUnderlying35 rfl Hvac.sizeOf32 rfl rfl) ?_
  refine WO_load (.slice _ _ _) Hvac.isAgg32 rfl (Hb.h (by repeat (first | assumption | exact Hb.newY _ _ | refine Hb.alloc ?_ | refine Hb.drew ?_ | refine Hb.ext (by assumption) ?_ | exact Hb.setSameL (by first | omega | (simp only [size_alloc, size_setB, size_drew]; omega)) | exact Hb.setSame (by assumption) | refine Hb.set (by first | omega | (simp only [size_alloc, size_setB, size_drew]; omega)) ?_ ))) (Ce.h (by first | assumption | exact ⟨rfl⟩)) ?_
  refine WO_p (PS_lenS Hvac.runUnderlying32 rfl) ?_
  refine WO_p (PS_move_int rfl) ?_
  refine WO_nil ?_
  refine thn_normal ?_
  refine W_block ?_
  refine W_loopN (fun k ρ w' => ∃ (i : Nat), i + k = t.db.length ∧ Fr [(1, .pointer (some ⟨b1, 0, none⟩)), (3, .slice s19_0.1 s19_0.2.1 s19_0.2.2), (4, .int .u64 (yzer t.db i)), (11, .slice pdt t.data.2.1 t.data.2.2), (12, .int .i64 t.data.2.1), (13, .int .i64 i)] ρ ∧ Ext w w' ∧ Ext w19_0 w' ∧ Hb w' b1 (.cells (encTx t).toArray 35 (0, 0))) t.db.length ?_ ?_
  · exact ⟨0, by omega, ⟨rfl, rfl, rfl, rfl, rfl, rfl, trivial⟩, (by repeat (first | assumption | exact Ext.refl _ | refine Ext.alloc ?_ _ | refine Ext.drew ?_ | refine Ext.setB ?_ (by first | omega | (simp only [size_alloc, size_setB, size_drew]; omega)) _ | refine Ext.trans ?_ (by assumption))), Ext.refl _, Hb.mk (Hb.h (by repeat (first | assumption | exact Hb.newY _ _ | refine Hb.alloc ?_ | refine Hb.drew ?_ | refine Hb.ext (by assumption) ?_ | exact Hb.setSameL (by first | omega | (simp only [size_alloc, size_setB, size_drew]; omega)) | exact Hb.setSame (by assumption) | refine Hb.set (by first | omega | (simp only [size_alloc, size_setB, size_drew]; omega)) ?_ )))⟩
  intro k ρ w2 hI2
  obtain ⟨i, hik, hFr, hE2, hE29, hb1⟩ := hI2
  refine W_env _ hFr ?_
  have hz2 := hE2.1
  have hn2 := hN19_0.ext hE29
  have hzi := yzer_le t.db i
  have hlb1 := hb1.lt
  refine W_seq ?_
  refine W_region rfl ?_
  refine WO_p (PS_lss rfl rfl) ?_
  refine WO_nil ?_
  refine thn_normal ?_
  refine W_seq ?_
  refine W_if rfl (fun hb3 => ?_) (fun hb3 => ?_)
  · have hb3p := hb3.h; try simp only [al_ete, al_dfn, Bool.not_eq_true', Bool.not_eq_false', al_ne, Bool.not_not, al_nn] at hb3p
    obtain ⟨bd, od, rd, Td, fzd, hpd, hbd, hod, hxd⟩ := (htx.da.sc (by omega)).2.resolve_left (fun h => by omega)
    rw [hpdt] at hpd
    subst hpd
    have hdl := hbd.ext hE2
    have hce : Ce rd (od + i * 1) (.int .u8 (t.db.getD i 0)) := xt_ce hxd (by omega) (by omega)
    have hds : yzer t.db (i + 1) = yzer t.db i + (if t.db.getD i 0 = 0 then 1 else 0) := rfl
    refine W_skip ?_
    refine thn_normal ?_
    refine W_seq ?_
    refine W_block ?_
    refine W_seq ?_
    refine W_region rfl ?_
    refine WO_p (PS_indexS Hvac.runUnderlying32 Hvac.sizeOf5 rfl rfl (by omega) (by omega)) ?_
    refine WO_load (.int _ _) Hvac.isAgg5 rfl (Hb.h (by repeat (first | assumption | exact Hb.newY _ _ | refine Hb.alloc ?_ | refine Hb.drew ?_ | refine Hb.ext (by assumption) ?_ | exact Hb.setSameL (by first | omega | (simp only [size_alloc, size_setB, size_drew]; omega)) | exact Hb.setSame (by assumption) | refine Hb.set (by first | omega | (simp only [size_alloc, size_setB, size_drew]; omega)) ?_ ))) (Ce.h (by first | assumption | exact ⟨rfl⟩)) ?_
    refine WO_p (PS_assign_int rfl) ?_
    refine WO_nil ?_
    refine thn_normal ?_
    refine W_seq ?_
    refine W_region rfl ?_
    refine WO_p (PS_move_int rfl) ?_
    refine WO_p (PS_eql rfl rfl) ?_
    refine WO_nil ?_
    refine thn_normal ?_
    refine W_if rfl (fun hb5 => ?_) (fun hb5 => ?_)
    · have hb5p := hb5.h; try simp only [al_ete, al_dfn, Bool.not_eq_true', Bool.not_eq_false', al_ne, Bool.not_not, al_nn] at hb5p
      rw [if_pos hb5p] at hds
      refine W_region rfl ?_
      refine WO_p (PS_move_int rfl) ?_
      refine WO_p (PS_add_u64n rfl rfl (by omega) (by omega)) ?_
      refine WO_p (PS_assign_int rfl) ?_
      refine WO_nil ?_
      refine inBlk_normal ?_
      refine thn_normal ?_
      refine W_region rfl ?_
      refine WO_p (PS_add_i64n rfl rfl (by omega) (by omega)) ?_
      refine WO_p (PS_move_int rfl) ?_
      refine WO_nil ?_
      refine thn_normal ?_
      exact ⟨k - 1, by omega, i + 1, by omega, ⟨rfl, rfl, congrArg (Value.int .u64) (by omega), rfl, rfl, congrArg (Value.int .i64) (by omega), trivial⟩, (by repeat (first | assumption | exact Ext.refl _ | refine Ext.alloc ?_ _ | refine Ext.drew ?_ | refine Ext.setB ?_ (by first | omega | (simp only [size_alloc, size_setB, size_drew]; omega)) _ | refine Ext.trans ?_ (by assumption))), (by repeat (first | assumption | exact Ext.refl _ | refine Ext.alloc ?_ _ | refine Ext.drew ?_ | refine Ext.setB ?_ (by first | omega | (simp only [size_alloc, size_setB, size_drew]; omega)) _ | refine Ext.trans ?_ (by assumption))), Hb.mk (Hb.h (by repeat (first | assumption | exact Hb.newY _ _ | refine Hb.alloc ?_ | refine Hb.drew ?_ | refine Hb.ext (by assumption) ?_ | exact Hb.setSameL (by first | omega | (simp only [size_alloc, size_setB, size_drew]; omega)) | exact Hb.setSame (by assumption) | refine Hb.set (by first | omega | (simp only [size_alloc, size_setB, size_drew]; omega)) ?_ )))⟩
    · have hb5p := hb5.h; try simp only [al_ete, al_dfn, Bool.not_eq_true', Bool.not_eq_false', al_ne, Bool.not_not, al_nn] at hb5p
      rw [if_neg hb5p] at hds
      refine W_skip ?_
      refine inBlk_normal ?_
      refine thn_normal ?_
      refine W_region rfl ?_
      refine WO_p (PS_add_i64n rfl rfl (by omega) (by omega)) ?_
      refine WO_p (PS_move_int rfl) ?_
      refine WO_nil ?_
      refine thn_normal ?_
      exact ⟨k - 1, by omega, i + 1, by omega, ⟨rfl, rfl, congrArg (Value.int .u64) (by omega), rfl, rfl, congrArg (Value.int .i64) (by omega), trivial⟩, (by repeat (first | assumption | exact Ext.refl _ | refine Ext.alloc ?_ _ | refine Ext.drew ?_ | refine Ext.setB ?_ (by first | omega | (simp only [size_alloc, size_setB, size_drew]; omega)) _ | refine Ext.trans ?_ (by assumption))), (by repeat (first | assumption | exact Ext.refl _ | refine Ext.alloc ?_ _ | refine Ext.drew ?_ | refine Ext.setB ?_ (by first | omega | (simp only [size_alloc, size_setB, size_drew]; omega)) _ | refine Ext.trans ?_ (by assumption))), Hb.mk (Hb.h (by repeat (first | assumption | exact Hb.newY _ _ | refine Hb.alloc ?_ | refine Hb.drew ?_ | refine Hb.ext (by assumption) ?_ | exact Hb.setSameL (by first | omega | (simp only [size_alloc, size_setB, size_drew]; omega)) | exact Hb.setSame (by assumption) | refine Hb.set (by first | omega | (simp only [size_alloc, size_setB, size_drew]; omega)) ?_ )))⟩
  · have hb3p := hb3.h; try simp only [al_ete, al_dfn, Bool.not_eq_true', Bool.not_eq_false', al_ne, Bool.not_not, al_nn] at hb3p
    refine W_exit ?_
    refine thn_exit ?_
    refine thn_exit ?_
    refine inBlk_exit ?_
    refine thn_normal ?_
    refine W_seq ?_
    have hi1 : i = t.db.length := by omega
    subst hi1
    refine W_region rfl ?_
    refine WO_p (PS_move_slice rfl) ?_
    refine WO_call Hvac.call19 (by rfl) (Ret.mono (nNum_spec (OmB.ext hO (by repeat (first | assumption | exact Ext.refl _ | refine Ext.alloc ?_ _ | refine Ext.drew ?_ | refine Ext.setB ?_ (by first | omega | (simp only [size_alloc, size_setB, size_drew]; omega)) _ | exact Ext.trans (by assumption) (by assumption) | refine Ext.trans ?_ (by assumption)))) ⟨by omega, by omega⟩) ?_)
    rintro _ w19_5 ⟨hE19_5, s19_5, rfl, hN19_5, hs19_5⟩
    have hz19_5 := hE19_5.1
    try simp only [size_alloc, size_setB, size_drew] at hz19_5
    try simp only [Int.toNat_natCast, toNat_lit] at hN19_5 hs19_5
    refine WO_p (PS_move_int rfl) ?_
    refine WO_call Hvac.call19 (by rfl) (Ret.mono (nNum_spec (OmB.ext hO (by repeat (first | assumption | exact Ext.refl _ | refine Ext.alloc ?_ _ | refine Ext.drew ?_ | refine Ext.setB ?_ (by first | omega | (simp only [size_alloc, size_setB, size_drew]; omega)) _ | exact Ext.trans (by assumption) (by assumption) | refine Ext.trans ?_ (by assumption)))) ⟨by omega, by omega⟩) ?_)
    rintro _ w19_6 ⟨hE19_6, s19_6, rfl, hN19_6, hs19_6⟩
    have hz19_6 := hE19_6.1
    try simp only [size_alloc, size_setB, size_drew] at hz19_6
    try simp only [Int.toNat_natCast, toNat_lit] at hN19_6 hs19_6
    refine WO_call Hvac.call26 (by rfl) (Ret.mono (nMul_spec (OmB.ext hO (by repeat (first | assumption | exact Ext.refl _ | refine Ext.alloc ?_ _ | refine Ext.drew ?_ | refine Ext.setB ?_ (by first | omega | (simp only [size_alloc, size_setB, size_drew]; omega)) _ | exact Ext.trans (by assumption) (by assumption) | refine Ext.trans ?_ (by assumption)))) (by first | exact NN.nil _ | assumption | exact NN.ext (by assumption) (by repeat (first | assumption | exact Ext.refl _ | refine Ext.alloc ?_ _ | refine Ext.drew ?_ | refine Ext.setB ?_ (by first | omega | (simp only [size_alloc, size_setB, size_drew]; omega)) _ | exact Ext.trans (by assumption) (by assumption) | refine Ext.trans ?_ (by assumption)))) (by first | exact NN.nil _ | assumption | exact NN.ext (by assumption) (by repeat (first | assumption | exact Ext.refl _ | refine Ext.alloc ?_ _ | refine Ext.drew ?_ | refine Ext.setB ?_ (by first | omega | (simp only [size_alloc, size_setB, size_drew]; omega)) _ | exact Ext.trans (by assumption) (by assumption) | refine Ext.trans ?_ (by assumption)))) (by first | assumption | omega | (rw [sz_zero]; omega)) (by first | assumption | omega | (rw [sz_zero]; omega))) ?_)
    rintro _ w26_7 ⟨hE26_7, s26_7, rfl, hN26_7⟩
    have hz26_7 := hE26_7.1
    try simp only [size_alloc, size_setB, size_drew] at hz26_7
    have hs26_7 := hN26_7.z_mul
    refine WO_call Hvac.call24 (by rfl) (Ret.mono (nAdd_spec (OmB.ext hO (by repeat (first | assumption | exact Ext.refl _ | refine Ext.alloc ?_ _ | refine Ext.drew ?_ | refine Ext.setB ?_ (by first | omega | (simp only [size_alloc, size_setB, size_drew]; omega)) _ | exact Ext.trans (by assumption) (by assumption) | refine Ext.trans ?_ (by assumption)))) (by first | exact NN.nil _ | assumption | exact NN.ext (by assumption) (by repeat (first | assumption | exact Ext.refl _ | refine Ext.alloc ?_ _ | refine Ext.drew ?_ | refine Ext.setB ?_ (by first | omega | (simp only [size_alloc, size_setB, size_drew]; omega)) _ | exact Ext.trans (by assumption) (by assumption) | refine Ext.trans ?_ (by assumption)))) (by first | exact NN.nil _ | assumption | exact NN.ext (by assumption) (by repeat (first | assumption | exact Ext.refl _ | refine Ext.alloc ?_ _ | refine Ext.drew ?_ | refine Ext.setB ?_ (by first | omega | (simp only [size_alloc, size_setB, size_drew]; omega)) _ | exact Ext.trans (by assumption) (by assumption) | refine Ext.trans ?_ (by assumption)))) (by first | assumption | omega | (rw [sz_zero]; omega)) (by first | assumption | omega | (rw [sz_zero]; omega))) ?_)
    rintro _ w24_8 ⟨hE24_8, s24_8, rfl, hN24_8⟩
    have hz24_8 := hE24_8.1
    try simp only [size_alloc, size_setB, size_drew] at hz24_8
    have hs24_8 := hN24_8.z_add
    refine WO_p (PS_assign_slice rfl) ?_
    refine WO_nil ?_
    refine thn_normal ?_
    refine W_seq ?_
    refine W_drawE [false, true, false, false, false, false, false, false, false, false, false, false] hmix (by kernel_rfl) rfl ?_
    refine WH_p (PS_move_slice rfl) rfl ?_
    refine WH_call Hvac.call19 (by rfl) (Ret.mono (nNum_spec (OmB.ext hO (by repeat (first | assumption | exact Ext.refl _ | refine Ext.alloc ?_ _ | refine Ext.drew ?_ | refine Ext.setB ?_ (by first | omega | (simp only [size_alloc, size_setB, size_drew]; omega)) _ | exact Ext.trans (by assumption) (by assumption) | refine Ext.trans ?_ (by assumption)))) ⟨by omega, by omega⟩) ?_)
    rintro _ w19_9 ⟨hE19_9, s19_9, rfl, hN19_9, hs19_9⟩
    refine ⟨fun _ => (by repeat (first | assumption | exact Ext.refl _ | refine Ext.alloc ?_ _ | refine Ext.drew ?_ | refine Ext.setB ?_ (by first | omega | (simp only [size_alloc, size_setB, size_drew]; omega)) _ | exact Ext.trans (by assumption) (by assumption) | refine Ext.trans ?_ (by assumption))), ?_⟩
    have hz19_9 := hE19_9.1
    try simp only [size_alloc, size_setB, size_drew] at hz19_9
    try simp only [Int.toNat_natCast, toNat_lit] at hN19_9 hs19_9
    refine WH_p (PS_fieldAddr 107 Hvac.runUnderlying35 rfl Hvac.sizeOf32 rfl rfl) rfl ?_
    refine WH_load (.slice _ _ _) Hvac.isAgg32 rfl (Hb.h (by repeat (first | assumption | exact Hb.newY _ _ | refine Hb.alloc ?_ | refine Hb.drew ?_ | refine Hb.ext (by assumption) ?_ | exact Hb.setSameL (by first | omega | (simp only [size_alloc, size_setB, size_drew]; omega)) | exact Hb.setSame (by assumption) | refine Hb.set (by first | omega | (simp only [size_alloc, size_setB, size_drew]; omega)) ?_ ))) (Ce.h (by first | assumption | exact ⟨rfl⟩)) ?_
    refine WH_p (PS_lenS Hvac.runUnderlying32 rfl) rfl ?_
    refine WH_p (PS_conv_u64n Hvac.runUnderlying3 Hvac.runUnderlying26 rfl (by omega) (by omega)) rfl ?_
    refine WH_p (PS_move_int rfl) rfl ?_
    refine WH_p (PS_sub_u64n rfl rfl (by omega) (by omega)) rfl ?_
    refine WH_call Hvac.call19 (by rfl) (Ret.mono (nNum_spec (OmB.ext hO (by repeat (first | assumption | exact Ext.refl _ | refine Ext.alloc ?_ _ | refine Ext.drew ?_ | refine Ext.setB ?_ (by first | omega | (simp only [size_alloc, size_setB, size_drew]; omega)) _ | exact Ext.trans (by assumption) (by assumption) | refine Ext.trans ?_ (by assumption)))) ⟨by omega, by omega⟩) ?_)
    rintro _ w19_10 ⟨hE19_10, s19_10, rfl, hN19_10, hs19_10⟩
    refine ⟨(fun h => by cases h), ?_⟩
    have hz19_10 := hE19_10.1
    try simp only [size_alloc, size_setB, size_drew] at hz19_10
    try simp only [Int.toNat_natCast, toNat_lit] at hN19_10 hs19_10
    refine WH_call Hvac.call26 (by rfl) (Ret.mono (nMul_spec (OmB.ext hO (by repeat (first | assumption | exact Ext.refl _ | refine Ext.alloc ?_ _ | refine Ext.drew ?_ | refine Ext.setB ?_ (by first | omega | (simp only [size_alloc, size_setB, size_drew]; omega)) _ | exact Ext.trans (by assumption) (by assumption) | refine Ext.trans ?_ (by assumption)))) (by first | exact NN.nil _ | assumption | exact NN.ext (by assumption) (by repeat (first | assumption | exact Ext.refl _ | refine Ext.alloc ?_ _ | refine Ext.drew ?_ | refine Ext.setB ?_ (by first | omega | (simp only [size_alloc, size_setB, size_drew]; omega)) _ | exact Ext.trans (by assumption) (by assumption) | refine Ext.trans ?_ (by assumption)))) (by first | exact NN.nil _ | assumption | exact NN.ext (by assumption) (by repeat (first | assumption | exact Ext.refl _ | refine Ext.alloc ?_ _ | refine Ext.drew ?_ | refine Ext.setB ?_ (by first | omega | (simp only [size_alloc, size_setB, size_drew]; omega)) _ | exact Ext.trans (by assumption) (by assumption) | refine Ext.trans ?_ (by assumption)))) (by first | assumption | omega | (rw [sz_zero]; omega)) (by first | assumption | omega | (rw [sz_zero]; omega))) ?_)
    rintro _ w26_11 ⟨hE26_11, s26_11, rfl, hN26_11⟩
    refine ⟨(fun h => by cases h), ?_⟩
    have hz26_11 := hE26_11.1
    try simp only [size_alloc, size_setB, size_drew] at hz26_11
    have hs26_11 := hN26_11.z_mul
    refine WH_call Hvac.call24 (by rfl) (Ret.mono (nAdd_spec (OmB.ext hO (by repeat (first | assumption | exact Ext.refl _ | refine Ext.alloc ?_ _ | refine Ext.drew ?_ | refine Ext.setB ?_ (by first | omega | (simp only [size_alloc, size_setB, size_drew]; omega)) _ | exact Ext.trans (by assumption) (by assumption) | refine Ext.trans ?_ (by assumption)))) (by first | exact NN.nil _ | assumption | exact NN.ext (by assumption) (by repeat (first | assumption | exact Ext.refl _ | refine Ext.alloc ?_ _ | refine Ext.drew ?_ | refine Ext.setB ?_ (by first | omega | (simp only [size_alloc, size_setB, size_drew]; omega)) _ | exact Ext.trans (by assumption) (by assumption) | refine Ext.trans ?_ (by assumption)))) (by first | exact NN.nil _ | assumption | exact NN.ext (by assumption) (by repeat (first | assumption | exact Ext.refl _ | refine Ext.alloc ?_ _ | refine Ext.drew ?_ | refine Ext.setB ?_ (by first | omega | (simp only [size_alloc, size_setB, size_drew]; omega)) _ | exact Ext.trans (by assumption) (by assumption) | refine Ext.trans ?_ (by assumption)))) (by first | assumption | omega | (rw [sz_zero]; omega)) (by first | assumption | omega | (rw [sz_zero]; omega))) ?_)
    rintro _ w24_12 ⟨hE24_12, s24_12, rfl, hN24_12⟩
    refine ⟨(fun h => by cases h), ?_⟩
    have hz24_12 := hE24_12.1
    try simp only [size_alloc, size_setB, size_drew] at hz24_12
    have hs24_12 := hN24_12.z_add
    refine WH_p (PS_assign_slice rfl) rfl ?_
    refine WH_nil ?_
    refine thn_normal ?_
    refine W_seq ?_
    refine W_seq ?_
    refine W_region rfl ?_
    refine WO_p (PS_fieldAddr 173 Hvac.runUnderlying35 rfl Hvac.sizeOf33 rfl rfl) ?_
    refine WO_load (.slice _ _ _) Hvac.isAgg33 rfl (Hb.h (by repeat (first | assumption | exact Hb.newY _ _ | refine Hb.alloc ?_ | refine Hb.drew ?_ | refine Hb.ext (by assumption) ?_ | exact Hb.setSameL (by first | omega | (simp only [size_alloc, size_setB, size_drew]; omega)) | exact Hb.setSame (by assumption) | refine Hb.set (by first | omega | (simp only [size_alloc, size_setB, size_drew]; omega)) ?_ ))) (Ce.h (by first | assumption | exact ⟨rfl⟩)) ?_
    refine WO_p (PS_lenS Hvac.runUnderlying33 rfl) ?_
    refine WO_p (PS_move_int rfl) ?_
    refine WO_nil ?_
    refine thn_normal ?_
    refine W_block ?_
    have hn38 : NN w24_12 s24_12 (yia t 0) := NN.castY hN24_12 (by show _ = 21000 + 4 * yzer t.db t.db.length + 16 * (t.db.length - yzer t.db t.db.length); (try simp only [show Int.toNat 2 = 2 from rfl, show Int.toNat 4 = 4 from rfl, show Int.toNat 16 = 16 from rfl, show Int.toNat 1900 = 1900 from rfl, show Int.toNat 2400 = 2400 from rfl, show Int.toNat 21000 = 21000 from rfl, show Int.toNat 32000 = 32000 from rfl]); omega)
    refine W_loopN (fun k ρ w' => ∃ (i : Nat) (s : SV), i + k = t.al.length ∧ NN w' s (yia t i) ∧ Fr [(1, .pointer (some ⟨b1, 0, none⟩)), (3, .slice s.1 s.2.1 s.2.2), (40, .slice pst t.acc.2.1 t.acc.2.2), (41, .int .i64 t.acc.2.1), (42, .int .i64 i)] ρ ∧ Ext w w' ∧ Hb w' b1 (.cells (encTx t).toArray 35 (0, 0))) t.al.length ?_ ?_
    · exact ⟨0, s24_12, by omega, hn38, ⟨rfl, rfl, rfl, rfl, rfl, trivial⟩, (by repeat (first | assumption | exact Ext.refl _ | refine Ext.alloc ?_ _ | refine Ext.drew ?_ | refine Ext.setB ?_ (by first | omega | (simp only [size_alloc, size_setB, size_drew]; omega)) _ | refine Ext.trans ?_ (by assumption))), Hb.mk (Hb.h (by repeat (first | assumption | exact Hb.newY _ _ | refine Hb.alloc ?_ | refine Hb.drew ?_ | refine Hb.ext (by assumption) ?_ | exact Hb.setSameL (by first | omega | (simp only [size_alloc, size_setB, size_drew]; omega)) | exact Hb.setSame (by assumption) | refine Hb.set (by first | omega | (simp only [size_alloc, size_setB, size_drew]; omega)) ?_ )))⟩
    intro kx ρx wx hIx
    obtain ⟨i, sx, hix, hnx, hFx, hEx, hbx1⟩ := hIx
    refine W_env _ hFx ?_
    have hzx := hEx.1
    have hlbx1 := hbx1.lt
    have hszx : sz (yia t i) ≤ 8 := sz_yia hd hl (by omega)
    refine W_seq ?_
    refine W_region rfl ?_
    refine WO_p (PS_lss rfl rfl) ?_
    refine WO_nil ?_
    refine thn_normal ?_
    refine W_seq ?_
    refine W_if rfl (fun hb15 => ?_) (fun hb15 => ?_)
    · have hb15p := hb15.h; try simp only [al_ete, al_dfn, Bool.not_eq_true', Bool.not_eq_false', al_ne, Bool.not_not, al_nn] at hb15p
      have hiz : i < t.al.length := by omega
      obtain ⟨x, hx⟩ : ∃ x, t.al[i]? = some x := ⟨_, List.getElem?_eq_getElem hiz⟩
      obtain ⟨bx, ox, rx, Tx_, fzx, hpx, hbx, hrlx⟩ := htx.acY.get hx
      rw [hpst] at hpx
      subst hpx
      have hxk := htx.ar x (List.mem_of_getElem? hx)
      have hxbd := hrlx.bd hx
      have hxw := hrlx.ext hx (k := 0) (n := 21) (by decide) (ax_whole hxk) (encAx_len hxk)
      have hel21 : (encAx x).toArray.size = 21 := by simpa using encAx_len hxk
      have hck := axKeys hxk
      have hkl := hxk.ks.len
      have hgx : t.al.getD i ⟨[], (none, 0, 0), []⟩ = x := getD_some hx
      have hks1 : ksum t.al (i + 1) = ksum t.al i + x.kl.length := by show ksum t.al i + (t.al.getD i ⟨[], (none, 0, 0), []⟩).kl.length = _; rw [hgx]
      have hbx2 := hbx.ext hEx
      have hk64 := hl.k (i + 1) (by omega)
      have has : yia t (i + 1) = yia t i + (2400 + 1900 * x.kl.length) := by show yia t i + (2400 + 1900 * (t.al.getD i ⟨[], (none, 0, 0), []⟩).kl.length) = _; rw [hgx]
      refine W_skip ?_
      refine thn_normal ?_
      refine W_seq ?_
      refine W_block ?_
      refine W_seq ?_
      refine W_region rfl ?_
      refine WO_p (PS_indexS Hvac.runUnderlying33 Hvac.sizeOf117 rfl rfl (by omega) (by omega)) ?_
      refine WO_loadA _ Hvac.isAgg117 Hvac.sizeOf117 rfl (Hb.h (by repeat (first | assumption | exact Hb.newY _ _ | refine Hb.alloc ?_ | refine Hb.drew ?_ | refine Hb.ext (by assumption) ?_ | exact Hb.setSameL (by first | omega | (simp only [size_alloc, size_setB, size_drew]; omega)) | exact Hb.setSame (by assumption) | refine Hb.set (by first | omega | (simp only [size_alloc, size_setB, size_drew]; omega)) ?_ ))) (by first | omega | assumption | rfl | decide | exact Nat.le_refl _ | (simp only [size_ic, Value.cells]; omega) | (simp; omega) | simp) (Xt.h (by first | assumption | exact Xt.whole rfl rfl | exact Xt.whole rfl (by assumption) | exact Xt.whole rfl (by simp only [size_ic, Value.cells]; omega) | exact ⟨rfl⟩)) ?_
      refine WO_allocG Hvac.zeroValue117 ?_
      intro b8 v8 hg8 hE8 hH8 hl8
      try simp only [size_alloc, size_setB, size_drew] at hg8
      have hzz8 := hE8.1
      try simp only [size_alloc, size_setB, size_drew] at hzz8
      refine WO_storeW Hvac.sizeOf117 rfl (v := .agg (encAx x).toArray) rfl hH8.h rfl hel21 (by rfl) (one_encAx x) ?_
      refine WO_nil ?_
      refine thn_normal ?_
      refine W_drawE [false, true, true, false, false, false, false, false, false, false, false, false] hmix (by kernel_rfl) rfl ?_
      refine WH_p (PS_move_slice rfl) rfl ?_
      refine WH_call Hvac.call19 (by rfl) (Ret.mono (nNum_spec (OmB.ext hO (by repeat (first | assumption | exact Ext.refl _ | refine Ext.alloc ?_ _ | refine Ext.drew ?_ | refine Ext.setB ?_ (by first | omega | (simp only [size_alloc, size_setB, size_drew]; omega)) _ | exact Ext.trans (by assumption) (by assumption) | refine Ext.trans ?_ (by assumption)))) ⟨by omega, by omega⟩) ?_)
      rintro _ w19_15 ⟨hE19_15, s19_15, rfl, hN19_15, hs19_15⟩
      refine ⟨fun _ => (by repeat (first | assumption | exact Ext.refl _ | refine Ext.alloc ?_ _ | refine Ext.drew ?_ | refine Ext.setB ?_ (by first | omega | (simp only [size_alloc, size_setB, size_drew]; omega)) _ | exact Ext.trans (by assumption) (by assumption) | refine Ext.trans ?_ (by assumption))), ?_⟩
      have hz19_15 := hE19_15.1
      try simp only [size_alloc, size_setB, size_drew] at hz19_15
      try simp only [Int.toNat_natCast, toNat_lit] at hN19_15 hs19_15
      refine WH_call Hvac.call19 (by rfl) (Ret.mono (nNum_spec (OmB.ext hO (by repeat (first | assumption | exact Ext.refl _ | refine Ext.alloc ?_ _ | refine Ext.drew ?_ | refine Ext.setB ?_ (by first | omega | (simp only [size_alloc, size_setB, size_drew]; omega)) _ | exact Ext.trans (by assumption) (by assumption) | refine Ext.trans ?_ (by assumption)))) ⟨by omega, by omega⟩) ?_)
      rintro _ w19_16 ⟨hE19_16, s19_16, rfl, hN19_16, hs19_16⟩
      refine ⟨fun _ => (by repeat (first | assumption | exact Ext.refl _ | refine Ext.alloc ?_ _ | refine Ext.drew ?_ | refine Ext.setB ?_ (by first | omega | (simp only [size_alloc, size_setB, size_drew]; omega)) _ | exact Ext.trans (by assumption) (by assumption) | refine Ext.trans ?_ (by assumption))), ?_⟩
      have hz19_16 := hE19_16.1
      try simp only [size_alloc, size_setB, size_drew] at hz19_16
      try simp only [Int.toNat_natCast, toNat_lit] at hN19_16 hs19_16
      refine WH_p (PS_fieldAddr 20 Hvac.runUnderlying117 rfl Hvac.sizeOf29 rfl rfl) rfl ?_
      refine WH_load (.slice _ _ _) Hvac.isAgg29 rfl (Hb.h (by repeat (first | assumption | exact Hb.newY _ _ | refine Hb.alloc ?_ | refine Hb.drew ?_ | refine Hb.ext (by assumption) ?_ | exact Hb.setSameL (by first | omega | (simp only [size_alloc, size_setB, size_drew]; omega)) | exact Hb.setSame (by assumption) | refine Hb.set (by first | omega | (simp only [size_alloc, size_setB, size_drew]; omega)) ?_ ))) (Ce.h (by first | assumption | exact ⟨rfl⟩)) ?_
      refine WH_p (PS_lenS Hvac.runUnderlying29 rfl) rfl ?_
      refine WH_p (PS_conv_u64n Hvac.runUnderlying3 Hvac.runUnderlying26 rfl (by omega) (by omega)) rfl ?_
      refine WH_call Hvac.call19 (by rfl) (Ret.mono (nNum_spec (OmB.ext hO (by repeat (first | assumption | exact Ext.refl _ | refine Ext.alloc ?_ _ | refine Ext.drew ?_ | refine Ext.setB ?_ (by first | omega | (simp only [size_alloc, size_setB, size_drew]; omega)) _ | exact Ext.trans (by assumption) (by assumption) | refine Ext.trans ?_ (by assumption)))) ⟨by omega, by omega⟩) ?_)
      rintro _ w19_17 ⟨hE19_17, s19_17, rfl, hN19_17, hs19_17⟩
      refine ⟨(fun h => by cases h), ?_⟩
      have hz19_17 := hE19_17.1
      try simp only [size_alloc, size_setB, size_drew] at hz19_17
      try simp only [Int.toNat_natCast, toNat_lit] at hN19_17 hs19_17
      refine WH_call Hvac.call26 (by rfl) (Ret.mono (nMul_spec (OmB.ext hO (by repeat (first | assumption | exact Ext.refl _ | refine Ext.alloc ?_ _ | refine Ext.drew ?_ | refine Ext.setB ?_ (by first | omega | (simp only [size_alloc, size_setB, size_drew]; omega)) _ | exact Ext.trans (by assumption) (by assumption) | refine Ext.trans ?_ (by assumption)))) (by first | exact NN.nil _ | assumption | exact NN.ext (by assumption) (by repeat (first | assumption | exact Ext.refl _ | refine Ext.alloc ?_ _ | refine Ext.drew ?_ | refine Ext.setB ?_ (by first | omega | (simp only [size_alloc, size_setB, size_drew]; omega)) _ | exact Ext.trans (by assumption) (by assumption) | refine Ext.trans ?_ (by assumption)))) (by first | exact NN.nil _ | assumption | exact NN.ext (by assumption) (by repeat (first | assumption | exact Ext.refl _ | refine Ext.alloc ?_ _ | refine Ext.drew ?_ | refine Ext.setB ?_ (by first | omega | (simp only [size_alloc, size_setB, size_drew]; omega)) _ | exact Ext.trans (by assumption) (by assumption) | refine Ext.trans ?_ (by assumption)))) (by first | assumption | omega | (rw [sz_zero]; omega)) (by first | assumption | omega | (rw [sz_zero]; omega))) ?_)
      rintro _ w26_18 ⟨hE26_18, s26_18, rfl, hN26_18⟩
      refine ⟨(fun h => by cases h), ?_⟩
      have hz26_18 := hE26_18.1
      try simp only [size_alloc, size_setB, size_drew] at hz26_18
      have hs26_18 := hN26_18.z_mul
      refine WH_call Hvac.call24 (by rfl) (Ret.mono (nAdd_spec (OmB.ext hO (by repeat (first | assumption | exact Ext.refl _ | refine Ext.alloc ?_ _ | refine Ext.drew ?_ | refine Ext.setB ?_ (by first | omega | (simp only [size_alloc, size_setB, size_drew]; omega)) _ | exact Ext.trans (by assumption) (by assumption) | refine Ext.trans ?_ (by assumption)))) (by first | exact NN.nil _ | assumption | exact NN.ext (by assumption) (by repeat (first | assumption | exact Ext.refl _ | refine Ext.alloc ?_ _ | refine Ext.drew ?_ | refine Ext.setB ?_ (by first | omega | (simp only [size_alloc, size_setB, size_drew]; omega)) _ | exact Ext.trans (by assumption) (by assumption) | refine Ext.trans ?_ (by assumption)))) (by first | exact NN.nil _ | assumption | exact NN.ext (by assumption) (by repeat (first | assumption | exact Ext.refl _ | refine Ext.alloc ?_ _ | refine Ext.drew ?_ | refine Ext.setB ?_ (by first | omega | (simp only [size_alloc, size_setB, size_drew]; omega)) _ | exact Ext.trans (by assumption) (by assumption) | refine Ext.trans ?_ (by assumption)))) (by first | assumption | omega | (rw [sz_zero]; omega)) (by first | assumption | omega | (rw [sz_zero]; omega))) ?_)
      rintro _ w24_19 ⟨hE24_19, s24_19, rfl, hN24_19⟩
      refine ⟨(fun h => by cases h), ?_⟩
      have hz24_19 := hE24_19.1
      try simp only [size_alloc, size_setB, size_drew] at hz24_19
      have hs24_19 := hN24_19.z_add
      refine WH_call Hvac.call24 (by rfl) (Ret.mono (nAdd_spec (OmB.ext hO (by repeat (first | assumption | exact Ext.refl _ | refine Ext.alloc ?_ _ | refine Ext.drew ?_ | refine Ext.setB ?_ (by first | omega | (simp only [size_alloc, size_setB, size_drew]; omega)) _ | exact Ext.trans (by assumption) (by assumption) | refine Ext.trans ?_ (by assumption)))) (by first | exact NN.nil _ | assumption | exact NN.ext (by assumption) (by repeat (first | assumption | exact Ext.refl _ | refine Ext.alloc ?_ _ | refine Ext.drew ?_ | refine Ext.setB ?_ (by first | omega | (simp only [size_alloc, size_setB, size_drew]; omega)) _ | exact Ext.trans (by assumption) (by assumption) | refine Ext.trans ?_ (by assumption)))) (by first | exact NN.nil _ | assumption | exact NN.ext (by assumption) (by repeat (first | assumption | exact Ext.refl _ | refine Ext.alloc ?_ _ | refine Ext.drew ?_ | refine Ext.setB ?_ (by first | omega | (simp only [size_alloc, size_setB, size_drew]; omega)) _ | exact Ext.trans (by assumption) (by assumption) | refine Ext.trans ?_ (by assumption)))) (by first | assumption | omega | (rw [sz_zero]; omega)) (by first | assumption | omega | (rw [sz_zero]; omega))) ?_)
      rintro _ w24_20 ⟨hE24_20, s24_20, rfl, hN24_20⟩
      refine ⟨(fun h => by cases h), ?_⟩
      have hz24_20 := hE24_20.1
      try simp only [size_alloc, size_setB, size_drew] at hz24_20
      have hs24_20 := hN24_20.z_add
      refine WH_p (PS_assign_slice rfl) rfl ?_
      refine WH_nil ?_
      refine inBlk_normal ?_
      refine thn_normal ?_
      refine W_region rfl ?_
      refine WO_p (PS_add_i64n rfl rfl (by omega) (by omega)) ?_
      refine WO_p (PS_move_int rfl) ?_
      refine WO_nil ?_
      refine thn_normal ?_
      exact ⟨kx - 1, by omega, i + 1, s24_20, by omega, NN.castY (by first | exact NN.nil _ | assumption | exact NN.ext (by assumption) (by repeat (first | assumption | exact Ext.refl _ | refine Ext.alloc ?_ _ | refine Ext.drew ?_ | refine Ext.setB ?_ (by first | omega | (simp only [size_alloc, size_setB, size_drew]; omega)) _ | refine Ext.trans ?_ (by assumption)))) (by (try simp only [show Int.toNat 2 = 2 from rfl, show Int.toNat 4 = 4 from rfl, show Int.toNat 16 = 16 from rfl, show Int.toNat 1900 = 1900 from rfl, show Int.toNat 2400 = 2400 from rfl, show Int.toNat 21000 = 21000 from rfl, show Int.toNat 32000 = 32000 from rfl]); omega), ⟨rfl, rfl, rfl, rfl, congrArg (Value.int .i64) (by omega), trivial⟩, (by repeat (first | assumption | exact Ext.refl _ | refine Ext.alloc ?_ _ | refine Ext.drew ?_ | refine Ext.setB ?_ (by first | omega | (simp only [size_alloc, size_setB, size_drew]; omega)) _ | refine Ext.trans ?_ (by assumption))), Hb.mk (Hb.h (by repeat (first | assumption | exact Hb.newY _ _ | refine Hb.alloc ?_ | refine Hb.drew ?_ | refine Hb.ext (by assumption) ?_ | exact Hb.setSameL (by first | omega | (simp only [size_alloc, size_setB, size_drew]; omega)) | exact Hb.setSame (by assumption) | refine Hb.set (by first | omega | (simp only [size_alloc, size_setB, size_drew]; omega)) ?_ )))⟩
    · have hb15p := hb15.h; try simp only [al_ete, al_dfn, Bool.not_eq_true', Bool.not_eq_false', al_ne, Bool.not_not, al_nn] at hb15p
      refine W_exit ?_
      refine thn_exit ?_
      refine thn_exit ?_
      refine inBlk_exit ?_
      refine thn_normal ?_
      refine W_seq ?_
      refine W_seq ?_
      have hi2 : i = t.al.length := by omega
      subst hi2
      refine W_region rfl ?_
      refine WO_p (PS_fieldAddr 40 Hvac.runUnderlying35 rfl Hvac.sizeOf4 rfl rfl) ?_
      refine WO_load (.bool _) Hvac.isAgg4 rfl (Hb.h (by repeat (first | assumption | exact Hb.newY _ _ | refine Hb.alloc ?_ | refine Hb.drew ?_ | refine Hb.ext (by assumption) ?_ | exact Hb.setSameL (by first | omega | (simp only [size_alloc, size_setB, size_drew]; omega)) | exact Hb.setSame (by assumption) | refine Hb.set (by first | omega | (simp only [size_alloc, size_setB, size_drew]; omega)) ?_ ))) (Ce.h (by first | assumption | exact ⟨rfl⟩)) ?_
      refine WO_nil ?_
      refine thn_normal ?_
      refine W_if rfl (fun hb23 => ?_) (fun hb23 => ?_)
      · have hb23p := hb23.h; try simp only [al_ete, al_dfn, Bool.not_eq_true', Bool.not_eq_false', al_ne, Bool.not_not, al_nn] at hb23p
        have hW : yintr t = yia t t.al.length + 32000 + 2 * ywords t.db.length := by unfold yintr; rw [if_pos hb23p]
        refine W_seq ?_
        refine W_region rfl ?_
        refine WO_p (PS_move_slice rfl) ?_
        refine WO_call Hvac.call19 (by rfl) (Ret.mono (nNum_spec (OmB.ext hO (by repeat (first | assumption | exact Ext.refl _ | refine Ext.alloc ?_ _ | refine Ext.drew ?_ | refine Ext.setB ?_ (by first | omega | (simp only [size_alloc, size_setB, size_drew]; omega)) _ | exact Ext.trans (by assumption) (by assumption) | refine Ext.trans ?_ (by assumption)))) ⟨by omega, by omega⟩) ?_)
        rintro _ w19_23 ⟨hE19_23, s19_23, rfl, hN19_23, hs19_23⟩
        have hz19_23 := hE19_23.1
        try simp only [size_alloc, size_setB, size_drew] at hz19_23
        try simp only [Int.toNat_natCast, toNat_lit] at hN19_23 hs19_23
        refine WO_call Hvac.call24 (by rfl) (Ret.mono (nAdd_spec (OmB.ext hO (by repeat (first | assumption | exact Ext.refl _ | refine Ext.alloc ?_ _ | refine Ext.drew ?_ | refine Ext.setB ?_ (by first | omega | (simp only [size_alloc, size_setB, size_drew]; omega)) _ | exact Ext.trans (by assumption) (by assumption) | refine Ext.trans ?_ (by assumption)))) (by first | exact NN.nil _ | assumption | exact NN.ext (by assumption) (by repeat (first | assumption | exact Ext.refl _ | refine Ext.alloc ?_ _ | refine Ext.drew ?_ | refine Ext.setB ?_ (by first | omega | (simp only [size_alloc, size_setB, size_drew]; omega)) _ | exact Ext.trans (by assumption) (by assumption) | refine Ext.trans ?_ (by assumption)))) (by first | exact NN.nil _ | assumption | exact NN.ext (by assumption) (by repeat (first | assumption | exact Ext.refl _ | refine Ext.alloc ?_ _ | refine Ext.drew ?_ | refine Ext.setB ?_ (by first | omega | (simp only [size_alloc, size_setB, size_drew]; omega)) _ | exact Ext.trans (by assumption) (by assumption) | refine Ext.trans ?_ (by assumption)))) (by first | assumption | omega | (rw [sz_zero]; omega)) (by first | assumption | omega | (rw [sz_zero]; omega))) ?_)
        rintro _ w24_24 ⟨hE24_24, s24_24, rfl, hN24_24⟩
        have hz24_24 := hE24_24.1
        try simp only [size_alloc, size_setB, size_drew] at hz24_24
        have hs24_24 := hN24_24.z_add
        refine WO_p (PS_assign_slice rfl) ?_
        refine WO_nil ?_
        refine thn_normal ?_
        refine W_drawE [false, true, false, false, false, false, false, false, false, false, false] hmix (by kernel_rfl) rfl ?_
        refine WH_p (PS_move_slice rfl) rfl ?_
        refine WH_call Hvac.call19 (by rfl) (Ret.mono (nNum_spec (OmB.ext hO (by repeat (first | assumption | exact Ext.refl _ | refine Ext.alloc ?_ _ | refine Ext.drew ?_ | refine Ext.setB ?_ (by first | omega | (simp only [size_alloc, size_setB, size_drew]; omega)) _ | exact Ext.trans (by assumption) (by assumption) | refine Ext.trans ?_ (by assumption)))) ⟨by omega, by omega⟩) ?_)
        rintro _ w19_25 ⟨hE19_25, s19_25, rfl, hN19_25, hs19_25⟩
        refine ⟨fun _ => (by repeat (first | assumption | exact Ext.refl _ | refine Ext.alloc ?_ _ | refine Ext.drew ?_ | refine Ext.setB ?_ (by first | omega | (simp only [size_alloc, size_setB, size_drew]; omega)) _ | exact Ext.trans (by assumption) (by assumption) | refine Ext.trans ?_ (by assumption))), ?_⟩
        have hz19_25 := hE19_25.1
        try simp only [size_alloc, size_setB, size_drew] at hz19_25
        try simp only [Int.toNat_natCast, toNat_lit] at hN19_25 hs19_25
        refine WH_p (PS_fieldAddr 107 Hvac.runUnderlying35 rfl Hvac.sizeOf32 rfl rfl) rfl ?_
        refine WH_load (.slice _ _ _) Hvac.isAgg32 rfl (Hb.h (by repeat (first | assumption | exact Hb.newY _ _ | refine Hb.alloc ?_ | refine Hb.drew ?_ | refine Hb.ext (by assumption) ?_ | exact Hb.setSameL (by first | omega | (simp only [size_alloc, size_setB, size_drew]; omega)) | exact Hb.setSame (by assumption) | refine Hb.set (by first | omega | (simp only [size_alloc, size_setB, size_drew]; omega)) ?_ ))) (Ce.h (by first | assumption | exact ⟨rfl⟩)) ?_
        refine WH_p (PS_lenS Hvac.runUnderlying32 rfl) rfl ?_
        refine WH_p (PS_conv_u64n Hvac.runUnderlying3 Hvac.runUnderlying26 rfl (by omega) (by omega)) rfl ?_
        refine WH_call Hvac.call19 (by rfl) (Ret.mono (nNum_spec (OmB.ext hO (by repeat (first | assumption | exact Ext.refl _ | refine Ext.alloc ?_ _ | refine Ext.drew ?_ | refine Ext.setB ?_ (by first | omega | (simp only [size_alloc, size_setB, size_drew]; omega)) _ | exact Ext.trans (by assumption) (by assumption) | refine Ext.trans ?_ (by assumption)))) ⟨by omega, by omega⟩) ?_)
        rintro _ w19_26 ⟨hE19_26, s19_26, rfl, hN19_26, hs19_26⟩
        refine ⟨(fun h => by cases h), ?_⟩
        have hz19_26 := hE19_26.1
        try simp only [size_alloc, size_setB, size_drew] at hz19_26
        try simp only [Int.toNat_natCast, toNat_lit] at hN19_26 hs19_26
        refine WH_call Hvac.call83 (by rfl) (Ret.mono (words_spec2 _ (OmB.ext hO (by repeat (first | assumption | exact Ext.refl _ | refine Ext.alloc ?_ _ | refine Ext.drew ?_ | refine Ext.setB ?_ (by first | omega | (simp only [size_alloc, size_setB, size_drew]; omega)) _ | exact Ext.trans (by assumption) (by assumption) | refine Ext.trans ?_ (by assumption)))) _ _ _ _ (by first | exact NN.nil _ | assumption | exact NN.ext (by assumption) (by repeat (first | assumption | exact Ext.refl _ | refine Ext.alloc ?_ _ | refine Ext.drew ?_ | refine Ext.setB ?_ (by first | omega | (simp only [size_alloc, size_setB, size_drew]; omega)) _ | exact Ext.trans (by assumption) (by assumption) | refine Ext.trans ?_ (by assumption)))) (by first | assumption | omega | (rw [sz_zero]; omega))) ?_)
        rintro _ w83_27 ⟨hE83_27, s83_27, rfl, hN83_27⟩
        refine ⟨(fun h => by cases h), ?_⟩
        have hz83_27 := hE83_27.1
        try simp only [size_alloc, size_setB, size_drew] at hz83_27
        have hs83_27 := sz_yw hN83_27
        refine WH_call Hvac.call26 (by rfl) (Ret.mono (nMul_spec (OmB.ext hO (by repeat (first | assumption | exact Ext.refl _ | refine Ext.alloc ?_ _ | refine Ext.drew ?_ | refine Ext.setB ?_ (by first | omega | (simp only [size_alloc, size_setB, size_drew]; omega)) _ | exact Ext.trans (by assumption) (by assumption) | refine Ext.trans ?_ (by assumption)))) (by first | exact NN.nil _ | assumption | exact NN.ext (by assumption) (by repeat (first | assumption | exact Ext.refl _ | refine Ext.alloc ?_ _ | refine Ext.drew ?_ | refine Ext.setB ?_ (by first | omega | (simp only [size_alloc, size_setB, size_drew]; omega)) _ | exact Ext.trans (by assumption) (by assumption) | refine Ext.trans ?_ (by assumption)))) (by first | exact NN.nil _ | assumption | exact NN.ext (by assumption) (by repeat (first | assumption | exact Ext.refl _ | refine Ext.alloc ?_ _ | refine Ext.drew ?_ | refine Ext.setB ?_ (by first | omega | (simp only [size_alloc, size_setB, size_drew]; omega)) _ | exact Ext.trans (by assumption) (by assumption) | refine Ext.trans ?_ (by assumption)))) (by first | assumption | omega | (rw [sz_zero]; omega)) (by first | assumption | omega | (rw [sz_zero]; omega))) ?_)
        rintro _ w26_28 ⟨hE26_28, s26_28, rfl, hN26_28⟩
        refine ⟨(fun h => by cases h), ?_⟩
        have hz26_28 := hE26_28.1
        try simp only [size_alloc, size_setB, size_drew] at hz26_28
        have hs26_28 := hN26_28.z_mul
        refine WH_call Hvac.call24 (by rfl) (Ret.mono (nAdd_spec (OmB.ext hO (by repeat (first | assumption | exact Ext.refl _ | refine Ext.alloc ?_ _ | refine Ext.drew ?_ | refine Ext.setB ?_ (by first | omega | (simp only [size_alloc, size_setB, size_drew]; omega)) _ | exact Ext.trans (by assumption) (by assumption) | refine Ext.trans ?_ (by assumption)))) (by first | exact NN.nil _ | assumption | exact NN.ext (by assumption) (by repeat (first | assumption | exact Ext.refl _ | refine Ext.alloc ?_ _ | refine Ext.drew ?_ | refine Ext.setB ?_ (by first | omega | (simp only [size_alloc, size_setB, size_drew]; omega)) _ | exact Ext.trans (by assumption) (by assumption) | refine Ext.trans ?_ (by assumption)))) (by first | exact NN.nil _ | assumption | exact NN.ext (by assumption) (by repeat (first | assumption | exact Ext.refl _ | refine Ext.alloc ?_ _ | refine Ext.drew ?_ | refine Ext.setB ?_ (by first | omega | (simp only [size_alloc, size_setB, size_drew]; omega)) _ | exact Ext.trans (by assumption) (by assumption) | refine Ext.trans ?_ (by assumption)))) (by first | assumption | omega | (rw [sz_zero]; omega)) (by first | assumption | omega | (rw [sz_zero]; omega))) ?_)
        rintro _ w24_29 ⟨hE24_29, s24_29, rfl, hN24_29⟩
        refine ⟨(fun h => by cases h), ?_⟩
        have hz24_29 := hE24_29.1
        try simp only [size_alloc, size_setB, size_drew] at hz24_29
        have hs24_29 := hN24_29.z_add
        refine WH_p (PS_assign_slice rfl) rfl ?_
        refine WH_nil ?_
        refine thn_normal ?_
        refine W_seq ?_
        refine W_region rfl ?_
        refine WO_p (PS_move_slice rfl) ?_
        refine WO_p (PS_assign_slice rfl) ?_
        refine WO_nil ?_
        refine thn_normal ?_
        refine W_ret ?_
        refine bodyQ_ret1 Hvac.results21 rfl (.slice _ _ _) rfl ?_
        exact ⟨(by repeat (first | assumption | exact Ext.refl _ | refine Ext.alloc ?_ _ | refine Ext.drew ?_ | refine Ext.setB ?_ (by first | omega | (simp only [size_alloc, size_setB, size_drew]; omega)) _ | refine Ext.trans ?_ (by assumption))), (_, _, _), rfl, NN.castY (by first | exact NN.nil _ | assumption | exact NN.ext (by assumption) (by repeat (first | assumption | exact Ext.refl _ | refine Ext.alloc ?_ _ | refine Ext.drew ?_ | refine Ext.setB ?_ (by first | omega | (simp only [size_alloc, size_setB, size_drew]; omega)) _ | refine Ext.trans ?_ (by assumption)))) (by rw [hW]; (try simp only [show Int.toNat 2 = 2 from rfl, show Int.toNat 4 = 4 from rfl, show Int.toNat 16 = 16 from rfl, show Int.toNat 1900 = 1900 from rfl, show Int.toNat 2400 = 2400 from rfl, show Int.toNat 21000 = 21000 from rfl, show Int.toNat 32000 = 32000 from rfl]); (try simp only [hdal, Int.toNat_natCast]); (try unfold ywords); try omega)⟩
      · have hb23p := hb23.h; try simp only [al_ete, al_dfn, Bool.not_eq_true', Bool.not_eq_false', al_ne, Bool.not_not, al_nn] at hb23p
        have hW : yintr t = yia t t.al.length := by unfold yintr; rw [if_neg (by rw [hb23p]; decide)]
        refine W_skip ?_
        refine thn_normal ?_
        refine W_seq ?_
        refine W_region rfl ?_
        refine WO_p (PS_move_slice rfl) ?_
        refine WO_p (PS_assign_slice rfl) ?_
        refine WO_nil ?_
        refine thn_normal ?_
        refine W_ret ?_
        refine bodyQ_ret1 Hvac.results21 rfl (.slice _ _ _) rfl ?_
        exact ⟨(by repeat (first | assumption | exact Ext.refl _ | refine Ext.alloc ?_ _ | refine Ext.drew ?_ | refine Ext.setB ?_ (by first | omega | (simp only [size_alloc, size_setB, size_drew]; omega)) _ | refine Ext.trans ?_ (by assumption))), (_, _, _), rfl, NN.castY (by first | exact NN.nil _ | assumption | exact NN.ext (by assumption) (by repeat (first | assumption | exact Ext.refl _ | refine Ext.alloc ?_ _ | refine Ext.drew ?_ | refine Ext.setB ?_ (by first | omega | (simp only [size_alloc, size_setB, size_drew]; omega)) _ | refine Ext.trans ?_ (by assumption)))) (by rw [hW]; (try simp only [show Int.toNat 2 = 2 from rfl, show Int.toNat 4 = 4 from rfl, show Int.toNat 16 = 16 from rfl, show Int.toNat 1900 = 1900 from rfl, show Int.toNat 2400 = 2400 from rfl, show Int.toNat 21000 = 21000 from rfl, show Int.toNat 32000 = 32000 from rfl]); (try simp only [hdal, Int.toNat_natCast]); (try unfold ywords); try omega)⟩

end Go.Proofs.YgvacwGreat
