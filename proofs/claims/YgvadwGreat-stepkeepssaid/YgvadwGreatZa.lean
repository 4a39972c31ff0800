import Derived.Test.YgvadwGreatXg
namespace Go.Proofs.YgvadwGreat
set_option linter.unusedSimpArgs false
set_option linter.unusedVariables false
/-! the transaction as it lies -/
structure Ax where
  addr : List Int
  keys : SV
  kl : List (List Int)
def encAx (x : Ax) : List Value := x.addr.map (Value.int .u8) ++ [sv x.keys]
structure AxOK (w : World) (x : Ax) : Prop where
  ad : By x.addr 20
  ks : InRow encH 32 w x.keys x.kl
  kb : ∀ k ∈ x.kl, By k 32
structure Tx where
  fr : List Int
  to_ : List Int
  create : Bool
  nonce : Int
  gas : Int
  price : List Int
  value : List Int
  data : SV
  dyn : Bool
  mfee : List Int
  tip : List Int
  acc : SV
  db : List Int
  al : List Ax
def encTx (t : Tx) : List Value := t.fr.map (Value.int .u8) ++ (t.to_.map (Value.int .u8) ++ (.bool t.create :: .int .u64 t.nonce :: .int .u64 t.gas :: (t.price.map (Value.int .u8) ++ (t.value.map (Value.int .u8) ++ (sv t.data :: .bool t.dyn :: (t.mfee.map (Value.int .u8) ++ (t.tip.map (Value.int .u8) ++ [sv t.acc])))))))
structure TxOK (w : World) (t : Tx) : Prop where
  fr : By t.fr 20
  to_ : By t.to_ 20
  no : 0 ≤ t.nonce ∧ t.nonce ≤ 18446744073709551615
  ga : 0 ≤ t.gas ∧ t.gas ≤ 18446744073709551615
  pr : By t.price 32
  va : By t.value 32
  mf : By t.mfee 32
  ti : By t.tip 32
  da : InRow encB 1 w t.data t.db
  dr : ∀ y ∈ t.db, 0 ≤ y ∧ y ≤ 255
  acY : InRow encAx 21 w t.acc t.al
  ar : ∀ x ∈ t.al, AxOK w x
theorem AxOK.ext {w w' : World} {x : Ax} (h : AxOK w x) (he : Ext w w') : AxOK w' x := { h with ks := h.ks.ext he }
theorem TxOK.ext {w w' : World} {t : Tx} (h : TxOK w t) (he : Ext w w') : TxOK w' t := { h with da := h.da.ext he, acY := h.acY.ext he, ar := fun x hx => (h.ar x hx).ext he }
theorem encTx_len {w : World} {t : Tx} (h : TxOK w t) : (encTx t).length = 174 := by simp [encTx, h.fr.1, h.to_.1, h.pr.1, h.va.1, h.mf.1, h.ti.1]
theorem encAx_len {w : World} {x : Ax} (h : AxOK w x) : (encAx x).length = 21 := by simp [encAx, h.ad.1]
structure TxAt (r : Array Value) (q : Nat) (t : Tx) : Prop where
  bd : q + 174 ≤ r.size
  fr : Xt r (q + 0) (q + 0 + 20) (ic .u8 t.fr)
  to_ : Xt r (q + 20) (q + 20 + 20) (ic .u8 t.to_)
  cr : Ce r (q + 40) (.bool t.create)
  no : Ce r (q + 41) (.int .u64 t.nonce)
  ga : Ce r (q + 42) (.int .u64 t.gas)
  pr : Xt r (q + 43) (q + 43 + 32) (ic .u8 t.price)
  va : Xt r (q + 75) (q + 75 + 32) (ic .u8 t.value)
  da : Ce r (q + 107) (.slice t.data.1 t.data.2.1 t.data.2.2)
  dy : Ce r (q + 108) (.bool t.dyn)
  mf : Xt r (q + 109) (q + 109 + 32) (ic .u8 t.mfee)
  ti : Xt r (q + 141) (q + 141 + 32) (ic .u8 t.tip)
  acY : Ce r (q + 173) (.slice t.acc.1 t.acc.2.1 t.acc.2.2)
theorem txAt {w : World} {t : Tx} (h : TxOK w t) : TxAt (encTx t).toArray 0 t := by
  have hl := encTx_len h
  have r1 : RowL encTx 174 0 (encTx t).toArray [t] := ⟨by simp [hl], fun i y hy k hk => by
    cases i with
    | zero => simp at hy; subst hy; simp
    | succ i => simp at hy⟩
  have l1 := h.fr.1
  have l2 := h.to_.1
  have l3 := h.pr.1
  have l4 := h.va.1
  have l5 := h.mf.1
  have l6 := h.ti.1
  have hx : ([t] : List Tx)[0]? = some t := rfl
  have e : ∀ k n (vs : List Value), k + n ≤ 174 → ((encTx t).drop k).take n = vs → Xt (encTx t).toArray (0 + k) (0 + k + n) vs.toArray := fun k n vs hk hv => by
    have := r1.ext hx (k := k) (n := n) hk hv hl
    simpa using this
  have g : ∀ k v, k < 174 → (encTx t)[k]? = some v → Ce (encTx t).toArray (0 + k) v := fun k v hk hv => by
    have := r1.get hx (k := k) hk hv
    simpa using this
  refine ⟨by simp [hl], e 0 20 _ (by decide) ?_, e 20 20 _ (by decide) ?_, g 40 _ (by decide) ?_, g 41 _ (by decide) ?_, g 42 _ (by decide) ?_, e 43 32 _ (by decide) ?_, e 75 32 _ (by decide) ?_, g 107 _ (by decide) ?_, g 108 _ (by decide) ?_, e 109 32 _ (by decide) ?_, e 141 32 _ (by decide) ?_, g 173 _ (by decide) ?_⟩
  all_goals simp [encTx, l1, l2, l3, l4, l5, l6, List.drop_append, List.take_append, List.drop_eq_nil_of_le, List.take_of_length_le, List.getElem?_append, sv]
theorem one_encTx (t : Tx) : ∀ u ∈ (encTx t).toArray.toList, u.oneCell' = true := by
  intro u hu
  simp only [encTx, List.mem_append, List.mem_map, List.mem_cons, List.not_mem_nil, al_of] at hu
  rcases hu with ⟨a, _, rfl⟩ | ⟨a, _, rfl⟩ | rfl | rfl | rfl | ⟨a, _, rfl⟩ | ⟨a, _, rfl⟩ | rfl | rfl | ⟨a, _, rfl⟩ | ⟨a, _, rfl⟩ | rfl <;> rfl
theorem one_encAx (x : Ax) : ∀ u ∈ (encAx x).toArray.toList, u.oneCell' = true := by
  intro u hu
  simp only [encAx, List.mem_append, List.mem_map, List.mem_cons, List.not_mem_nil, al_of] at hu
  rcases hu with ⟨a, _, rfl⟩ | rfl <;> rfl
theorem axKeys {w : World} {x : Ax} (h : AxOK w x) : Ce (encAx x).toArray (0 + 20) (.slice x.keys.1 x.keys.2.1 x.keys.2.2) := ⟨by simp [encAx, h.ad.1, List.getElem?_append, sv]⟩
theorem axAddr {w : World} {x : Ax} (h : AxOK w x) : Xt (encAx x).toArray (0 + 0) (0 + 0 + 20) (ic .u8 x.addr) := ⟨by
  have := h.ad.1
  unfold ic encAx
  simp [this, List.take_append]⟩
theorem ax_whole {w : World} {x : Ax} (h : AxOK w x) : ((encAx x).drop 0).take 21 = encAx x := by rw [List.drop_zero, List.take_of_length_le (by rw [encAx_len h]; omega)]
/-- the keys of the first i addresses -/
def ksum (l : List Ax) : Nat → Nat
  | 0 => 0
  | i + 1 => ksum l i + (l.getD i ⟨[], (none, 0, 0), []⟩).kl.length
def axD : Ax := ⟨[], (none, 0, 0), []⟩
structure LOK (t : Tx) : Prop where
  a : t.al.length ≤ 16
  k : ∀ i, i ≤ t.al.length → ksum t.al i ≤ 64
/-- what the data and the list cost -/
def dgas (L : List Int) : Nat → Int
  | 0 => 21000
  | i + 1 => dgas L i + 4 + (if L.getD i 0 ≠ 0 then 12 else 0)
def agas (t : Tx) : Nat → Int
  | 0 => dgas t.db t.db.length
  | i + 1 => agas t i + (2400 + 1900 * ((t.al.getD i ⟨[], (none, 0, 0), []⟩).kl.length : Int))
def intrW (t : Tx) : Int := if t.create = true then agas t t.al.length + (32000 + 2 * (((t.db.length : Int) + 31) / 32)) else agas t t.al.length
theorem dgas_bd (L : List Int) : ∀ i, 21000 ≤ dgas L i ∧ dgas L i ≤ 21000 + 16 * (i : Int)
  | 0 => by simp [dgas]
  | i + 1 => by
    have := dgas_bd L i
    unfold dgas
    split <;> omega
theorem agas_bd {t : Tx} (hd : t.db.length ≤ 1024) (h : LOK t) : ∀ i, i ≤ t.al.length → 21000 ≤ agas t i ∧ agas t i ≤ 40000 + 2400 * (i : Int) + 1900 * (ksum t.al i : Int)
  | 0, _ => by have := dgas_bd t.db t.db.length; unfold agas ksum; omega
  | i + 1, hi => by
    have := agas_bd hd h i (by omega)
    unfold agas ksum
    omega
theorem intr_bd {t : Tx} (hd : t.db.length ≤ 1024) (h : LOK t) : 21000 ≤ intrW t := by
  have := agas_bd hd h t.al.length (Nat.le_refl _)
  unfold intrW
  split <;> omega
def feeB (t : Tx) : List Int × List Int := if t.dyn = true then (t.mfee, t.tip) else (t.price, t.price)
theorem feeB_by {w : World} {t : Tx} (h : TxOK w t) : By (feeB t).1 32 ∧ By (feeB t).2 32 := by
  unfold feeB
  split
  · exact ⟨h.mf, h.ti⟩
  · exact ⟨h.pr, h.pr⟩

set_option maxRecDepth 10000 in
set_option maxHeartbeats 4000000 in
theorem listOK_spec (bt : Nat) (t : Tx) (w : World) (hb : Hb w bt (.cells (encTx t).toArray 35 (0, 0))) (htx : TxOK w t) : Ret Hvad.prog 61 #[.pointer (some ⟨bt, 0, none⟩)] w fun u w' => Ext w w' ∧ ∃ q : Bool, u = .bool q ∧ (q = true → LOK t) := by
  have hat := txAt htx
  have hac := hat.acY
  have hbl := hb.lt
  generalize hpst : t.acc.1 = pst at hac
  have hacl := htx.acY.len
  refine Ret_of_W Hvad.func61 rfl rfl ?_
  refine W_seq ?_
  refine W_region rfl ?_
  refine WO_p (PS_assign_bool rfl) ?_
  refine WO_nil ?_
  refine thn_normal ?_
  refine W_seq ?_
  refine W_seq ?_
  refine W_region rfl ?_
  refine WO_p (PS_move_ptr rfl) ?_
  refine WO_p (PS_nilCheck rfl) ?_
  refine WO_p (PS_fieldAddr 173 Hvad.runUnderlying35 rfl Hvad.sizeOf33 rfl rfl) ?_
  refine WO_load (.slice _ _ _) Hvad.isAgg33 rfl (Hb.h (by repeat (first | assumption | exact Hb.newY _ _ | refine Hb.alloc ?_ | refine Hb.drew ?_ | refine Hb.ext (by assumption) ?_ | exact Hb.setSameL (by first | omega | (simp only [size_alloc, size_setB, size_drew]; omega)) | exact Hb.setSame (by assumption) | refine Hb.set (by first | omega | (simp only [size_alloc, size_setB, size_drew]; omega)) ?_ ))) (Ce.h (by first | assumption | exact ⟨rfl⟩)) ?_
  refine WO_p (PS_lenS Hvad.runUnderlying33 rfl) ?_
  refine WO_p (PS_gtr rfl rfl) ?_
  refine WO_nil ?_
  refine thn_normal ?_
  refine W_if rfl (fun hb2 => ?_) (fun hb2 => ?_)
  · have hb2p := hb2.h; try simp only [al_ete, al_dfn, Bool.not_eq_true', Bool.not_eq_false', al_ne, Bool.not_not, al_nn] at hb2p
    refine W_seq ?_
    refine W_region rfl ?_
    refine WO_p (PS_assign_bool rfl) ?_
    refine WO_nil ?_
    refine thn_normal ?_
    refine W_ret ?_
    refine thn_ret ?_
    refine bodyQ_ret1 Hvad.results61 rfl (.bool _) rfl ?_
    first
    | exact ⟨(by repeat (first | assumption | exact Ext.refl _ | refine Ext.alloc ?_ _ | refine Ext.drew ?_ | refine Ext.setB ?_ (by first | omega | (simp only [size_alloc, size_setB, size_drew]; omega)) _ | refine Ext.trans ?_ (by assumption))), false, rfl, fun h => by cases h⟩
    | exact ⟨(by repeat (first | assumption | exact Ext.refl _ | refine Ext.alloc ?_ _ | refine Ext.drew ?_ | refine Ext.setB ?_ (by first | omega | (simp only [size_alloc, size_setB, size_drew]; omega)) _ | refine Ext.trans ?_ (by assumption))), true, rfl, fun _ => ⟨by omega, fun j hj => hgood j (by omega)⟩⟩
  · have hb2p := hb2.h; try simp only [al_ete, al_dfn, Bool.not_eq_true', Bool.not_eq_false', al_ne, Bool.not_not, al_nn] at hb2p
    refine W_skip ?_
    refine thn_normal ?_
    refine W_seq ?_
    refine W_region rfl ?_
    refine WO_p (PS_assign_int rfl) ?_
    refine WO_nil ?_
    refine thn_normal ?_
    refine W_seq ?_
    refine W_seq ?_
    refine W_region rfl ?_
    refine WO_p (PS_move_ptr rfl) ?_
    refine WO_p (PS_nilCheck rfl) ?_
    refine WO_p (PS_fieldAddr 173 Hvad.runUnderlying35 rfl Hvad.sizeOf33 rfl rfl) ?_
    refine WO_load (.slice _ _ _) Hvad.isAgg33 rfl (Hb.h (by repeat (first | assumption | exact Hb.newY _ _ | refine Hb.alloc ?_ | refine Hb.drew ?_ | refine Hb.ext (by assumption) ?_ | exact Hb.setSameL (by first | omega | (simp only [size_alloc, size_setB, size_drew]; omega)) | exact Hb.setSame (by assumption) | refine Hb.set (by first | omega | (simp only [size_alloc, size_setB, size_drew]; omega)) ?_ ))) (Ce.h (by first | assumption | exact ⟨rfl⟩)) ?_
    refine WO_p (PS_lenS Hvad.runUnderlying33 rfl) ?_
    refine WO_p (PS_move_int rfl) ?_
    refine WO_nil ?_
    refine thn_normal ?_
    refine W_block ?_
    refine W_loopN (fun k ρ w' => ∃ (i : Nat), i + k = t.al.length ∧ (∀ j, j ≤ i → ksum t.al j ≤ 64) ∧ Fr [(0, .pointer (some ⟨bt, 0, none⟩)), (3, .int .i64 (ksum t.al i)), (15, .slice pst t.acc.2.1 t.acc.2.2), (16, .int .i64 t.acc.2.1), (17, .int .i64 i)] ρ ∧ Ext w w') t.al.length ?_ ?_
    · exact ⟨0, by omega, (fun j hj => by obtain rfl : j = 0 := (by omega); exact Nat.zero_le _), ⟨rfl, rfl, rfl, rfl, rfl, trivial⟩, (by repeat (first | assumption | exact Ext.refl _ | refine Ext.alloc ?_ _ | refine Ext.drew ?_ | refine Ext.setB ?_ (by first | omega | (simp only [size_alloc, size_setB, size_drew]; omega)) _ | refine Ext.trans ?_ (by assumption)))⟩
    intro k ρ w2 hI2
    obtain ⟨i, hik, hgood, hFr, hE2⟩ := hI2
    refine W_env _ hFr ?_
    have hz2 := hE2.1
    have hgi := hgood i (Nat.le_refl _)
    refine W_seq ?_
    refine W_region rfl ?_
    refine WO_p (PS_lss rfl rfl) ?_
    refine WO_nil ?_
    refine thn_normal ?_
    refine W_seq ?_
    refine W_if rfl (fun hb4 => ?_) (fun hb4 => ?_)
    · have hb4p := hb4.h; try simp only [al_ete, al_dfn, Bool.not_eq_true', Bool.not_eq_false', al_ne, Bool.not_not, al_nn] at hb4p
      have hiz : i < t.al.length := by omega
      obtain ⟨x, hx⟩ : ∃ x, t.al[i]? = some x := ⟨_, List.getElem?_eq_getElem hiz⟩
      obtain ⟨bx, ox, rx, Tx_, fzx, hpx, hbx, hrlx⟩ := htx.acY.get hx
      rw [hpst] at hpx
      subst hpx
      have hxk := htx.ar x (List.mem_of_getElem? hx)
      have hxbd := hrlx.bd hx
      have hxw := hrlx.ext hx (k := 0) (n := 21) (by decide) (ax_whole hxk) (encAx_len hxk)
      have hel21 : (encAx x).toArray.size = 21 := by simpa using encAx_len hxk
      have hck := axKeys hxk
      have hkl := hxk.ks.len
      have hgx : t.al.getD i ⟨[], (none, 0, 0), []⟩ = x := getD_some hx
      have hks1 : ksum t.al (i + 1) = ksum t.al i + x.kl.length := by show ksum t.al i + (t.al.getD i ⟨[], (none, 0, 0), []⟩).kl.length = _; rw [hgx]
      have hbx2 := hbx.ext hE2
      refine W_skip ?_
      refine thn_normal ?_
      refine W_seq ?_
      refine W_block ?_
      refine W_seq ?_
      refine W_region rfl ?_
      refine WO_p (PS_indexS Hvad.runUnderlying33 Hvad.sizeOf167 rfl rfl (by omega) (by omega)) ?_
      refine WO_loadA _ Hvad.isAgg167 Hvad.sizeOf167 rfl (Hb.h (by repeat (first | assumption | exact Hb.newY _ _ | refine Hb.alloc ?_ | refine Hb.drew ?_ | refine Hb.ext (by assumption) ?_ | exact Hb.setSameL (by first | omega | (simp only [size_alloc, size_setB, size_drew]; omega)) | exact Hb.setSame (by assumption) | refine Hb.set (by first | omega | (simp only [size_alloc, size_setB, size_drew]; omega)) ?_ ))) (by first | omega | assumption | rfl | decide | exact Nat.le_refl _ | (simp only [size_ic, Value.cells]; omega) | simp) (Xt.h (by first | assumption | exact Xt.whole rfl rfl | exact Xt.whole rfl (by simp only [size_ic, Value.cells]; omega) | exact ⟨rfl⟩)) ?_
      refine WO_allocG Hvad.zeroValue167 ?_
      intro b5 v5 hg5 hE5 hH5 hl5
      try simp only [size_alloc, size_setB, size_drew] at hg5
      have hzz5 := hE5.1
      try simp only [size_alloc, size_setB, size_drew] at hzz5
      refine WO_storeW Hvad.sizeOf167 rfl (v := .agg (encAx x).toArray) rfl hH5.h rfl hel21 (by rfl) (one_encAx x) ?_
      refine WO_nil ?_
      refine thn_normal ?_
      refine W_seq ?_
      refine W_seq ?_
      refine W_region rfl ?_
      refine WO_p (PS_fieldAddr 20 Hvad.runUnderlying167 rfl Hvad.sizeOf29 rfl rfl) ?_
      refine WO_load (.slice _ _ _) Hvad.isAgg29 rfl (Hb.h (by repeat (first | assumption | exact Hb.newY _ _ | refine Hb.alloc ?_ | refine Hb.drew ?_ | refine Hb.ext (by assumption) ?_ | exact Hb.setSameL (by first | omega | (simp only [size_alloc, size_setB, size_drew]; omega)) | exact Hb.setSame (by assumption) | refine Hb.set (by first | omega | (simp only [size_alloc, size_setB, size_drew]; omega)) ?_ ))) (Ce.h (by first | assumption | exact ⟨rfl⟩)) ?_
      refine WO_p (PS_lenS Hvad.runUnderlying29 rfl) ?_
      refine WO_p (PS_move_int rfl) ?_
      refine WO_p (PS_sub_i64n rfl rfl (by omega) (by omega)) ?_
      refine WO_p (PS_gtr rfl rfl) ?_
      refine WO_nil ?_
      refine thn_normal ?_
      refine W_if rfl (fun hb6 => ?_) (fun hb6 => ?_)
      · have hb6p := hb6.h; try simp only [al_ete, al_dfn, Bool.not_eq_true', Bool.not_eq_false', al_ne, Bool.not_not, al_nn] at hb6p
        have hbad : True := trivial
        refine W_seq ?_
        refine W_region rfl ?_
        refine WO_p (PS_assign_bool rfl) ?_
        refine WO_nil ?_
        refine thn_normal ?_
        refine W_ret ?_
        refine thn_ret ?_
        refine inBlk_ret ?_
        refine thn_ret ?_
        refine thn_ret ?_
        refine inBlk_ret ?_
        refine thn_ret ?_
        refine bodyQ_ret1 Hvad.results61 rfl (.bool _) rfl ?_
        first
        | exact ⟨(by repeat (first | assumption | exact Ext.refl _ | refine Ext.alloc ?_ _ | refine Ext.drew ?_ | refine Ext.setB ?_ (by first | omega | (simp only [size_alloc, size_setB, size_drew]; omega)) _ | refine Ext.trans ?_ (by assumption))), false, rfl, fun h => by cases h⟩
        | exact ⟨(by repeat (first | assumption | exact Ext.refl _ | refine Ext.alloc ?_ _ | refine Ext.drew ?_ | refine Ext.setB ?_ (by first | omega | (simp only [size_alloc, size_setB, size_drew]; omega)) _ | refine Ext.trans ?_ (by assumption))), true, rfl, fun _ => ⟨by omega, fun j hj => hgood j (by omega)⟩⟩
      · have hb6p := hb6.h; try simp only [al_ete, al_dfn, Bool.not_eq_true', Bool.not_eq_false', al_ne, Bool.not_not, al_nn] at hb6p
        have hok2 : ksum t.al (i + 1) ≤ 64 := by omega
        refine W_skip ?_
        refine thn_normal ?_
        refine W_region rfl ?_
        refine WO_p (PS_move_int rfl) ?_
        refine WO_p (PS_fieldAddr 20 Hvad.runUnderlying167 rfl Hvad.sizeOf29 rfl rfl) ?_
        refine WO_load (.slice _ _ _) Hvad.isAgg29 rfl (Hb.h (by repeat (first | assumption | exact Hb.newY _ _ | refine Hb.alloc ?_ | refine Hb.drew ?_ | refine Hb.ext (by assumption) ?_ | exact Hb.setSameL (by first | omega | (simp only [size_alloc, size_setB, size_drew]; omega)) | exact Hb.setSame (by assumption) | refine Hb.set (by first | omega | (simp only [size_alloc, size_setB, size_drew]; omega)) ?_ ))) (Ce.h (by first | assumption | exact ⟨rfl⟩)) ?_
        refine WO_p (PS_lenS Hvad.runUnderlying29 rfl) ?_
        refine WO_p (PS_add_i64n rfl rfl (by omega) (by omega)) ?_
        refine WO_p (PS_assign_int rfl) ?_
        refine WO_nil ?_
        refine inBlk_normal ?_
        refine thn_normal ?_
        refine W_region rfl ?_
        refine WO_p (PS_add_i64n rfl rfl (by omega) (by omega)) ?_
        refine WO_p (PS_move_int rfl) ?_
        refine WO_nil ?_
        refine thn_normal ?_
        exact ⟨k - 1, by omega, i + 1, by omega, (fun j hj => by rcases Nat.lt_or_ge j (i + 1) with h | h; exact hgood j (by omega); obtain rfl : j = i + 1 := (by omega); exact hok2), ⟨rfl, congrArg (Value.int .i64) (by omega), rfl, rfl, congrArg (Value.int .i64) (by omega), trivial⟩, (by repeat (first | assumption | exact Ext.refl _ | refine Ext.alloc ?_ _ | refine Ext.drew ?_ | refine Ext.setB ?_ (by first | omega | (simp only [size_alloc, size_setB, size_drew]; omega)) _ | refine Ext.trans ?_ (by assumption)))⟩
    · have hb4p := hb4.h; try simp only [al_ete, al_dfn, Bool.not_eq_true', Bool.not_eq_false', al_ne, Bool.not_not, al_nn] at hb4p
      refine W_exit ?_
      refine thn_exit ?_
      refine thn_exit ?_
      refine inBlk_exit ?_
      refine thn_normal ?_
      refine W_seq ?_
      refine W_region rfl ?_
      refine WO_p (PS_assign_bool rfl) ?_
      refine WO_nil ?_
      refine thn_normal ?_
      refine W_ret ?_
      refine bodyQ_ret1 Hvad.results61 rfl (.bool _) rfl ?_
      first
      | exact ⟨(by repeat (first | assumption | exact Ext.refl _ | refine Ext.alloc ?_ _ | refine Ext.drew ?_ | refine Ext.setB ?_ (by first | omega | (simp only [size_alloc, size_setB, size_drew]; omega)) _ | refine Ext.trans ?_ (by assumption))), false, rfl, fun h => by cases h⟩
      | exact ⟨(by repeat (first | assumption | exact Ext.refl _ | refine Ext.alloc ?_ _ | refine Ext.drew ?_ | refine Ext.setB ?_ (by first | omega | (simp only [size_alloc, size_setB, size_drew]; omega)) _ | refine Ext.trans ?_ (by assumption))), true, rfl, fun _ => ⟨by omega, fun j hj => hgood j (by omega)⟩⟩

set_option maxRecDepth 10000 in
set_option maxHeartbeats 4000000 in
theorem intrinsic_spec (t : Tx) (w : World) (htx : TxOK w t) (hd : t.db.length ≤ 1024) (hl : LOK t) : Ret Hvad.prog 31 #[.agg (encTx t).toArray] w fun u w' => u = .int .u64 (intrW t) ∧ Ext w w' := by
  have hat := txAt htx
  have hac := hat.acY
  have hda := hat.da
  have hcr := hat.cr
  have htl := encTx_len htx
  generalize hpst : t.acc.1 = pst at hac
  generalize hpdt : t.data.1 = pdt at hda
  have hacl := htx.acY.len
  have hdal := htx.da.len
  have hl16 := hl.a
  refine Ret_of_W Hvad.func31 rfl rfl ?_
  refine W_seq ?_
  refine W_region rfl ?_
  refine WO_boxG (.agg _) rfl ?_
  intro b1 v1 hg1 hE1 hH1 hl1
  try simp only [size_alloc, size_setB, size_drew] at hg1
  have hzz1 := hE1.1
  try simp only [size_alloc, size_setB, size_drew] at hzz1
  refine WO_p (PS_assign_int rfl) ?_
  refine WO_nil ?_
  refine thn_normal ?_
  refine W_seq ?_
  refine W_region rfl ?_
  refine WO_p (PS_assign_int rfl) ?_
  refine WO_nil ?_
  refine thn_normal ?_
  refine W_seq ?_
  refine W_seq ?_
  refine W_region rfl ?_
  refine WO_p (PS_fieldAddr 107 Hvad.runUnderlying35 rfl Hvad.sizeOf32 rfl rfl) ?_
  refine WO_load (.slice _ _ _) Hvad.isAgg32 rfl (Hb.h (by repeat (first | assumption | exact Hb.newY _ _ | refine Hb.alloc ?_ | refine Hb.drew ?_ | refine Hb.ext (by assumption) ?_ | exact Hb.setSameL (by first | omega | (simp only [size_alloc, size_setB, size_drew]; omega)) | exact Hb.setSame (by assumption) | refine Hb.set (by first | omega | (simp only [size_alloc, size_setB, size_drew]; omega)) ?_ ))) (Ce.h (by first | assumption | exact ⟨rfl⟩)) ?_
  refine WO_p (PS_lenS Hvad.runUnderlying32 rfl) ?_
  refine WO_p (PS_move_int rfl) ?_
  refine WO_nil ?_
  refine thn_normal ?_
  refine W_block ?_
  refine W_loopN (fun k ρ w' => ∃ (i : Nat), i + k = t.db.length ∧ Fr [(1, .pointer (some ⟨b1, 0, none⟩)), (3, .int .u64 (dgas t.db i)), (9, .slice pdt t.data.2.1 t.data.2.2), (10, .int .i64 t.data.2.1), (11, .int .i64 i)] ρ ∧ Ext w w' ∧ Hb w' b1 (.cells (encTx t).toArray 35 (0, 0))) t.db.length ?_ ?_
  · exact ⟨0, by omega, ⟨rfl, rfl, rfl, rfl, rfl, trivial⟩, (by repeat (first | assumption | exact Ext.refl _ | refine Ext.alloc ?_ _ | refine Ext.drew ?_ | refine Ext.setB ?_ (by first | omega | (simp only [size_alloc, size_setB, size_drew]; omega)) _ | refine Ext.trans ?_ (by assumption))), hH1⟩
  intro k ρ w2 hI2
  obtain ⟨i, hik, hFr, hE2, hb1⟩ := hI2
  refine W_env _ hFr ?_
  have hz2 := hE2.1
  refine W_seq ?_
  refine W_region rfl ?_
  refine WO_p (PS_lss rfl rfl) ?_
  refine WO_nil ?_
  refine thn_normal ?_
  refine W_seq ?_
  refine W_if rfl (fun hb2 => ?_) (fun hb2 => ?_)
  · have hb2p := hb2.h; try simp only [al_ete, al_dfn, Bool.not_eq_true', Bool.not_eq_false', al_ne, Bool.not_not, al_nn] at hb2p
    obtain ⟨bd, od, rd, Td, fzd, hpd, hbd, hod, hxd⟩ := (htx.da.sc (by omega)).2.resolve_left (fun h => by omega)
    rw [hpdt] at hpd
    subst hpd
    have hdl := hbd.ext hE2
    have hce : Ce rd (od + i * 1) (.int .u8 (t.db.getD i 0)) := xt_ce hxd (by omega) (by omega)
    have hdg := dgas_bd t.db i
    have hds : dgas t.db (i + 1) = dgas t.db i + 4 + (if t.db.getD i 0 ≠ 0 then 12 else 0) := rfl
    refine W_skip ?_
    refine thn_normal ?_
    refine W_seq ?_
    refine W_block ?_
    refine W_seq ?_
    refine W_region rfl ?_
    refine WO_p (PS_indexS Hvad.runUnderlying32 Hvad.sizeOf5 rfl rfl (by omega) (by omega)) ?_
    refine WO_load (.int _ _) Hvad.isAgg5 rfl (Hb.h (by repeat (first | assumption | exact Hb.newY _ _ | refine Hb.alloc ?_ | refine Hb.drew ?_ | refine Hb.ext (by assumption) ?_ | exact Hb.setSameL (by first | omega | (simp only [size_alloc, size_setB, size_drew]; omega)) | exact Hb.setSame (by assumption) | refine Hb.set (by first | omega | (simp only [size_alloc, size_setB, size_drew]; omega)) ?_ ))) (Ce.h (by first | assumption | exact ⟨rfl⟩)) ?_
    refine WO_p (PS_assign_int rfl) ?_
    refine WO_nil ?_
    refine thn_normal ?_
    refine W_seq ?_
    refine W_region rfl ?_
    refine WO_p (PS_move_int rfl) ?_
    refine WO_p (PS_add_u64n rfl rfl (by omega) (by omega)) ?_
    refine WO_p (PS_assign_int rfl) ?_
    refine WO_nil ?_
    refine thn_normal ?_
    refine W_seq ?_
    refine W_region rfl ?_
    refine WO_p (PS_move_int rfl) ?_
    refine WO_p (PS_neq rfl rfl) ?_
    refine WO_nil ?_
    refine thn_normal ?_
    refine W_if rfl (fun hb4 => ?_) (fun hb4 => ?_)
    · have hb4p := hb4.h; try simp only [al_ete, al_dfn, Bool.not_eq_true', Bool.not_eq_false', al_ne, Bool.not_not, al_nn] at hb4p
      rw [if_pos hb4p] at hds
      refine W_region rfl ?_
      refine WO_p (PS_move_int rfl) ?_
      refine WO_p (PS_add_u64n rfl rfl (by omega) (by omega)) ?_
      refine WO_p (PS_assign_int rfl) ?_
      refine WO_nil ?_
      refine inBlk_normal ?_
      refine thn_normal ?_
      refine W_region rfl ?_
      refine WO_p (PS_add_i64n rfl rfl (by omega) (by omega)) ?_
      refine WO_p (PS_move_int rfl) ?_
      refine WO_nil ?_
      refine thn_normal ?_
      exact ⟨k - 1, by omega, i + 1, by omega, ⟨rfl, congrArg (Value.int .u64) (by omega), rfl, rfl, congrArg (Value.int .i64) (by omega), trivial⟩, (by repeat (first | assumption | exact Ext.refl _ | refine Ext.alloc ?_ _ | refine Ext.drew ?_ | refine Ext.setB ?_ (by first | omega | (simp only [size_alloc, size_setB, size_drew]; omega)) _ | refine Ext.trans ?_ (by assumption))), Hb.mk (Hb.h (by repeat (first | assumption | exact Hb.newY _ _ | refine Hb.alloc ?_ | refine Hb.drew ?_ | refine Hb.ext (by assumption) ?_ | exact Hb.setSameL (by first | omega | (simp only [size_alloc, size_setB, size_drew]; omega)) | exact Hb.setSame (by assumption) | refine Hb.set (by first | omega | (simp only [size_alloc, size_setB, size_drew]; omega)) ?_ )))⟩
    · have hb4p := hb4.h; try simp only [al_ete, al_dfn, Bool.not_eq_true', Bool.not_eq_false', al_ne, Bool.not_not, al_nn] at hb4p
      rw [if_neg (by simpa using hb4p)] at hds
      refine W_skip ?_
      refine inBlk_normal ?_
      refine thn_normal ?_
      refine W_region rfl ?_
      refine WO_p (PS_add_i64n rfl rfl (by omega) (by omega)) ?_
      refine WO_p (PS_move_int rfl) ?_
      refine WO_nil ?_
      refine thn_normal ?_
      exact ⟨k - 1, by omega, i + 1, by omega, ⟨rfl, congrArg (Value.int .u64) (by omega), rfl, rfl, congrArg (Value.int .i64) (by omega), trivial⟩, (by repeat (first | assumption | exact Ext.refl _ | refine Ext.alloc ?_ _ | refine Ext.drew ?_ | refine Ext.setB ?_ (by first | omega | (simp only [size_alloc, size_setB, size_drew]; omega)) _ | refine Ext.trans ?_ (by assumption))), Hb.mk (Hb.h (by repeat (first | assumption | exact Hb.newY _ _ | refine Hb.alloc ?_ | refine Hb.drew ?_ | refine Hb.ext (by assumption) ?_ | exact Hb.setSameL (by first | omega | (simp only [size_alloc, size_setB, size_drew]; omega)) | exact Hb.setSame (by assumption) | refine Hb.set (by first | omega | (simp only [size_alloc, size_setB, size_drew]; omega)) ?_ )))⟩
  · have hb2p := hb2.h; try simp only [al_ete, al_dfn, Bool.not_eq_true', Bool.not_eq_false', al_ne, Bool.not_not, al_nn] at hb2p
    refine W_exit ?_
    refine thn_exit ?_
    refine thn_exit ?_
    refine inBlk_exit ?_
    refine thn_normal ?_
    refine W_seq ?_
    refine W_seq ?_
    refine W_region rfl ?_
    refine WO_p (PS_fieldAddr 173 Hvad.runUnderlying35 rfl Hvad.sizeOf33 rfl rfl) ?_
    refine WO_load (.slice _ _ _) Hvad.isAgg33 rfl (Hb.h (by repeat (first | assumption | exact Hb.newY _ _ | refine Hb.alloc ?_ | refine Hb.drew ?_ | refine Hb.ext (by assumption) ?_ | exact Hb.setSameL (by first | omega | (simp only [size_alloc, size_setB, size_drew]; omega)) | exact Hb.setSame (by assumption) | refine Hb.set (by first | omega | (simp only [size_alloc, size_setB, size_drew]; omega)) ?_ ))) (Ce.h (by first | assumption | exact ⟨rfl⟩)) ?_
    refine WO_p (PS_lenS Hvad.runUnderlying33 rfl) ?_
    refine WO_p (PS_move_int rfl) ?_
    refine WO_nil ?_
    refine thn_normal ?_
    refine W_block ?_
    have hi1 : i = t.db.length := by omega
    subst hi1
    have hEa := hE2
    clear hE2 hFr
    refine W_loopN (fun k ρ w' => ∃ (i : Nat), i + k = t.al.length ∧ Fr [(1, .pointer (some ⟨b1, 0, none⟩)), (3, .int .u64 (agas t i)), (23, .slice pst t.acc.2.1 t.acc.2.2), (24, .int .i64 t.acc.2.1), (25, .int .i64 i)] ρ ∧ Ext w w' ∧ Hb w' b1 (.cells (encTx t).toArray 35 (0, 0))) t.al.length ?_ ?_
    · exact ⟨0, by omega, ⟨rfl, rfl, rfl, rfl, rfl, trivial⟩, hEa, hb1⟩
    clear hik hz2 hEa hb1
    clear k ρ w2
    intro k ρ w2 hI2
    obtain ⟨i, hik, hFr, hE2, hb1⟩ := hI2
    refine W_env _ hFr ?_
    have hz2 := hE2.1
    have hlb1 := hb1.lt
    refine W_seq ?_
    refine W_region rfl ?_
    refine WO_p (PS_lss rfl rfl) ?_
    refine WO_nil ?_
    refine thn_normal ?_
    refine W_seq ?_
    refine W_if rfl (fun hb6 => ?_) (fun hb6 => ?_)
    · have hb6p := hb6.h; try simp only [al_ete, al_dfn, Bool.not_eq_true', Bool.not_eq_false', al_ne, Bool.not_not, al_nn] at hb6p
      have hiz : i < t.al.length := by omega
      obtain ⟨x, hx⟩ : ∃ x, t.al[i]? = some x := ⟨_, List.getElem?_eq_getElem hiz⟩
      obtain ⟨bx, ox, rx, Tx_, fzx, hpx, hbx, hrlx⟩ := htx.acY.get hx
      rw [hpst] at hpx
      subst hpx
      have hxk := htx.ar x (List.mem_of_getElem? hx)
      have hxbd := hrlx.bd hx
      have hxw := hrlx.ext hx (k := 0) (n := 21) (by decide) (ax_whole hxk) (encAx_len hxk)
      have hel21 : (encAx x).toArray.size = 21 := by simpa using encAx_len hxk
      have hck := axKeys hxk
      have hkl := hxk.ks.len
      have hgx : t.al.getD i ⟨[], (none, 0, 0), []⟩ = x := getD_some hx
      have hks1 : ksum t.al (i + 1) = ksum t.al i + x.kl.length := by show ksum t.al i + (t.al.getD i ⟨[], (none, 0, 0), []⟩).kl.length = _; rw [hgx]
      have hbx2 := hbx.ext hE2
      have hag := agas_bd hd hl i (by omega)
      have hk64 := hl.k (i + 1) (by omega)
      have hki := hl.k i (by omega)
      have has : agas t (i + 1) = agas t i + (2400 + 1900 * (x.kl.length : Int)) := by show agas t i + (2400 + 1900 * ((t.al.getD i ⟨[], (none, 0, 0), []⟩).kl.length : Int)) = _; rw [hgx]
      refine W_skip ?_
      refine thn_normal ?_
      refine W_seq ?_
      refine W_block ?_
      refine W_seq ?_
      refine W_region rfl ?_
      refine WO_p (PS_indexS Hvad.runUnderlying33 Hvad.sizeOf167 rfl rfl (by omega) (by omega)) ?_
      refine WO_loadA _ Hvad.isAgg167 Hvad.sizeOf167 rfl (Hb.h (by repeat (first | assumption | exact Hb.newY _ _ | refine Hb.alloc ?_ | refine Hb.drew ?_ | refine Hb.ext (by assumption) ?_ | exact Hb.setSameL (by first | omega | (simp only [size_alloc, size_setB, size_drew]; omega)) | exact Hb.setSame (by assumption) | refine Hb.set (by first | omega | (simp only [size_alloc, size_setB, size_drew]; omega)) ?_ ))) (by first | omega | assumption | rfl | decide | exact Nat.le_refl _ | (simp only [size_ic, Value.cells]; omega) | simp) (Xt.h (by first | assumption | exact Xt.whole rfl rfl | exact Xt.whole rfl (by simp only [size_ic, Value.cells]; omega) | exact ⟨rfl⟩)) ?_
      refine WO_allocG Hvad.zeroValue167 ?_
      intro b7 v7 hg7 hE7 hH7 hl7
      try simp only [size_alloc, size_setB, size_drew] at hg7
      have hzz7 := hE7.1
      try simp only [size_alloc, size_setB, size_drew] at hzz7
      refine WO_storeW Hvad.sizeOf167 rfl (v := .agg (encAx x).toArray) rfl hH7.h rfl hel21 (by rfl) (one_encAx x) ?_
      refine WO_nil ?_
      refine thn_normal ?_
      refine W_region rfl ?_
      refine WO_p (PS_move_int rfl) ?_
      refine WO_p (PS_fieldAddr 20 Hvad.runUnderlying167 rfl Hvad.sizeOf29 rfl rfl) ?_
      refine WO_load (.slice _ _ _) Hvad.isAgg29 rfl (Hb.h (by repeat (first | assumption | exact Hb.newY _ _ | refine Hb.alloc ?_ | refine Hb.drew ?_ | refine Hb.ext (by assumption) ?_ | exact Hb.setSameL (by first | omega | (simp only [size_alloc, size_setB, size_drew]; omega)) | exact Hb.setSame (by assumption) | refine Hb.set (by first | omega | (simp only [size_alloc, size_setB, size_drew]; omega)) ?_ ))) (Ce.h (by first | assumption | exact ⟨rfl⟩)) ?_
      refine WO_p (PS_lenS Hvad.runUnderlying29 rfl) ?_
      refine WO_p (PS_conv_u64n Hvad.runUnderlying3 Hvad.runUnderlying26 rfl (by omega) (by omega)) ?_
      refine WO_p (PS_mul_u64n rfl rfl (by omega) (by omega)) ?_
      refine WO_p (PS_add_u64n rfl rfl (by omega) (by omega)) ?_
      refine WO_p (PS_add_u64n rfl rfl (by omega) (by omega)) ?_
      refine WO_p (PS_assign_int rfl) ?_
      refine WO_nil ?_
      refine inBlk_normal ?_
      refine thn_normal ?_
      refine W_region rfl ?_
      refine WO_p (PS_add_i64n rfl rfl (by omega) (by omega)) ?_
      refine WO_p (PS_move_int rfl) ?_
      refine WO_nil ?_
      refine thn_normal ?_
      exact ⟨k - 1, by omega, i + 1, by omega, ⟨rfl, congrArg (Value.int .u64) (by omega), rfl, rfl, congrArg (Value.int .i64) (by omega), trivial⟩, (by repeat (first | assumption | exact Ext.refl _ | refine Ext.alloc ?_ _ | refine Ext.drew ?_ | refine Ext.setB ?_ (by first | omega | (simp only [size_alloc, size_setB, size_drew]; omega)) _ | refine Ext.trans ?_ (by assumption))), Hb.mk (Hb.h (by repeat (first | assumption | exact Hb.newY _ _ | refine Hb.alloc ?_ | refine Hb.drew ?_ | refine Hb.ext (by assumption) ?_ | exact Hb.setSameL (by first | omega | (simp only [size_alloc, size_setB, size_drew]; omega)) | exact Hb.setSame (by assumption) | refine Hb.set (by first | omega | (simp only [size_alloc, size_setB, size_drew]; omega)) ?_ )))⟩
    · have hb6p := hb6.h; try simp only [al_ete, al_dfn, Bool.not_eq_true', Bool.not_eq_false', al_ne, Bool.not_not, al_nn] at hb6p
      refine W_exit ?_
      refine thn_exit ?_
      refine thn_exit ?_
      refine inBlk_exit ?_
      refine thn_normal ?_
      refine W_seq ?_
      refine W_seq ?_
      have hi2 : i = t.al.length := by omega
      subst hi2
      refine W_region rfl ?_
      refine WO_p (PS_fieldAddr 40 Hvad.runUnderlying35 rfl Hvad.sizeOf4 rfl rfl) ?_
      refine WO_load (.bool _) Hvad.isAgg4 rfl (Hb.h (by repeat (first | assumption | exact Hb.newY _ _ | refine Hb.alloc ?_ | refine Hb.drew ?_ | refine Hb.ext (by assumption) ?_ | exact Hb.setSameL (by first | omega | (simp only [size_alloc, size_setB, size_drew]; omega)) | exact Hb.setSame (by assumption) | refine Hb.set (by first | omega | (simp only [size_alloc, size_setB, size_drew]; omega)) ?_ ))) (Ce.h (by first | assumption | exact ⟨rfl⟩)) ?_
      refine WO_nil ?_
      refine thn_normal ?_
      refine W_if rfl (fun hb8 => ?_) (fun hb8 => ?_)
      · have hb8p := hb8.h; try simp only [al_ete, al_dfn, Bool.not_eq_true', Bool.not_eq_false', al_ne, Bool.not_not, al_nn] at hb8p
        have hW : intrW t = agas t t.al.length + (32000 + 2 * (((t.db.length : Int) + 31) / 32)) := by unfold intrW; rw [if_pos hb8p]
        have hag := agas_bd hd hl t.al.length (Nat.le_refl _)
        have hki := hl.k t.al.length (Nat.le_refl _)
        refine W_region rfl ?_
        refine WO_p (PS_move_int rfl) ?_
        refine WO_p (PS_fieldAddr 107 Hvad.runUnderlying35 rfl Hvad.sizeOf32 rfl rfl) ?_
        refine WO_load (.slice _ _ _) Hvad.isAgg32 rfl (Hb.h (by repeat (first | assumption | exact Hb.newY _ _ | refine Hb.alloc ?_ | refine Hb.drew ?_ | refine Hb.ext (by assumption) ?_ | exact Hb.setSameL (by first | omega | (simp only [size_alloc, size_setB, size_drew]; omega)) | exact Hb.setSame (by assumption) | refine Hb.set (by first | omega | (simp only [size_alloc, size_setB, size_drew]; omega)) ?_ ))) (Ce.h (by first | assumption | exact ⟨rfl⟩)) ?_
        refine WO_p (PS_lenS Hvad.runUnderlying32 rfl) ?_
        refine WO_p (PS_conv_u64n Hvad.runUnderlying3 Hvad.runUnderlying26 rfl (by omega) (by omega)) ?_
        refine WO_call Hvad.call70 (by rfl) (Ret.mono (words_spec _ _ ⟨by omega, by omega⟩) ?_)
        rintro _ _ ⟨rfl, rfl⟩
        refine WO_p (PS_mul_u64n rfl rfl (by omega) (by omega)) ?_
        refine WO_p (PS_add_u64n rfl rfl (by omega) (by omega)) ?_
        refine WO_p (PS_add_u64n rfl rfl (by omega) (by omega)) ?_
        refine WO_p (PS_assign_int rfl) ?_
        refine WO_nil ?_
        refine thn_normal ?_
        refine W_seq ?_
        refine W_region rfl ?_
        refine WO_p (PS_move_int rfl) ?_
        refine WO_p (PS_assign_int rfl) ?_
        refine WO_nil ?_
        refine thn_normal ?_
        refine W_ret ?_
        refine bodyQ_ret1 Hvad.results31 rfl (.int _ _) rfl ?_
        exact ⟨congrArg (Value.int .u64) (by omega), (by repeat (first | assumption | exact Ext.refl _ | refine Ext.alloc ?_ _ | refine Ext.drew ?_ | refine Ext.setB ?_ (by first | omega | (simp only [size_alloc, size_setB, size_drew]; omega)) _ | refine Ext.trans ?_ (by assumption)))⟩
      · have hb8p := hb8.h; try simp only [al_ete, al_dfn, Bool.not_eq_true', Bool.not_eq_false', al_ne, Bool.not_not, al_nn] at hb8p
        have hW : intrW t = agas t t.al.length := by unfold intrW; rw [if_neg (by rw [hb8p]; decide)]
        refine W_skip ?_
        refine thn_normal ?_
        refine W_seq ?_
        refine W_region rfl ?_
        refine WO_p (PS_move_int rfl) ?_
        refine WO_p (PS_assign_int rfl) ?_
        refine WO_nil ?_
        refine thn_normal ?_
        refine W_ret ?_
        refine bodyQ_ret1 Hvad.results31 rfl (.int _ _) rfl ?_
        exact ⟨congrArg (Value.int .u64) (by omega), (by repeat (first | assumption | exact Ext.refl _ | refine Ext.alloc ?_ _ | refine Ext.drew ?_ | refine Ext.setB ?_ (by first | omega | (simp only [size_alloc, size_setB, size_drew]; omega)) _ | refine Ext.trans ?_ (by assumption)))⟩

set_option maxRecDepth 10000 in
set_option maxHeartbeats 4000000 in
theorem txFees_spec (bt : Nat) (t : Tx) (w : World) (hb : Hb w bt (.cells (encTx t).toArray 35 (0, 0))) (htx : TxOK w t) : Ret Hvad.prog 117 #[.pointer (some ⟨bt, 0, none⟩)] w fun u w' => u = .tuple #[.agg (ic .u8 (feeB t).1), .agg (ic .u8 (feeB t).2)] ∧ Ext w w' := by
  have hat := txAt htx
  have hdy := hat.dy
  have hmf := hat.mf
  have hti := hat.ti
  have hpr := hat.pr
  have htl2 : (encTx t).toArray.size = 174 := by simpa using encTx_len htx
  have hlm := htx.mf.1
  have hlt := htx.ti.1
  have hlp := htx.pr.1
  have hbl := hb.lt
  have hz32 : (ic .u8 Z32).size = 32 := by rw [size_ic]; rfl
  refine Ret_of_W Hvad.func117 rfl rfl ?_
  refine W_seq ?_
  refine W_region rfl ?_
  refine WO_allocG Hvad.zeroValue28 ?_
  intro b2 v2 hg2 hE2 hH2 hl2
  try simp only [size_alloc, size_setB, size_drew] at hg2
  have hzz2 := hE2.1
  try simp only [size_alloc, size_setB, size_drew] at hzz2
  replace hH2 : Hb v2 b2 (.cells (ic .u8 Z32) 28 (0, 0)) := hH2
  refine WO_allocG Hvad.zeroValue28 ?_
  intro b3 v3 hg3 hE3 hH3 hl3
  try simp only [size_alloc, size_setB, size_drew] at hg3
  have hzz3 := hE3.1
  try simp only [size_alloc, size_setB, size_drew] at hzz3
  replace hH3 : Hb v3 b3 (.cells (ic .u8 Z32) 28 (0, 0)) := hH3
  refine WO_nil ?_
  refine thn_normal ?_
  refine W_seq ?_
  refine W_seq ?_
  refine W_region rfl ?_
  refine WO_p (PS_move_ptr rfl) ?_
  refine WO_p (PS_nilCheck rfl) ?_
  refine WO_p (PS_fieldAddr 108 Hvad.runUnderlying35 rfl Hvad.sizeOf4 rfl rfl) ?_
  refine WO_load (.bool _) Hvad.isAgg4 rfl (Hb.h (by repeat (first | assumption | exact Hb.newY _ _ | refine Hb.alloc ?_ | refine Hb.drew ?_ | refine Hb.ext (by assumption) ?_ | exact Hb.setSameL (by first | omega | (simp only [size_alloc, size_setB, size_drew]; omega)) | exact Hb.setSame (by assumption) | refine Hb.set (by first | omega | (simp only [size_alloc, size_setB, size_drew]; omega)) ?_ ))) (Ce.h (by first | assumption | exact ⟨rfl⟩)) ?_
  refine WO_nil ?_
  refine thn_normal ?_
  refine W_if rfl (fun hb2 => ?_) (fun hb2 => ?_)
  · have hb2p := hb2.h; try simp only [al_ete, al_dfn, Bool.not_eq_true', Bool.not_eq_false', al_ne, Bool.not_not, al_nn] at hb2p
    have hfb : feeB t = (t.mfee, t.tip) := by unfold feeB; rw [if_pos hb2p]
    refine W_seq ?_
    refine W_drawT [false, false, false, false, false, false, false, false, true, false] (Ext w) hmix (by kernel_rfl) rfl (by repeat (first | assumption | exact Ext.refl _ | refine Ext.alloc ?_ _ | refine Ext.drew ?_ | refine Ext.setB ?_ (by first | omega | (simp only [size_alloc, size_setB, size_drew]; omega)) _ | refine Ext.trans ?_ (by assumption))) ?_
    refine WH_p (PS_move_ptr rfl) rfl ?_
    refine WH_p (PS_nilCheck rfl) rfl ?_
    refine WH_p (PS_fieldAddr 109 Hvad.runUnderlying35 rfl Hvad.sizeOf28 rfl rfl) rfl ?_
    refine WH_loadA _ Hvad.isAgg28 Hvad.sizeOf28 rfl (Hb.h (by repeat (first | assumption | exact Hb.newY _ _ | refine Hb.alloc ?_ | refine Hb.drew ?_ | refine Hb.ext (by assumption) ?_ | exact Hb.setSameL (by first | omega | (simp only [size_alloc, size_setB, size_drew]; omega)) | exact Hb.setSame (by assumption) | refine Hb.set (by first | omega | (simp only [size_alloc, size_setB, size_drew]; omega)) ?_ ))) (by first | omega | assumption | rfl | decide | exact Nat.le_refl _ | (simp only [size_ic, Value.cells]; omega) | simp) (Xt.h (by first | assumption | exact Xt.whole rfl rfl | exact Xt.whole rfl (by simp only [size_ic, Value.cells]; omega) | exact ⟨rfl⟩)) ?_
    refine WH_p (PS_move_ptr rfl) rfl ?_
    refine WH_p (PS_nilCheck rfl) rfl ?_
    refine WH_p (PS_fieldAddr 141 Hvad.runUnderlying35 rfl Hvad.sizeOf28 rfl rfl) rfl ?_
    refine WH_loadA _ Hvad.isAgg28 Hvad.sizeOf28 rfl (Hb.h (by repeat (first | assumption | exact Hb.newY _ _ | refine Hb.alloc ?_ | refine Hb.drew ?_ | refine Hb.ext (by assumption) ?_ | exact Hb.setSameL (by first | omega | (simp only [size_alloc, size_setB, size_drew]; omega)) | exact Hb.setSame (by assumption) | refine Hb.set (by first | omega | (simp only [size_alloc, size_setB, size_drew]; omega)) ?_ ))) (by first | omega | assumption | rfl | decide | exact Nat.le_refl _ | (simp only [size_ic, Value.cells]; omega) | simp) (Xt.h (by first | assumption | exact Xt.whole rfl rfl | exact Xt.whole rfl (by simp only [size_ic, Value.cells]; omega) | exact ⟨rfl⟩)) ?_
    first | refine WH_storeW Hvad.sizeOf28 rfl (v := .agg _) rfl (Hb.h (by repeat (first | assumption | exact Hb.newY _ _ | refine Hb.alloc ?_ | refine Hb.drew ?_ | refine Hb.ext (by assumption) ?_ | exact Hb.setSameL (by first | omega | (simp only [size_alloc, size_setB, size_drew]; omega)) | exact Hb.setSame (by assumption) | refine Hb.set (by first | omega | (simp only [size_alloc, size_setB, size_drew]; omega)) ?_ ))) rfl (by first | omega | assumption | rfl | decide | exact Nat.le_refl _ | (simp only [size_ic, Value.cells]; omega) | simp) (by first | omega | assumption | rfl | decide | exact Nat.le_refl _ | (simp only [size_ic, Value.cells]; omega) | simp) (by first | exact oneCell_ic | assumption) (fun _ => (by repeat (first | assumption | exact Ext.refl _ | refine Ext.alloc ?_ _ | refine Ext.drew ?_ | refine Ext.setB ?_ (by first | omega | (simp only [size_alloc, size_setB, size_drew]; omega)) _ | exact Ext.trans (by assumption) (by assumption) | refine Ext.trans ?_ (by assumption)))) ?_ | refine WH_store Hvad.sizeOf28 rfl (v := .agg _) rfl (Hb.h (by repeat (first | assumption | exact Hb.newY _ _ | refine Hb.alloc ?_ | refine Hb.drew ?_ | refine Hb.ext (by assumption) ?_ | exact Hb.setSameL (by first | omega | (simp only [size_alloc, size_setB, size_drew]; omega)) | exact Hb.setSame (by assumption) | refine Hb.set (by first | omega | (simp only [size_alloc, size_setB, size_drew]; omega)) ?_ ))) (by first | omega | assumption | rfl | decide | exact Nat.le_refl _ | (simp only [size_ic, Value.cells]; omega) | simp) (by first | omega | assumption | rfl | decide | exact Nat.le_refl _ | (simp only [size_ic, Value.cells]; omega) | simp) (by first | exact oneCell_ic | assumption) (fun _ => (by repeat (first | assumption | exact Ext.refl _ | refine Ext.alloc ?_ _ | refine Ext.drew ?_ | refine Ext.setB ?_ (by first | omega | (simp only [size_alloc, size_setB, size_drew]; omega)) _ | exact Ext.trans (by assumption) (by assumption) | refine Ext.trans ?_ (by assumption)))) ?_
    first | refine WH_storeW Hvad.sizeOf28 rfl (v := .agg _) rfl (Hb.h (by repeat (first | assumption | exact Hb.newY _ _ | refine Hb.alloc ?_ | refine Hb.drew ?_ | refine Hb.ext (by assumption) ?_ | exact Hb.setSameL (by first | omega | (simp only [size_alloc, size_setB, size_drew]; omega)) | exact Hb.setSame (by assumption) | refine Hb.set (by first | omega | (simp only [size_alloc, size_setB, size_drew]; omega)) ?_ ))) rfl (by first | omega | assumption | rfl | decide | exact Nat.le_refl _ | (simp only [size_ic, Value.cells]; omega) | simp) (by first | omega | assumption | rfl | decide | exact Nat.le_refl _ | (simp only [size_ic, Value.cells]; omega) | simp) (by first | exact oneCell_ic | assumption) (fun h => by cases h) ?_ | refine WH_store Hvad.sizeOf28 rfl (v := .agg _) rfl (Hb.h (by repeat (first | assumption | exact Hb.newY _ _ | refine Hb.alloc ?_ | refine Hb.drew ?_ | refine Hb.ext (by assumption) ?_ | exact Hb.setSameL (by first | omega | (simp only [size_alloc, size_setB, size_drew]; omega)) | exact Hb.setSame (by assumption) | refine Hb.set (by first | omega | (simp only [size_alloc, size_setB, size_drew]; omega)) ?_ ))) (by first | omega | assumption | rfl | decide | exact Nat.le_refl _ | (simp only [size_ic, Value.cells]; omega) | simp) (by first | omega | assumption | rfl | decide | exact Nat.le_refl _ | (simp only [size_ic, Value.cells]; omega) | simp) (by first | exact oneCell_ic | assumption) (fun h => by cases h) ?_
    refine WH_nil ?_
    refine thn_normal ?_
    refine W_ret ?_
    refine thn_ret ?_
    refine bodyQ_cell2 Hvad.results117 rfl rfl Hvad.isAgg28 Hvad.sizeOf28 Hvad.isAgg28 Hvad.sizeOf28 rfl (Hb.h (by repeat (first | assumption | exact Hb.newY _ _ | refine Hb.alloc ?_ | refine Hb.drew ?_ | refine Hb.ext (by assumption) ?_ | exact Hb.setSameL (by first | omega | (simp only [size_alloc, size_setB, size_drew]; omega)) | exact Hb.setSame (by assumption) | refine Hb.set (by first | omega | (simp only [size_alloc, size_setB, size_drew]; omega)) ?_ ))) (by first | omega | assumption | rfl | decide | exact Nat.le_refl _ | (simp only [size_ic, Value.cells]; omega) | simp) rfl (Hb.h (by repeat (first | assumption | exact Hb.newY _ _ | refine Hb.alloc ?_ | refine Hb.drew ?_ | refine Hb.ext (by assumption) ?_ | exact Hb.setSameL (by first | omega | (simp only [size_alloc, size_setB, size_drew]; omega)) | exact Hb.setSame (by assumption) | refine Hb.set (by first | omega | (simp only [size_alloc, size_setB, size_drew]; omega)) ?_ ))) (by first | omega | assumption | rfl | decide | exact Nat.le_refl _ | (simp only [size_ic, Value.cells]; omega) | simp) ?_
    rw [hfb]
    exact ⟨rfl, (by repeat (first | assumption | exact Ext.refl _ | refine Ext.alloc ?_ _ | refine Ext.drew ?_ | refine Ext.setB ?_ (by first | omega | (simp only [size_alloc, size_setB, size_drew]; omega)) _ | refine Ext.trans ?_ (by assumption)))⟩
  · have hb2p := hb2.h; try simp only [al_ete, al_dfn, Bool.not_eq_true', Bool.not_eq_false', al_ne, Bool.not_not, al_nn] at hb2p
    have hfb : feeB t = (t.price, t.price) := by unfold feeB; rw [if_neg (by rw [hb2p]; decide)]
    refine W_skip ?_
    refine thn_normal ?_
    refine W_seq ?_
    refine W_drawT [false, false, false, false, false, false, false, false, true, false] (Ext w) hmix (by kernel_rfl) rfl (by repeat (first | assumption | exact Ext.refl _ | refine Ext.alloc ?_ _ | refine Ext.drew ?_ | refine Ext.setB ?_ (by first | omega | (simp only [size_alloc, size_setB, size_drew]; omega)) _ | refine Ext.trans ?_ (by assumption))) ?_
    refine WH_p (PS_move_ptr rfl) rfl ?_
    refine WH_p (PS_nilCheck rfl) rfl ?_
    refine WH_p (PS_fieldAddr 43 Hvad.runUnderlying35 rfl Hvad.sizeOf28 rfl rfl) rfl ?_
    refine WH_loadA _ Hvad.isAgg28 Hvad.sizeOf28 rfl (Hb.h (by repeat (first | assumption | exact Hb.newY _ _ | refine Hb.alloc ?_ | refine Hb.drew ?_ | refine Hb.ext (by assumption) ?_ | exact Hb.setSameL (by first | omega | (simp only [size_alloc, size_setB, size_drew]; omega)) | exact Hb.setSame (by assumption) | refine Hb.set (by first | omega | (simp only [size_alloc, size_setB, size_drew]; omega)) ?_ ))) (by first | omega | assumption | rfl | decide | exact Nat.le_refl _ | (simp only [size_ic, Value.cells]; omega) | simp) (Xt.h (by first | assumption | exact Xt.whole rfl rfl | exact Xt.whole rfl (by simp only [size_ic, Value.cells]; omega) | exact ⟨rfl⟩)) ?_
    refine WH_p (PS_move_ptr rfl) rfl ?_
    refine WH_p (PS_nilCheck rfl) rfl ?_
    refine WH_p (PS_fieldAddr 43 Hvad.runUnderlying35 rfl Hvad.sizeOf28 rfl rfl) rfl ?_
    refine WH_loadA _ Hvad.isAgg28 Hvad.sizeOf28 rfl (Hb.h (by repeat (first | assumption | exact Hb.newY _ _ | refine Hb.alloc ?_ | refine Hb.drew ?_ | refine Hb.ext (by assumption) ?_ | exact Hb.setSameL (by first | omega | (simp only [size_alloc, size_setB, size_drew]; omega)) | exact Hb.setSame (by assumption) | refine Hb.set (by first | omega | (simp only [size_alloc, size_setB, size_drew]; omega)) ?_ ))) (by first | omega | assumption | rfl | decide | exact Nat.le_refl _ | (simp only [size_ic, Value.cells]; omega) | simp) (Xt.h (by first | assumption | exact Xt.whole rfl rfl | exact Xt.whole rfl (by simp only [size_ic, Value.cells]; omega) | exact ⟨rfl⟩)) ?_
    first | refine WH_storeW Hvad.sizeOf28 rfl (v := .agg _) rfl (Hb.h (by repeat (first | assumption | exact Hb.newY _ _ | refine Hb.alloc ?_ | refine Hb.drew ?_ | refine Hb.ext (by assumption) ?_ | exact Hb.setSameL (by first | omega | (simp only [size_alloc, size_setB, size_drew]; omega)) | exact Hb.setSame (by assumption) | refine Hb.set (by first | omega | (simp only [size_alloc, size_setB, size_drew]; omega)) ?_ ))) rfl (by first | omega | assumption | rfl | decide | exact Nat.le_refl _ | (simp only [size_ic, Value.cells]; omega) | simp) (by first | omega | assumption | rfl | decide | exact Nat.le_refl _ | (simp only [size_ic, Value.cells]; omega) | simp) (by first | exact oneCell_ic | assumption) (fun _ => (by repeat (first | assumption | exact Ext.refl _ | refine Ext.alloc ?_ _ | refine Ext.drew ?_ | refine Ext.setB ?_ (by first | omega | (simp only [size_alloc, size_setB, size_drew]; omega)) _ | exact Ext.trans (by assumption) (by assumption) | refine Ext.trans ?_ (by assumption)))) ?_ | refine WH_store Hvad.sizeOf28 rfl (v := .agg _) rfl (Hb.h (by repeat (first | assumption | exact Hb.newY _ _ | refine Hb.alloc ?_ | refine Hb.drew ?_ | refine Hb.ext (by assumption) ?_ | exact Hb.setSameL (by first | omega | (simp only [size_alloc, size_setB, size_drew]; omega)) | exact Hb.setSame (by assumption) | refine Hb.set (by first | omega | (simp only [size_alloc, size_setB, size_drew]; omega)) ?_ ))) (by first | omega | assumption | rfl | decide | exact Nat.le_refl _ | (simp only [size_ic, Value.cells]; omega) | simp) (by first | omega | assumption | rfl | decide | exact Nat.le_refl _ | (simp only [size_ic, Value.cells]; omega) | simp) (by first | exact oneCell_ic | assumption) (fun _ => (by repeat (first | assumption | exact Ext.refl _ | refine Ext.alloc ?_ _ | refine Ext.drew ?_ | refine Ext.setB ?_ (by first | omega | (simp only [size_alloc, size_setB, size_drew]; omega)) _ | exact Ext.trans (by assumption) (by assumption) | refine Ext.trans ?_ (by assumption)))) ?_
    first | refine WH_storeW Hvad.sizeOf28 rfl (v := .agg _) rfl (Hb.h (by repeat (first | assumption | exact Hb.newY _ _ | refine Hb.alloc ?_ | refine Hb.drew ?_ | refine Hb.ext (by assumption) ?_ | exact Hb.setSameL (by first | omega | (simp only [size_alloc, size_setB, size_drew]; omega)) | exact Hb.setSame (by assumption) | refine Hb.set (by first | omega | (simp only [size_alloc, size_setB, size_drew]; omega)) ?_ ))) rfl (by first | omega | assumption | rfl | decide | exact Nat.le_refl _ | (simp only [size_ic, Value.cells]; omega) | simp) (by first | omega | assumption | rfl | decide | exact Nat.le_refl _ | (simp only [size_ic, Value.cells]; omega) | simp) (by first | exact oneCell_ic | assumption) (fun h => by cases h) ?_ | refine WH_store Hvad.sizeOf28 rfl (v := .agg _) rfl (Hb.h (by repeat (first | assumption | exact Hb.newY _ _ | refine Hb.alloc ?_ | refine Hb.drew ?_ | refine Hb.ext (by assumption) ?_ | exact Hb.setSameL (by first | omega | (simp only [size_alloc, size_setB, size_drew]; omega)) | exact Hb.setSame (by assumption) | refine Hb.set (by first | omega | (simp only [size_alloc, size_setB, size_drew]; omega)) ?_ ))) (by first | omega | assumption | rfl | decide | exact Nat.le_refl _ | (simp only [size_ic, Value.cells]; omega) | simp) (by first | omega | assumption | rfl | decide | exact Nat.le_refl _ | (simp only [size_ic, Value.cells]; omega) | simp) (by first | exact oneCell_ic | assumption) (fun h => by cases h) ?_
    refine WH_nil ?_
    refine thn_normal ?_
    refine W_ret ?_
    refine bodyQ_cell2 Hvad.results117 rfl rfl Hvad.isAgg28 Hvad.sizeOf28 Hvad.isAgg28 Hvad.sizeOf28 rfl (Hb.h (by repeat (first | assumption | exact Hb.newY _ _ | refine Hb.alloc ?_ | refine Hb.drew ?_ | refine Hb.ext (by assumption) ?_ | exact Hb.setSameL (by first | omega | (simp only [size_alloc, size_setB, size_drew]; omega)) | exact Hb.setSame (by assumption) | refine Hb.set (by first | omega | (simp only [size_alloc, size_setB, size_drew]; omega)) ?_ ))) (by first | omega | assumption | rfl | decide | exact Nat.le_refl _ | (simp only [size_ic, Value.cells]; omega) | simp) rfl (Hb.h (by repeat (first | assumption | exact Hb.newY _ _ | refine Hb.alloc ?_ | refine Hb.drew ?_ | refine Hb.ext (by assumption) ?_ | exact Hb.setSameL (by first | omega | (simp only [size_alloc, size_setB, size_drew]; omega)) | exact Hb.setSame (by assumption) | refine Hb.set (by first | omega | (simp only [size_alloc, size_setB, size_drew]; omega)) ?_ ))) (by first | omega | assumption | rfl | decide | exact Nat.le_refl _ | (simp only [size_ic, Value.cells]; omega) | simp) ?_
    rw [hfb]
    exact ⟨rfl, (by repeat (first | assumption | exact Ext.refl _ | refine Ext.alloc ?_ _ | refine Ext.drew ?_ | refine Ext.setB ?_ (by first | omega | (simp only [size_alloc, size_setB, size_drew]; omega)) _ | refine Ext.trans ?_ (by assumption)))⟩

set_option maxRecDepth 10000 in
set_option maxHeartbeats 4000000 in
theorem fees_spec (t : Tx) (w : World) (htx : TxOK w t) : Ret Hvad.prog 63 #[.agg (encTx t).toArray] w fun u w' => u = .tuple #[.agg (ic .u64 (fromB (feeB t).1)), .agg (ic .u64 (fromB (feeB t).2))] ∧ Ext w w' := by
  obtain ⟨hf1, hf2⟩ := feeB_by htx
  have hl1 := hf1.1
  have hl2 := hf2.1
  have hw1 := (fromB_wd hf1.2).1
  have hw2 := (fromB_wd hf2.2).1
  have hz32 : (ic .u8 Z32).size = 32 := by rw [size_ic]; rfl
  refine Ret_of_W Hvad.func63 rfl rfl ?_
  refine W_seq ?_
  refine W_region rfl ?_
  refine WO_boxG (.agg _) rfl ?_
  intro b1 v1 hg1 hE1 hH1 hl1
  try simp only [size_alloc, size_setB, size_drew] at hg1
  have hzz1 := hE1.1
  try simp only [size_alloc, size_setB, size_drew] at hzz1
  refine WO_allocG Hvad.zeroValue59 ?_
  intro b2 v2 hg2 hE2 hH2 hl2
  try simp only [size_alloc, size_setB, size_drew] at hg2
  have hzz2 := hE2.1
  try simp only [size_alloc, size_setB, size_drew] at hzz2
  replace hH2 : Hb v2 b2 (.cells (ic .u64 [0, 0, 0, 0]) 59 (0, 0)) := hH2
  refine WO_allocG Hvad.zeroValue59 ?_
  intro b3 v3 hg3 hE3 hH3 hl3
  try simp only [size_alloc, size_setB, size_drew] at hg3
  have hzz3 := hE3.1
  try simp only [size_alloc, size_setB, size_drew] at hzz3
  replace hH3 : Hb v3 b3 (.cells (ic .u64 [0, 0, 0, 0]) 59 (0, 0)) := hH3
  refine WO_nil ?_
  refine thn_normal ?_
  refine W_seq ?_
  refine W_region rfl ?_
  refine WO_call Hvad.call117 (by rfl) (Ret.mono (txFees_spec b1 t _ (Hb.mk (Hb.h (by repeat (first | assumption | exact Hb.newY _ _ | refine Hb.alloc ?_ | refine Hb.drew ?_ | refine Hb.ext (by assumption) ?_ | exact Hb.setSameL (by first | omega | (simp only [size_alloc, size_setB, size_drew]; omega)) | exact Hb.setSame (by assumption) | refine Hb.set (by first | omega | (simp only [size_alloc, size_setB, size_drew]; omega)) ?_ )))) (htx.ext (by repeat (first | assumption | exact Ext.refl _ | refine Ext.alloc ?_ _ | refine Ext.drew ?_ | refine Ext.setB ?_ (by first | omega | (simp only [size_alloc, size_setB, size_drew]; omega)) _ | exact Ext.trans (by assumption) (by assumption) | refine Ext.trans ?_ (by assumption))))) ?_)
  rintro _ w117_0 ⟨rfl, hE117_0⟩
  have hz117_0 := hE117_0.1
  try simp only [size_alloc, size_setB, size_drew] at hz117_0
  refine WO_p (PS_move_tuple rfl) ?_
  refine WO_p (PS_extract_agg rfl rfl) ?_
  refine WO_p (PS_extract_agg rfl rfl) ?_
  refine WO_allocG Hvad.zeroValue28 ?_
  intro b4 v4 hg4 hE4 hH4 hl4
  try simp only [size_alloc, size_setB, size_drew] at hg4
  have hzz4 := hE4.1
  try simp only [size_alloc, size_setB, size_drew] at hzz4
  replace hH4 : Hb v4 b4 (.cells (ic .u8 Z32) 28 (0, 0)) := hH4
  refine WO_allocG Hvad.zeroValue28 ?_
  intro b5 v5 hg5 hE5 hH5 hl5
  try simp only [size_alloc, size_setB, size_drew] at hg5
  have hzz5 := hE5.1
  try simp only [size_alloc, size_setB, size_drew] at hzz5
  replace hH5 : Hb v5 b5 (.cells (ic .u8 Z32) 28 (0, 0)) := hH5
  first | refine WO_storeW Hvad.sizeOf28 rfl (v := .agg _) rfl (Hb.h (by repeat (first | assumption | exact Hb.newY _ _ | refine Hb.alloc ?_ | refine Hb.drew ?_ | refine Hb.ext (by assumption) ?_ | exact Hb.setSameL (by first | omega | (simp only [size_alloc, size_setB, size_drew]; omega)) | exact Hb.setSame (by assumption) | refine Hb.set (by first | omega | (simp only [size_alloc, size_setB, size_drew]; omega)) ?_ ))) rfl (by first | omega | assumption | rfl | decide | exact Nat.le_refl _ | (simp only [size_ic, Value.cells]; omega) | simp) (by first | omega | assumption | rfl | decide | exact Nat.le_refl _ | (simp only [size_ic, Value.cells]; omega) | simp) (by first | exact oneCell_ic | assumption) ?_ | refine WO_store Hvad.sizeOf28 rfl (v := .agg _) rfl (Hb.h (by repeat (first | assumption | exact Hb.newY _ _ | refine Hb.alloc ?_ | refine Hb.drew ?_ | refine Hb.ext (by assumption) ?_ | exact Hb.setSameL (by first | omega | (simp only [size_alloc, size_setB, size_drew]; omega)) | exact Hb.setSame (by assumption) | refine Hb.set (by first | omega | (simp only [size_alloc, size_setB, size_drew]; omega)) ?_ ))) (by first | omega | assumption | rfl | decide | exact Nat.le_refl _ | (simp only [size_ic, Value.cells]; omega) | simp) (by first | omega | assumption | rfl | decide | exact Nat.le_refl _ | (simp only [size_ic, Value.cells]; omega) | simp) (by first | exact oneCell_ic | assumption) ?_
  first | refine WO_storeW Hvad.sizeOf28 rfl (v := .agg _) rfl (Hb.h (by repeat (first | assumption | exact Hb.newY _ _ | refine Hb.alloc ?_ | refine Hb.drew ?_ | refine Hb.ext (by assumption) ?_ | exact Hb.setSameL (by first | omega | (simp only [size_alloc, size_setB, size_drew]; omega)) | exact Hb.setSame (by assumption) | refine Hb.set (by first | omega | (simp only [size_alloc, size_setB, size_drew]; omega)) ?_ ))) rfl (by first | omega | assumption | rfl | decide | exact Nat.le_refl _ | (simp only [size_ic, Value.cells]; omega) | simp) (by first | omega | assumption | rfl | decide | exact Nat.le_refl _ | (simp only [size_ic, Value.cells]; omega) | simp) (by first | exact oneCell_ic | assumption) ?_ | refine WO_store Hvad.sizeOf28 rfl (v := .agg _) rfl (Hb.h (by repeat (first | assumption | exact Hb.newY _ _ | refine Hb.alloc ?_ | refine Hb.drew ?_ | refine Hb.ext (by assumption) ?_ | exact Hb.setSameL (by first | omega | (simp only [size_alloc, size_setB, size_drew]; omega)) | exact Hb.setSame (by assumption) | refine Hb.set (by first | omega | (simp only [size_alloc, size_setB, size_drew]; omega)) ?_ ))) (by first | omega | assumption | rfl | decide | exact Nat.le_refl _ | (simp only [size_ic, Value.cells]; omega) | simp) (by first | omega | assumption | rfl | decide | exact Nat.le_refl _ | (simp only [size_ic, Value.cells]; omega) | simp) (by first | exact oneCell_ic | assumption) ?_
  refine WO_nil ?_
  refine thn_normal ?_
  refine W_seq ?_
  refine W_drawE [false, true, false, false, false, false] hmix (by kernel_rfl) rfl ?_
  refine WH_loadA _ Hvad.isAgg28 Hvad.sizeOf28 rfl (Hb.h (by repeat (first | assumption | exact Hb.newY _ _ | refine Hb.alloc ?_ | refine Hb.drew ?_ | refine Hb.ext (by assumption) ?_ | exact Hb.setSameL (by first | omega | (simp only [size_alloc, size_setB, size_drew]; omega)) | exact Hb.setSame (by assumption) | refine Hb.set (by first | omega | (simp only [size_alloc, size_setB, size_drew]; omega)) ?_ ))) (by first | omega | assumption | rfl | decide | exact Nat.le_refl _ | (simp only [size_ic, Value.cells]; omega) | simp) (Xt.h (by first | assumption | exact Xt.whole rfl rfl | exact Xt.whole rfl (by simp only [size_ic, Value.cells]; omega) | exact ⟨rfl⟩)) ?_
  refine WH_call Hvad.call39 (by rfl) (Ret.mono (fromBytes_spec (feeB t).1 _ hf1) ?_)
  rintro _ w39_1 ⟨rfl, hE39_1⟩
  refine ⟨fun _ => (by repeat (first | assumption | exact Ext.refl _ | refine Ext.alloc ?_ _ | refine Ext.drew ?_ | refine Ext.setB ?_ (by first | omega | (simp only [size_alloc, size_setB, size_drew]; omega)) _ | exact Ext.trans (by assumption) (by assumption) | refine Ext.trans ?_ (by assumption))), ?_⟩
  have hz39_1 := hE39_1.1
  try simp only [size_alloc, size_setB, size_drew] at hz39_1
  refine WH_loadA _ Hvad.isAgg28 Hvad.sizeOf28 rfl (Hb.h (by repeat (first | assumption | exact Hb.newY _ _ | refine Hb.alloc ?_ | refine Hb.drew ?_ | refine Hb.ext (by assumption) ?_ | exact Hb.setSameL (by first | omega | (simp only [size_alloc, size_setB, size_drew]; omega)) | exact Hb.setSame (by assumption) | refine Hb.set (by first | omega | (simp only [size_alloc, size_setB, size_drew]; omega)) ?_ ))) (by first | omega | assumption | rfl | decide | exact Nat.le_refl _ | (simp only [size_ic, Value.cells]; omega) | simp) (Xt.h (by first | assumption | exact Xt.whole rfl rfl | exact Xt.whole rfl (by simp only [size_ic, Value.cells]; omega) | exact ⟨rfl⟩)) ?_
  refine WH_call Hvad.call39 (by rfl) (Ret.mono (fromBytes_spec (feeB t).2 _ hf2) ?_)
  rintro _ w39_2 ⟨rfl, hE39_2⟩
  refine ⟨(fun h => by cases h), ?_⟩
  have hz39_2 := hE39_2.1
  try simp only [size_alloc, size_setB, size_drew] at hz39_2
  first | refine WH_storeW Hvad.sizeOf59 rfl (v := .agg _) rfl (Hb.h (by repeat (first | assumption | exact Hb.newY _ _ | refine Hb.alloc ?_ | refine Hb.drew ?_ | refine Hb.ext (by assumption) ?_ | exact Hb.setSameL (by first | omega | (simp only [size_alloc, size_setB, size_drew]; omega)) | exact Hb.setSame (by assumption) | refine Hb.set (by first | omega | (simp only [size_alloc, size_setB, size_drew]; omega)) ?_ ))) rfl (by first | omega | assumption | rfl | decide | exact Nat.le_refl _ | (simp only [size_ic, Value.cells]; omega) | simp) (by first | omega | assumption | rfl | decide | exact Nat.le_refl _ | (simp only [size_ic, Value.cells]; omega) | simp) (by first | exact oneCell_ic | assumption) (fun h => by cases h) ?_ | refine WH_store Hvad.sizeOf59 rfl (v := .agg _) rfl (Hb.h (by repeat (first | assumption | exact Hb.newY _ _ | refine Hb.alloc ?_ | refine Hb.drew ?_ | refine Hb.ext (by assumption) ?_ | exact Hb.setSameL (by first | omega | (simp only [size_alloc, size_setB, size_drew]; omega)) | exact Hb.setSame (by assumption) | refine Hb.set (by first | omega | (simp only [size_alloc, size_setB, size_drew]; omega)) ?_ ))) (by first | omega | assumption | rfl | decide | exact Nat.le_refl _ | (simp only [size_ic, Value.cells]; omega) | simp) (by first | omega | assumption | rfl | decide | exact Nat.le_refl _ | (simp only [size_ic, Value.cells]; omega) | simp) (by first | exact oneCell_ic | assumption) (fun h => by cases h) ?_
  first | refine WH_storeW Hvad.sizeOf59 rfl (v := .agg _) rfl (Hb.h (by repeat (first | assumption | exact Hb.newY _ _ | refine Hb.alloc ?_ | refine Hb.drew ?_ | refine Hb.ext (by assumption) ?_ | exact Hb.setSameL (by first | omega | (simp only [size_alloc, size_setB, size_drew]; omega)) | exact Hb.setSame (by assumption) | refine Hb.set (by first | omega | (simp only [size_alloc, size_setB, size_drew]; omega)) ?_ ))) rfl (by first | omega | assumption | rfl | decide | exact Nat.le_refl _ | (simp only [size_ic, Value.cells]; omega) | simp) (by first | omega | assumption | rfl | decide | exact Nat.le_refl _ | (simp only [size_ic, Value.cells]; omega) | simp) (by first | exact oneCell_ic | assumption) (fun h => by cases h) ?_ | refine WH_store Hvad.sizeOf59 rfl (v := .agg _) rfl (Hb.h (by repeat (first | assumption | exact Hb.newY _ _ | refine Hb.alloc ?_ | refine Hb.drew ?_ | refine Hb.ext (by assumption) ?_ | exact Hb.setSameL (by first | omega | (simp only [size_alloc, size_setB, size_drew]; omega)) | exact Hb.setSame (by assumption) | refine Hb.set (by first | omega | (simp only [size_alloc, size_setB, size_drew]; omega)) ?_ ))) (by first | omega | assumption | rfl | decide | exact Nat.le_refl _ | (simp only [size_ic, Value.cells]; omega) | simp) (by first | omega | assumption | rfl | decide | exact Nat.le_refl _ | (simp only [size_ic, Value.cells]; omega) | simp) (by first | exact oneCell_ic | assumption) (fun h => by cases h) ?_
  refine WH_nil ?_
  refine thn_normal ?_
  refine W_ret ?_
  refine bodyQ_cell2 Hvad.results63 rfl rfl Hvad.isAgg59 Hvad.sizeOf59 Hvad.isAgg59 Hvad.sizeOf59 rfl (Hb.h (by repeat (first | assumption | exact Hb.newY _ _ | refine Hb.alloc ?_ | refine Hb.drew ?_ | refine Hb.ext (by assumption) ?_ | exact Hb.setSameL (by first | omega | (simp only [size_alloc, size_setB, size_drew]; omega)) | exact Hb.setSame (by assumption) | refine Hb.set (by first | omega | (simp only [size_alloc, size_setB, size_drew]; omega)) ?_ ))) (by first | omega | assumption | rfl | decide | exact Nat.le_refl _ | (simp only [size_ic, Value.cells]; omega) | simp) rfl (Hb.h (by repeat (first | assumption | exact Hb.newY _ _ | refine Hb.alloc ?_ | refine Hb.drew ?_ | refine Hb.ext (by assumption) ?_ | exact Hb.setSameL (by first | omega | (simp only [size_alloc, size_setB, size_drew]; omega)) | exact Hb.setSame (by assumption) | refine Hb.set (by first | omega | (simp only [size_alloc, size_setB, size_drew]; omega)) ?_ ))) (by first | omega | assumption | rfl | decide | exact Nat.le_refl _ | (simp only [size_ic, Value.cells]; omega) | simp) ?_
  exact ⟨rfl, (by repeat (first | assumption | exact Ext.refl _ | refine Ext.alloc ?_ _ | refine Ext.drew ?_ | refine Ext.setB ?_ (by first | omega | (simp only [size_alloc, size_setB, size_drew]; omega)) _ | refine Ext.trans ?_ (by assumption)))⟩

end Go.Proofs.YgvadwGreat
