import Derived.Test.YgvadwGreatFwS
import Derived.Test.YgvadwGreatUd
namespace Go.Proofs.YgvadwGreat
set_option linter.unusedSimpArgs false
set_option linter.unusedVariables false
/-! the inputs as they lie -/
def encB (x : Int) : List Value := [.int .u8 x]
structure Sl where
  key : List Int
  val : List Int
def encSl (x : Sl) : List Value := x.key.map (Value.int .u8) ++ x.val.map (Value.int .u8)
structure Ac where
  addr : List Int
  nonce : Int
  bal : List Int
  code : SV
  sto : SV
  cb : List Int
  sl : List Sl
def encAc (x : Ac) : List Value := x.addr.map (Value.int .u8) ++ .int .u64 x.nonce :: (x.bal.map (Value.int .u8) ++ [sv x.code, sv x.sto])
/-- a slice of records that lies somewhere -/
structure InRow {α : Type} (enc : α → List Value) (sz : Nat) (w : World) (s : SV) (l : List α) : Prop where
  len : s.2.1 = l.length
  row : 0 < l.length → ∃ b o r T fz, s.1 = some ⟨b, o, none⟩ ∧ Hb w b (.cells r T fz) ∧ RowL enc sz o r l
theorem InRow.ext {α : Type} {enc : α → List Value} {sz : Nat} {w w' : World} {s : SV} {l : List α} (h : InRow enc sz w s l) (he : Ext w w') : InRow enc sz w' s l :=
  ⟨h.len, fun h0 => by obtain ⟨b, o, r, T, fz, h1, h2, h3⟩ := h.row h0; exact ⟨b, o, r, T, fz, h1, h2.ext he, h3⟩⟩
theorem InRow.get {α : Type} {enc : α → List Value} {sz : Nat} {w : World} {s : SV} {l : List α} (h : InRow enc sz w s l) {i : Nat} {x : α} (hx : l[i]? = some x) :
    ∃ b o r T fz, s.1 = some ⟨b, o, none⟩ ∧ Hb w b (.cells r T fz) ∧ RowL enc sz o r l := h.row (by have := lt_of_getElem? hx; omega)
theorem InRow.sc {w : World} {s : SV} {L : List Int} (h : InRow encB 1 w s L) (h0 : 0 < L.length) : SC w .u8 1 s L := by
  obtain ⟨b, o, r, T, fz, h1, h2, h3⟩ := h.row h0
  have hl := h.len
  have hsz := h3.1
  refine ⟨by omega, Or.inr ⟨b, o, r, T, fz, h1, h2, by omega, ⟨?_⟩⟩⟩
  refine Array.ext_getElem? fun i => ?_
  rw [Array.getElem?_extract, ic_get]
  by_cases hi : i < L.length
  · have h4 := h3.2 i L[i] (List.getElem?_eq_getElem hi) 0 (by decide)
    have h5 : r[o + i]? = some (.int .u8 L[i]) := by
      have : o + i * 1 + 0 = o + i := by omega
      rw [this] at h4; exact h4
    rw [if_pos (by omega), h5, List.getElem?_eq_getElem hi]; rfl
  · rw [if_neg (by omega), List.getElem?_eq_none (by omega)]; rfl
structure SlOK (x : Sl) : Prop where
  k : By x.key 32
  v : By x.val 32
structure AcOK (w : World) (x : Ac) : Prop where
  ad : By x.addr 20
  no : 0 ≤ x.nonce ∧ x.nonce ≤ 18446744073709551615
  ba : By x.bal 32
  cd : InRow encB 1 w x.code x.cb
  cr : ∀ y ∈ x.cb, 0 ≤ y ∧ y ≤ 255
  so : InRow encSl 64 w x.sto x.sl
  sr : ∀ y ∈ x.sl, SlOK y
structure InW (w : World) (s : SV) (l : List Ac) : Prop where
  row : InRow encAc 55 w s l
  ok : ∀ x ∈ l, AcOK w x
theorem AcOK.ext {w w' : World} {x : Ac} (h : AcOK w x) (he : Ext w w') : AcOK w' x := { h with cd := h.cd.ext he, so := h.so.ext he }
theorem InW.ext {w w' : World} {s : SV} {l : List Ac} (h : InW w s l) (he : Ext w w') : InW w' s l := ⟨h.row.ext he, fun x hx => (h.ok x hx).ext he⟩
/-! fields of the records -/
theorem len32 {l : List Int} (h : l.length = 32) : ∃ p q : List Int, p.length = 16 ∧ q.length = 16 ∧ l = p ++ q := ⟨l.take 16, l.drop 16, by simp [h], by simp [h], (List.take_append_drop 16 l).symm⟩
theorem encAc_len {w : World} {x : Ac} (h : AcOK w x) : (encAc x).length = 55 := by simp [encAc, h.ad.1, h.ba.1]
theorem encSl_len {x : Sl} (h : SlOK x) : (encSl x).length = 64 := by simp [encSl, h.k.1, h.v.1]
theorem encAc_nonce {w : World} {x : Ac} (h : AcOK w x) : (encAc x)[20]? = some (.int .u64 x.nonce) := by
  unfold encAc; rw [List.getElem?_append_right (by simp [h.ad.1])]; simp [h.ad.1]
theorem encAc_code {w : World} {x : Ac} (h : AcOK w x) : (encAc x)[53]? = some (.slice x.code.1 x.code.2.1 x.code.2.2) := by
  unfold encAc; rw [List.getElem?_append_right (by simp [h.ad.1])]
  simp only [List.length_map, h.ad.1, List.getElem?_cons_succ, show 53 - 20 = 32 + 1 from rfl]
  rw [List.getElem?_append_right (by simp [h.ba.1])]; simp [h.ba.1, sv]
theorem encAc_sto {w : World} {x : Ac} (h : AcOK w x) : (encAc x)[54]? = some (.slice x.sto.1 x.sto.2.1 x.sto.2.2) := by
  unfold encAc; rw [List.getElem?_append_right (by simp [h.ad.1])]
  simp only [List.length_map, h.ad.1, List.getElem?_cons_succ, show 54 - 20 = 33 + 1 from rfl]
  rw [List.getElem?_append_right (by simp [h.ba.1])]; simp [h.ba.1, sv]
theorem encAc_addr {w : World} {x : Ac} (h : AcOK w x) : ((encAc x).drop 0).take 20 = x.addr.map (Value.int .u8) := by
  unfold encAc; rw [List.drop_zero, List.take_append_of_le_length (by simp [h.ad.1]), List.take_of_length_le (by simp [h.ad.1])]
theorem encAc_bal {w : World} {x : Ac} (h : AcOK w x) : ((encAc x).drop 21).take 32 = x.bal.map (Value.int .u8) := by
  unfold encAc
  rw [List.drop_append, List.drop_eq_nil_of_le (by simp [h.ad.1]), List.nil_append]
  simp only [List.length_map, h.ad.1, show 21 - 20 = 0 + 1 from rfl, List.drop_succ_cons, List.drop_zero]
  rw [List.take_append_of_le_length (by simp [h.ba.1]), List.take_of_length_le (by simp [h.ba.1])]
theorem encSl_key {x : Sl} (h : SlOK x) : ((encSl x).drop 0).take 32 = x.key.map (Value.int .u8) := by
  unfold encSl; rw [List.drop_zero, List.take_append_of_le_length (by simp [h.k.1]), List.take_of_length_le (by simp [h.k.1])]
theorem encSl_val {x : Sl} (h : SlOK x) : ((encSl x).drop 32).take 32 = x.val.map (Value.int .u8) := by
  unfold encSl; rw [List.drop_append, List.drop_eq_nil_of_le (by simp [h.k.1]), List.nil_append]
  simp [h.k.1]; rw [List.take_of_length_le (by simp [h.v.1])]
/-- the record opened -/
structure AcAt (r : Array Value) (q : Nat) (x : Ac) : Prop where
  bd : q + 55 ≤ r.size
  ad : Xt r (q + 0) (q + 0 + 20) (ic .u8 x.addr)
  no : Ce r (q + 20) (.int .u64 x.nonce)
  ba : Xt r (q + 21) (q + 21 + 32) (ic .u8 x.bal)
  cd : Ce r (q + 53) (.slice x.code.1 x.code.2.1 x.code.2.2)
  so : Ce r (q + 54) (.slice x.sto.1 x.sto.2.1 x.sto.2.2)
theorem RowL.acY {w : World} {o : Nat} {r : Array Value} {l : List Ac} (h : RowL encAc 55 o r l) {i : Nat} {x : Ac} (hx : l[i]? = some x) (hk : AcOK w x) : AcAt r (o + i * 55) x :=
  ⟨h.bd hx, h.ext hx (k := 0) (n := 20) (by decide) (encAc_addr hk) (encAc_len hk), h.get hx (k := 20) (by decide) (encAc_nonce hk), h.ext hx (k := 21) (n := 32) (by decide) (encAc_bal hk) (encAc_len hk), h.get hx (k := 53) (by decide) (encAc_code hk), h.get hx (k := 54) (by decide) (encAc_sto hk)⟩
structure SlAt (r : Array Value) (q : Nat) (x : Sl) : Prop where
  bd : q + 64 ≤ r.size
  ke : Xt r (q + 0) (q + 0 + 32) (ic .u8 x.key)
  va : Xt r (q + 32) (q + 32 + 32) (ic .u8 x.val)
theorem RowL.sl {o : Nat} {r : Array Value} {l : List Sl} (h : RowL encSl 64 o r l) {i : Nat} {x : Sl} (hx : l[i]? = some x) (hk : SlOK x) : SlAt r (o + i * 64) x :=
  ⟨h.bd hx, h.ext hx (k := 0) (n := 32) (by decide) (encSl_key hk) (encSl_len hk), h.ext hx (k := 32) (n := 32) (by decide) (encSl_val hk) (encSl_len hk)⟩
/-! the plain test of a world -/
def Z32 : List Int := List.replicate 32 0
def addGo (b : List Int) : Nat → List Int → Int → List Int × Int
  | 0, s, cy => (s, cy)
  | i + 1, s, cy => addGo b i (s.set i ((cy + (s.getD i 0 + b.getD i 0)) % 256)) ((cy + (s.getD i 0 + b.getD i 0)) / 256)
def addS (s b : List Int) : List Int := (addGo b 32 s 0).1
def addK (s b : List Int) : Bool := decide ((addGo b 32 s 0).2 = 0)
def slBad (l : List Sl) (i : Nat) : Bool := decide ((l.getD i ⟨[], []⟩).val = Z32) || (decide (0 < i) && strGe (l.getD (i - 1) ⟨[], []⟩).key (l.getD i ⟨[], []⟩).key)
def accOK (x : Ac) : Bool := !(decide (x.nonce = 0) && decide (x.cb.length = 0) && (decide (x.bal = Z32) || decide (0 < x.sl.length))) && !(decide (256 < x.cb.length) || decide (16 < x.sl.length)) && (List.range x.sl.length).all (fun i => !slBad x.sl i)
def acD : Ac := ⟨[], 0, [], (none, 0, 0), (none, 0, 0), [], []⟩
def wsum (l : List Ac) : Nat → List Int
  | 0 => Z32
  | i + 1 => addS (wsum l i) (l.getD i acD).bal
def acBad (l : List Ac) (i : Nat) : Bool := (decide (0 < i) && strGe (l.getD (i - 1) acD).addr (l.getD i acD).addr) || (!accOK (l.getD i acD) || !addK (wsum l i) (l.getD i acD).bal)
def wok (l : List Ac) : Bool := decide (l.length ≤ 8) && (List.range l.length).all (fun i => !acBad l i)
theorem all_range {n : Nat} {p : Nat → Bool} : (List.range n).all p = true ↔ ∀ i, i < n → p i = true := by simp [List.all_eq_true]
theorem getD_some {α : Type} {l : List α} {i : Nat} {x d : α} (h : l[i]? = some x) : l.getD i d = x := by rw [List.getD_eq_getElem?_getD, h]; rfl
theorem addGo_by (b : List Int) (hb : ∀ x ∈ b, 0 ≤ x ∧ x ≤ 255) : ∀ i s cy, By s 32 → 0 ≤ cy → cy ≤ 1 → By (addGo b i s cy).1 32 ∧ 0 ≤ (addGo b i s cy).2 ∧ (addGo b i s cy).2 ≤ 1
  | 0, s, cy, hs, h0, h1 => ⟨hs, h0, h1⟩
  | i + 1, s, cy, hs, h0, h1 => by
    have h2 := getD_byte hb i
    have h3 := getD_byte hs.2 i
    refine addGo_by b hb i _ _ ⟨by rw [List.length_set]; exact hs.1, ?_⟩ (by omega) (by omega)
    intro x hx
    rcases List.mem_or_eq_of_mem_set hx with hx | rfl
    · exact hs.2 x hx
    · omega
theorem By.z32 : By Z32 32 := ⟨by simp [Z32], by intro x hx; rw [Z32, List.mem_replicate] at hx; omega⟩
theorem addS_by {s b : List Int} (hs : By s 32) (hb : By b 32) : By (addS s b) 32 := (addGo_by b hb.2 32 s 0 hs (by omega) (by omega)).1
/-- the number of the last k bytes of 32 -/
def tv (s : List Int) : Nat → Int
  | 0 => 0
  | k + 1 => s.getD (31 - k) 0 * 256 ^ k + tv s k
theorem tv_set {s : List Int} {i : Nat} {y : Int} : ∀ k, i + k < 32 → tv (s.set i y) k = tv s k
  | 0, _ => rfl
  | k + 1, h => by
    unfold tv
    rw [tv_set k (by omega)]
    rw [List.getD_eq_getElem?_getD, List.getElem?_set_ne (by omega), ← List.getD_eq_getElem?_getD]
theorem addGo_tv (b : List Int) : ∀ i s cy, s.length = 32 → i ≤ 32 → tv (addGo b i s cy).1 32 + (addGo b i s cy).2 * 256 ^ 32 = tv s 32 + cy * 256 ^ (32 - i) + (tv b 32 - tv b (32 - i))
  | 0, s, cy, hs, hi => by simp [addGo]
  | i + 1, s, cy, hs, hi => by
    unfold addGo
    rw [addGo_tv b i _ _ (by rw [List.length_set]; exact hs) (by omega)]
    have e1 : 32 - i = (32 - (i + 1)) + 1 := by omega
    have e2 : ∀ y : Int, ∀ k, i + k < 32 → tv (s.set i y) k = tv s k := fun y k hk => tv_set k hk
    have key : ∀ (y : Int) (m : Nat), i + m < 32 → tv (s.set i y) (32 - i + (32 - 32)) = tv (s.set i y) (32 - i) := fun _ _ _ => rfl
    -- the number above i is not touched
    have up : ∀ (y : Int) (n : Nat), 32 - i + n ≤ 32 → tv (s.set i y) (32 - i + n) - tv (s.set i y) (32 - i) = tv s (32 - i + n) - tv s (32 - i) := by
      intro y n
      induction n with
      | zero => intro _; simp
      | succ n ih =>
        intro hn
        have h1 := ih (by omega)
        have h2 : (s.set i y).getD (31 - (32 - i + n)) 0 = s.getD (31 - (32 - i + n)) 0 := by
          rw [List.getD_eq_getElem?_getD, List.getElem?_set_ne (by omega), ← List.getD_eq_getElem?_getD]
        show ((s.set i y).getD (31 - (32 - i + n)) 0 * 256 ^ (32 - i + n) + tv (s.set i y) (32 - i + n)) - _ = (s.getD (31 - (32 - i + n)) 0 * 256 ^ (32 - i + n) + tv s (32 - i + n)) - _
        rw [h2]; omega
    have u := up ((cy + (s.getD i 0 + b.getD i 0)) % 256) i (by omega)
    rw [show 32 - i + i = 32 by omega] at u
    have o1 : tv (s.set i ((cy + (s.getD i 0 + b.getD i 0)) % 256)) (32 - i) = ((cy + (s.getD i 0 + b.getD i 0)) % 256) * 256 ^ (32 - (i + 1)) + tv s (32 - (i + 1)) := by
      rw [e1]
      show (s.set i _).getD (31 - (32 - (i + 1))) 0 * _ + tv _ _ = _
      rw [tv_set _ (by omega), show 31 - (32 - (i + 1)) = i by omega, List.getD_eq_getElem?_getD, List.getElem?_set_self (by omega)]; rfl
    have o2 : ∀ c : List Int, tv c (32 - i) = c.getD i 0 * 256 ^ (32 - (i + 1)) + tv c (32 - (i + 1)) := by
      intro c
      rw [e1]
      show c.getD (31 - (32 - (i + 1))) 0 * _ + tv _ _ = _
      rw [show 31 - (32 - (i + 1)) = i by omega]
    have o3 := o2 s
    have o4 := o2 b
    have e3 : (256 : Int) ^ (32 - i) = 256 * 256 ^ (32 - (i + 1)) := by rw [e1, Int.pow_succ, Int.mul_comm]
    rw [e3]
    generalize (256 : Int) ^ (32 - (i + 1)) = P at *
    generalize s.getD i 0 = x at *
    generalize b.getD i 0 = y at *
    have h6 : (cy + (x + y)) % 256 * P + (cy + (x + y)) / 256 * (256 * P) = (cy + (x + y)) * P := by
      rw [← Int.mul_assoc, ← Int.add_mul]
      congr 1
      have := Int.emod_add_mul_ediv (cy + (x + y)) 256
      omega
    have h7 : (cy + (x + y)) * P = cy * P + (x * P + y * P) := by rw [Int.add_mul, Int.add_mul]
    omega
theorem addK_sum {s b : List Int} (hs : s.length = 32) (h : addK s b = true) : tv (addS s b) 32 = tv s 32 + tv b 32 := by
  have h1 := addGo_tv b 32 s 0 hs (by omega)
  unfold addK at h
  have h2 := of_decide_eq_true h
  have h3 : tv b (32 - 32) = 0 := rfl
  rw [h2, h3, Int.zero_mul, Int.zero_mul, Int.add_zero, Int.add_zero, Int.sub_zero] at h1
  unfold addS
  exact h1
theorem tv_nonneg {s : List Int} (h : ∀ x ∈ s, 0 ≤ x ∧ x ≤ 255) : ∀ k, 0 ≤ tv s k ∧ tv s k < 256 ^ k
  | 0 => by simp [tv]
  | k + 1 => by
    have h1 := tv_nonneg h k
    have h2 := getD_byte h (31 - k)
    unfold tv
    have h3 : (0 : Int) ≤ s.getD (31 - k) 0 * 256 ^ k := Int.mul_nonneg h2.1 (by have := h1; omega)
    have h4 : s.getD (31 - k) 0 * 256 ^ k ≤ 255 * 256 ^ k := Int.mul_le_mul_of_nonneg_right h2.2 (by omega)
    have h5 : (256 : Int) ^ (k + 1) = 256 * 256 ^ k := by rw [Int.pow_succ, Int.mul_comm]
    omega
theorem wv_fromB (s : List Int) : wv (fromB s) = tv s 32 := by
  simp only [fromB, wv, beAt, be8, tv]
  simp only [Nat.reduceSub, Nat.reduceAdd, Int.reducePow]
  omega
theorem wok_len {l : List Ac} (h : wok l = true) : l.length ≤ 8 := by
  unfold wok at h; rw [Bool.and_eq_true] at h; exact of_decide_eq_true h.1
theorem wok_bad {l : List Ac} (h : wok l = true) {i : Nat} (hi : i < l.length) : acBad l i = false := by
  unfold wok at h; rw [Bool.and_eq_true] at h
  have := all_range.1 h.2 i hi
  simpa using this
theorem wok_acc {l : List Ac} (h : wok l = true) {i : Nat} {x : Ac} (hx : l[i]? = some x) : x.cb.length ≤ 256 ∧ x.sl.length ≤ 16 := by
  have hb := wok_bad h (lt_of_getElem? hx)
  unfold acBad at hb
  rw [getD_some hx] at hb
  simp only [Bool.or_eq_false_iff, Bool.not_eq_false'] at hb
  have h1 := hb.2.1
  unfold accOK at h1
  simp only [Bool.and_eq_true, Bool.not_eq_true', Bool.or_eq_false_iff, al_dfn] at h1
  omega
def bsum (l : List Ac) : Nat → Int
  | 0 => 0
  | i + 1 => bsum l i + tv (l.getD i acD).bal 32
theorem wok_sum {l : List Ac} (h : wok l = true) (hb : ∀ x ∈ l, By x.bal 32) : ∀ i, i ≤ l.length → By (wsum l i) 32 ∧ tv (wsum l i) 32 = bsum l i
  | 0, _ => ⟨By.z32, by unfold wsum bsum; decide⟩
  | i + 1, hi => by
    obtain ⟨h1, h2⟩ := wok_sum h hb i (by omega)
    have hx : l[i]? = some l[i] := List.getElem?_eq_getElem (by omega)
    have hbad := wok_bad h (show i < l.length by omega)
    unfold acBad at hbad
    rw [getD_some hx] at hbad
    simp only [Bool.or_eq_false_iff, Bool.not_eq_false'] at hbad
    have hk := hbad.2.2
    have hby := hb _ (List.getElem_mem (show i < l.length by omega))
    unfold wsum bsum
    rw [getD_some hx]
    exact ⟨addS_by h1 hby, by rw [addK_sum h1.1 hk, h2]⟩
end Go.Proofs.YgvadwGreat
