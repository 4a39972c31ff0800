import Derived.Test.YgvacwGreatQd
namespace Go.Proofs.YgvacwGreat
set_option linter.unusedSimpArgs false
set_option linter.unusedVariables false
/-! the specification's state: what lies in the cells, and what it means -/
def R2 {α β : Type} (R : α → β → Prop) (L : List α) (l : List β) : Prop := L.length = l.length ∧ ∀ (i : Nat) (x : α) (y : β), L[i]? = some x → l[i]? = some y → R x y
theorem R2.nil {α β : Type} (R : α → β → Prop) : R2 R [] [] := ⟨rfl, fun i x y h => by simp at h⟩
theorem R2.get {α β : Type} {R : α → β → Prop} {L : List α} {l : List β} (h : R2 R L l) {i : Nat} (hi : i < l.length) : ∃ x y, L[i]? = some x ∧ l[i]? = some y ∧ R x y :=
  ⟨L[i]'(by rw [h.1]; exact hi), l[i], List.getElem?_eq_getElem _, List.getElem?_eq_getElem _, h.2 i _ _ (List.getElem?_eq_getElem _) (List.getElem?_eq_getElem _)⟩
theorem R2.mono {α β : Type} {R R' : α → β → Prop} {L : List α} {l : List β} (h : R2 R L l) (hR : ∀ x y, R x y → R' x y) : R2 R' L l := ⟨h.1, fun i x y h1 h2 => hR _ _ (h.2 i x y h1 h2)⟩
theorem R2.snoc {α β : Type} {R : α → β → Prop} {L : List α} {l : List β} (h : R2 R L l) {x : α} {y : β} (hx : R x y) : R2 R (L ++ [x]) (l ++ [y]) := by
  refine ⟨by simp [h.1], fun i a b ha hb => ?_⟩
  rcases Nat.lt_or_ge i L.length with hi | hi
  · rw [List.getElem?_append_left hi] at ha
    rw [List.getElem?_append_left (by rw [← h.1]; exact hi)] at hb
    exact h.2 i a b ha hb
  · rw [List.getElem?_append_right hi] at ha
    rw [List.getElem?_append_right (by rw [← h.1]; exact hi)] at hb
    have h1 := lt_of_getElem? ha
    simp at h1
    have e : i - L.length = 0 := by omega
    have e2 : i - l.length = 0 := by rw [← h.1]; exact e
    rw [e] at ha; rw [e2] at hb
    simp at ha hb
    rw [← ha, ← hb]; exact hx
/-- a slice of records that stays -/
structure PL [Om] {α : Type} (enc : α → List Value) (u : Nat) (T : TypeId) (w : World) (s : SV) (l : List α) : Prop where
  len : l.length = s.2.1
  cap : s.2.1 ≤ s.2.2
  row : 0 < s.2.1 → ∃ b r fz, s.1 = some ⟨b, 0, none⟩ ∧ ¬ Om.p b ∧ Hb w b (.cells r T fz) ∧ RowL enc u 0 r l
section
variable [Om] {α : Type} {enc : α → List Value} {u : Nat} {T : TypeId} {w w' : World} {s : SV} {l : List α}
theorem PL.ext (h : PL enc u T w s l) (he : Ext w w') : PL enc u T w' s l :=
  { h with row := fun h0 => by obtain ⟨b, r, fz, h1, h2, h3, h4⟩ := h.row h0; exact ⟨b, r, fz, h1, h2, h3.ext he, h4⟩ }
theorem PL.keep (h : PL enc u T w s l) (he : KeepO Om.p w w') : PL enc u T w' s l :=
  { h with row := fun h0 => by obtain ⟨b, r, fz, h1, h2, h3, h4⟩ := h.row h0; exact ⟨b, r, fz, h1, h2, h3.keepO he h2, h4⟩ }
theorem PL.nil (enc : α → List Value) (u : Nat) (T : TypeId) (w : World) : PL enc u T w (none, 0, 0) [] := ⟨rfl, Nat.le_refl _, fun h => absurd h (Nat.lt_irrefl 0)⟩
/-- a row that is built is one that stays -/
theorem PL.of_row {o : Option (Nat × Nat)} {w0 : World} (hO : OmB w0) (h : Row enc u T w o l) (hf : ∀ b, blkOf o b → w0.heap.size ≤ b) : PL enc u T w (slp o, l.length, slc o) l := by
  cases o with
  | none => simp only [Row] at h; subst h; exact PL.nil _ _ _ _
  | some p =>
    obtain ⟨b, cap⟩ := p
    obtain ⟨h1, r, h2, h3, h4⟩ := h
    exact ⟨rfl, h1, fun _ => ⟨b, r, (0, 0), rfl, hO.fresh (hf b ⟨cap, rfl⟩), h2, h4⟩⟩
theorem PL.at_ {p : Option Addr} {n c : Nat} (h : PL enc u T w (p, n, c) l) (h0 : 0 < n) : ∃ b r fz, p = some ⟨b, 0, none⟩ ∧ Hb w b (.cells r T fz) ∧ RowL enc u 0 r l := by
  obtain ⟨b, r, fz, h1, _, h3, h4⟩ := h.row h0; exact ⟨b, r, fz, h1, h3, h4⟩
end
/-! records -/
structure YSl where
  key : SV
  val : SV
def encYSl (x : YSl) : List Value := [sv x.key, sv x.val]
structure YAc where
  addr : List Int
  nonce : SV
  bal : SV
  code : SV
  slots : SV
def encYA (x : YAc) : List Value := x.addr.map (Value.int .u8) ++ [sv x.nonce, sv x.bal, sv x.code, sv x.slots]
structure YMk where
  addr : List Int
  key : SV
def encYM (x : YMk) : List Value := x.addr.map (Value.int .u8) ++ [sv x.key]
structure YTp where
  addr : List Int
  key : SV
  val : SV
def encYT (x : YTp) : List Value := x.addr.map (Value.int .u8) ++ [sv x.key, sv x.val]
def encYAd (x : List Int) : List Value := x.map (Value.int .u8)
def encYN (x : SV) : List Value := [sv x]
/-! what they mean -/
structure PA where
  addr : List Int
  nonce : Nat
  bal : Nat
  code : List Int
  slots : List (Nat × Nat)
structure SlR [Om] (w : World) (x : YSl) (y : Nat × Nat) : Prop where
  key : NN w x.key y.1
  val : NN w x.val y.2
  kz : sz y.1 ≤ 32
  vz : sz y.2 ≤ 32
def SlsR [Om] (w : World) (s : SV) (l : List (Nat × Nat)) : Prop := ∃ L, PL encYSl 2 111 w s L ∧ R2 (SlR w) L l
structure AcR [Om] (w : World) (x : YAc) (a : PA) : Prop where
  addr : x.addr = a.addr
  ab : By a.addr 20
  nonce : NN w x.nonce a.nonce
  bal : NN w x.bal a.bal
  nz : sz a.nonce ≤ 40
  bz : sz a.bal ≤ 40
  code : PB w x.code a.code
  slots : SlsR w x.slots a.slots
def AcsR [Om] (w : World) (s : SV) (l : List PA) : Prop := ∃ L, PL encYA 24 104 w s L ∧ R2 (AcR w) L l
def AdR [Om] (w : World) (s : SV) (l : List (List Int)) : Prop := PL encYAd 20 25 w s l ∧ ∀ A ∈ l, By A 20
structure MkR [Om] (w : World) (x : YMk) (y : List Int × Nat) : Prop where
  addr : x.addr = y.1
  ab : By y.1 20
  key : NN w x.key y.2
  kz : sz y.2 ≤ 32
def MksR [Om] (w : World) (s : SV) (l : List (List Int × Nat)) : Prop := ∃ L, PL encYM 21 181 w s L ∧ R2 (MkR w) L l
structure TpR [Om] (w : World) (x : YTp) (y : List Int × Nat × Nat) : Prop where
  addr : x.addr = y.1
  ab : By y.1 20
  key : NN w x.key y.2.1
  val : NN w x.val y.2.2
  kz : sz y.2.1 ≤ 32
  vz : sz y.2.2 ≤ 32
def TpsR [Om] (T : TypeId) (w : World) (s : SV) (l : List (List Int × Nat × Nat)) : Prop := ∃ L, PL encYT 22 T w s L ∧ R2 (TpR w) L l
def encW32 (y : List Int) : List Value := y.map (Value.int .u8)
/-- a log's parts lie somewhere -/
structure LgR [Om] (w : World) (x : LogR) : Prop where
  ab : By x.addr 20
  top : ∃ L, PL encW32 32 28 w x.topics L ∧ L.length ≤ 4 ∧ ∀ y ∈ L, By y 32
  data : ∃ L, PB w x.data L ∧ L.length ≤ 1000000
def LgsR [Om] (w : World) (s : SV) (n : Nat) : Prop := ∃ L, PL encL 22 277 w s L ∧ L.length = n ∧ (∀ x ∈ L, LgR w x) ∧ s.2.2 = s.2.1
section
variable [Om] {w w' : World}
theorem SlR.ext {x : YSl} {y : Nat × Nat} (h : SlR w x y) (he : Ext w w') : SlR w' x y := { h with key := h.key.ext he, val := h.val.ext he }
theorem SlR.keep {x : YSl} {y : Nat × Nat} (h : SlR w x y) (he : KeepO Om.p w w') : SlR w' x y := { h with key := h.key.keep he, val := h.val.keep he }
theorem SlsR.ext {s : SV} {l : List (Nat × Nat)} (h : SlsR w s l) (he : Ext w w') : SlsR w' s l := by obtain ⟨L, h1, h2⟩ := h; exact ⟨L, h1.ext he, h2.mono fun _ _ h => h.ext he⟩
theorem SlsR.keep {s : SV} {l : List (Nat × Nat)} (h : SlsR w s l) (he : KeepO Om.p w w') : SlsR w' s l := by obtain ⟨L, h1, h2⟩ := h; exact ⟨L, h1.keep he, h2.mono fun _ _ h => h.keep he⟩
theorem SlsR.nil (w : World) : SlsR w (none, 0, 0) [] := ⟨[], PL.nil _ _ _ _, R2.nil _⟩
theorem AcR.ext {x : YAc} {y : PA} (h : AcR w x y) (he : Ext w w') : AcR w' x y := { h with nonce := h.nonce.ext he, bal := h.bal.ext he, code := h.code.ext he, slots := h.slots.ext he }
theorem AcR.keep {x : YAc} {y : PA} (h : AcR w x y) (he : KeepO Om.p w w') : AcR w' x y := { h with nonce := h.nonce.keep he, bal := h.bal.keep he, code := h.code.keep he, slots := h.slots.keep he }
theorem AcsR.ext {s : SV} {l : List PA} (h : AcsR w s l) (he : Ext w w') : AcsR w' s l := by obtain ⟨L, h1, h2⟩ := h; exact ⟨L, h1.ext he, h2.mono fun _ _ h => h.ext he⟩
theorem AcsR.keep {s : SV} {l : List PA} (h : AcsR w s l) (he : KeepO Om.p w w') : AcsR w' s l := by obtain ⟨L, h1, h2⟩ := h; exact ⟨L, h1.keep he, h2.mono fun _ _ h => h.keep he⟩
theorem AdR.ext {s : SV} {l : List (List Int)} (h : AdR w s l) (he : Ext w w') : AdR w' s l := ⟨h.1.ext he, h.2⟩
theorem AdR.keep {s : SV} {l : List (List Int)} (h : AdR w s l) (he : KeepO Om.p w w') : AdR w' s l := ⟨h.1.keep he, h.2⟩
theorem AdR.nil (w : World) : AdR w (none, 0, 0) [] := ⟨PL.nil _ _ _ _, by intro A h; cases h⟩
theorem MkR.ext {x : YMk} {y : List Int × Nat} (h : MkR w x y) (he : Ext w w') : MkR w' x y := { h with key := h.key.ext he }
theorem MkR.keep {x : YMk} {y : List Int × Nat} (h : MkR w x y) (he : KeepO Om.p w w') : MkR w' x y := { h with key := h.key.keep he }
theorem MksR.ext {s : SV} {l : List (List Int × Nat)} (h : MksR w s l) (he : Ext w w') : MksR w' s l := by obtain ⟨L, h1, h2⟩ := h; exact ⟨L, h1.ext he, h2.mono fun _ _ h => h.ext he⟩
theorem MksR.keep {s : SV} {l : List (List Int × Nat)} (h : MksR w s l) (he : KeepO Om.p w w') : MksR w' s l := by obtain ⟨L, h1, h2⟩ := h; exact ⟨L, h1.keep he, h2.mono fun _ _ h => h.keep he⟩
theorem MksR.nil (w : World) : MksR w (none, 0, 0) [] := ⟨[], PL.nil _ _ _ _, R2.nil _⟩
theorem TpR.ext {x : YTp} {y : List Int × Nat × Nat} (h : TpR w x y) (he : Ext w w') : TpR w' x y := { h with key := h.key.ext he, val := h.val.ext he }
theorem TpR.keep {x : YTp} {y : List Int × Nat × Nat} (h : TpR w x y) (he : KeepO Om.p w w') : TpR w' x y := { h with key := h.key.keep he, val := h.val.keep he }
theorem TpsR.ext {T : TypeId} {s : SV} {l : List (List Int × Nat × Nat)} (h : TpsR T w s l) (he : Ext w w') : TpsR T w' s l := by obtain ⟨L, h1, h2⟩ := h; exact ⟨L, h1.ext he, h2.mono fun _ _ h => h.ext he⟩
theorem TpsR.keep {T : TypeId} {s : SV} {l : List (List Int × Nat × Nat)} (h : TpsR T w s l) (he : KeepO Om.p w w') : TpsR T w' s l := by obtain ⟨L, h1, h2⟩ := h; exact ⟨L, h1.keep he, h2.mono fun _ _ h => h.keep he⟩
theorem TpsR.nil (T : TypeId) (w : World) : TpsR T w (none, 0, 0) [] := ⟨[], PL.nil _ _ _ _, R2.nil _⟩
theorem LgR.ext {x : LogR} (h : LgR w x) (he : Ext w w') : LgR w' x := ⟨h.ab, by obtain ⟨L, h1, h2⟩ := h.top; exact ⟨L, h1.ext he, h2⟩, by obtain ⟨L, h1, h2⟩ := h.data; exact ⟨L, h1.ext he, h2⟩⟩
theorem LgR.keep {x : LogR} (h : LgR w x) (he : KeepO Om.p w w') : LgR w' x := ⟨h.ab, by obtain ⟨L, h1, h2⟩ := h.top; exact ⟨L, h1.keep he, h2⟩, by obtain ⟨L, h1, h2⟩ := h.data; exact ⟨L, h1.keep he, h2⟩⟩
theorem LgsR.ext {s : SV} {n : Nat} (h : LgsR w s n) (he : Ext w w') : LgsR w' s n := by obtain ⟨L, h1, h2, h3, h4⟩ := h; exact ⟨L, h1.ext he, h2, fun x hx => (h3 x hx).ext he, h4⟩
theorem LgsR.keep {s : SV} {n : Nat} (h : LgsR w s n) (he : KeepO Om.p w w') : LgsR w' s n := by obtain ⟨L, h1, h2, h3, h4⟩ := h; exact ⟨L, h1.keep he, h2, fun x hx => (h3 x hx).keep he, h4⟩
theorem LgsR.nil (w : World) : LgsR w (none, 0, 0) 0 := ⟨[], PL.nil _ _ _ _, rfl, (by intro A h; cases h), rfl⟩
theorem KeepO.om {O : Nat → Prop} (h : KeepO O w w') (hO : ∀ b, b < w.heap.size → O b → Om.p b) : KeepO Om.p w w' := ⟨h.sz, fun b hb hn => h.old b hb (fun e => hn (hO b hb e)), h.en⟩
theorem OmB.keep {O : Nat → Prop} (h : OmB w) (hk : KeepO O w w') : OmB w' := fun b hb => Nat.lt_of_lt_of_le (h b hb) hk.sz
end
/-! plain functions -/
def yacct (l : List PA) (A : List Int) : PA := match l.find? (fun x => x.addr = A) with | some x => x | none => ⟨A, 0, 0, [], []⟩
def yempty (a : PA) : Bool := a.nonce = 0 && a.bal = 0 && a.code.length = 0
def yless (A B : List Int) : Bool := Op.bytesLess (strB A).toList (strB B).toList
def yputGo (a : PA) : Bool → List PA → List PA
  | laid, [] => if laid then [] else [a]
  | laid, x :: l => (if !laid && !(yless x.addr a.addr) then [a] else []) ++ ((if x.addr ≠ a.addr then [x] else []) ++ yputGo a (laid || (!laid && !(yless x.addr a.addr))) l)
def yput (l : List PA) (a : PA) : List PA := yputGo a (yempty a && a.slots.length = 0) l
end Go.Proofs.YgvacwGreat
