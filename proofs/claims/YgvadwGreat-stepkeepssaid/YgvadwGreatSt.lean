import Derived.Test.YgvadwGreatFwH
set_option linter.unusedSimpArgs false
set_option linter.unusedVariables false
namespace Go.Proofs.YgvadwGreat

/-! rows of records in a block -/
/-- The block's cells r bear, from o on, the records l, each as enc says, sz cells each. -/
def RowL {α : Type} (enc : α → List Value) (sz o : Nat) (r : Array Value) (l : List α) : Prop :=
  o + sz * l.length ≤ r.size ∧ ∀ i x, l[i]? = some x → ∀ k, k < sz → r[o + i * sz + k]? = (enc x)[k]?

theorem RowL.get {α : Type} {enc : α → List Value} {sz o : Nat} {r : Array Value} {l : List α} (h : RowL enc sz o r l) {i : Nat} {x : α} (hi : l[i]? = some x) {k : Nat} (hk : k < sz) {v : Value} (hv : (enc x)[k]? = some v) :
    Ce r (o + i * sz + k) v := ⟨(h.2 i x hi k hk).trans hv⟩

theorem mul_le_of_lt {i n sz : Nat} (h : i < n) : i * sz + sz ≤ sz * n := by
  have h1 : (i + 1) * sz ≤ n * sz := Nat.mul_le_mul_right sz h
  rw [Nat.add_mul, Nat.one_mul, Nat.mul_comm n sz] at h1; exact h1

theorem lt_of_getElem? {α : Type} {l : List α} {i : Nat} {x : α} (h : l[i]? = some x) : i < l.length := by
  rcases Nat.lt_or_ge i l.length with h' | h'
  · exact h'
  · rw [List.getElem?_eq_none h'] at h; cases h

theorem RowL.bd {α : Type} {enc : α → List Value} {sz o : Nat} {r : Array Value} {l : List α} (h : RowL enc sz o r l) {i : Nat} {x : α} (hi : l[i]? = some x) : o + i * sz + sz ≤ r.size := by
  have hb := mul_le_of_lt (sz := sz) (lt_of_getElem? hi)
  have hb2 := h.1
  omega

theorem RowL.ext {α : Type} {enc : α → List Value} {sz o : Nat} {r : Array Value} {l : List α} (h : RowL enc sz o r l) {i : Nat} {x : α} (hi : l[i]? = some x) {k n : Nat} (hk : k + n ≤ sz) {vs : List Value} (hv : ((enc x).drop k).take n = vs) (hlen : (enc x).length = sz) :
    Xt r (o + i * sz + k) (o + i * sz + k + n) vs.toArray := by
  have hb := h.bd hi
  have hlv : vs.length = n := by rw [← hv]; simp; omega
  refine ⟨Array.ext_getElem? ?_⟩
  intro j
  by_cases hj : j < n
  · have e0 := h.2 i x hi (k + j) (by omega)
    rw [show o + i * sz + (k + j) = o + i * sz + k + j by omega] at e0
    have e1 : (r.extract (o + i * sz + k) (o + i * sz + k + n))[j]? = r[o + i * sz + k + j]? := by
      rw [Array.getElem?_extract]; rw [if_pos (by omega)]
    rw [e1, e0, ← hv]
    simp [hj]
  · rw [Array.getElem?_eq_none (by simp; omega), Array.getElem?_eq_none (by simp; omega)]

theorem row_apart {i i' sz : Nat} (h : i' < i) : i' * sz + sz ≤ i * sz := by
  have := mul_le_of_lt (sz := sz) h
  rwa [Nat.mul_comm sz i] at this

/-- A part of one record is written. -/
theorem RowL.put {α : Type} {enc : α → List Value} {sz o : Nat} {r : Array Value} {l : List α} (h : RowL enc sz o r l) {i k : Nat} {x x' : α} {vs : List Value} (hi : l[i]? = some x) (hk : k + vs.length ≤ sz)
    (hx : ∀ j, j < sz → (enc x')[j]? = if k ≤ j ∧ j < k + vs.length then vs[j - k]? else (enc x)[j]?) : RowL enc sz o (splice r (o + i * sz + k) vs) (l.set i x') := by
  have hil := lt_of_getElem? hi
  have hb := h.bd hi
  have hsz : o + i * sz + k + vs.length ≤ r.size := by omega
  refine ⟨by rw [size_splice]; simpa using h.1, ?_⟩
  intro i' y hy j hj
  rw [splice_get _ _ _ _ hsz]
  by_cases he : i' = i
  · subst he
    have hy' : y = x' := by
      rw [List.getElem?_set_self hil] at hy; exact (Option.some.inj hy).symm
    subst hy'
    rw [hx j hj]
    by_cases hc : k ≤ j ∧ j < k + vs.length
    · rw [if_pos (by omega), if_pos hc]; congr 1; omega
    · rw [if_neg (by omega), if_neg hc, h.2 i' x hi j hj]
  · rw [List.getElem?_set_ne (fun e => he e.symm)] at hy
    rw [if_neg ?_, h.2 i' y hy j hj]
    rintro ⟨h1, h2⟩
    rcases Nat.lt_or_gt_of_ne he with hlt | hgt
    · have h3 := row_apart (sz := sz) hlt; omega
    · have h3 := row_apart (sz := sz) hgt; omega

/-- Whatever lies outside the row may turn. -/
theorem RowL.off {α : Type} {enc : α → List Value} {sz o : Nat} {r r' : Array Value} {l : List α} (h : RowL enc sz o r l) (hs : r'.size = r.size) (hr : ∀ j, o ≤ j → j < o + sz * l.length → r'[j]? = r[j]?) : RowL enc sz o r' l := by
  refine ⟨by rw [hs]; exact h.1, ?_⟩
  intro i x hx k hk
  have hb := mul_le_of_lt (sz := sz) (lt_of_getElem? hx)
  rw [hr _ (by omega) (by omega)]
  exact h.2 i x hx k hk

/-- the slice value of a row of the state -/
def slp (s : Option (Nat × Nat)) : Option Addr := match s with | none => none | some (b, _) => some ⟨b, 0, none⟩
def slc (s : Option (Nat × Nat)) : Nat := match s with | none => 0 | some (_, cap) => cap
def slv (s : Option (Nat × Nat)) (n : Nat) : Value := .slice (slp s) n (slc s)
/-- the block of a row that is nil where it is empty -/
def ttS (l : List Int) (s : Option (Nat × Nat)) : Option (Nat × Nat) := match l with | [] => none | _ :: _ => s
theorem ttS_some {l : List Int} {i : Nat} {x : Int} (h : l[i]? = some x) (s : Option (Nat × Nat)) : ttS l s = s := by
  cases l with
  | nil => simp at h
  | cons => rfl
theorem ttS_ne {l : List Int} {s : Option (Nat × Nat)} (h : l = [] → s = none) : ttS l s = s := by
  cases l with
  | nil => exact (h rfl).symm
  | cons => rfl
theorem ttS_set (l : List Int) (i : Nat) (x : Int) (s : Option (Nat × Nat)) : ttS (l.set i x) s = ttS l s := by
  cases l with
  | nil => rfl
  | cons => cases i <;> rfl

/-- A row of the state: nil and empty, or a block of its own of the type T. -/
def Row {α : Type} (enc : α → List Value) (sz : Nat) (T : TypeId) (w : World) (s : Option (Nat × Nat)) (l : List α) : Prop :=
  match s with
  | none => l = []
  | some (b, cap) => l.length ≤ cap ∧ ∃ r, Hb w b (.cells r T (0, 0)) ∧ r.size = sz * cap ∧ RowL enc sz 0 r l

theorem Row.keep {α : Type} {enc : α → List Value} {sz : Nat} {T : TypeId} {w w' : World} {s : Option (Nat × Nat)} {l : List α} (h : Row enc sz T w s l) (hw : ∀ b cap o, s = some (b, cap) → Hb w b o → Hb w' b o) : Row enc sz T w' s l := by
  unfold Row at h ⊢
  split at h
  · exact h
  · rename_i b cap
    obtain ⟨h1, r, h2, h3⟩ := h
    exact ⟨h1, r, hw b cap _ rfl h2, h3⟩
theorem Row.some {α : Type} {enc : α → List Value} {sz : Nat} {T : TypeId} {w : World} {s : Option (Nat × Nat)} {l : List α} (h : Row enc sz T w s l) {i : Nat} {x : α} (hx : l[i]? = some x) :
    ∃ b cap r, s = some (b, cap) ∧ l.length ≤ cap ∧ Hb w b (.cells r T (0, 0)) ∧ r.size = sz * cap ∧ RowL enc sz 0 r l := by
  cases s with
  | none => simp only [Row] at h; rw [h] at hx; simp at hx
  | some p => obtain ⟨h1, r, h2, h3, h4⟩ := h; exact ⟨p.1, p.2, r, rfl, h1, h2, h3, h4⟩

/-! what a call leaves -/
/-- Old blocks outside O are as they were. -/
structure KeepO (O : Nat → Prop) (w w' : World) : Prop where
  sz : w.heap.size ≤ w'.heap.size
  old : ∀ b, b < w.heap.size → ¬ O b → hp w' b = hp w b
  en : w'.os = w.os ∧ w'.output = w.output ∧ w'.tape = w.tape
theorem Ext.keepO {w w' : World} (h : Ext w w') (O : Nat → Prop) : KeepO O w w' := ⟨h.1, fun b hb _ => h.2 b hb, h.3⟩
theorem KeepO.refl (O : Nat → Prop) (w : World) : KeepO O w w := (Ext.refl w).keepO O
theorem Hb.keepO {O : Nat → Prop} {w w' : World} {b : Nat} {o : Obj} (hk : KeepO O w w') (ho : ¬ O b) (h : Hb w b o) : Hb w' b o := ⟨(hk.2 b h.lt ho).trans h.h⟩
theorem KeepO.trans {O O' : Nat → Prop} {a b c : World} (h : KeepO O a b) (h' : KeepO O' b c) (hO : ∀ x, x < a.heap.size → O' x → O x) : KeepO O a c :=
  ⟨Nat.le_trans h.1 h'.1, fun x hx hn => (h'.2 x (Nat.lt_of_lt_of_le hx h.1) (fun e => hn (hO x hx e))).trans (h.2 x hx hn), h'.3.1.trans h.3.1, h'.3.2.1.trans h.3.2.1, h'.3.2.2.trans h.3.2.2⟩
theorem KeepO.setB {O : Nat → Prop} {a b : World} (h : KeepO O a b) {x : Nat} (hx : x < a.heap.size → O x) (o : Obj) : KeepO O a (setB b x o) :=
  ⟨by rw [size_setB]; exact h.1, fun y hy hn => (hp_setB_ne o (fun e => hn (by subst e; exact hx hy))).trans (h.2 y hy hn), h.3⟩

/-! the records of the vault -/
abbrev SV := Option Addr × Nat × Nat
structure Acct where
  addr : List Int
  nonce : Int
  bal : List Int
  code : SV
  warm : Bool
  made : Bool
  gone : Bool
def sv (s : SV) : Value := .slice s.1 s.2.1 s.2.2
def encA (x : Acct) : List Value := x.addr.map (Value.int .u8) ++ .int .u64 x.nonce :: (x.bal.map (Value.int .u64) ++ [sv x.code, .bool x.warm, .bool x.made, .bool x.gone])
structure Slot where
  acct : Int
  key : List Int
  val : List Int
  orig : List Int
  warm : Bool
def encS (x : Slot) : List Value := .int .i32 x.acct :: (x.key.map (Value.int .u64) ++ (x.val.map (Value.int .u64) ++ (x.orig.map (Value.int .u64) ++ [.bool x.warm])))
structure Entry where
  kind : Int
  at_ : Int
  n : Int
  w : List Int
  b : SV
  flag : Bool
def encE (x : Entry) : List Value := .int .u8 x.kind :: .int .i32 x.at_ :: .int .u64 x.n :: (x.w.map (Value.int .u64) ++ [sv x.b, .bool x.flag])
structure LogR where
  addr : List Int
  topics : SV
  data : SV
def encL (x : LogR) : List Value := x.addr.map (Value.int .u8) ++ [sv x.topics, sv x.data]
structure Temp where
  acct : Int
  key : List Int
  val : List Int
def encT (x : Temp) : List Value := .int .i32 x.acct :: (x.key.map (Value.int .u64) ++ x.val.map (Value.int .u64))
def encI (x : Int) : List Value := [.int .i32 x]

def By (l : List Int) (n : Nat) : Prop := l.length = n ∧ ∀ x ∈ l, 0 ≤ x ∧ x ≤ 255
def Wd (l : List Int) : Prop := l.length = 4 ∧ ∀ x ∈ l, 0 ≤ x ∧ x ≤ 18446744073709551615
def AcctTy (x : Acct) : Prop := By x.addr 20 ∧ (0 ≤ x.nonce ∧ x.nonce ≤ 18446744073709551615) ∧ Wd x.bal
def SlotTy (x : Slot) : Prop := (-2147483648 ≤ x.acct ∧ x.acct ≤ 2147483647) ∧ Wd x.key ∧ Wd x.val ∧ Wd x.orig
def EntryTy (x : Entry) : Prop := (0 ≤ x.kind ∧ x.kind ≤ 255) ∧ (-2147483648 ≤ x.at_ ∧ x.at_ ≤ 2147483647) ∧ (0 ≤ x.n ∧ x.n ≤ 18446744073709551615) ∧ Wd x.w
def LogTy (x : LogR) : Prop := By x.addr 20
def TempTy (x : Temp) : Prop := (-2147483648 ≤ x.acct ∧ x.acct ≤ 2147483647) ∧ Wd x.key ∧ Wd x.val
def I32 (x : Int) : Prop := -2147483648 ≤ x ∧ x ≤ 2147483647

/-- The content of the vault. -/
structure V where
  accts : List Acct
  slots : List Slot
  atab : Nat → Int
  stab : Nat → Int
  journal : List Entry
  marks : Nat → Int
  nmarks : Int
  ref : Int
  logs : List LogR
  temps : List Temp
  ttab : List Int
/-- Its blocks. -/
structure VB where
  a : Option (Nat × Nat)
  s : Option (Nat × Nat)
  j : Option (Nat × Nat)
  l : Option (Nat × Nat)
  t : Option (Nat × Nat)
  tt : Option (Nat × Nat)

/-- The vault's cells within the chain's block. -/
structure VRep (c : Array Value) (v : V) (B : VB) : Prop where
  size : c.size = 27024
  accts : Ce c 2435 (slv B.a v.accts.length)
  slots : Ce c 2436 (slv B.s v.slots.length)
  atab : ∀ i, i < 4096 → Ce c (2437 + i * 1) (.int .i32 (v.atab i))
  stab : ∀ i, i < 4096 → Ce c (6533 + i * 1) (.int .i32 (v.stab i))
  journal : Ce c 10629 (slv B.j v.journal.length)
  marks : ∀ i, i < 16384 → Ce c (10630 + i * 1) (.int .i32 (v.marks i))
  nmarks : Ce c 27014 (.int .i32 v.nmarks)
  ref : Ce c 27015 (.int .u64 v.ref)
  logs : Ce c 27016 (slv B.l v.logs.length)
  temps : Ce c 27017 (slv B.t v.temps.length)
  ttab : Ce c 27018 (slv (ttS v.ttab B.tt) v.ttab.length)

/-- The rows behind them. -/
structure VRows (w : World) (v : V) (B : VB) : Prop where
  accts : Row encA 29 149 w B.a v.accts
  slots : Row encS 14 152 w B.s v.slots
  journal : Row encE 9 173 w B.j v.journal
  logs : Row encL 22 307 w B.l v.logs
  temps : Row encT 9 305 w B.t v.temps
  ttab : Row encI 1 21 w B.tt v.ttab

/-- Types of every cell, and lengths. -/
structure VTy (v : V) : Prop where
  accts : ∀ x ∈ v.accts, AcctTy x
  slots : ∀ x ∈ v.slots, SlotTy x
  journal : ∀ x ∈ v.journal, EntryTy x
  temps : ∀ x ∈ v.temps, TempTy x
  logs : ∀ x ∈ v.logs, LogTy x
  atab : ∀ i, I32 (v.atab i)
  stab : ∀ i, I32 (v.stab i)
  ttab : ∀ x ∈ v.ttab, I32 x
  marks : ∀ i, I32 (v.marks i)
  nmarks : I32 v.nmarks
  ref : 0 ≤ v.ref ∧ v.ref ≤ 18446744073709551615
  la : v.accts.length ≤ 2560
  ls : v.slots.length ≤ 2560
  lj : v.journal.length ≤ 65536
  ll : v.logs.length ≤ 2800
  lt : v.temps.length ≤ 12288
  ltt : v.ttab.length ≤ 16384

/-- A slice of bytes in a block of its own kind, which is not the memory's buffer β. -/
def BS (w : World) (β : Option Nat) (s : SV) : Prop :=
  (s.1 = none ∧ s.2.1 = 0) ∨ ∃ b r fz, s.1 = some ⟨b, 0, none⟩ ∧ β ≠ some b ∧ Hb w b (.cells r 5 fz) ∧ s.2.1 ≤ r.size ∧ ∀ i, i < s.2.1 → ∃ x : Int, (0 ≤ x ∧ x ≤ 255) ∧ r[i]? = some (.int .u8 x)

/-- The vault as it lies. -/
structure VS (w : World) (C : Nat) (c : Array Value) (v : V) (B : VB) (β : Option Nat) : Prop where
  blk : Hb w C (.cells c 86 (0, 0))
  rep : VRep c v B
  rows : VRows w v B
  ty : VTy v
  codes : ∀ x ∈ v.accts, BS w β x.code
  olds : ∀ x ∈ v.journal, BS w β x.b

def blkOf (s : Option (Nat × Nat)) (b : Nat) : Prop := ∃ cap, s = some (b, cap)
/-- the blocks that the vault may write -/
def VOwn (C : Nat) (B : VB) (b : Nat) : Prop := b = C ∨ blkOf B.a b ∨ blkOf B.s b ∨ blkOf B.j b ∨ blkOf B.l b ∨ blkOf B.t b ∨ blkOf B.tt b

theorem Row.ty_of {α : Type} {enc : α → List Value} {sz : Nat} {T : TypeId} {w : World} {s : Option (Nat × Nat)} {l : List α} (h : Row enc sz T w s l) {b : Nat} (hb : blkOf s b) : ∃ r, Hb w b (.cells r T (0, 0)) := by
  obtain ⟨cap, rfl⟩ := hb
  obtain ⟨_, r, h2, _⟩ := h
  exact ⟨r, h2⟩
theorem Hb.type_eq {w : World} {b : Nat} {r r' : Array Value} {T T' : TypeId} {fz fz' : Nat × Nat} (h : Hb w b (.cells r T fz)) (h' : Hb w b (.cells r' T' fz')) : T = T' := by
  have := h.h.symm.trans h'.h
  injection this with this
  injection this
theorem VS.own_ty {w : World} {C : Nat} {c : Array Value} {v : V} {B : VB} {β : Option Nat} (h : VS w C c v B β) {b : Nat} (hb : VOwn C B b) : ∃ r T, Hb w b (.cells r T (0, 0)) ∧ T ∈ [86, 149, 152, 173, 307, 305, 21] := by
  rcases hb with rfl | hb | hb | hb | hb | hb | hb
  · exact ⟨c, 86, h.blk, by decide⟩
  · obtain ⟨r, hr⟩ := h.rows.accts.ty_of hb; exact ⟨r, 149, hr, by decide⟩
  · obtain ⟨r, hr⟩ := h.rows.slots.ty_of hb; exact ⟨r, 152, hr, by decide⟩
  · obtain ⟨r, hr⟩ := h.rows.journal.ty_of hb; exact ⟨r, 173, hr, by decide⟩
  · obtain ⟨r, hr⟩ := h.rows.logs.ty_of hb; exact ⟨r, 307, hr, by decide⟩
  · obtain ⟨r, hr⟩ := h.rows.temps.ty_of hb; exact ⟨r, 305, hr, by decide⟩
  · obtain ⟨r, hr⟩ := h.rows.ttab.ty_of hb; exact ⟨r, 21, hr, by decide⟩
theorem VS.not_own {w : World} {C : Nat} {c : Array Value} {v : V} {B : VB} {β : Option Nat} (h : VS w C c v B β) {b : Nat} {r : Array Value} {T : TypeId} {fz : Nat × Nat} (hb : Hb w b (.cells r T fz)) (hT : T ∉ [86, 149, 152, 173, 307, 305, 21]) : ¬ VOwn C B b := by
  intro ho
  obtain ⟨r', T', h', hT'⟩ := h.own_ty ho
  rw [hb.type_eq h'] at hT
  exact hT hT'
theorem BS.keep {w w' : World} {β : Option Nat} {s : SV} (h : BS w β s) (hw : ∀ b r fz, β ≠ some b → Hb w b (.cells r 5 fz) → Hb w' b (.cells r 5 fz)) : BS w' β s := by
  rcases h with h | ⟨b, r, fz, h1, h2, h3, h4⟩
  · exact Or.inl h
  · exact Or.inr ⟨b, r, fz, h1, h2, hw b r fz h2 h3, h4⟩
theorem VS.ext {w w' : World} {C : Nat} {c : Array Value} {v : V} {B : VB} {β : Option Nat} (h : VS w C c v B β) (he : Ext w w') : VS w' C c v B β := by
  have hr := h.rows
  exact ⟨h.blk.ext he, h.rep, ⟨hr.accts.keep fun _ _ _ _ hb => hb.ext he, hr.slots.keep fun _ _ _ _ hb => hb.ext he, hr.journal.keep fun _ _ _ _ hb => hb.ext he, hr.logs.keep fun _ _ _ _ hb => hb.ext he, hr.temps.keep fun _ _ _ _ hb => hb.ext he, hr.ttab.keep fun _ _ _ _ hb => hb.ext he⟩, h.ty,
    fun x hx => (h.codes x hx).keep fun _ _ _ _ hb => hb.ext he, fun x hx => (h.olds x hx).keep fun _ _ _ _ hb => hb.ext he⟩

/-! probing -/
def hitA (l : List Acct) (A : List Int) (i : Int) : Bool := match l[i.toNat]? with | some x => decide (x.addr = A) | none => false
def probeY (tab : Nat → Int) (hit : Int → Bool) (m : Nat) : Nat → Nat → Int × Int
  | 0, _ => (-1, -1)
  | f + 1, p => if tab p < 0 then (-1, p) else if hit (tab p) = true then (tab p, -1) else probeY tab hit m f ((p + 1) % m)
end Go.Proofs.YgvadwGreat
