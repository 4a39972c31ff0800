import Derived.Test.YgvadwGreatSt
namespace Go.Proofs.YgvadwGreat
set_option linter.unusedSimpArgs false
set_option linter.unusedVariables false
/-- All blocks of the type T stand. -/
def KT (T : TypeId) (w w' : World) : Prop := ∀ b r fz, Hb w b (.cells r T fz) → Hb w' b (.cells r T fz)
theorem KT.ext {T : TypeId} {w w' : World} (h : Ext w w') : KT T w w' := fun _ _ _ hb => hb.ext h
theorem KT.trans {T : TypeId} {a b c : World} (h : KT T a b) (h' : KT T b c) : KT T a c := fun _ _ _ hb => h' _ _ _ (h _ _ _ hb)
theorem KT.setB {T T' : TypeId} {w : World} {C : Nat} {c : Array Value} {o : Obj} {fz : Nat × Nat} (hC : Hb w C (.cells c T' fz)) (hT : T ≠ T') : KT T w (setB w C o) := fun b r fz' hb =>
  hb.set (fun e => hT (by subst e; exact hb.type_eq hC))
theorem KT.keepO {T T' : TypeId} {w w' : World} {O : Nat → Prop} (hk : KeepO O w w') (hO : ∀ b, O b → ∃ r fz, Hb w b (.cells r T' fz)) (hT : T ≠ T') : KT T w w' := fun b r fz hb =>
  hb.keepO hk (fun ho => by obtain ⟨r', fz', h'⟩ := hO b ho; exact hT (hb.type_eq h'))
theorem Row.kt {α : Type} {enc : α → List Value} {sz : Nat} {T : TypeId} {w w' : World} {s : Option (Nat × Nat)} {l : List α} (h : Row enc sz T w s l) (hk : KT T w w') : Row enc sz T w' s l := by
  unfold Row at h ⊢
  split at h
  · exact h
  · obtain ⟨h1, r, h2, h3⟩ := h
    exact ⟨h1, r, hk _ _ _ h2, h3⟩
theorem BS.kt {w w' : World} {β : Option Nat} {s : SV} (h : BS w β s) (hk : KT 5 w w') : BS w' β s := h.keep fun b r fz _ hb => hk b r fz hb
theorem Ce.set_same {c : Array Value} {i : Nat} {v : Value} (h : i < c.size) : Ce (c.setIfInBounds i v) i v := ⟨by simp [h]⟩
theorem Ce.set_ne {c : Array Value} {i j : Nat} {v u : Value} (h : Ce c j u) (hne : i ≠ j) : Ce (c.setIfInBounds i v) j u := ⟨by rw [Array.getElem?_setIfInBounds_ne hne]; exact h.h⟩
/-- What a step of the vault leaves besides. -/
structure VStep (w w' : World) (C : Nat) (c c' : Array Value) (B B' : VB) : Prop where
  out : ∀ i, i < 2435 ∨ 27019 ≤ i → c'[i]? = c[i]?
  keep : KeepO (VOwn C B) w w'
  own : ∀ b, VOwn C B' b → VOwn C B b ∨ w.heap.size ≤ b
theorem VStep.ext {w w' : World} {C : Nat} {c : Array Value} {B : VB} (h : Ext w w') : VStep w w' C c c B B := ⟨fun _ _ => rfl, h.keepO _, fun _ hb => Or.inl hb⟩
theorem VStep.trans {w w1 w2 : World} {C : Nat} {c c1 c2 : Array Value} {B B1 B2 : VB} (h : VStep w w1 C c c1 B B1) (h' : VStep w1 w2 C c1 c2 B1 B2) : VStep w w2 C c c2 B B2 :=
  ⟨fun i hi => (h'.out i hi).trans (h.out i hi), h.keep.trans h'.keep fun x hx hx' => (h.own x hx').resolve_right (by omega),
   fun b hb => by
    rcases h'.own b hb with hb | hb
    · exact h.own b hb
    · exact Or.inr (Nat.le_trans h.keep.sz hb)⟩

theorem VRep.set_accts {c : Array Value} {v : V} {B : VB} (h : VRep c v B) (l : List Acct) (s : Option (Nat × Nat)) : VRep (c.setIfInBounds 2435 (slv s l.length)) { v with accts := l } { B with a := s } where
  size := by rw [Array.size_setIfInBounds]; exact h.size
  accts := Ce.set_same (by rw [h.size]; omega)
  slots := h.slots.set_ne (by omega)
  atab := fun i hi => (h.atab i hi).set_ne (by omega)
  stab := fun i hi => (h.stab i hi).set_ne (by omega)
  journal := h.journal.set_ne (by omega)
  marks := fun i hi => (h.marks i hi).set_ne (by omega)
  nmarks := h.nmarks.set_ne (by omega)
  ref := h.ref.set_ne (by omega)
  logs := h.logs.set_ne (by omega)
  temps := h.temps.set_ne (by omega)
  ttab := h.ttab.set_ne (by omega)
theorem VRep.set_slots {c : Array Value} {v : V} {B : VB} (h : VRep c v B) (l : List Slot) (s : Option (Nat × Nat)) : VRep (c.setIfInBounds 2436 (slv s l.length)) { v with slots := l } { B with s := s } where
  size := by rw [Array.size_setIfInBounds]; exact h.size
  accts := h.accts.set_ne (by omega)
  slots := Ce.set_same (by rw [h.size]; omega)
  atab := fun i hi => (h.atab i hi).set_ne (by omega)
  stab := fun i hi => (h.stab i hi).set_ne (by omega)
  journal := h.journal.set_ne (by omega)
  marks := fun i hi => (h.marks i hi).set_ne (by omega)
  nmarks := h.nmarks.set_ne (by omega)
  ref := h.ref.set_ne (by omega)
  logs := h.logs.set_ne (by omega)
  temps := h.temps.set_ne (by omega)
  ttab := h.ttab.set_ne (by omega)
theorem VRep.set_journal {c : Array Value} {v : V} {B : VB} (h : VRep c v B) (l : List Entry) (s : Option (Nat × Nat)) : VRep (c.setIfInBounds 10629 (slv s l.length)) { v with journal := l } { B with j := s } where
  size := by rw [Array.size_setIfInBounds]; exact h.size
  accts := h.accts.set_ne (by omega)
  slots := h.slots.set_ne (by omega)
  atab := fun i hi => (h.atab i hi).set_ne (by omega)
  stab := fun i hi => (h.stab i hi).set_ne (by omega)
  journal := Ce.set_same (by rw [h.size]; omega)
  marks := fun i hi => (h.marks i hi).set_ne (by omega)
  nmarks := h.nmarks.set_ne (by omega)
  ref := h.ref.set_ne (by omega)
  logs := h.logs.set_ne (by omega)
  temps := h.temps.set_ne (by omega)
  ttab := h.ttab.set_ne (by omega)
theorem VRep.set_logs {c : Array Value} {v : V} {B : VB} (h : VRep c v B) (l : List LogR) (s : Option (Nat × Nat)) : VRep (c.setIfInBounds 27016 (slv s l.length)) { v with logs := l } { B with l := s } where
  size := by rw [Array.size_setIfInBounds]; exact h.size
  accts := h.accts.set_ne (by omega)
  slots := h.slots.set_ne (by omega)
  atab := fun i hi => (h.atab i hi).set_ne (by omega)
  stab := fun i hi => (h.stab i hi).set_ne (by omega)
  journal := h.journal.set_ne (by omega)
  marks := fun i hi => (h.marks i hi).set_ne (by omega)
  nmarks := h.nmarks.set_ne (by omega)
  ref := h.ref.set_ne (by omega)
  logs := Ce.set_same (by rw [h.size]; omega)
  temps := h.temps.set_ne (by omega)
  ttab := h.ttab.set_ne (by omega)
theorem VRep.set_temps {c : Array Value} {v : V} {B : VB} (h : VRep c v B) (l : List Temp) (s : Option (Nat × Nat)) : VRep (c.setIfInBounds 27017 (slv s l.length)) { v with temps := l } { B with t := s } where
  size := by rw [Array.size_setIfInBounds]; exact h.size
  accts := h.accts.set_ne (by omega)
  slots := h.slots.set_ne (by omega)
  atab := fun i hi => (h.atab i hi).set_ne (by omega)
  stab := fun i hi => (h.stab i hi).set_ne (by omega)
  journal := h.journal.set_ne (by omega)
  marks := fun i hi => (h.marks i hi).set_ne (by omega)
  nmarks := h.nmarks.set_ne (by omega)
  ref := h.ref.set_ne (by omega)
  logs := h.logs.set_ne (by omega)
  temps := Ce.set_same (by rw [h.size]; omega)
  ttab := h.ttab.set_ne (by omega)
theorem VRep.set_ttab {c : Array Value} {v : V} {B : VB} (h : VRep c v B) (l : List Int) (s : Option (Nat × Nat)) (hne : l = [] → s = none) : VRep (c.setIfInBounds 27018 (slv s l.length)) { v with ttab := l } { B with tt := s } where
  size := by rw [Array.size_setIfInBounds]; exact h.size
  accts := h.accts.set_ne (by omega)
  slots := h.slots.set_ne (by omega)
  atab := fun i hi => (h.atab i hi).set_ne (by omega)
  stab := fun i hi => (h.stab i hi).set_ne (by omega)
  journal := h.journal.set_ne (by omega)
  marks := fun i hi => (h.marks i hi).set_ne (by omega)
  nmarks := h.nmarks.set_ne (by omega)
  ref := h.ref.set_ne (by omega)
  logs := h.logs.set_ne (by omega)
  temps := h.temps.set_ne (by omega)
  ttab := by show Ce _ _ (slv (ttS l s) l.length); rw [ttS_ne hne]; exact Ce.set_same (by rw [h.size]; omega)
theorem VRep.set_atab {c : Array Value} {v : V} {B : VB} (h : VRep c v B) (k : Nat) (x : Int) (hk : k < 4096) : VRep (c.setIfInBounds (2437 + k * 1) (.int .i32 x)) { v with atab := fun i => if i = k then x else v.atab i } B where
  size := by rw [Array.size_setIfInBounds]; exact h.size
  accts := h.accts.set_ne (by omega)
  slots := h.slots.set_ne (by omega)
  atab := fun i hi => by
      by_cases e : i = k
      · subst e; simp only [if_true]; exact Ce.set_same (by rw [h.size]; omega)
      · simp only [e, al_i0]; exact (h.atab i hi).set_ne (by omega)
  stab := fun i hi => (h.stab i hi).set_ne (by omega)
  journal := h.journal.set_ne (by omega)
  marks := fun i hi => (h.marks i hi).set_ne (by omega)
  nmarks := h.nmarks.set_ne (by omega)
  ref := h.ref.set_ne (by omega)
  logs := h.logs.set_ne (by omega)
  temps := h.temps.set_ne (by omega)
  ttab := h.ttab.set_ne (by omega)
theorem VRep.set_stab {c : Array Value} {v : V} {B : VB} (h : VRep c v B) (k : Nat) (x : Int) (hk : k < 4096) : VRep (c.setIfInBounds (6533 + k * 1) (.int .i32 x)) { v with stab := fun i => if i = k then x else v.stab i } B where
  size := by rw [Array.size_setIfInBounds]; exact h.size
  accts := h.accts.set_ne (by omega)
  slots := h.slots.set_ne (by omega)
  atab := fun i hi => (h.atab i hi).set_ne (by omega)
  stab := fun i hi => by
      by_cases e : i = k
      · subst e; simp only [if_true]; exact Ce.set_same (by rw [h.size]; omega)
      · simp only [e, al_i0]; exact (h.stab i hi).set_ne (by omega)
  journal := h.journal.set_ne (by omega)
  marks := fun i hi => (h.marks i hi).set_ne (by omega)
  nmarks := h.nmarks.set_ne (by omega)
  ref := h.ref.set_ne (by omega)
  logs := h.logs.set_ne (by omega)
  temps := h.temps.set_ne (by omega)
  ttab := h.ttab.set_ne (by omega)
theorem VRep.set_marks {c : Array Value} {v : V} {B : VB} (h : VRep c v B) (k : Nat) (x : Int) (hk : k < 16384) : VRep (c.setIfInBounds (10630 + k * 1) (.int .i32 x)) { v with marks := fun i => if i = k then x else v.marks i } B where
  size := by rw [Array.size_setIfInBounds]; exact h.size
  accts := h.accts.set_ne (by omega)
  slots := h.slots.set_ne (by omega)
  atab := fun i hi => (h.atab i hi).set_ne (by omega)
  stab := fun i hi => (h.stab i hi).set_ne (by omega)
  journal := h.journal.set_ne (by omega)
  marks := fun i hi => by
      by_cases e : i = k
      · subst e; simp only [if_true]; exact Ce.set_same (by rw [h.size]; omega)
      · simp only [e, al_i0]; exact (h.marks i hi).set_ne (by omega)
  nmarks := h.nmarks.set_ne (by omega)
  ref := h.ref.set_ne (by omega)
  logs := h.logs.set_ne (by omega)
  temps := h.temps.set_ne (by omega)
  ttab := h.ttab.set_ne (by omega)
theorem VRep.set_nmarks {c : Array Value} {v : V} {B : VB} (h : VRep c v B) (x : Int) : VRep (c.setIfInBounds 27014 (.int .i32 x)) { v with nmarks := x } B where
  size := by rw [Array.size_setIfInBounds]; exact h.size
  accts := h.accts.set_ne (by omega)
  slots := h.slots.set_ne (by omega)
  atab := fun i hi => (h.atab i hi).set_ne (by omega)
  stab := fun i hi => (h.stab i hi).set_ne (by omega)
  journal := h.journal.set_ne (by omega)
  marks := fun i hi => (h.marks i hi).set_ne (by omega)
  nmarks := Ce.set_same (by rw [h.size]; omega)
  ref := h.ref.set_ne (by omega)
  logs := h.logs.set_ne (by omega)
  temps := h.temps.set_ne (by omega)
  ttab := h.ttab.set_ne (by omega)
theorem VRep.set_ref {c : Array Value} {v : V} {B : VB} (h : VRep c v B) (x : Int) : VRep (c.setIfInBounds 27015 (.int .u64 x)) { v with ref := x } B where
  size := by rw [Array.size_setIfInBounds]; exact h.size
  accts := h.accts.set_ne (by omega)
  slots := h.slots.set_ne (by omega)
  atab := fun i hi => (h.atab i hi).set_ne (by omega)
  stab := fun i hi => (h.stab i hi).set_ne (by omega)
  journal := h.journal.set_ne (by omega)
  marks := fun i hi => (h.marks i hi).set_ne (by omega)
  nmarks := h.nmarks.set_ne (by omega)
  ref := Ce.set_same (by rw [h.size]; omega)
  logs := h.logs.set_ne (by omega)
  temps := h.temps.set_ne (by omega)
  ttab := h.ttab.set_ne (by omega)
theorem out_set {c : Array Value} {k : Nat} {v : Value} (hk : 2435 ≤ k ∧ k < 27019) : ∀ i, i < 2435 ∨ 27019 ≤ i → (c.setIfInBounds k v)[i]? = c[i]? := fun i hi => Array.getElem?_setIfInBounds_ne (by omega)

/-- A row is put anew (pushed, shortened), and its header written. -/
theorem VS.row_accts {w w2 : World} {C : Nat} {c : Array Value} {v : V} {B : VB} {β : Option Nat} (hv : VS w C c v B β) {l : List Acct} {s : Option (Nat × Nat)} (hrow : Row encA 29 149 w2 s l) (hk : KeepO (blkOf B.a) w w2) (hnew : ∀ b, blkOf s b → blkOf B.a b ∨ w.heap.size ≤ b)
    (hty : ∀ x ∈ l, AcctTy x) (hlen : l.length ≤ 2560) (hcodes : ∀ x ∈ l, BS w β x.code) :
    VS (setB w2 C (.cells (c.setIfInBounds 2435 (slv s l.length)) 86 (0, 0))) C (c.setIfInBounds 2435 (slv s l.length)) { v with accts := l } { B with a := s } β ∧ VStep w (setB w2 C (.cells (c.setIfInBounds 2435 (slv s l.length)) 86 (0, 0))) C c (c.setIfInBounds 2435 (slv s l.length)) B { B with a := s } := by
  have hO : ∀ b, blkOf B.a b → ∃ r fz, Hb w b (.cells r 149 fz) := fun b hb => by obtain ⟨r, hr⟩ := hv.rows.accts.ty_of hb; exact ⟨r, _, hr⟩
  have hC2 : Hb w2 C (.cells c 86 (0, 0)) := KT.keepO hk hO (by decide) _ _ _ hv.blk
  have hKT : ∀ T', T' ≠ 149 → T' ≠ 86 → KT T' w (setB w2 C (.cells (c.setIfInBounds 2435 (slv s l.length)) 86 (0, 0))) := fun T' h1 h2 => (KT.keepO hk hO h1).trans (KT.setB hC2 h2)
  refine ⟨⟨Hb.setSame hC2, hv.rep.set_accts l s, { accts := hrow.kt (KT.setB hC2 (by decide)), slots := hv.rows.slots.kt (hKT 152 (by decide) (by decide)), journal := hv.rows.journal.kt (hKT 173 (by decide) (by decide)), logs := hv.rows.logs.kt (hKT 307 (by decide) (by decide)), temps := hv.rows.temps.kt (hKT 305 (by decide) (by decide)), ttab := hv.rows.ttab.kt (hKT 21 (by decide) (by decide)) }, { hv.ty with la := hlen, accts := hty }, fun x hx => (hcodes x hx).kt (hKT 5 (by decide) (by decide)), fun x hx => (hv.olds x hx).kt (hKT 5 (by decide) (by decide))⟩, ⟨out_set (by omega), ?_, ?_⟩⟩
  · exact (KeepO.trans (O := VOwn C B) (⟨hk.sz, fun b hb hn => hk.old b hb (fun e => hn (by unfold VOwn; simp [e])), hk.en⟩) ((KeepO.refl (fun b => b = C) w2).setB (fun _ => rfl) _) (fun x _ hx => Or.inl hx))
  · intro b hb
    simp only [VOwn] at hb ⊢
    rcases hb with hb | hb | hb | hb | hb | hb | hb
    all_goals first | (exact Or.inl (by simp [hb])) | (rcases hnew b hb with hb | hb; exact Or.inl (by simp [hb]); exact Or.inr hb)

/-- A row is put anew (pushed, shortened), and its header written. -/
theorem VS.row_slots {w w2 : World} {C : Nat} {c : Array Value} {v : V} {B : VB} {β : Option Nat} (hv : VS w C c v B β) {l : List Slot} {s : Option (Nat × Nat)} (hrow : Row encS 14 152 w2 s l) (hk : KeepO (blkOf B.s) w w2) (hnew : ∀ b, blkOf s b → blkOf B.s b ∨ w.heap.size ≤ b)
    (hty : ∀ x ∈ l, SlotTy x) (hlen : l.length ≤ 2560) :
    VS (setB w2 C (.cells (c.setIfInBounds 2436 (slv s l.length)) 86 (0, 0))) C (c.setIfInBounds 2436 (slv s l.length)) { v with slots := l } { B with s := s } β ∧ VStep w (setB w2 C (.cells (c.setIfInBounds 2436 (slv s l.length)) 86 (0, 0))) C c (c.setIfInBounds 2436 (slv s l.length)) B { B with s := s } := by
  have hO : ∀ b, blkOf B.s b → ∃ r fz, Hb w b (.cells r 152 fz) := fun b hb => by obtain ⟨r, hr⟩ := hv.rows.slots.ty_of hb; exact ⟨r, _, hr⟩
  have hC2 : Hb w2 C (.cells c 86 (0, 0)) := KT.keepO hk hO (by decide) _ _ _ hv.blk
  have hKT : ∀ T', T' ≠ 152 → T' ≠ 86 → KT T' w (setB w2 C (.cells (c.setIfInBounds 2436 (slv s l.length)) 86 (0, 0))) := fun T' h1 h2 => (KT.keepO hk hO h1).trans (KT.setB hC2 h2)
  refine ⟨⟨Hb.setSame hC2, hv.rep.set_slots l s, { accts := hv.rows.accts.kt (hKT 149 (by decide) (by decide)), slots := hrow.kt (KT.setB hC2 (by decide)), journal := hv.rows.journal.kt (hKT 173 (by decide) (by decide)), logs := hv.rows.logs.kt (hKT 307 (by decide) (by decide)), temps := hv.rows.temps.kt (hKT 305 (by decide) (by decide)), ttab := hv.rows.ttab.kt (hKT 21 (by decide) (by decide)) }, { hv.ty with ls := hlen, slots := hty }, fun x hx => (hv.codes x hx).kt (hKT 5 (by decide) (by decide)), fun x hx => (hv.olds x hx).kt (hKT 5 (by decide) (by decide))⟩, ⟨out_set (by omega), ?_, ?_⟩⟩
  · exact (KeepO.trans (O := VOwn C B) (⟨hk.sz, fun b hb hn => hk.old b hb (fun e => hn (by unfold VOwn; simp [e])), hk.en⟩) ((KeepO.refl (fun b => b = C) w2).setB (fun _ => rfl) _) (fun x _ hx => Or.inl hx))
  · intro b hb
    simp only [VOwn] at hb ⊢
    rcases hb with hb | hb | hb | hb | hb | hb | hb
    all_goals first | (exact Or.inl (by simp [hb])) | (rcases hnew b hb with hb | hb; exact Or.inl (by simp [hb]); exact Or.inr hb)

/-- A row is put anew (pushed, shortened), and its header written. -/
theorem VS.row_journal {w w2 : World} {C : Nat} {c : Array Value} {v : V} {B : VB} {β : Option Nat} (hv : VS w C c v B β) {l : List Entry} {s : Option (Nat × Nat)} (hrow : Row encE 9 173 w2 s l) (hk : KeepO (blkOf B.j) w w2) (hnew : ∀ b, blkOf s b → blkOf B.j b ∨ w.heap.size ≤ b)
    (hty : ∀ x ∈ l, EntryTy x) (hlen : l.length ≤ 65536) (holds : ∀ x ∈ l, BS w β x.b) :
    VS (setB w2 C (.cells (c.setIfInBounds 10629 (slv s l.length)) 86 (0, 0))) C (c.setIfInBounds 10629 (slv s l.length)) { v with journal := l } { B with j := s } β ∧ VStep w (setB w2 C (.cells (c.setIfInBounds 10629 (slv s l.length)) 86 (0, 0))) C c (c.setIfInBounds 10629 (slv s l.length)) B { B with j := s } := by
  have hO : ∀ b, blkOf B.j b → ∃ r fz, Hb w b (.cells r 173 fz) := fun b hb => by obtain ⟨r, hr⟩ := hv.rows.journal.ty_of hb; exact ⟨r, _, hr⟩
  have hC2 : Hb w2 C (.cells c 86 (0, 0)) := KT.keepO hk hO (by decide) _ _ _ hv.blk
  have hKT : ∀ T', T' ≠ 173 → T' ≠ 86 → KT T' w (setB w2 C (.cells (c.setIfInBounds 10629 (slv s l.length)) 86 (0, 0))) := fun T' h1 h2 => (KT.keepO hk hO h1).trans (KT.setB hC2 h2)
  refine ⟨⟨Hb.setSame hC2, hv.rep.set_journal l s, { accts := hv.rows.accts.kt (hKT 149 (by decide) (by decide)), slots := hv.rows.slots.kt (hKT 152 (by decide) (by decide)), journal := hrow.kt (KT.setB hC2 (by decide)), logs := hv.rows.logs.kt (hKT 307 (by decide) (by decide)), temps := hv.rows.temps.kt (hKT 305 (by decide) (by decide)), ttab := hv.rows.ttab.kt (hKT 21 (by decide) (by decide)) }, { hv.ty with lj := hlen, journal := hty }, fun x hx => (hv.codes x hx).kt (hKT 5 (by decide) (by decide)), fun x hx => (holds x hx).kt (hKT 5 (by decide) (by decide))⟩, ⟨out_set (by omega), ?_, ?_⟩⟩
  · exact (KeepO.trans (O := VOwn C B) (⟨hk.sz, fun b hb hn => hk.old b hb (fun e => hn (by unfold VOwn; simp [e])), hk.en⟩) ((KeepO.refl (fun b => b = C) w2).setB (fun _ => rfl) _) (fun x _ hx => Or.inl hx))
  · intro b hb
    simp only [VOwn] at hb ⊢
    rcases hb with hb | hb | hb | hb | hb | hb | hb
    all_goals first | (exact Or.inl (by simp [hb])) | (rcases hnew b hb with hb | hb; exact Or.inl (by simp [hb]); exact Or.inr hb)

/-- A row is put anew (pushed, shortened), and its header written. -/
theorem VS.row_logs {w w2 : World} {C : Nat} {c : Array Value} {v : V} {B : VB} {β : Option Nat} (hv : VS w C c v B β) {l : List LogR} {s : Option (Nat × Nat)} (hrow : Row encL 22 307 w2 s l) (hk : KeepO (blkOf B.l) w w2) (hnew : ∀ b, blkOf s b → blkOf B.l b ∨ w.heap.size ≤ b)
    (hty : ∀ x ∈ l, LogTy x) (hlen : l.length ≤ 2800) :
    VS (setB w2 C (.cells (c.setIfInBounds 27016 (slv s l.length)) 86 (0, 0))) C (c.setIfInBounds 27016 (slv s l.length)) { v with logs := l } { B with l := s } β ∧ VStep w (setB w2 C (.cells (c.setIfInBounds 27016 (slv s l.length)) 86 (0, 0))) C c (c.setIfInBounds 27016 (slv s l.length)) B { B with l := s } := by
  have hO : ∀ b, blkOf B.l b → ∃ r fz, Hb w b (.cells r 307 fz) := fun b hb => by obtain ⟨r, hr⟩ := hv.rows.logs.ty_of hb; exact ⟨r, _, hr⟩
  have hC2 : Hb w2 C (.cells c 86 (0, 0)) := KT.keepO hk hO (by decide) _ _ _ hv.blk
  have hKT : ∀ T', T' ≠ 307 → T' ≠ 86 → KT T' w (setB w2 C (.cells (c.setIfInBounds 27016 (slv s l.length)) 86 (0, 0))) := fun T' h1 h2 => (KT.keepO hk hO h1).trans (KT.setB hC2 h2)
  refine ⟨⟨Hb.setSame hC2, hv.rep.set_logs l s, { accts := hv.rows.accts.kt (hKT 149 (by decide) (by decide)), slots := hv.rows.slots.kt (hKT 152 (by decide) (by decide)), journal := hv.rows.journal.kt (hKT 173 (by decide) (by decide)), logs := hrow.kt (KT.setB hC2 (by decide)), temps := hv.rows.temps.kt (hKT 305 (by decide) (by decide)), ttab := hv.rows.ttab.kt (hKT 21 (by decide) (by decide)) }, { hv.ty with ll := hlen, logs := hty }, fun x hx => (hv.codes x hx).kt (hKT 5 (by decide) (by decide)), fun x hx => (hv.olds x hx).kt (hKT 5 (by decide) (by decide))⟩, ⟨out_set (by omega), ?_, ?_⟩⟩
  · exact (KeepO.trans (O := VOwn C B) (⟨hk.sz, fun b hb hn => hk.old b hb (fun e => hn (by unfold VOwn; simp [e])), hk.en⟩) ((KeepO.refl (fun b => b = C) w2).setB (fun _ => rfl) _) (fun x _ hx => Or.inl hx))
  · intro b hb
    simp only [VOwn] at hb ⊢
    rcases hb with hb | hb | hb | hb | hb | hb | hb
    all_goals first | (exact Or.inl (by simp [hb])) | (rcases hnew b hb with hb | hb; exact Or.inl (by simp [hb]); exact Or.inr hb)

/-- A row is put anew (pushed, shortened), and its header written. -/
theorem VS.row_temps {w w2 : World} {C : Nat} {c : Array Value} {v : V} {B : VB} {β : Option Nat} (hv : VS w C c v B β) {l : List Temp} {s : Option (Nat × Nat)} (hrow : Row encT 9 305 w2 s l) (hk : KeepO (blkOf B.t) w w2) (hnew : ∀ b, blkOf s b → blkOf B.t b ∨ w.heap.size ≤ b)
    (hty : ∀ x ∈ l, TempTy x) (hlen : l.length ≤ 12288) :
    VS (setB w2 C (.cells (c.setIfInBounds 27017 (slv s l.length)) 86 (0, 0))) C (c.setIfInBounds 27017 (slv s l.length)) { v with temps := l } { B with t := s } β ∧ VStep w (setB w2 C (.cells (c.setIfInBounds 27017 (slv s l.length)) 86 (0, 0))) C c (c.setIfInBounds 27017 (slv s l.length)) B { B with t := s } := by
  have hO : ∀ b, blkOf B.t b → ∃ r fz, Hb w b (.cells r 305 fz) := fun b hb => by obtain ⟨r, hr⟩ := hv.rows.temps.ty_of hb; exact ⟨r, _, hr⟩
  have hC2 : Hb w2 C (.cells c 86 (0, 0)) := KT.keepO hk hO (by decide) _ _ _ hv.blk
  have hKT : ∀ T', T' ≠ 305 → T' ≠ 86 → KT T' w (setB w2 C (.cells (c.setIfInBounds 27017 (slv s l.length)) 86 (0, 0))) := fun T' h1 h2 => (KT.keepO hk hO h1).trans (KT.setB hC2 h2)
  refine ⟨⟨Hb.setSame hC2, hv.rep.set_temps l s, { accts := hv.rows.accts.kt (hKT 149 (by decide) (by decide)), slots := hv.rows.slots.kt (hKT 152 (by decide) (by decide)), journal := hv.rows.journal.kt (hKT 173 (by decide) (by decide)), logs := hv.rows.logs.kt (hKT 307 (by decide) (by decide)), temps := hrow.kt (KT.setB hC2 (by decide)), ttab := hv.rows.ttab.kt (hKT 21 (by decide) (by decide)) }, { hv.ty with lt := hlen, temps := hty }, fun x hx => (hv.codes x hx).kt (hKT 5 (by decide) (by decide)), fun x hx => (hv.olds x hx).kt (hKT 5 (by decide) (by decide))⟩, ⟨out_set (by omega), ?_, ?_⟩⟩
  · exact (KeepO.trans (O := VOwn C B) (⟨hk.sz, fun b hb hn => hk.old b hb (fun e => hn (by unfold VOwn; simp [e])), hk.en⟩) ((KeepO.refl (fun b => b = C) w2).setB (fun _ => rfl) _) (fun x _ hx => Or.inl hx))
  · intro b hb
    simp only [VOwn] at hb ⊢
    rcases hb with hb | hb | hb | hb | hb | hb | hb
    all_goals first | (exact Or.inl (by simp [hb])) | (rcases hnew b hb with hb | hb; exact Or.inl (by simp [hb]); exact Or.inr hb)

/-- A row is put anew (pushed, shortened), and its header written. -/
theorem VS.row_ttab {w w2 : World} {C : Nat} {c : Array Value} {v : V} {B : VB} {β : Option Nat} (hv : VS w C c v B β) {l : List Int} {s : Option (Nat × Nat)} (hrow : Row encI 1 21 w2 s l) (hk : KeepO (blkOf B.tt) w w2) (hnew : ∀ b, blkOf s b → blkOf B.tt b ∨ w.heap.size ≤ b)
    (hty : ∀ x ∈ l, I32 x) (hlen : l.length ≤ 16384) (hne : l = [] → s = none) :
    VS (setB w2 C (.cells (c.setIfInBounds 27018 (slv s l.length)) 86 (0, 0))) C (c.setIfInBounds 27018 (slv s l.length)) { v with ttab := l } { B with tt := s } β ∧ VStep w (setB w2 C (.cells (c.setIfInBounds 27018 (slv s l.length)) 86 (0, 0))) C c (c.setIfInBounds 27018 (slv s l.length)) B { B with tt := s } := by
  have hO : ∀ b, blkOf B.tt b → ∃ r fz, Hb w b (.cells r 21 fz) := fun b hb => by obtain ⟨r, hr⟩ := hv.rows.ttab.ty_of hb; exact ⟨r, _, hr⟩
  have hC2 : Hb w2 C (.cells c 86 (0, 0)) := KT.keepO hk hO (by decide) _ _ _ hv.blk
  have hKT : ∀ T', T' ≠ 21 → T' ≠ 86 → KT T' w (setB w2 C (.cells (c.setIfInBounds 27018 (slv s l.length)) 86 (0, 0))) := fun T' h1 h2 => (KT.keepO hk hO h1).trans (KT.setB hC2 h2)
  refine ⟨⟨Hb.setSame hC2, hv.rep.set_ttab l s hne, { accts := hv.rows.accts.kt (hKT 149 (by decide) (by decide)), slots := hv.rows.slots.kt (hKT 152 (by decide) (by decide)), journal := hv.rows.journal.kt (hKT 173 (by decide) (by decide)), logs := hv.rows.logs.kt (hKT 307 (by decide) (by decide)), temps := hv.rows.temps.kt (hKT 305 (by decide) (by decide)), ttab := hrow.kt (KT.setB hC2 (by decide)) }, { hv.ty with ltt := hlen, ttab := hty }, fun x hx => (hv.codes x hx).kt (hKT 5 (by decide) (by decide)), fun x hx => (hv.olds x hx).kt (hKT 5 (by decide) (by decide))⟩, ⟨out_set (by omega), ?_, ?_⟩⟩
  · exact (KeepO.trans (O := VOwn C B) (⟨hk.sz, fun b hb hn => hk.old b hb (fun e => hn (by unfold VOwn; simp [e])), hk.en⟩) ((KeepO.refl (fun b => b = C) w2).setB (fun _ => rfl) _) (fun x _ hx => Or.inl hx))
  · intro b hb
    simp only [VOwn] at hb ⊢
    rcases hb with hb | hb | hb | hb | hb | hb | hb
    all_goals first | (exact Or.inl (by simp [hb])) | (rcases hnew b hb with hb | hb; exact Or.inl (by simp [hb]); exact Or.inr hb)

theorem VS.put_atab {w : World} {C : Nat} {c : Array Value} {v : V} {B : VB} {β : Option Nat} (hv : VS w C c v B β) (k : Nat) (x : Int) (hk : k < 4096) (hx : I32 x) :
    VS (setB w C (.cells (c.setIfInBounds (2437 + k * 1) (.int .i32 x)) 86 (0, 0))) C (c.setIfInBounds (2437 + k * 1) (.int .i32 x)) { v with atab := fun i => if i = k then x else v.atab i } B β ∧ VStep w (setB w C (.cells (c.setIfInBounds (2437 + k * 1) (.int .i32 x)) 86 (0, 0))) C c (c.setIfInBounds (2437 + k * 1) (.int .i32 x)) B B :=
  ⟨⟨Hb.setSame hv.blk, hv.rep.set_atab k x hk, { accts := hv.rows.accts.kt (KT.setB hv.blk (by decide)), slots := hv.rows.slots.kt (KT.setB hv.blk (by decide)), journal := hv.rows.journal.kt (KT.setB hv.blk (by decide)), logs := hv.rows.logs.kt (KT.setB hv.blk (by decide)), temps := hv.rows.temps.kt (KT.setB hv.blk (by decide)), ttab := hv.rows.ttab.kt (KT.setB hv.blk (by decide)) }, { hv.ty with atab := fun i => by show I32 (if i = k then x else v.atab i); split; exact hx; exact hv.ty.atab i }, fun x hx => (hv.codes x hx).kt (KT.setB hv.blk (by decide)), fun x hx => (hv.olds x hx).kt (KT.setB hv.blk (by decide))⟩,
   ⟨out_set (by omega), (KeepO.refl _ w).setB (fun _ => Or.inl rfl) _, fun _ hb => Or.inl hb⟩⟩

theorem VS.put_stab {w : World} {C : Nat} {c : Array Value} {v : V} {B : VB} {β : Option Nat} (hv : VS w C c v B β) (k : Nat) (x : Int) (hk : k < 4096) (hx : I32 x) :
    VS (setB w C (.cells (c.setIfInBounds (6533 + k * 1) (.int .i32 x)) 86 (0, 0))) C (c.setIfInBounds (6533 + k * 1) (.int .i32 x)) { v with stab := fun i => if i = k then x else v.stab i } B β ∧ VStep w (setB w C (.cells (c.setIfInBounds (6533 + k * 1) (.int .i32 x)) 86 (0, 0))) C c (c.setIfInBounds (6533 + k * 1) (.int .i32 x)) B B :=
  ⟨⟨Hb.setSame hv.blk, hv.rep.set_stab k x hk, { accts := hv.rows.accts.kt (KT.setB hv.blk (by decide)), slots := hv.rows.slots.kt (KT.setB hv.blk (by decide)), journal := hv.rows.journal.kt (KT.setB hv.blk (by decide)), logs := hv.rows.logs.kt (KT.setB hv.blk (by decide)), temps := hv.rows.temps.kt (KT.setB hv.blk (by decide)), ttab := hv.rows.ttab.kt (KT.setB hv.blk (by decide)) }, { hv.ty with stab := fun i => by show I32 (if i = k then x else v.stab i); split; exact hx; exact hv.ty.stab i }, fun x hx => (hv.codes x hx).kt (KT.setB hv.blk (by decide)), fun x hx => (hv.olds x hx).kt (KT.setB hv.blk (by decide))⟩,
   ⟨out_set (by omega), (KeepO.refl _ w).setB (fun _ => Or.inl rfl) _, fun _ hb => Or.inl hb⟩⟩

theorem VS.put_marks {w : World} {C : Nat} {c : Array Value} {v : V} {B : VB} {β : Option Nat} (hv : VS w C c v B β) (k : Nat) (x : Int) (hk : k < 16384) (hx : I32 x) :
    VS (setB w C (.cells (c.setIfInBounds (10630 + k * 1) (.int .i32 x)) 86 (0, 0))) C (c.setIfInBounds (10630 + k * 1) (.int .i32 x)) { v with marks := fun i => if i = k then x else v.marks i } B β ∧ VStep w (setB w C (.cells (c.setIfInBounds (10630 + k * 1) (.int .i32 x)) 86 (0, 0))) C c (c.setIfInBounds (10630 + k * 1) (.int .i32 x)) B B :=
  ⟨⟨Hb.setSame hv.blk, hv.rep.set_marks k x hk, { accts := hv.rows.accts.kt (KT.setB hv.blk (by decide)), slots := hv.rows.slots.kt (KT.setB hv.blk (by decide)), journal := hv.rows.journal.kt (KT.setB hv.blk (by decide)), logs := hv.rows.logs.kt (KT.setB hv.blk (by decide)), temps := hv.rows.temps.kt (KT.setB hv.blk (by decide)), ttab := hv.rows.ttab.kt (KT.setB hv.blk (by decide)) }, { hv.ty with marks := fun i => by show I32 (if i = k then x else v.marks i); split; exact hx; exact hv.ty.marks i }, fun x hx => (hv.codes x hx).kt (KT.setB hv.blk (by decide)), fun x hx => (hv.olds x hx).kt (KT.setB hv.blk (by decide))⟩,
   ⟨out_set (by omega), (KeepO.refl _ w).setB (fun _ => Or.inl rfl) _, fun _ hb => Or.inl hb⟩⟩

theorem VS.put_nmarks {w : World} {C : Nat} {c : Array Value} {v : V} {B : VB} {β : Option Nat} (hv : VS w C c v B β) (x : Int) (hx : I32 x) :
    VS (setB w C (.cells (c.setIfInBounds 27014 (.int .i32 x)) 86 (0, 0))) C (c.setIfInBounds 27014 (.int .i32 x)) { v with nmarks := x } B β ∧ VStep w (setB w C (.cells (c.setIfInBounds 27014 (.int .i32 x)) 86 (0, 0))) C c (c.setIfInBounds 27014 (.int .i32 x)) B B :=
  ⟨⟨Hb.setSame hv.blk, hv.rep.set_nmarks x, { accts := hv.rows.accts.kt (KT.setB hv.blk (by decide)), slots := hv.rows.slots.kt (KT.setB hv.blk (by decide)), journal := hv.rows.journal.kt (KT.setB hv.blk (by decide)), logs := hv.rows.logs.kt (KT.setB hv.blk (by decide)), temps := hv.rows.temps.kt (KT.setB hv.blk (by decide)), ttab := hv.rows.ttab.kt (KT.setB hv.blk (by decide)) }, { hv.ty with nmarks := hx }, fun x hx => (hv.codes x hx).kt (KT.setB hv.blk (by decide)), fun x hx => (hv.olds x hx).kt (KT.setB hv.blk (by decide))⟩,
   ⟨out_set (by omega), (KeepO.refl _ w).setB (fun _ => Or.inl rfl) _, fun _ hb => Or.inl hb⟩⟩

theorem VS.put_ref {w : World} {C : Nat} {c : Array Value} {v : V} {B : VB} {β : Option Nat} (hv : VS w C c v B β) (x : Int) (hx : 0 ≤ x ∧ x ≤ 18446744073709551615) :
    VS (setB w C (.cells (c.setIfInBounds 27015 (.int .u64 x)) 86 (0, 0))) C (c.setIfInBounds 27015 (.int .u64 x)) { v with ref := x } B β ∧ VStep w (setB w C (.cells (c.setIfInBounds 27015 (.int .u64 x)) 86 (0, 0))) C c (c.setIfInBounds 27015 (.int .u64 x)) B B :=
  ⟨⟨Hb.setSame hv.blk, hv.rep.set_ref x, { accts := hv.rows.accts.kt (KT.setB hv.blk (by decide)), slots := hv.rows.slots.kt (KT.setB hv.blk (by decide)), journal := hv.rows.journal.kt (KT.setB hv.blk (by decide)), logs := hv.rows.logs.kt (KT.setB hv.blk (by decide)), temps := hv.rows.temps.kt (KT.setB hv.blk (by decide)), ttab := hv.rows.ttab.kt (KT.setB hv.blk (by decide)) }, { hv.ty with ref := hx }, fun x hx => (hv.codes x hx).kt (KT.setB hv.blk (by decide)), fun x hx => (hv.olds x hx).kt (KT.setB hv.blk (by decide))⟩,
   ⟨out_set (by omega), (KeepO.refl _ w).setB (fun _ => Or.inl rfl) _, fun _ hb => Or.inl hb⟩⟩

/-- A part of one record is written. -/
theorem VS.elt_accts {w : World} {C : Nat} {c : Array Value} {v : V} {B : VB} {β : Option Nat} (hv : VS w C c v B β) {bb cap i k : Nat} {r : Array Value} {x x' : Acct} {vs : List Value} (hab : B.a = some (bb, cap)) (hcap : v.accts.length ≤ cap) (hr : Hb w bb (.cells r 149 (0, 0))) (hrs : r.size = 29 * cap)
    (hrow : RowL encA 29 0 r v.accts) (hi : v.accts[i]? = some x) (hk : k + vs.length ≤ 29) (hx' : ∀ j, j < 29 → (encA x')[j]? = if k ≤ j ∧ j < k + vs.length then vs[j - k]? else (encA x)[j]?) (hty : AcctTy x') (hcode : BS w β x'.code) :
    VS (setB w bb (.cells (splice r (0 + i * 29 + k) vs) 149 (0, 0))) C c { v with accts := v.accts.set i x' } B β ∧ VStep w (setB w bb (.cells (splice r (0 + i * 29 + k) vs) 149 (0, 0))) C c c B B := by
  have hROW : Row encA 29 149 (setB w bb (.cells (splice r (0 + i * 29 + k) vs) 149 (0, 0))) B.a (v.accts.set i x') := by
    rw [hab]
    simp only [Row]
    exact ⟨by simpa using hcap, _, Hb.setSame hr, by rw [size_splice]; exact hrs, hrow.put hi hk hx'⟩
  have hLEN : (v.accts.set i x').length ≤ 2560 := by rw [List.length_set]; exact hv.ty.la
  have hTY : ∀ y ∈ v.accts.set i x', AcctTy y := by
    intro y hy
    rcases List.mem_or_eq_of_mem_set hy with hy | hy
    · exact hv.ty.accts y hy
    · subst hy; exact hty
  have hREP : VRep c { v with accts := v.accts.set i x' } B := by
    have h := hv.rep
    exact { h with accts := by have := h.accts; rwa [← List.length_set (i := i) (a := x')] at this }
  have hCODES : ∀ y ∈ v.accts.set i x', BS (setB w bb (.cells (splice r (0 + i * 29 + k) vs) 149 (0, 0))) β y.code := by
    intro y hy
    rcases List.mem_or_eq_of_mem_set hy with hy | hy
    · exact (hv.codes y hy).kt (KT.setB hr (by decide))
    · subst hy; exact hcode.kt (KT.setB hr (by decide))
  refine ⟨⟨KT.setB hr (by decide) _ _ _ hv.blk, hREP, { accts := hROW, slots := hv.rows.slots.kt (KT.setB hr (by decide)), journal := hv.rows.journal.kt (KT.setB hr (by decide)), logs := hv.rows.logs.kt (KT.setB hr (by decide)), temps := hv.rows.temps.kt (KT.setB hr (by decide)), ttab := hv.rows.ttab.kt (KT.setB hr (by decide)) }, { hv.ty with accts := hTY, la := hLEN }, hCODES, fun y hy => (hv.olds y hy).kt (KT.setB hr (by decide))⟩, ⟨fun _ _ => rfl, (KeepO.refl _ w).setB (fun _ => ?_) _, fun _ hb => Or.inl hb⟩⟩
  unfold VOwn; simp [blkOf, hab]

/-- A part of one record is written. -/
theorem VS.elt_slots {w : World} {C : Nat} {c : Array Value} {v : V} {B : VB} {β : Option Nat} (hv : VS w C c v B β) {bb cap i k : Nat} {r : Array Value} {x x' : Slot} {vs : List Value} (hab : B.s = some (bb, cap)) (hcap : v.slots.length ≤ cap) (hr : Hb w bb (.cells r 152 (0, 0))) (hrs : r.size = 14 * cap)
    (hrow : RowL encS 14 0 r v.slots) (hi : v.slots[i]? = some x) (hk : k + vs.length ≤ 14) (hx' : ∀ j, j < 14 → (encS x')[j]? = if k ≤ j ∧ j < k + vs.length then vs[j - k]? else (encS x)[j]?) (hty : SlotTy x') :
    VS (setB w bb (.cells (splice r (0 + i * 14 + k) vs) 152 (0, 0))) C c { v with slots := v.slots.set i x' } B β ∧ VStep w (setB w bb (.cells (splice r (0 + i * 14 + k) vs) 152 (0, 0))) C c c B B := by
  have hROW : Row encS 14 152 (setB w bb (.cells (splice r (0 + i * 14 + k) vs) 152 (0, 0))) B.s (v.slots.set i x') := by
    rw [hab]
    simp only [Row]
    exact ⟨by simpa using hcap, _, Hb.setSame hr, by rw [size_splice]; exact hrs, hrow.put hi hk hx'⟩
  have hLEN : (v.slots.set i x').length ≤ 2560 := by rw [List.length_set]; exact hv.ty.ls
  have hTY : ∀ y ∈ v.slots.set i x', SlotTy y := by
    intro y hy
    rcases List.mem_or_eq_of_mem_set hy with hy | hy
    · exact hv.ty.slots y hy
    · subst hy; exact hty
  have hREP : VRep c { v with slots := v.slots.set i x' } B := by
    have h := hv.rep
    exact { h with slots := by have := h.slots; rwa [← List.length_set (i := i) (a := x')] at this }
  have hCODES : ∀ y ∈ v.accts, BS (setB w bb (.cells (splice r (0 + i * 14 + k) vs) 152 (0, 0))) β y.code := fun y hy => (hv.codes y hy).kt (KT.setB hr (by decide))
  refine ⟨⟨KT.setB hr (by decide) _ _ _ hv.blk, hREP, { accts := hv.rows.accts.kt (KT.setB hr (by decide)), slots := hROW, journal := hv.rows.journal.kt (KT.setB hr (by decide)), logs := hv.rows.logs.kt (KT.setB hr (by decide)), temps := hv.rows.temps.kt (KT.setB hr (by decide)), ttab := hv.rows.ttab.kt (KT.setB hr (by decide)) }, { hv.ty with slots := hTY, ls := hLEN }, hCODES, fun y hy => (hv.olds y hy).kt (KT.setB hr (by decide))⟩, ⟨fun _ _ => rfl, (KeepO.refl _ w).setB (fun _ => ?_) _, fun _ hb => Or.inl hb⟩⟩
  unfold VOwn; simp [blkOf, hab]

/-- A part of one record is written. -/
theorem VS.elt_temps {w : World} {C : Nat} {c : Array Value} {v : V} {B : VB} {β : Option Nat} (hv : VS w C c v B β) {bb cap i k : Nat} {r : Array Value} {x x' : Temp} {vs : List Value} (hab : B.t = some (bb, cap)) (hcap : v.temps.length ≤ cap) (hr : Hb w bb (.cells r 305 (0, 0))) (hrs : r.size = 9 * cap)
    (hrow : RowL encT 9 0 r v.temps) (hi : v.temps[i]? = some x) (hk : k + vs.length ≤ 9) (hx' : ∀ j, j < 9 → (encT x')[j]? = if k ≤ j ∧ j < k + vs.length then vs[j - k]? else (encT x)[j]?) (hty : TempTy x') :
    VS (setB w bb (.cells (splice r (0 + i * 9 + k) vs) 305 (0, 0))) C c { v with temps := v.temps.set i x' } B β ∧ VStep w (setB w bb (.cells (splice r (0 + i * 9 + k) vs) 305 (0, 0))) C c c B B := by
  have hROW : Row encT 9 305 (setB w bb (.cells (splice r (0 + i * 9 + k) vs) 305 (0, 0))) B.t (v.temps.set i x') := by
    rw [hab]
    simp only [Row]
    exact ⟨by simpa using hcap, _, Hb.setSame hr, by rw [size_splice]; exact hrs, hrow.put hi hk hx'⟩
  have hLEN : (v.temps.set i x').length ≤ 12288 := by rw [List.length_set]; exact hv.ty.lt
  have hTY : ∀ y ∈ v.temps.set i x', TempTy y := by
    intro y hy
    rcases List.mem_or_eq_of_mem_set hy with hy | hy
    · exact hv.ty.temps y hy
    · subst hy; exact hty
  have hREP : VRep c { v with temps := v.temps.set i x' } B := by
    have h := hv.rep
    exact { h with temps := by have := h.temps; rwa [← List.length_set (i := i) (a := x')] at this }
  have hCODES : ∀ y ∈ v.accts, BS (setB w bb (.cells (splice r (0 + i * 9 + k) vs) 305 (0, 0))) β y.code := fun y hy => (hv.codes y hy).kt (KT.setB hr (by decide))
  refine ⟨⟨KT.setB hr (by decide) _ _ _ hv.blk, hREP, { accts := hv.rows.accts.kt (KT.setB hr (by decide)), slots := hv.rows.slots.kt (KT.setB hr (by decide)), journal := hv.rows.journal.kt (KT.setB hr (by decide)), logs := hv.rows.logs.kt (KT.setB hr (by decide)), temps := hROW, ttab := hv.rows.ttab.kt (KT.setB hr (by decide)) }, { hv.ty with temps := hTY, lt := hLEN }, hCODES, fun y hy => (hv.olds y hy).kt (KT.setB hr (by decide))⟩, ⟨fun _ _ => rfl, (KeepO.refl _ w).setB (fun _ => ?_) _, fun _ hb => Or.inl hb⟩⟩
  unfold VOwn; simp [blkOf, hab]

end Go.Proofs.YgvadwGreat
