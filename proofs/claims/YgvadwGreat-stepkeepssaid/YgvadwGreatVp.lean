import Derived.Test.YgvadwGreatVo
namespace Go.Proofs.YgvadwGreat
set_option linter.unusedSimpArgs false
set_option linter.unusedVariables false
theorem info149 : Hvad.prog.info? 149 = some Hvad.t149 := by kernel_rfl
theorem info152 : Hvad.prog.info? 152 = some Hvad.t152 := by kernel_rfl
theorem info173 : Hvad.prog.info? 173 = some Hvad.t173 := by kernel_rfl
theorem info305 : Hvad.prog.info? 305 = some Hvad.t305 := by kernel_rfl
theorem info307 : Hvad.prog.info? 307 = some Hvad.t307 := by kernel_rfl
theorem one_map (k : IntKind) (l : List Int) : ∀ u ∈ l.map (Value.int k), u.oneCell' = true := by
  intro u hu
  obtain ⟨x, _, rfl⟩ := List.mem_map.1 hu
  rfl
theorem one_app {a b : List Value} (ha : ∀ u ∈ a, u.oneCell' = true) (hb : ∀ u ∈ b, u.oneCell' = true) : ∀ u ∈ a ++ b, u.oneCell' = true := by
  intro u hu
  rcases List.mem_append.1 hu with h | h
  · exact ha u h
  · exact hb u h
theorem one_cons {a : Value} {b : List Value} (ha : a.oneCell' = true) (hb : ∀ u ∈ b, u.oneCell' = true) : ∀ u ∈ a :: b, u.oneCell' = true := by
  intro u hu
  rcases List.mem_cons.1 hu with h | h
  · subst h; exact ha
  · exact hb u h
theorem one_nil : ∀ u ∈ ([] : List Value), u.oneCell' = true := fun _ h => by cases h
theorem one_encA (x : Acct) : ∀ u ∈ encA x, u.oneCell' = true := one_app (one_map _ _) (one_cons rfl (one_app (one_map _ _) (one_cons rfl (one_cons rfl (one_cons rfl (one_cons rfl one_nil))))))
theorem one_encS (x : Slot) : ∀ u ∈ encS x, u.oneCell' = true := one_cons rfl (one_app (one_map _ _) (one_app (one_map _ _) (one_app (one_map _ _) (one_cons rfl one_nil))))
theorem one_encE (x : Entry) : ∀ u ∈ encE x, u.oneCell' = true := one_cons rfl (one_cons rfl (one_cons rfl (one_app (one_map _ _) (one_cons rfl (one_cons rfl one_nil)))))
theorem one_encL (x : LogR) : ∀ u ∈ encL x, u.oneCell' = true := one_app (one_map _ _) (one_cons rfl (one_cons rfl one_nil))
theorem one_encT (x : Temp) : ∀ u ∈ encT x, u.oneCell' = true := one_cons rfl (one_app (one_map _ _) (one_map _ _))
theorem app_accts {w : World} {s : Option (Nat × Nat)} {l : List Acct} {x : Acct} {b1 : Nat} (hrow : Row encA 29 149 w s l) (hx : (encA x).length = 29) (hsrc : Hb w b1 (.cells (encA x).toArray 149 (0, 0))) (hl : l.length ≤ 2560) :
    ∃ s' w', (Builtin.append_ #[70, 70] 70 #[slv s l.length, .slice (some ⟨b1, 0, none⟩) 1 1]).run Hvad.prog w = .ok (slv s' (l.length + 1)) w' ∧ Row encA 29 149 w' s' (l ++ [x]) ∧ KeepO (blkOf s) w w' ∧ (∀ b, blkOf s' b → blkOf s b ∨ w.heap.size ≤ b) :=
  run_append_row (bytes := Hvad.t149.bytes) Hvad.underlying70 info149 rfl rfl rfl rfl hrow hx (one_encA x) hsrc (Nat.le_trans (Nat.mul_le_mul (show l.length + 1 ≤ 70000 by omega) (show Hvad.t149.bytes ≤ 200 by decide)) (by decide)) (by omega)
theorem app_slots {w : World} {s : Option (Nat × Nat)} {l : List Slot} {x : Slot} {b1 : Nat} (hrow : Row encS 14 152 w s l) (hx : (encS x).length = 14) (hsrc : Hb w b1 (.cells (encS x).toArray 152 (0, 0))) (hl : l.length ≤ 2560) :
    ∃ s' w', (Builtin.append_ #[71, 71] 71 #[slv s l.length, .slice (some ⟨b1, 0, none⟩) 1 1]).run Hvad.prog w = .ok (slv s' (l.length + 1)) w' ∧ Row encS 14 152 w' s' (l ++ [x]) ∧ KeepO (blkOf s) w w' ∧ (∀ b, blkOf s' b → blkOf s b ∨ w.heap.size ≤ b) :=
  run_append_row (bytes := Hvad.t152.bytes) Hvad.underlying71 info152 rfl rfl rfl rfl hrow hx (one_encS x) hsrc (Nat.le_trans (Nat.mul_le_mul (show l.length + 1 ≤ 70000 by omega) (show Hvad.t152.bytes ≤ 200 by decide)) (by decide)) (by omega)
theorem app_journal {w : World} {s : Option (Nat × Nat)} {l : List Entry} {x : Entry} {b1 : Nat} (hrow : Row encE 9 173 w s l) (hx : (encE x).length = 9) (hsrc : Hb w b1 (.cells (encE x).toArray 173 (0, 0))) (hl : l.length ≤ 65536) :
    ∃ s' w', (Builtin.append_ #[73, 73] 73 #[slv s l.length, .slice (some ⟨b1, 0, none⟩) 1 1]).run Hvad.prog w = .ok (slv s' (l.length + 1)) w' ∧ Row encE 9 173 w' s' (l ++ [x]) ∧ KeepO (blkOf s) w w' ∧ (∀ b, blkOf s' b → blkOf s b ∨ w.heap.size ≤ b) :=
  run_append_row (bytes := Hvad.t173.bytes) Hvad.underlying73 info173 rfl rfl rfl rfl hrow hx (one_encE x) hsrc (Nat.le_trans (Nat.mul_le_mul (show l.length + 1 ≤ 70000 by omega) (show Hvad.t173.bytes ≤ 200 by decide)) (by decide)) (by omega)
theorem app_logs {w : World} {s : Option (Nat × Nat)} {l : List LogR} {x : LogR} {b1 : Nat} (hrow : Row encL 22 307 w s l) (hx : (encL x).length = 22) (hsrc : Hb w b1 (.cells (encL x).toArray 307 (0, 0))) (hl : l.length ≤ 2800) :
    ∃ s' w', (Builtin.append_ #[75, 75] 75 #[slv s l.length, .slice (some ⟨b1, 0, none⟩) 1 1]).run Hvad.prog w = .ok (slv s' (l.length + 1)) w' ∧ Row encL 22 307 w' s' (l ++ [x]) ∧ KeepO (blkOf s) w w' ∧ (∀ b, blkOf s' b → blkOf s b ∨ w.heap.size ≤ b) :=
  run_append_row (bytes := Hvad.t307.bytes) Hvad.underlying75 info307 rfl rfl rfl rfl hrow hx (one_encL x) hsrc (Nat.le_trans (Nat.mul_le_mul (show l.length + 1 ≤ 70000 by omega) (show Hvad.t307.bytes ≤ 200 by decide)) (by decide)) (by omega)
theorem app_temps {w : World} {s : Option (Nat × Nat)} {l : List Temp} {x : Temp} {b1 : Nat} (hrow : Row encT 9 305 w s l) (hx : (encT x).length = 9) (hsrc : Hb w b1 (.cells (encT x).toArray 305 (0, 0))) (hl : l.length ≤ 12288) :
    ∃ s' w', (Builtin.append_ #[76, 76] 76 #[slv s l.length, .slice (some ⟨b1, 0, none⟩) 1 1]).run Hvad.prog w = .ok (slv s' (l.length + 1)) w' ∧ Row encT 9 305 w' s' (l ++ [x]) ∧ KeepO (blkOf s) w w' ∧ (∀ b, blkOf s' b → blkOf s b ∨ w.heap.size ≤ b) :=
  run_append_row (bytes := Hvad.t305.bytes) Hvad.underlying76 info305 rfl rfl rfl rfl hrow hx (one_encT x) hsrc (Nat.le_trans (Nat.mul_le_mul (show l.length + 1 ≤ 70000 by omega) (show Hvad.t305.bytes ≤ 200 by decide)) (by decide)) (by omega)

/-! the vault's setters, plainly -/
def W0 : List Int := [0, 0, 0, 0]
def newA (A : List Int) : Acct := ⟨A, 0, [0, 0, 0, 0], (none, 0, 0), false, false, false⟩
def newS (a : Int) (K : List Int) : Slot := ⟨a, K, [0, 0, 0, 0], [0, 0, 0, 0], false⟩
def newT (a : Int) (K : List Int) : Temp := ⟨a, K, [0, 0, 0, 0]⟩
def V.acct (v : V) (A : List Int) : (Int × Bool) × V :=
  if 0 ≤ (v.findA A).1 then (((v.findA A).1, true), v)
  else if (v.findA A).2 < 0 ∨ 2560 ≤ v.accts.length then ((-1, false), v)
  else ((v.accts.length, true), { v with accts := v.accts ++ [newA A], atab := fun i => if i = (v.findA A).2.toNat then v.accts.length else v.atab i })
def V.slot (v : V) (a : Int) (K : List Int) : (Int × Bool) × V :=
  if 0 ≤ (v.findS a K).1 then (((v.findS a K).1, true), v)
  else if (v.findS a K).2 < 0 ∨ 2560 ≤ v.slots.length then ((-1, false), v)
  else ((v.slots.length, true), { v with slots := v.slots ++ [newS a K], stab := fun i => if i = (v.findS a K).2.toNat then v.slots.length else v.stab i })
def V.slotOf (v : V) (A K : List Int) : (Int × Bool) × V :=
  if (v.findA A).1 < 0 ∧ 2560 ≤ v.slots.length then ((-1, false), v)
  else if (v.acct A).1.2 = true then (v.acct A).2.slot (v.acct A).1.1 K else ((-1, false), (v.acct A).2)
def V.setA (v : V) (A : List Int) (e : Int → Acct → Entry) (g : Acct → Acct) : Bool × V :=
  if 65536 ≤ v.journal.length then (false, v)
  else if (v.acct A).1.2 = true then
    (match (v.acct A).2.accts[(v.acct A).1.1.toNat]? with
     | some x => (true, { (v.acct A).2 with journal := (v.acct A).2.journal ++ [e (v.acct A).1.1 x], accts := (v.acct A).2.accts.set (v.acct A).1.1.toNat (g x) })
     | none => (false, (v.acct A).2))
  else (false, (v.acct A).2)
def V.setS (v : V) (A K : List Int) (e : Int → Slot → Entry) (g : Slot → Slot) : Bool × V :=
  if 65536 ≤ v.journal.length then (false, v)
  else if (v.slotOf A K).1.2 = true then
    (match (v.slotOf A K).2.slots[(v.slotOf A K).1.1.toNat]? with
     | some x => (true, { (v.slotOf A K).2 with journal := (v.slotOf A K).2.journal ++ [e (v.slotOf A K).1.1 x], slots := (v.slotOf A K).2.slots.set (v.slotOf A K).1.1.toNat (g x) })
     | none => (false, (v.slotOf A K).2))
  else (false, (v.slotOf A K).2)
def V.putNonce (v : V) (A : List Int) (n : Int) : Bool × V := v.setA A (fun a x => ⟨1, a, x.nonce, [0, 0, 0, 0], (none, 0, 0), false⟩) (fun x => { x with nonce := n })
def V.putBal (v : V) (A b : List Int) : Bool × V := v.setA A (fun a x => ⟨0, a, 0, x.bal, (none, 0, 0), false⟩) (fun x => { x with bal := b })
def V.warmA (v : V) (A : List Int) : Bool × V := v.setA A (fun a x => ⟨4, a, 0, [0, 0, 0, 0], (none, 0, 0), x.warm⟩) (fun x => { x with warm := true })
def V.markMade (v : V) (A : List Int) : Bool × V := v.setA A (fun a x => ⟨9, a, 0, [0, 0, 0, 0], (none, 0, 0), x.made⟩) (fun x => { x with made := true })
def V.markGone (v : V) (A : List Int) : Bool × V := v.setA A (fun a x => ⟨10, a, 0, [0, 0, 0, 0], (none, 0, 0), x.gone⟩) (fun x => { x with gone := true })
def V.store (v : V) (A K n : List Int) : Bool × V := v.setS A K (fun a x => ⟨3, a, 0, x.val, (none, 0, 0), false⟩) (fun x => { x with val := n })
def V.warmS (v : V) (A K : List Int) : Bool × V := v.setS A K (fun a x => ⟨5, a, 0, [0, 0, 0, 0], (none, 0, 0), x.warm⟩) (fun x => { x with warm := true })
def V.refUp (v : V) (n : Int) : Bool × V :=
  if 65536 ≤ v.journal.length ∨ 209715200 < v.ref ∨ 209715200 - v.ref < n then (false, v) else (true, { v with journal := v.journal ++ [⟨6, 0, v.ref, [0, 0, 0, 0], (none, 0, 0), false⟩], ref := v.ref + n })
theorem findA_range (v : V) (A : List Int) : -1 ≤ (v.findA A).1 ∧ -1 ≤ (v.findA A).2 ∧ (v.findA A).2 < 4096 ∧ (0 ≤ (v.findA A).1 → hitA v.accts A (v.findA A).1 = true ∧ (v.findA A).2 = -1 ∧ ∃ q, q < 4096 ∧ v.atab q = (v.findA A).1) :=
  probe_range v.atab (hitA v.accts A) 4096 (by decide) 4096 _ (by have := home_bd A; omega)
theorem findS_range (v : V) (a : Int) (K : List Int) : -1 ≤ (v.findS a K).1 ∧ -1 ≤ (v.findS a K).2 ∧ (v.findS a K).2 < 4096 ∧ (0 ≤ (v.findS a K).1 → hitS v.slots a K (v.findS a K).1 = true ∧ (v.findS a K).2 = -1 ∧ ∃ q, q < 4096 ∧ v.stab q = (v.findS a K).1) :=
  probe_range v.stab (hitS v.slots a K) 4096 (by decide) 4096 _ (by have := homeS_bd a K; omega)
theorem findA_some {v : V} {A : List Int} (h : 0 ≤ (v.findA A).1) : ∃ x, v.accts[(v.findA A).1.toNat]? = some x ∧ x.addr = A := by
  have h1 := ((findA_range v A).2.2.2 h).1
  unfold hitA at h1
  split at h1
  · rename_i x hx; exact ⟨x, hx, of_decide_eq_true h1⟩
  · cases h1
theorem findS_some {v : V} {a : Int} {K : List Int} (h : 0 ≤ (v.findS a K).1) : ∃ x, v.slots[(v.findS a K).1.toNat]? = some x ∧ x.acct = a ∧ x.key = K := by
  have h1 := ((findS_range v a K).2.2.2 h).1
  unfold hitS at h1
  split at h1
  · rename_i x hx; exact ⟨x, hx, of_decide_eq_true h1⟩
  · cases h1
theorem findA_lt {v : V} {A : List Int} (h : 0 ≤ (v.findA A).1) : (v.findA A).1.toNat < v.accts.length := by obtain ⟨x, hx, _⟩ := findA_some h; exact lt_of_getElem? hx
theorem findS_lt {v : V} {a : Int} {K : List Int} (h : 0 ≤ (v.findS a K).1) : (v.findS a K).1.toNat < v.slots.length := by obtain ⟨x, hx, _⟩ := findS_some h; exact lt_of_getElem? hx
theorem acct_ok {v : V} {A : List Int} (h : (v.acct A).1.2 = true) : 0 ≤ (v.acct A).1.1 ∧ ∃ x, (v.acct A).2.accts[(v.acct A).1.1.toNat]? = some x ∧ x.addr = A := by
  unfold V.acct at h ⊢
  split
  · rename_i h0; exact ⟨h0, findA_some h0⟩
  · rename_i h0
    split
    · rename_i h1; rw [if_neg h0, if_pos h1] at h; cases h
    · refine ⟨by simp, newA A, ?_, rfl⟩
      simp
theorem slot_ok {v : V} {a : Int} {K : List Int} (h : (v.slot a K).1.2 = true) : 0 ≤ (v.slot a K).1.1 ∧ ∃ x, (v.slot a K).2.slots[(v.slot a K).1.1.toNat]? = some x ∧ x.acct = a ∧ x.key = K := by
  unfold V.slot at h ⊢
  split
  · rename_i h0; exact ⟨h0, findS_some h0⟩
  · rename_i h0
    split
    · rename_i h1; rw [if_neg h0, if_pos h1] at h; cases h
    · refine ⟨by simp, newS a K, ?_, rfl, rfl⟩
      simp
theorem slotOf_ok {v : V} {A K : List Int} (h : (v.slotOf A K).1.2 = true) : 0 ≤ (v.slotOf A K).1.1 ∧ ∃ x, (v.slotOf A K).2.slots[(v.slotOf A K).1.1.toNat]? = some x ∧ x.key = K := by
  unfold V.slotOf at h ⊢
  split
  · rename_i h0; rw [if_pos h0] at h; cases h
  · rename_i h0
    rw [if_neg h0] at h
    split
    · rename_i h1; rw [if_pos h1] at h; obtain ⟨h2, x, h3, _, h4⟩ := slot_ok h; exact ⟨h2, x, h3, h4⟩
    · rename_i h1; rw [if_neg h1] at h; cases h
/-- What a step of the vault leaves: the vault with its newY content, at newY cells and blocks. -/
def VRet (w : World) (C : Nat) (c : Array Value) (B : VB) (β : Option Nat) (w' : World) (v' : V) : Prop := ∃ c' B', VS w' C c' v' B' β ∧ VStep w w' C c c' B B'
theorem VRet.ext {w w' : World} {C : Nat} {c : Array Value} {v : V} {B : VB} {β : Option Nat} (hv : VS w C c v B β) (h : Ext w w') : VRet w C c B β w' v := ⟨c, B, hv.ext h, VStep.ext h⟩
theorem VRet.same {w w' w2 : World} {C : Nat} {c : Array Value} {v : V} {B : VB} {β : Option Nat} (hv : VRet w C c B β w' v) (h : Ext w' w2) : VRet w C c B β w2 v := by
  obtain ⟨c', B', h1, h2⟩ := hv; exact ⟨c', B', h1.ext h, h2.trans (VStep.ext h)⟩
theorem VStep.pre {w w1 w2 : World} {C : Nat} {c c2 : Array Value} {B B2 : VB} (h : Ext w w1) (h' : VStep w1 w2 C c c2 B B2) : VStep w w2 C c c2 B B2 := (VStep.ext h).trans h'
end Go.Proofs.YgvadwGreat
