import Derived.Test.YgvadwGreatVp
namespace Go.Proofs.YgvadwGreat
set_option linter.unusedSimpArgs false
set_option linter.unusedVariables false

theorem VS.push_accts {w : World} {C : Nat} {c : Array Value} {v : V} {B : VB} {β : Option Nat} {x : Acct} {b1 : Nat} (hv : VS w C c v B β) (hlen : (encA x).length = 29) (hsrc : Hb w b1 (.cells (encA x).toArray 149 (0, 0))) (hty : AcctTy x) (hB : BS w β x.code) (hl : v.accts.length < 2560) :
    ∃ s' w', (Builtin.append_ #[70, 70] 70 #[slv B.a v.accts.length, .slice (some ⟨b1, 0, none⟩) 1 1]).run Hvad.prog w = .ok (slv s' (v.accts.length + 1)) w' ∧ Hb w' C (.cells c 86 (0, 0)) ∧ (VS (setB w' C (.cells (c.setIfInBounds 2435 (slv s' (v.accts.length + 1))) 86 (0, 0))) C (c.setIfInBounds 2435 (slv s' (v.accts.length + 1))) { v with accts := v.accts ++ [x] } { B with a := s' } β ∧ VStep w (setB w' C (.cells (c.setIfInBounds 2435 (slv s' (v.accts.length + 1))) 86 (0, 0))) C c (c.setIfInBounds 2435 (slv s' (v.accts.length + 1))) B { B with a := s' }) := by
  obtain ⟨s', w', hrun, hrow, hkeep, hnew⟩ := app_accts hv.rows.accts hlen hsrc (by omega)
  have hO : ∀ b, blkOf B.a b → ∃ r fz, Hb w b (.cells r 149 fz) := fun b hb => by obtain ⟨r, hr⟩ := hv.rows.accts.ty_of hb; exact ⟨r, _, hr⟩
  have hC2 : Hb w' C (.cells c 86 (0, 0)) := KT.keepO hkeep hO (by decide) _ _ _ hv.blk
  have h := VS.row_accts hv (l := v.accts ++ [x]) hrow hkeep hnew (by
      intro y hy
      rcases List.mem_append.1 hy with hy | hy
      · exact hv.ty.accts y hy
      · rw [List.mem_singleton.1 hy]; exact hty) (by rw [List.length_append]; simp only [List.length_singleton]; omega) (by
      intro y hy
      rcases List.mem_append.1 hy with hy | hy
      · exact hv.codes y hy
      · rw [List.mem_singleton.1 hy]; exact hB)
  rw [List.length_append, List.length_singleton] at h
  exact ⟨s', w', hrun, hC2, h⟩
theorem WH_push_accts {ops : Array Oper} {S : World → Prop} {Q : Post} {os' : List TOp} {ρ : Nat → Value} {x1 y1 : Operand} {d : Nat} {pos : String} {af : Array Edge} {w : World} {C : Nat} {c : Array Value} {v : V} {B : VB} {β : Option Nat} {x : Acct} {b1 : Nat} (hv : VS w C c v B β) (hx : ev ρ x1 = slv B.a v.accts.length) (hy : ev ρ y1 = .slice (some ⟨b1, 0, none⟩) 1 1) (hlen : (encA x).length = 29) (hsrc : Hb w b1 (.cells (encA x).toArray 149 (0, 0))) (hty : AcctTy x) (hB : BS w β x.code) (hl : v.accts.length < 2560)
    (h : ∀ s' w', Hb w' C (.cells c 86 (0, 0)) → (VS (setB w' C (.cells (c.setIfInBounds 2435 (slv s' (v.accts.length + 1))) 86 (0, 0))) C (c.setIfInBounds 2435 (slv s' (v.accts.length + 1))) { v with accts := v.accts ++ [x] } { B with a := s' } β ∧ VStep w (setB w' C (.cells (c.setIfInBounds 2435 (slv s' (v.accts.length + 1))) 86 (0, 0))) C c (c.setIfInBounds 2435 (slv s' (v.accts.length + 1))) B { B with a := s' }) → WH Hvad.prog ops S Q os' (upd ρ d (slv s' (v.accts.length + 1))) w') : WH Hvad.prog ops S Q ((⟨some d, .call ⟨.builtin .append, #[x1, y1], #[70, 70]⟩, 70, pos, af, none⟩, false) :: os') ρ w := by
  obtain ⟨s', w', hrun, hC, hV⟩ := VS.push_accts hv hlen hsrc hty hB hl
  exact WH_append hx hy hrun (fun h => by cases h) (h s' w' hC hV)
theorem WO_push_accts {ops : Array Oper} {Q : Post} {os : List Oper} {ρ : Nat → Value} {x1 y1 : Operand} {d : Nat} {pos : String} {af : Array Edge} {w : World} {C : Nat} {c : Array Value} {v : V} {B : VB} {β : Option Nat} {x : Acct} {b1 : Nat} (hv : VS w C c v B β) (hx : ev ρ x1 = slv B.a v.accts.length) (hy : ev ρ y1 = .slice (some ⟨b1, 0, none⟩) 1 1) (hlen : (encA x).length = 29) (hsrc : Hb w b1 (.cells (encA x).toArray 149 (0, 0))) (hty : AcctTy x) (hB : BS w β x.code) (hl : v.accts.length < 2560)
    (h : ∀ s' w', Hb w' C (.cells c 86 (0, 0)) → (VS (setB w' C (.cells (c.setIfInBounds 2435 (slv s' (v.accts.length + 1))) 86 (0, 0))) C (c.setIfInBounds 2435 (slv s' (v.accts.length + 1))) { v with accts := v.accts ++ [x] } { B with a := s' } β ∧ VStep w (setB w' C (.cells (c.setIfInBounds 2435 (slv s' (v.accts.length + 1))) 86 (0, 0))) C c (c.setIfInBounds 2435 (slv s' (v.accts.length + 1))) B { B with a := s' }) → WO Hvad.prog ops Q os (upd ρ d (slv s' (v.accts.length + 1))) w') : WO Hvad.prog ops Q (⟨some d, .call ⟨.builtin .append, #[x1, y1], #[70, 70]⟩, 70, pos, af, none⟩ :: os) ρ w := by
  obtain ⟨s', w', hrun, hC, hV⟩ := VS.push_accts hv hlen hsrc hty hB hl
  exact WO_append hx hy hrun (h s' w' hC hV)

theorem VS.push_slots {w : World} {C : Nat} {c : Array Value} {v : V} {B : VB} {β : Option Nat} {x : Slot} {b1 : Nat} (hv : VS w C c v B β) (hlen : (encS x).length = 14) (hsrc : Hb w b1 (.cells (encS x).toArray 152 (0, 0))) (hty : SlotTy x) (hl : v.slots.length < 2560) :
    ∃ s' w', (Builtin.append_ #[71, 71] 71 #[slv B.s v.slots.length, .slice (some ⟨b1, 0, none⟩) 1 1]).run Hvad.prog w = .ok (slv s' (v.slots.length + 1)) w' ∧ Hb w' C (.cells c 86 (0, 0)) ∧ (VS (setB w' C (.cells (c.setIfInBounds 2436 (slv s' (v.slots.length + 1))) 86 (0, 0))) C (c.setIfInBounds 2436 (slv s' (v.slots.length + 1))) { v with slots := v.slots ++ [x] } { B with s := s' } β ∧ VStep w (setB w' C (.cells (c.setIfInBounds 2436 (slv s' (v.slots.length + 1))) 86 (0, 0))) C c (c.setIfInBounds 2436 (slv s' (v.slots.length + 1))) B { B with s := s' }) := by
  obtain ⟨s', w', hrun, hrow, hkeep, hnew⟩ := app_slots hv.rows.slots hlen hsrc (by omega)
  have hO : ∀ b, blkOf B.s b → ∃ r fz, Hb w b (.cells r 152 fz) := fun b hb => by obtain ⟨r, hr⟩ := hv.rows.slots.ty_of hb; exact ⟨r, _, hr⟩
  have hC2 : Hb w' C (.cells c 86 (0, 0)) := KT.keepO hkeep hO (by decide) _ _ _ hv.blk
  have h := VS.row_slots hv (l := v.slots ++ [x]) hrow hkeep hnew (by
      intro y hy
      rcases List.mem_append.1 hy with hy | hy
      · exact hv.ty.slots y hy
      · rw [List.mem_singleton.1 hy]; exact hty) (by rw [List.length_append]; simp only [List.length_singleton]; omega)
  rw [List.length_append, List.length_singleton] at h
  exact ⟨s', w', hrun, hC2, h⟩
theorem WH_push_slots {ops : Array Oper} {S : World → Prop} {Q : Post} {os' : List TOp} {ρ : Nat → Value} {x1 y1 : Operand} {d : Nat} {pos : String} {af : Array Edge} {w : World} {C : Nat} {c : Array Value} {v : V} {B : VB} {β : Option Nat} {x : Slot} {b1 : Nat} (hv : VS w C c v B β) (hx : ev ρ x1 = slv B.s v.slots.length) (hy : ev ρ y1 = .slice (some ⟨b1, 0, none⟩) 1 1) (hlen : (encS x).length = 14) (hsrc : Hb w b1 (.cells (encS x).toArray 152 (0, 0))) (hty : SlotTy x) (hl : v.slots.length < 2560)
    (h : ∀ s' w', Hb w' C (.cells c 86 (0, 0)) → (VS (setB w' C (.cells (c.setIfInBounds 2436 (slv s' (v.slots.length + 1))) 86 (0, 0))) C (c.setIfInBounds 2436 (slv s' (v.slots.length + 1))) { v with slots := v.slots ++ [x] } { B with s := s' } β ∧ VStep w (setB w' C (.cells (c.setIfInBounds 2436 (slv s' (v.slots.length + 1))) 86 (0, 0))) C c (c.setIfInBounds 2436 (slv s' (v.slots.length + 1))) B { B with s := s' }) → WH Hvad.prog ops S Q os' (upd ρ d (slv s' (v.slots.length + 1))) w') : WH Hvad.prog ops S Q ((⟨some d, .call ⟨.builtin .append, #[x1, y1], #[71, 71]⟩, 71, pos, af, none⟩, false) :: os') ρ w := by
  obtain ⟨s', w', hrun, hC, hV⟩ := VS.push_slots hv hlen hsrc hty hl
  exact WH_append hx hy hrun (fun h => by cases h) (h s' w' hC hV)
theorem WO_push_slots {ops : Array Oper} {Q : Post} {os : List Oper} {ρ : Nat → Value} {x1 y1 : Operand} {d : Nat} {pos : String} {af : Array Edge} {w : World} {C : Nat} {c : Array Value} {v : V} {B : VB} {β : Option Nat} {x : Slot} {b1 : Nat} (hv : VS w C c v B β) (hx : ev ρ x1 = slv B.s v.slots.length) (hy : ev ρ y1 = .slice (some ⟨b1, 0, none⟩) 1 1) (hlen : (encS x).length = 14) (hsrc : Hb w b1 (.cells (encS x).toArray 152 (0, 0))) (hty : SlotTy x) (hl : v.slots.length < 2560)
    (h : ∀ s' w', Hb w' C (.cells c 86 (0, 0)) → (VS (setB w' C (.cells (c.setIfInBounds 2436 (slv s' (v.slots.length + 1))) 86 (0, 0))) C (c.setIfInBounds 2436 (slv s' (v.slots.length + 1))) { v with slots := v.slots ++ [x] } { B with s := s' } β ∧ VStep w (setB w' C (.cells (c.setIfInBounds 2436 (slv s' (v.slots.length + 1))) 86 (0, 0))) C c (c.setIfInBounds 2436 (slv s' (v.slots.length + 1))) B { B with s := s' }) → WO Hvad.prog ops Q os (upd ρ d (slv s' (v.slots.length + 1))) w') : WO Hvad.prog ops Q (⟨some d, .call ⟨.builtin .append, #[x1, y1], #[71, 71]⟩, 71, pos, af, none⟩ :: os) ρ w := by
  obtain ⟨s', w', hrun, hC, hV⟩ := VS.push_slots hv hlen hsrc hty hl
  exact WO_append hx hy hrun (h s' w' hC hV)

theorem VS.push_journal {w : World} {C : Nat} {c : Array Value} {v : V} {B : VB} {β : Option Nat} {x : Entry} {b1 : Nat} (hv : VS w C c v B β) (hlen : (encE x).length = 9) (hsrc : Hb w b1 (.cells (encE x).toArray 173 (0, 0))) (hty : EntryTy x) (hB : BS w β x.b) (hl : v.journal.length < 65536) :
    ∃ s' w', (Builtin.append_ #[73, 73] 73 #[slv B.j v.journal.length, .slice (some ⟨b1, 0, none⟩) 1 1]).run Hvad.prog w = .ok (slv s' (v.journal.length + 1)) w' ∧ Hb w' C (.cells c 86 (0, 0)) ∧ (VS (setB w' C (.cells (c.setIfInBounds 10629 (slv s' (v.journal.length + 1))) 86 (0, 0))) C (c.setIfInBounds 10629 (slv s' (v.journal.length + 1))) { v with journal := v.journal ++ [x] } { B with j := s' } β ∧ VStep w (setB w' C (.cells (c.setIfInBounds 10629 (slv s' (v.journal.length + 1))) 86 (0, 0))) C c (c.setIfInBounds 10629 (slv s' (v.journal.length + 1))) B { B with j := s' }) := by
  obtain ⟨s', w', hrun, hrow, hkeep, hnew⟩ := app_journal hv.rows.journal hlen hsrc (by omega)
  have hO : ∀ b, blkOf B.j b → ∃ r fz, Hb w b (.cells r 173 fz) := fun b hb => by obtain ⟨r, hr⟩ := hv.rows.journal.ty_of hb; exact ⟨r, _, hr⟩
  have hC2 : Hb w' C (.cells c 86 (0, 0)) := KT.keepO hkeep hO (by decide) _ _ _ hv.blk
  have h := VS.row_journal hv (l := v.journal ++ [x]) hrow hkeep hnew (by
      intro y hy
      rcases List.mem_append.1 hy with hy | hy
      · exact hv.ty.journal y hy
      · rw [List.mem_singleton.1 hy]; exact hty) (by rw [List.length_append]; simp only [List.length_singleton]; omega) (by
      intro y hy
      rcases List.mem_append.1 hy with hy | hy
      · exact hv.olds y hy
      · rw [List.mem_singleton.1 hy]; exact hB)
  rw [List.length_append, List.length_singleton] at h
  exact ⟨s', w', hrun, hC2, h⟩
theorem WH_push_journal {ops : Array Oper} {S : World → Prop} {Q : Post} {os' : List TOp} {ρ : Nat → Value} {x1 y1 : Operand} {d : Nat} {pos : String} {af : Array Edge} {w : World} {C : Nat} {c : Array Value} {v : V} {B : VB} {β : Option Nat} {x : Entry} {b1 : Nat} (hv : VS w C c v B β) (hx : ev ρ x1 = slv B.j v.journal.length) (hy : ev ρ y1 = .slice (some ⟨b1, 0, none⟩) 1 1) (hlen : (encE x).length = 9) (hsrc : Hb w b1 (.cells (encE x).toArray 173 (0, 0))) (hty : EntryTy x) (hB : BS w β x.b) (hl : v.journal.length < 65536)
    (h : ∀ s' w', Hb w' C (.cells c 86 (0, 0)) → (VS (setB w' C (.cells (c.setIfInBounds 10629 (slv s' (v.journal.length + 1))) 86 (0, 0))) C (c.setIfInBounds 10629 (slv s' (v.journal.length + 1))) { v with journal := v.journal ++ [x] } { B with j := s' } β ∧ VStep w (setB w' C (.cells (c.setIfInBounds 10629 (slv s' (v.journal.length + 1))) 86 (0, 0))) C c (c.setIfInBounds 10629 (slv s' (v.journal.length + 1))) B { B with j := s' }) → WH Hvad.prog ops S Q os' (upd ρ d (slv s' (v.journal.length + 1))) w') : WH Hvad.prog ops S Q ((⟨some d, .call ⟨.builtin .append, #[x1, y1], #[73, 73]⟩, 73, pos, af, none⟩, false) :: os') ρ w := by
  obtain ⟨s', w', hrun, hC, hV⟩ := VS.push_journal hv hlen hsrc hty hB hl
  exact WH_append hx hy hrun (fun h => by cases h) (h s' w' hC hV)
theorem WO_push_journal {ops : Array Oper} {Q : Post} {os : List Oper} {ρ : Nat → Value} {x1 y1 : Operand} {d : Nat} {pos : String} {af : Array Edge} {w : World} {C : Nat} {c : Array Value} {v : V} {B : VB} {β : Option Nat} {x : Entry} {b1 : Nat} (hv : VS w C c v B β) (hx : ev ρ x1 = slv B.j v.journal.length) (hy : ev ρ y1 = .slice (some ⟨b1, 0, none⟩) 1 1) (hlen : (encE x).length = 9) (hsrc : Hb w b1 (.cells (encE x).toArray 173 (0, 0))) (hty : EntryTy x) (hB : BS w β x.b) (hl : v.journal.length < 65536)
    (h : ∀ s' w', Hb w' C (.cells c 86 (0, 0)) → (VS (setB w' C (.cells (c.setIfInBounds 10629 (slv s' (v.journal.length + 1))) 86 (0, 0))) C (c.setIfInBounds 10629 (slv s' (v.journal.length + 1))) { v with journal := v.journal ++ [x] } { B with j := s' } β ∧ VStep w (setB w' C (.cells (c.setIfInBounds 10629 (slv s' (v.journal.length + 1))) 86 (0, 0))) C c (c.setIfInBounds 10629 (slv s' (v.journal.length + 1))) B { B with j := s' }) → WO Hvad.prog ops Q os (upd ρ d (slv s' (v.journal.length + 1))) w') : WO Hvad.prog ops Q (⟨some d, .call ⟨.builtin .append, #[x1, y1], #[73, 73]⟩, 73, pos, af, none⟩ :: os) ρ w := by
  obtain ⟨s', w', hrun, hC, hV⟩ := VS.push_journal hv hlen hsrc hty hB hl
  exact WO_append hx hy hrun (h s' w' hC hV)

theorem VS.push_logs {w : World} {C : Nat} {c : Array Value} {v : V} {B : VB} {β : Option Nat} {x : LogR} {b1 : Nat} (hv : VS w C c v B β) (hlen : (encL x).length = 22) (hsrc : Hb w b1 (.cells (encL x).toArray 307 (0, 0))) (hty : LogTy x) (hl : v.logs.length < 2800) :
    ∃ s' w', (Builtin.append_ #[75, 75] 75 #[slv B.l v.logs.length, .slice (some ⟨b1, 0, none⟩) 1 1]).run Hvad.prog w = .ok (slv s' (v.logs.length + 1)) w' ∧ Hb w' C (.cells c 86 (0, 0)) ∧ (VS (setB w' C (.cells (c.setIfInBounds 27016 (slv s' (v.logs.length + 1))) 86 (0, 0))) C (c.setIfInBounds 27016 (slv s' (v.logs.length + 1))) { v with logs := v.logs ++ [x] } { B with l := s' } β ∧ VStep w (setB w' C (.cells (c.setIfInBounds 27016 (slv s' (v.logs.length + 1))) 86 (0, 0))) C c (c.setIfInBounds 27016 (slv s' (v.logs.length + 1))) B { B with l := s' }) := by
  obtain ⟨s', w', hrun, hrow, hkeep, hnew⟩ := app_logs hv.rows.logs hlen hsrc (by omega)
  have hO : ∀ b, blkOf B.l b → ∃ r fz, Hb w b (.cells r 307 fz) := fun b hb => by obtain ⟨r, hr⟩ := hv.rows.logs.ty_of hb; exact ⟨r, _, hr⟩
  have hC2 : Hb w' C (.cells c 86 (0, 0)) := KT.keepO hkeep hO (by decide) _ _ _ hv.blk
  have h := VS.row_logs hv (l := v.logs ++ [x]) hrow hkeep hnew (by
      intro y hy
      rcases List.mem_append.1 hy with hy | hy
      · exact hv.ty.logs y hy
      · rw [List.mem_singleton.1 hy]; exact hty) (by rw [List.length_append]; simp only [List.length_singleton]; omega)
  rw [List.length_append, List.length_singleton] at h
  exact ⟨s', w', hrun, hC2, h⟩
theorem WH_push_logs {ops : Array Oper} {S : World → Prop} {Q : Post} {os' : List TOp} {ρ : Nat → Value} {x1 y1 : Operand} {d : Nat} {pos : String} {af : Array Edge} {w : World} {C : Nat} {c : Array Value} {v : V} {B : VB} {β : Option Nat} {x : LogR} {b1 : Nat} (hv : VS w C c v B β) (hx : ev ρ x1 = slv B.l v.logs.length) (hy : ev ρ y1 = .slice (some ⟨b1, 0, none⟩) 1 1) (hlen : (encL x).length = 22) (hsrc : Hb w b1 (.cells (encL x).toArray 307 (0, 0))) (hty : LogTy x) (hl : v.logs.length < 2800)
    (h : ∀ s' w', Hb w' C (.cells c 86 (0, 0)) → (VS (setB w' C (.cells (c.setIfInBounds 27016 (slv s' (v.logs.length + 1))) 86 (0, 0))) C (c.setIfInBounds 27016 (slv s' (v.logs.length + 1))) { v with logs := v.logs ++ [x] } { B with l := s' } β ∧ VStep w (setB w' C (.cells (c.setIfInBounds 27016 (slv s' (v.logs.length + 1))) 86 (0, 0))) C c (c.setIfInBounds 27016 (slv s' (v.logs.length + 1))) B { B with l := s' }) → WH Hvad.prog ops S Q os' (upd ρ d (slv s' (v.logs.length + 1))) w') : WH Hvad.prog ops S Q ((⟨some d, .call ⟨.builtin .append, #[x1, y1], #[75, 75]⟩, 75, pos, af, none⟩, false) :: os') ρ w := by
  obtain ⟨s', w', hrun, hC, hV⟩ := VS.push_logs hv hlen hsrc hty hl
  exact WH_append hx hy hrun (fun h => by cases h) (h s' w' hC hV)
theorem WO_push_logs {ops : Array Oper} {Q : Post} {os : List Oper} {ρ : Nat → Value} {x1 y1 : Operand} {d : Nat} {pos : String} {af : Array Edge} {w : World} {C : Nat} {c : Array Value} {v : V} {B : VB} {β : Option Nat} {x : LogR} {b1 : Nat} (hv : VS w C c v B β) (hx : ev ρ x1 = slv B.l v.logs.length) (hy : ev ρ y1 = .slice (some ⟨b1, 0, none⟩) 1 1) (hlen : (encL x).length = 22) (hsrc : Hb w b1 (.cells (encL x).toArray 307 (0, 0))) (hty : LogTy x) (hl : v.logs.length < 2800)
    (h : ∀ s' w', Hb w' C (.cells c 86 (0, 0)) → (VS (setB w' C (.cells (c.setIfInBounds 27016 (slv s' (v.logs.length + 1))) 86 (0, 0))) C (c.setIfInBounds 27016 (slv s' (v.logs.length + 1))) { v with logs := v.logs ++ [x] } { B with l := s' } β ∧ VStep w (setB w' C (.cells (c.setIfInBounds 27016 (slv s' (v.logs.length + 1))) 86 (0, 0))) C c (c.setIfInBounds 27016 (slv s' (v.logs.length + 1))) B { B with l := s' }) → WO Hvad.prog ops Q os (upd ρ d (slv s' (v.logs.length + 1))) w') : WO Hvad.prog ops Q (⟨some d, .call ⟨.builtin .append, #[x1, y1], #[75, 75]⟩, 75, pos, af, none⟩ :: os) ρ w := by
  obtain ⟨s', w', hrun, hC, hV⟩ := VS.push_logs hv hlen hsrc hty hl
  exact WO_append hx hy hrun (h s' w' hC hV)

theorem VS.push_temps {w : World} {C : Nat} {c : Array Value} {v : V} {B : VB} {β : Option Nat} {x : Temp} {b1 : Nat} (hv : VS w C c v B β) (hlen : (encT x).length = 9) (hsrc : Hb w b1 (.cells (encT x).toArray 305 (0, 0))) (hty : TempTy x) (hl : v.temps.length < 12288) :
    ∃ s' w', (Builtin.append_ #[76, 76] 76 #[slv B.t v.temps.length, .slice (some ⟨b1, 0, none⟩) 1 1]).run Hvad.prog w = .ok (slv s' (v.temps.length + 1)) w' ∧ Hb w' C (.cells c 86 (0, 0)) ∧ (VS (setB w' C (.cells (c.setIfInBounds 27017 (slv s' (v.temps.length + 1))) 86 (0, 0))) C (c.setIfInBounds 27017 (slv s' (v.temps.length + 1))) { v with temps := v.temps ++ [x] } { B with t := s' } β ∧ VStep w (setB w' C (.cells (c.setIfInBounds 27017 (slv s' (v.temps.length + 1))) 86 (0, 0))) C c (c.setIfInBounds 27017 (slv s' (v.temps.length + 1))) B { B with t := s' }) := by
  obtain ⟨s', w', hrun, hrow, hkeep, hnew⟩ := app_temps hv.rows.temps hlen hsrc (by omega)
  have hO : ∀ b, blkOf B.t b → ∃ r fz, Hb w b (.cells r 305 fz) := fun b hb => by obtain ⟨r, hr⟩ := hv.rows.temps.ty_of hb; exact ⟨r, _, hr⟩
  have hC2 : Hb w' C (.cells c 86 (0, 0)) := KT.keepO hkeep hO (by decide) _ _ _ hv.blk
  have h := VS.row_temps hv (l := v.temps ++ [x]) hrow hkeep hnew (by
      intro y hy
      rcases List.mem_append.1 hy with hy | hy
      · exact hv.ty.temps y hy
      · rw [List.mem_singleton.1 hy]; exact hty) (by rw [List.length_append]; simp only [List.length_singleton]; omega)
  rw [List.length_append, List.length_singleton] at h
  exact ⟨s', w', hrun, hC2, h⟩
theorem WH_push_temps {ops : Array Oper} {S : World → Prop} {Q : Post} {os' : List TOp} {ρ : Nat → Value} {x1 y1 : Operand} {d : Nat} {pos : String} {af : Array Edge} {w : World} {C : Nat} {c : Array Value} {v : V} {B : VB} {β : Option Nat} {x : Temp} {b1 : Nat} (hv : VS w C c v B β) (hx : ev ρ x1 = slv B.t v.temps.length) (hy : ev ρ y1 = .slice (some ⟨b1, 0, none⟩) 1 1) (hlen : (encT x).length = 9) (hsrc : Hb w b1 (.cells (encT x).toArray 305 (0, 0))) (hty : TempTy x) (hl : v.temps.length < 12288)
    (h : ∀ s' w', Hb w' C (.cells c 86 (0, 0)) → (VS (setB w' C (.cells (c.setIfInBounds 27017 (slv s' (v.temps.length + 1))) 86 (0, 0))) C (c.setIfInBounds 27017 (slv s' (v.temps.length + 1))) { v with temps := v.temps ++ [x] } { B with t := s' } β ∧ VStep w (setB w' C (.cells (c.setIfInBounds 27017 (slv s' (v.temps.length + 1))) 86 (0, 0))) C c (c.setIfInBounds 27017 (slv s' (v.temps.length + 1))) B { B with t := s' }) → WH Hvad.prog ops S Q os' (upd ρ d (slv s' (v.temps.length + 1))) w') : WH Hvad.prog ops S Q ((⟨some d, .call ⟨.builtin .append, #[x1, y1], #[76, 76]⟩, 76, pos, af, none⟩, false) :: os') ρ w := by
  obtain ⟨s', w', hrun, hC, hV⟩ := VS.push_temps hv hlen hsrc hty hl
  exact WH_append hx hy hrun (fun h => by cases h) (h s' w' hC hV)
theorem WO_push_temps {ops : Array Oper} {Q : Post} {os : List Oper} {ρ : Nat → Value} {x1 y1 : Operand} {d : Nat} {pos : String} {af : Array Edge} {w : World} {C : Nat} {c : Array Value} {v : V} {B : VB} {β : Option Nat} {x : Temp} {b1 : Nat} (hv : VS w C c v B β) (hx : ev ρ x1 = slv B.t v.temps.length) (hy : ev ρ y1 = .slice (some ⟨b1, 0, none⟩) 1 1) (hlen : (encT x).length = 9) (hsrc : Hb w b1 (.cells (encT x).toArray 305 (0, 0))) (hty : TempTy x) (hl : v.temps.length < 12288)
    (h : ∀ s' w', Hb w' C (.cells c 86 (0, 0)) → (VS (setB w' C (.cells (c.setIfInBounds 27017 (slv s' (v.temps.length + 1))) 86 (0, 0))) C (c.setIfInBounds 27017 (slv s' (v.temps.length + 1))) { v with temps := v.temps ++ [x] } { B with t := s' } β ∧ VStep w (setB w' C (.cells (c.setIfInBounds 27017 (slv s' (v.temps.length + 1))) 86 (0, 0))) C c (c.setIfInBounds 27017 (slv s' (v.temps.length + 1))) B { B with t := s' }) → WO Hvad.prog ops Q os (upd ρ d (slv s' (v.temps.length + 1))) w') : WO Hvad.prog ops Q (⟨some d, .call ⟨.builtin .append, #[x1, y1], #[76, 76]⟩, 76, pos, af, none⟩ :: os) ρ w := by
  obtain ⟨s', w', hrun, hC, hV⟩ := VS.push_temps hv hlen hsrc hty hl
  exact WO_append hx hy hrun (h s' w' hC hV)

end Go.Proofs.YgvadwGreat
