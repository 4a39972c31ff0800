import Derived.Test.YgvadwGreatFwO
namespace Go.Proofs.YgvadwGreat
set_option linter.unusedSimpArgs false
set_option linter.unusedVariables false
section
variable {P : Program} {ops : Array Oper} {S : World → Prop} {Q : Post} {d : Nat} {t ty : TypeId} {pos : String} {af : Array Edge} {os : List Oper} {os' : List TOp} {ρ : Nat → Value} {w : World} {x : Operand} {tg : Bool}
theorem WO_boxG (v : Value) (hev : ev ρ x = v) (h : ∀ b w', w.heap.size ≤ b → Ext w w' → Hb w' b (.cells v.cells t (0, 0)) → b < w'.heap.size → WO P ops Q os (upd ρ d (.pointer (some ⟨b, 0, none⟩))) w') :
    WO P ops Q (⟨some d, .box t x, ty, pos, af, none⟩ :: os) ρ w :=
  WO_box v hev (h _ _ (Nat.le_refl _) (Ext.alloc (Ext.refl w) _) (Hb.newY _ _) (by rw [size_alloc]; omega))
theorem WO_allocG {z : Value} (hz : ∀ w, (zeroValue t).run P w = .ok z w) (h : ∀ b w', w.heap.size ≤ b → Ext w w' → Hb w' b (.cells z.cells t (0, 0)) → b < w'.heap.size → WO P ops Q os (upd ρ d (.pointer (some ⟨b, 0, none⟩))) w') :
    WO P ops Q (⟨some d, .alloc t, ty, pos, af, none⟩ :: os) ρ w :=
  WO_alloc hz (h _ _ (Nat.le_refl _) (Ext.alloc (Ext.refl w) _) (Hb.newY _ _) (by rw [size_alloc]; omega))
theorem WH_boxG (v : Value) (hev : ev ρ x = v) (h : ∀ b w', w.heap.size ≤ b → Ext w w' → Hb w' b (.cells v.cells t (0, 0)) → b < w'.heap.size → (tg = true → S w') ∧ WH P ops S Q os' (upd ρ d (.pointer (some ⟨b, 0, none⟩))) w') :
    WH P ops S Q ((⟨some d, .box t x, ty, pos, af, none⟩, tg) :: os') ρ w := by
  have h1 := h _ _ (Nat.le_refl _) (Ext.alloc (Ext.refl w) (.cells v.cells t)) (Hb.newY _ _) (by rw [size_alloc]; omega)
  exact WH_box hev h1.1 h1.2
theorem WH_allocG {z : Value} (hz : ∀ w, (zeroValue t).run P w = .ok z w) (h : ∀ b w', w.heap.size ≤ b → Ext w w' → Hb w' b (.cells z.cells t (0, 0)) → b < w'.heap.size → (tg = true → S w') ∧ WH P ops S Q os' (upd ρ d (.pointer (some ⟨b, 0, none⟩))) w') :
    WH P ops S Q ((⟨some d, .alloc t, ty, pos, af, none⟩, tg) :: os') ρ w := by
  have h1 := h _ _ (Nat.le_refl _) (Ext.alloc (Ext.refl w) (.cells z.cells t)) (Hb.newY _ _) (by rw [size_alloc]; omega)
  exact WH_alloc hz h1.1 h1.2
theorem WH_copyT {b o dl dc b2 : Nat} {T dT sT e : TypeId} {L L2 : List Int} {p p2 : Option Addr} {sl sc : Nat} {dd : Option Nat} {y : Operand} (hU : ∀ w, (underlying dT).run P w = .ok (.slice e) w) (hS : ∀ w, (Go.sizeOf e).run P w = .ok 1 w)
    (hx : ev ρ x = .slice p dl dc) (hy : ev ρ y = .slice p2 sl sc) (hp : 0 < dl → p = some ⟨b, o, none⟩) (hb : Hb w b (.cells (ic .u8 L) T (0, 0))) (hk : o + dl ≤ L.length) (hs : SC w .u8 1 (p2, sl, sc) L2) (hL2 : By8 L2) (hdl : 0 < dl)
    (h : ∀ w' L', BufT b T L w w' L' → (tg = true → S w') ∧ WH P ops S Q os' (updo ρ dd (Value.int .i64 (Nat.min sl dl : Nat))) w') : WH P ops S Q ((⟨dd, .call ⟨.builtin .copy, #[x, y], #[dT, sT]⟩, ty, pos, af, none⟩, tg) :: os') ρ w := by
  obtain ⟨h1, h2⟩ := hs
  simp only [Nat.mul_one] at h1 h2
  have hx' := hp hdl
  subst hx'
  rcases h2 with ⟨h2, h3⟩ | ⟨b', o', r, T', fz, h2, h3, h4, h5⟩
  · subst h2; subst h3
    have hm : Nat.min 0 dl = 0 := Nat.zero_min dl
    rw [hm] at h
    exact WH_copy0 hU hS hx hy (h w L (BufT.refl hb)).1 (h w L (BufT.refl hb)).2
  · subst h2
    have hmin : Nat.min sl dl ≤ sl := Nat.min_le_left _ _
    have hmin2 : Nat.min sl dl ≤ dl := Nat.min_le_right _ _
    have hxt : r.extract o' (o' + Nat.min sl dl * 1) = ic .u8 (L2.take (Nat.min sl dl)) := by
      rw [Nat.mul_one]
      have e2 : r.extract o' (o' + Nat.min sl dl) = (r.extract o' (o' + sl)).extract 0 (Nat.min sl dl) := by
        rw [Array.extract_extract]; congr 1 <;> omega
      rw [e2, h5.h]
      refine Array.ext_getElem? fun i => ?_
      rw [Array.getElem?_extract, size_ic]
      simp only [ic, List.getElem?_toArray, List.getElem?_map, List.getElem?_take, Nat.zero_add]
      by_cases hi : i < Nat.min sl dl
      · rw [if_pos (by omega), if_pos hi]
      · rw [if_neg (by omega), if_neg hi]; rfl
    have hlt : (L2.take (Nat.min sl dl)).length = Nat.min sl dl := by rw [List.length_take]; omega
    have hh := h _ _ (BufT.set (o := o) (M := L2.take (Nat.min sl dl)) hb (by omega) (fun z hz => hL2 z (List.mem_of_mem_take hz)))
    exact WH_copy (Nat.min sl dl) hU hS hx hy hb.h h3.h rfl (by rw [size_ic]; omega) (by omega) hxt (by intro u hu; exact one_map .u8 _ u hu) hh.1 hh.2
end
theorem W_seqJ {P : Program} {n : Nat} {x y : Code} {Q : Post} {ρ : Nat → Value} {w : World} (R : (Nat → Value) → World → Prop) (h1 : W P n x (thn R Q) ρ w) (h2 : ∀ ρ w, R ρ w → W P n y Q ρ w) : W P n (.seq x y) Q ρ w :=
  W_seq (W_mono h1 (fun e ρ w hq => by cases e <;> first | exact h2 ρ w hq | exact hq))
/-- a block whose inside comes to R, however it leaves it -/
theorem W_blockJ {P : Program} {n id : Nat} {x y : Code} {Q : Post} {ρ : Nat → Value} {w : World} (R : (Nat → Value) → World → Prop) (h1 : W P n x (thn R Q) ρ w) (h2 : ∀ ρ w, R ρ w → W P n y Q ρ w) : W P n (.seq x y) Q ρ w := W_seqJ R h1 h2
theorem SC.of {w : World} {b o n cp : Nat} {T : TypeId} {fz : Nat × Nat} {L : List Int} (h : Hb w b (.cells (ic .u8 L) T fz)) (hn : o + n ≤ L.length) : SC w .u8 1 (some ⟨b, o, none⟩, n, cp) ((L.drop o).take n) :=
  ⟨by simp; omega, Or.inr ⟨b, o, _, T, fz, rfl, h, by rw [size_ic]; simpa using hn, by rw [Nat.mul_one]; exact Xt.ic .u8 L o n hn⟩⟩
end Go.Proofs.YgvadwGreat
