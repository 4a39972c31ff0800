
import Derived.Test.YgvacwGreatMn
namespace Go.Proofs.YgvacwGreat
set_option linter.unusedSimpArgs false
set_option linter.unusedVariables false
abbrev By8 (L : List Int) : Prop := ∀ x ∈ L, 0 ≤ x ∧ x ≤ 255
/-- A block of bytes is written, and nothing else. -/
structure BufT (b : Nat) (T : TypeId) (L : List Int) (w w' : World) (L' : List Int) : Prop where
  len : L'.length = L.length
  ty : By8 L → By8 L'
  hb : Hb w' b (.cells (ic .u8 L') T (0, 0))
  keep : KeepO (fun x => x = b) w w'
theorem BufT.refl {b : Nat} {T : TypeId} {L : List Int} {w : World} (h : Hb w b (.cells (ic .u8 L) T (0, 0))) : BufT b T L w w L := ⟨rfl, fun h => h, h, KeepO.refl _ _⟩
theorem BufT.trans {b : Nat} {T : TypeId} {L L1 L2 : List Int} {w w1 w2 : World} (h : BufT b T L w w1 L1) (h' : BufT b T L1 w1 w2 L2) : BufT b T L w w2 L2 :=
  ⟨h'.len.trans h.len, fun hl => h'.ty (h.ty hl), h'.hb, h.keep.trans h'.keep fun _ _ e => e⟩
theorem BufT.set {b : Nat} {T : TypeId} {L M : List Int} {w : World} {o : Nat} (h : Hb w b (.cells (ic .u8 L) T (0, 0))) (ho : o + M.length ≤ L.length) (hM : By8 M) : BufT b T L w (setB w b (.cells (splice (ic .u8 L) o (M.map (Value.int .u8))) T (0, 0))) (L.take o ++ M ++ L.drop (o + M.length)) := by
  rw [splice_ic .u8 L M o ho]
  exact ⟨len_mid ho, fun hl => by_mid hl hM _ _, Hb.setSame h, KeepO.setB (O := fun x => x = b) (KeepO.refl _ w) (fun _ => rfl) _⟩
theorem BufT.other {b b2 : Nat} {T : TypeId} {L L' : List Int} {w w' : World} (h : BufT b T L w w' L') {o : Obj} (hb : Hb w b2 o) (hne : b2 ≠ b) : Hb w' b2 o := hb.keepO h.keep hne
theorem BufT.ext {b : Nat} {T : TypeId} {L L' : List Int} {w0 w w' : World} (h : BufT b T L w w' L') (he : Ext w0 w) (hb : w0.heap.size ≤ b) : Ext w0 w' :=
  ⟨Nat.le_trans he.1 h.keep.sz, fun x hx => (h.keep.old x (Nat.lt_of_lt_of_le hx he.1) (by omega)).trans (he.2 x hx), h.keep.en.1.trans he.3.1, h.keep.en.2.1.trans he.3.2.1, h.keep.en.2.2.trans he.3.2.2⟩
theorem MS.turn [Om] {w w' : World} {C : Nat} {c : Array Value} {v : V} {B : VB} {m : Mc} (h : MS w C c v B m) {b : Nat} {L L' : List Int} (hb : m.buf.1 = some ⟨b, 0, none⟩) (hc : m.buf.2.2 = L.length) (hr : Hb w b (.cells (ic .u8 L) 5 (0, 0))) (hle : m.buf.2.1 ≤ L.length) (hL : By8 L) (hT : BufT b 5 L w w' L') : MS w' C c v B m ∧ MStep w w' C B m B m := by
  have hbb : bb m = some b := by unfold bb; rw [hb]
  have hv := h.vs
  have hk : ∀ T, T ≠ 5 → KT T w w' := fun T hT5 => KT.keepO hT.keep (fun x hx => ⟨ic .u8 L, (0, 0), by rw [hx]; exact hr⟩) hT5
  have hne : ∀ b' r fz, ¬ FB (bb m) b' → Hb w b' (.cells r 5 fz) → Hb w' b' (.cells r 5 fz) := fun b' r fz hn hh => hT.other hh (fun e => hn (Or.inl (by rw [hbb, e])))
  refine ⟨⟨⟨hk 87 (by decide) _ _ _ hv.blk, hv.rep, { accts := hv.rows.accts.kt (hk _ (by decide)), slots := hv.rows.slots.kt (hk _ (by decide)), journal := hv.rows.journal.kt (hk _ (by decide)), logs := hv.rows.logs.kt (hk _ (by decide)), temps := hv.rows.temps.kt (hk _ (by decide)), ttab := hv.rows.ttab.kt (hk _ (by decide)) }, hv.ty, fun x hx => (hv.codes x hx).keep hne, fun x hx => (hv.olds x hx).keep hne⟩, h.rep, h.ty, ?_, fun f hf => ⟨(h.code f hf).1.keep hne, (h.code f hf).2.keep hne⟩, h.ret.keep hne, h.hash.keep (hk _ (by decide)), fun b hb => Nat.lt_of_lt_of_le (h.om b hb) hT.keep.sz⟩, ?_, ?_⟩
  · exact Or.inr ⟨b, L', by rw [hT.len, ← hc, ← hb], hT.hb, hT.ty hL, by rw [hT.len]; exact hle⟩
  · exact ⟨hT.keep.sz, fun x hx hn => hT.keep.old x hx (fun e => hn (Or.inr (by rw [hbb, e]))), hT.keep.en⟩
  · exact fun x hx => Or.inl hx
section
variable {P : Program} {ρ : Nat → Value} {w : World} {ops : Array Oper} {Q : Post} {os : List Oper} {x y : Operand} {ty t e : TypeId} {dT sT : TypeId} {dd : Option Nat}
theorem WO_clearT {b o n cp : Nat} {T : TypeId} {L : List Int} {p : Option Addr} {pos : _} {af : _} (hU : ∀ w, (underlying dT).run P w = .ok (.slice e) w) (hz : ∀ w, (zeroValue e).run P w = .ok (.int .u8 0) w) (hx : ev ρ x = .slice p n cp) (hp : 0 < n → p = some ⟨b, o, none⟩)
    (hb : Hb w b (.cells (ic .u8 L) T (0, 0))) (hk : o + n ≤ L.length)
    (h : ∀ w' L', BufT b T L w w' L' → WO P ops Q os (updo ρ dd (.tuple #[])) w') : WO P ops Q (⟨dd, .call ⟨.builtin .clear, #[x], #[dT]⟩, ty, pos, af, none⟩ :: os) ρ w := by
  rcases Nat.eq_zero_or_pos n with h0 | h0
  · subst h0; exact WO_clear0 hU hx (h w L (BufT.refl hb))
  · have hx' := hp h0
    subst hx'
    exact WO_clear hU hz hx hb.h (by rw [size_ic]; exact hk) h0 (h _ _ (BufT.set hb (by simpa using hk) (by_zero n)))
theorem WO_copyT {b o dl dc b2 : Nat} {T : TypeId} {L L2 : List Int} {p p2 : Option Addr} {sl sc : Nat} {pos : _} {af : _} (hU : ∀ w, (underlying dT).run P w = .ok (.slice e) w) (hS : ∀ w, (Go.sizeOf e).run P w = .ok 1 w)
    (hx : ev ρ x = .slice p dl dc) (hy : ev ρ y = .slice p2 sl sc) (hp : 0 < dl → p = some ⟨b, o, none⟩) (hb : Hb w b (.cells (ic .u8 L) T (0, 0))) (hk : o + dl ≤ L.length) (hs : SC w .u8 1 (p2, sl, sc) L2) (hL2 : By8 L2)
    (h : ∀ w' L', BufT b T L w w' L' → WO P ops Q os (updo ρ dd (Value.int .i64 (Nat.min sl dl : Nat))) w') : WO P ops Q (⟨dd, .call ⟨.builtin .copy, #[x, y], #[dT, sT]⟩, ty, pos, af, none⟩ :: os) ρ w := by
  obtain ⟨h1, h2⟩ := hs
  simp only [Nat.mul_one] at h1 h2
  rcases h2 with ⟨h2, h3⟩ | ⟨b', o', r, T', fz, h2, h3, h4, h5⟩
  · subst h2; subst h3
    have hm : Nat.min 0 dl = 0 := Nat.zero_min dl
    rw [hm] at h
    exact WO_copy0 hU hS hx hy (h w L (BufT.refl hb))
  · subst h2
    rcases Nat.eq_zero_or_pos dl with h0 | h0
    · subst h0
      have hm : Nat.min sl 0 = 0 := Nat.min_zero sl
      rw [hm] at h
      refine WO_cons ?_
      have e1 : Array.map (ev ρ) #[x, y] = #[.slice p 0 dc, .slice (some ⟨b', o', none⟩) sl sc] := by simp [hx, hy]
      have hl := run_loadCells_hp (P := P) (w := w) (o := o') (n := 0 * 1) h3.h (by omega)
      have hfin : (Builtin.copy_ #[dT, sT] ty #[.slice p 0 dc, .slice (some ⟨b', o', none⟩) sl sc]).run P w = .ok (goInt 0) w := by
        simp only [Builtin.copy_, Builtin.lenOf, Builtin.firstCells, Sem.run_bind, Sem.run_pure, Result.andThen_ok, hU, hS, hm, hl]
        cases p <;> simp only [List.getElem?_toArray, List.getElem?_cons_zero, List.getElem?_cons_succ, Sem.run_bind, Sem.run_pure, Result.andThen_ok, hU, hS, hm, hl] <;> simp [storeCells, hl, hm, hU, hS]
      simp only [stepo, execOp, resolve, invoke, builtin, e1, hfin, Sem.run_bind, Sem.run_pure, Result.andThen_ok]
      exact h w L (BufT.refl hb)
    · have hx' := hp h0
      subst hx'
      have hmin : Nat.min sl dl ≤ sl := Nat.min_le_left _ _
      have hmin2 : Nat.min sl dl ≤ dl := Nat.min_le_right _ _
      have hxt : r.extract o' (o' + Nat.min sl dl * 1) = ic .u8 (L2.take (Nat.min sl dl)) := by
        rw [Nat.mul_one]
        have e2 : r.extract o' (o' + Nat.min sl dl) = (r.extract o' (o' + sl)).extract 0 (Nat.min sl dl) := by
          rw [Array.extract_extract]; congr 1 <;> omega
        rw [e2, h5.h]
        refine Array.ext_getElem? fun i => ?_
        rw [Array.getElem?_extract, size_ic]
        simp only [ic, List.getElem?_toArray, List.getElem?_map, List.getElem?_take, Nat.zero_add]
        by_cases hi : i < Nat.min sl dl
        · rw [if_pos (by omega), if_pos hi]
        · rw [if_neg (by omega), if_neg hi]; rfl
      have hlt : (L2.take (Nat.min sl dl)).length = Nat.min sl dl := by rw [List.length_take]; omega
      refine WO_copy (Nat.min sl dl) hU hS hx hy hb.h h3.h rfl (by rw [size_ic]; omega) (by omega) hxt (by intro u hu; exact one_map .u8 _ u hu) ?_
      exact h _ _ (BufT.set hb (by omega) (fun z hz => hL2 z (List.mem_of_mem_take hz)))
end
end Go.Proofs.YgvacwGreat
