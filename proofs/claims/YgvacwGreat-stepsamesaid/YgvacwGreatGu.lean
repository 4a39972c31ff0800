import Derived.Test.YgvacwGreatGt
namespace Go.Proofs.YgvacwGreat
set_option linter.unusedSimpArgs false
set_option linter.unusedVariables false
/-! append to a list that was cut: it always goes to a newY block -/
theorem row_fresh {α : Type} {enc : α → List Value} {size : Nat} {e : TypeId} {z : Value} {w : World} {l : List α} {x : α} (hzs : z.cells.size = size) (hx : (enc x).length = size)
    (N : Nat) (old : List Value) (hN : l.length + 1 ≤ N) (hol : old.length = size * l.length) (hold : ∀ i y, l[i]? = some y → ∀ k, k < size → old[i * size + k]? = (enc y)[k]?) :
    Row enc size e (w.drew.alloc (.cells (old.toArray ++ (enc x).toArray ++ Builtin.zeroCells z.cells (N - (l.length + 1))) e)) (some (w.heap.size, N)) (l ++ [x]) := by
  have hzc : ∀ n, (Builtin.zeroCells z.cells n).size = n * size := by intro n; simp [Builtin.zeroCells, hzs]
  refine ⟨by simpa using hN, _, Hb.newY w.drew _, ?_, ?_⟩
  · simp only [Array.size_append, List.size_toArray, hol, hx, hzc]
    have : N = l.length + 1 + (N - (l.length + 1)) := by omega
    rw [show size * N = size * (l.length + 1) + size * (N - (l.length + 1)) by rw [← Nat.mul_add]; congr 1]
    rw [Nat.mul_add, Nat.mul_one, Nat.mul_comm (N - (l.length + 1)) size]
  · refine ⟨?_, ?_⟩
    · simp only [Array.size_append, List.size_toArray, hol, hx, List.length_append, List.length_singleton, Nat.mul_add, Nat.mul_one]; omega
    · intro i y hy k hk
      rw [Nat.zero_add, Array.append_assoc]
      by_cases hi : i < l.length
      · rw [List.getElem?_append_left hi] at hy
        have hb := mul_le_of_lt (sz := size) hi
        rw [Array.getElem?_append_left (by simp [hol]; omega)]
        simp only [List.getElem?_toArray]
        exact hold i y hy k hk
      · have hil := lt_of_getElem? hy
        simp at hil
        have hie : i = l.length := by omega
        subst hie
        rw [List.getElem?_append_right (Nat.le_refl _)] at hy
        simp at hy
        subst hy
        have hm : l.length * size = size * l.length := Nat.mul_comm _ _
        rw [Array.getElem?_append_right (by simp [hol]; omega), Array.getElem?_append_left (by simp [hol, hx]; omega)]
        simp only [List.size_toArray, hol, List.getElem?_toArray]
        congr 1; omega
theorem run_append_cut {α : Type} {enc : α → List Value} {P : Program} {t e : TypeId} {size bytes : Nat} {i : TypeInfo} {z : Value} {rt : TypeId} {w : World} {p : Option Addr} {l : List α} {x : α} {b1 : Nat} {T1 : TypeId} {fz : Nat × Nat} {n : Nat}
    (ht : P.underlying t = some (.slice e)) (hi : P.info? e = some i) (hz : i.zero = some z) (hsz : i.size = size) (hby : i.bytes = bytes) (hzs : z.cells.size = size)
    (hn : l.length = n) (hrow : 0 < n → ∃ b r T fz, p = some ⟨b, 0, none⟩ ∧ Hb w b (.cells r T fz) ∧ RowL enc size 0 r l) (hx : (enc x).length = size) (hsrc : Hb w b1 (.cells (enc x).toArray T1 fz)) (hlen : (n + 1) * bytes ≤ 140737488355328) (hl63 : n < 2147483647) :
    ∃ s' w', (Builtin.append_ #[t, t] rt #[.slice p n n, .slice (some ⟨b1, 0, none⟩) 1 1]).run P w = .ok (slv s' (n + 1)) w' ∧ Row enc size e w' s' (l ++ [x]) ∧ Ext w w' ∧ (∀ b, blkOf s' b → w.heap.size ≤ b) := by
  subst hn
  have hnews : ∀ j v, (enc x)[j]? = some v → w.cell? ((Addr.mk b1 0 none).add j) = some v := by
    intro j v hv
    rw [add_mk, cell_hp hsrc.h]; simpa using hv
  have hnl : (enc x).length = 1 * i.size := by rw [hsz, hx]; simp
  have hgc : ∀ need old, need ≤ grownCap w need old e := by
    intro need old
    show need ≤ need + _ % _
    exact Nat.le_add_right _ _
  have newb : ∀ N b, blkOf (some (w.heap.size, N)) b → w.heap.size ≤ b := by
    rintro N b ⟨cap, hb⟩
    injection hb with hb
    injection hb with hb _
    rw [← hb]; exact Nat.le_refl _
  have hg : l.length < l.length + 1 := by omega
  rcases Nat.eq_zero_or_pos l.length with h0 | h0
  · have hl0 : l = [] := List.length_eq_zero_iff.1 h0
    subst hl0
    cases p with
    | none =>
      have hrun := run_append_nil (P := P) w t rt e i z ht hi hz ⟨b1, 0, none⟩ 1 1 (enc x) hnl hnews (by omega) (by decide) (by rw [hby]; simp at hlen; omega)
      have hf := row_fresh (w := w) (e := e) (enc := enc) (l := []) hzs hx (grownCap w 1 0 e) [] (by simpa using hgc 1 0) (by simp) (by simp)
      refine ⟨some (w.heap.size, grownCap w 1 0 e), _, hrun, ?_, (Ext.refl w).drew.alloc _, newb _⟩
      simpa using hf
    | some a =>
      have hrun := run_append_grow (P := P) w t rt e i z ht hi hz a 0 0 [] (by simp) (by simp) ⟨b1, 0, none⟩ 1 1 (enc x) hnl hnews (by decide) (by omega) (by rw [hby]; exact growslice_fits (by decide) hlen)
      have hf := row_fresh (w := w) (e := e) (enc := enc) (l := []) hzs hx (grownCap w 1 0 e) [] (by simpa using hgc 1 0) (by simp) (by simp)
      refine ⟨some (w.heap.size, grownCap w 1 0 e), _, hrun, ?_, (Ext.refl w).drew.alloc _, newb _⟩
      simpa using hf
  · obtain ⟨b, r, T, fz2, hp, hr, hrl⟩ := hrow h0
    subst hp
    have hrs : size * l.length ≤ r.size := by have := hrl.1; omega
    have hol : (r.toList.take (size * l.length)).length = l.length * i.size := by simp [hsz, Nat.mul_comm] at *; omega
    have holds : ∀ j v, (r.toList.take (size * l.length))[j]? = some v → w.cell? ((Addr.mk b 0 none).add j) = some v := by
      intro j v hv
      rw [add_mk, cell_hp hr.h]
      rw [List.getElem?_take] at hv
      split at hv
      · simpa using hv
      · cases hv
    have hrun := run_append_grow (P := P) w t rt e i z ht hi hz ⟨b, 0, none⟩ l.length l.length (r.toList.take (size * l.length)) hol holds ⟨b1, 0, none⟩ 1 1 (enc x) hnl hnews hg (by omega) (by rw [hby]; exact growslice_fits hg hlen)
    have hf := row_fresh (w := w) (e := e) (enc := enc) hzs hx (grownCap w (l.length + 1) l.length e) (r.toList.take (size * l.length)) (hgc _ _) (by rw [hol, hsz, Nat.mul_comm]) (by
      intro j y hy k hk
      have := hrl.2 j y hy k hk
      rw [Nat.zero_add] at this
      have hj := lt_of_getElem? hy
      have h9 := mul_le_of_lt (sz := size) hj
      have h8 : l.length * size = size * l.length := Nat.mul_comm _ _
      rw [List.getElem?_take, if_pos (by omega)]
      simpa using this)
    exact ⟨some (w.heap.size, grownCap w (l.length + 1) l.length e), _, hrun, hf, (Ext.refl w).drew.alloc _, newb _⟩
section
variable [Om] {P : Program} {ops : Array Oper} {S : World → Prop} {Q : Post} {t ty : TypeId} {pos : String} {af : Array Edge} {os : List Oper} {os' : List TOp} {ρ : Nat → Value} {w w0 : World} {xo yo : Operand} {d : Nat} {bb : Bool}
theorem WO_appC {α : Type} {enc : α → List Value} {u B n : Nat} {e : TypeId} {p : Option Addr} {K : List α} (x : α) {b1 : Nat} {T1 : TypeId} {fz : Nat × Nat} (ha : AppI enc u e t B) (hK : PL enc u e w (p, n, n) K) (hl : n ≤ 1000000000)
    (hxl : (enc x).length = u) (hsrc : Hb w b1 (.cells (enc x).toArray T1 fz)) (hx : ev ρ xo = .slice p n n) (hy : ev ρ yo = .slice (some ⟨b1, 0, none⟩) 1 1)
    (h : ∀ so' w', BL enc u e w [] w' so' (K ++ [x]) → Ext w w' → w.heap.size ≤ w'.heap.size → WO Hvac.prog ops Q os (upd ρ d (.slice (slp so') (n + 1) (slc so'))) w') :
    WO Hvac.prog ops Q (⟨some d, .call ⟨.builtin .append, #[xo, yo], #[t, t]⟩, ty, pos, af, none⟩ :: os) ρ w := by
  obtain ⟨i, z, hi, hz, hs, hby, hzs⟩ := ha.hi
  have hb8 : (n + 1) * B ≤ 140737488355328 := by
    have h1 : (n + 1) * B ≤ 1000000001 * 1000 := Nat.mul_le_mul (by omega) ha.hB
    omega
  obtain ⟨s', w', hr, hrow, hE, hb⟩ := run_append_cut (rt := ty) ha.ht hi hz hs hby hzs hK.len (fun h0 => by obtain ⟨b, r, fz, h1, h2, h3, h4⟩ := hK.row h0; exact ⟨b, r, e, fz, h1, h3, h4⟩) hxl hsrc hb8 (Nat.lt_of_le_of_lt hl (by decide))
  exact WO_append hx hy hr (h s' w' ⟨hrow, fun b hbb => ⟨hb b hbb, by simp⟩⟩ hE hE.1)
end

end Go.Proofs.YgvacwGreat
