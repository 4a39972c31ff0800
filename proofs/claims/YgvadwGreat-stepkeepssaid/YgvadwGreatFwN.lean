import Derived.Test.YgvadwGreatMb
namespace Go.Proofs.YgvadwGreat
set_option linter.unusedSimpArgs false
set_option linter.unusedVariables false
section
variable {P : Program} {ρ : Nat → Value} {x xl xh xm : Operand} {t e : TypeId} {s : Nat} {kl kh km : IntKind} {l h m : Int} {n cp : Nat}
/-- where a slice of a slice begins -/
def slp' (a : Option Addr) (l m s : Nat) : Option Addr := if m = l then a else a.map (·.add (l * s))
theorem slp'_some {b o l m s : Nat} (h : l < m) : slp' (some ⟨b, o, none⟩) l m s = some ⟨b, o + l * s, none⟩ := by
  unfold slp'; rw [if_neg (by omega)]; simp [add_mk]
theorem PS_slG_lhm {a : Option Addr} (hU : ∀ w, (underlying t).run P w = .ok (.slice e) w) (hS : ∀ w, (Go.sizeOf e).run P w = .ok s w) (hx : ev ρ x = .slice a n cp) (hm : ev ρ xm = .int km m) (hh : ev ρ xh = .int kh h) (hl : ev ρ xl = .int kl l) (hm0 : 0 ≤ m) (hm1 : m ≤ cp) (hh0 : 0 ≤ h) (hh1 : h ≤ m) (hl0 : 0 ≤ l) (hl1 : l ≤ h) :
    PS P (.slice t x (some xl) (some xh) (some xm)) ρ (.slice (slp' a l.toNat m.toNat s) (h.toNat - l.toNat) (m.toNat - l.toNat)) :=
  ⟨fun oo w hop => by
    have bm := fun code => bound_ok (P := P) (k := km) (code := code) w hm0 (show m ≤ ((cp : Nat) : Int) from hm1)
    have bh := fun code => bound_ok (P := P) (k := kh) (code := code) w hh0 (show h ≤ ((m.toNat : Nat) : Int) by omega)
    have bl := fun code => bound_ok (P := P) (k := kl) (code := code) w hl0 (show l ≤ ((h.toNat : Nat) : Int) by omega)
    simp [execOp, hop, Instr.sliceAt, hU, hx, Instr.sliceBounds, hS, Instr.slice, hl, hh, hm, bm, bh, bl, slp']
    done⟩
theorem PS_slG_l {a : Option Addr} (hU : ∀ w, (underlying t).run P w = .ok (.slice e) w) (hS : ∀ w, (Go.sizeOf e).run P w = .ok s w) (hx : ev ρ x = .slice a n cp) (hl : ev ρ xl = .int kl l) (hl0 : 0 ≤ l) (hl1 : l ≤ n) :
    PS P (.slice t x (some xl) none none) ρ (.slice (slp' a l.toNat cp s) (n - l.toNat) (cp - l.toNat)) :=
  ⟨fun oo w hop => by
    have bl := fun code => bound_ok (P := P) (k := kl) (code := code) w hl0 (show l ≤ ((n : Nat) : Int) from hl1)
    simp [execOp, hop, Instr.sliceAt, hU, hx, Instr.sliceBounds, hS, Instr.slice, hl, bl, slp']
    done⟩
theorem PS_slG_h {a : Option Addr} (hU : ∀ w, (underlying t).run P w = .ok (.slice e) w) (hS : ∀ w, (Go.sizeOf e).run P w = .ok s w) (hx : ev ρ x = .slice a n cp) (hh : ev ρ xh = .int kh h) (hh0 : 0 ≤ h) (hh1 : h ≤ cp) :
    PS P (.slice t x none (some xh) none) ρ (.slice (slp' a 0 cp s) (h.toNat - 0) (cp - 0)) :=
  ⟨fun oo w hop => by
    have bh := fun code => bound_ok (P := P) (k := kh) (code := code) w hh0 (show h ≤ ((cp : Nat) : Int) from hh1)
    simp [execOp, hop, Instr.sliceAt, hU, hx, Instr.sliceBounds, hS, Instr.slice, hh, bh, slp']
    done⟩
theorem PS_slG_lh {a : Option Addr} (hU : ∀ w, (underlying t).run P w = .ok (.slice e) w) (hS : ∀ w, (Go.sizeOf e).run P w = .ok s w) (hx : ev ρ x = .slice a n cp) (hh : ev ρ xh = .int kh h) (hl : ev ρ xl = .int kl l) (hh0 : 0 ≤ h) (hh1 : h ≤ cp) (hl0 : 0 ≤ l) (hl1 : l ≤ h) :
    PS P (.slice t x (some xl) (some xh) none) ρ (.slice (slp' a l.toNat cp s) (h.toNat - l.toNat) (cp - l.toNat)) :=
  ⟨fun oo w hop => by
    have bh := fun code => bound_ok (P := P) (k := kh) (code := code) w hh0 (show h ≤ ((cp : Nat) : Int) from hh1)
    have bl := fun code => bound_ok (P := P) (k := kl) (code := code) w hl0 (show l ≤ ((h.toNat : Nat) : Int) by omega)
    simp [execOp, hop, Instr.sliceAt, hU, hx, Instr.sliceBounds, hS, Instr.slice, hh, hl, bh, bl, slp']
    done⟩
end
/-! append of zeros to a row of bytes -/
theorem zeros_u8 (n : Nat) : Builtin.zeroCells (Value.int .u8 0).cells n = ic .u8 (List.replicate n 0) := zc_ic .u8 n
theorem wrap_nat {n : Nat} (h : n ≤ 100000000) : IntKind.i64.wrap (n : Int) = n := by
  simp [IntKind.wrap, IntKind.bits, IntKind.signed]; omega
theorem app0_room {w : World} {b sLen cap n : Nat} {r : Array Value} (hr : Hb w b (.cells r 5 (0, 0))) (hn : 0 < n) (hn8 : n ≤ 100000000) (hroom : sLen + n ≤ cap) (hcap : cap ≤ r.size) :
    (Builtin.append_ #[32, 3] 32 #[.slice (some ⟨b, 0, none⟩) sLen cap, .int .i64 n]).run Hvad.prog w = .ok (.slice (some ⟨b, 0, none⟩) (sLen + n) cap) (setB w b (.cells (splice r sLen ((List.replicate n (0 : Int)).map (Value.int .u8))) 5 (0, 0))) := by
  have hst := run_storeCells_hp (P := Hvad.prog) ((List.replicate n (0 : Int)).map (Value.int .u8)) r sLen 0 w hr.h (by simp; omega) (one_map _ _)
  simp only [Nat.add_zero] at hst
  have hz := zeros_u8 n
  have hw := wrap_nat hn8
  have h48 : ¬ ((281474976710656 : Int) < n) := by omega
  have hng : ¬ ((n : Int) < 0) := by omega
  have hai : ∀ w, (asIntOf (Value.int .i64 n)).run Hvad.prog w = .ok (.i64, (n : Int)) w := fun _ => rfl
  have hsz : Hvad.t5.size = 1 := rfl
  have hby : Hvad.t5.bytes = 1 := rfl
  have hzz : Hvad.t5.zero = some (.int .u8 0) := rfl
  simp [Builtin.append_, run_underlying Hvad.underlying32, run_underlying Hvad.underlying3, Go.sizeOf, typeInfo, zeroValue, info5, hsz, hby, hzz, asInt, hai, hw, h48, hng, hroom, add_mk, show ¬ n = 0 by omega, show ¬ n ≤ 0 by omega, hz]
  rw [show (ic .u8 (List.replicate n 0)).toList = (List.replicate n (0 : Int)).map (Value.int .u8) from rfl, hst]
  simp
theorem app0_grow {w : World} {sLen cap n : Nat} {a : Option Addr} {old : List Int} (hold : (Builtin.firstCells 1 sLen (.slice a sLen cap)).run Hvad.prog w.drew = .ok (ic .u8 old) w.drew) (hn : 0 < n) (hn8 : sLen + n ≤ 100000000) (hroom : cap < sLen + n) :
    (Builtin.append_ #[32, 3] 32 #[.slice a sLen cap, .int .i64 n]).run Hvad.prog w = .ok (.slice (some ⟨w.heap.size, 0, none⟩) (sLen + n) (grownCap w (sLen + n) cap 5))
      (w.drew.alloc (.cells (ic .u8 (old ++ List.replicate n 0 ++ List.replicate (grownCap w (sLen + n) cap 5 - (sLen + n)) 0)) 5)) := by
  have hz := fun n => zeros_u8 n
  have hw := wrap_nat (n := n) (by omega)
  have h48 : ¬ ((281474976710656 : Int) < n) := by omega
  have hng : ¬ ((n : Int) < 0) := by omega
  have hai : ∀ w, (asIntOf (Value.int .i64 n)).run Hvad.prog w = .ok (.i64, (n : Int)) w := fun _ => rfl
  have hsz : Hvad.t5.size = 1 := rfl
  have hby : Hvad.t5.bytes = 1 := rfl
  have hzz : Hvad.t5.zero = some (.int .u8 0) := rfl
  have hfit : ¬ (281474976710656 < Builtin.nextslicecap (sLen + n) cap) := by
    have := growslice_fits (need := sLen + n) (old := cap) (bytes := 1) hroom (by omega)
    omega
  have h63 : ¬ ((9223372036854775807 : Int) < sLen + n) := by omega
  have hnr : ¬ (sLen + n ≤ cap) := by omega
  simp [Builtin.append_, run_underlying Hvad.underlying32, run_underlying Hvad.underlying3, Go.sizeOf, typeInfo, zeroValue, info5, hsz, hby, hzz, asInt, hai, hw, h48, hng, hnr, h63, hfit, hold, add_mk, show ¬ n = 0 by omega, show ¬ n ≤ 0 by omega, hz, Question.forced, newRow, grownCap]
  congr 2
  apply Array.ext'
  simp [ic]
theorem splice_ic (k : IntKind) (L M : List Int) (o : Nat) (h : o + M.length ≤ L.length) : splice (ic k L) o (M.map (Value.int k)) = ic k (L.take o ++ M ++ L.drop (o + M.length)) := by
  rw [splice_list (by simp [size_ic]; omega)]
  simp [ic]
theorem app0_go {w : World} {s : SV} (hb : BufS w s) {n : Nat} (hn : 0 < n) (hn8 : s.2.1 + n ≤ 100000000) : ∃ (s' : SV) (w' : World), (Builtin.append_ #[32, 3] 32 #[.slice s.1 s.2.1 s.2.2, .int .i64 n]).run Hvad.prog w = .ok (.slice s'.1 s'.2.1 s'.2.2) w' ∧ BufS w' s' ∧ s'.2.1 = s.2.1 + n ∧ KeepO (fun b => ∃ a, s.1 = some a ∧ a.block = b) w w' ∧ ((∃ a, s.1 = some a ∧ s'.1 = some a) ∨ ∃ b, s'.1 = some ⟨b, 0, none⟩ ∧ w.heap.size ≤ b) := by
  have hgc : ∀ need old, need ≤ grownCap w need old 5 := fun need old => Nat.le_add_right _ _
  obtain ⟨a, len, cap⟩ := s
  rcases hb with hb | ⟨b, L, hb, hr, hL, hlen⟩
  · injection hb with h1 h2
    injection h2 with h2 h3
    subst h1; subst h2; subst h3
    refine ⟨(some ⟨w.heap.size, 0, none⟩, 0 + n, grownCap w (0 + n) 0 5), _, app0_grow (sLen := 0) (cap := 0) (a := none) (old := []) rfl hn hn8 (by omega), Or.inr ⟨w.heap.size, [] ++ List.replicate n 0 ++ List.replicate (grownCap w (0 + n) 0 5 - (0 + n)) 0, ?_, Hb.newY w.drew _, ?_, ?_⟩, rfl, ((Ext.refl w).drew.alloc _).keepO _, Or.inr ⟨_, rfl, Nat.le_refl _⟩⟩
    · have := hgc (0 + n) 0
      simp at this ⊢; omega
    · intro x hx; simp at hx; omega
    · simp
  · simp only at hb hlen hn8
    injection hb with h1 h2
    injection h2 with _ h3
    subst h1; subst h3
    by_cases hroom : len + n ≤ L.length
    · refine ⟨(some ⟨b, 0, none⟩, len + n, L.length), _, app0_room hr hn (by omega) hroom (by rw [size_ic]; exact Nat.le_refl _), Or.inr ⟨b, L.take len ++ List.replicate n 0 ++ L.drop (len + n), ?_, ?_, ?_, ?_⟩, rfl, (KeepO.refl _ w).setB (fun _ => ⟨_, rfl, rfl⟩) _, Or.inl ⟨_, rfl, rfl⟩⟩
      · simp; omega
      · have := splice_ic .u8 L (List.replicate n 0) len (by simpa using hroom)
        rw [this, List.length_replicate]
        exact Hb.setSame hr
      · intro x hx
        rcases List.mem_append.1 hx with hx | hx
        · rcases List.mem_append.1 hx with hx | hx
          · exact hL x (List.mem_of_mem_take hx)
          · rw [(List.mem_replicate.1 hx).2]; omega
        · exact hL x (List.mem_of_mem_drop hx)
      · simp; omega
    · have hold : (Builtin.firstCells 1 len (.slice (some ⟨b, 0, none⟩) len L.length)).run Hvad.prog w.drew = .ok (ic .u8 (L.take len)) w.drew := by
        have hl := run_firstCells_some (P := Hvad.prog) w.drew 1 len ⟨b, 0, none⟩ len L.length ((L.take len).map (Value.int .u8)) (by simp; omega) (fun j v hv => by
          rw [add_mk, cell_hp hr.drew.h]
          simp only [List.getElem?_map, List.getElem?_take] at hv
          split at hv
          · simpa [ic] using hv
          · cases hv)
        exact hl
      refine ⟨(some ⟨w.heap.size, 0, none⟩, len + n, grownCap w (len + n) L.length 5), _, app0_grow (sLen := len) (cap := L.length) hold hn hn8 (by omega), Or.inr ⟨w.heap.size, L.take len ++ List.replicate n 0 ++ List.replicate (grownCap w (len + n) L.length 5 - (len + n)) 0, ?_, Hb.newY w.drew _, ?_, ?_⟩, rfl, ((Ext.refl w).drew.alloc _).keepO _, Or.inr ⟨_, rfl, Nat.le_refl _⟩⟩
      · have := hgc (len + n) L.length
        simp; omega
      · intro x hx
        rcases List.mem_append.1 hx with hx | hx
        · rcases List.mem_append.1 hx with hx | hx
          · exact hL x (List.mem_of_mem_take hx)
          · rw [(List.mem_replicate.1 hx).2]; omega
        · rw [(List.mem_replicate.1 hx).2]; omega
      · simp; omega
section
variable {P : Program} {ρ : Nat → Value} {w : World} {ops : Array Oper} {Q : Post} {os : List Oper} {x y : Operand} {ty t t2 : TypeId} {d : Nat}
theorem WO_append2 {vx vy v : Value} {w' : World} {pos : _} {af : _} (hx : ev ρ x = vx) (hy : ev ρ y = vy) (hrun : (Builtin.append_ #[t, t2] ty #[vx, vy]).run P w = .ok v w')
    (h : WO P ops Q os (upd ρ d v) w') : WO P ops Q (⟨some d, .call ⟨.builtin .append, #[x, y], #[t, t2]⟩, ty, pos, af, none⟩ :: os) ρ w := by
  refine WO_cons ?_
  have e1 : Array.map (ev ρ) #[x, y] = #[vx, vy] := by simp [hx, hy]
  simp only [stepo, execOp, resolve, invoke, builtin, e1, hrun, Sem.run_bind, Sem.run_pure, Result.andThen_ok]; exact h
end
end Go.Proofs.YgvadwGreat
