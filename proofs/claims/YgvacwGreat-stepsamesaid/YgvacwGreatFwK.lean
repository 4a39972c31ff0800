
import Derived.Test.YgvacwGreatFwJ
set_option linter.unusedSimpArgs false
set_option linter.unusedVariables false
namespace Go.Proofs.YgvacwGreat
section
variable {P : Program} {t e : TypeId} {ρ : Nat → Value} {x xl xh xm : Operand} {b o n cp s : Nat} {kl kh km : IntKind} {l h m : Int}
theorem bound_ok {k : IntKind} {i : Int} {y : Nat} {code : BoundsCode} (w : World) (h0 : 0 ≤ i) (h1 : i ≤ y) : (Instr.sliceBound (.int k i) y code).run P w = .ok i.toNat w := by
  simp [Instr.sliceBound, asIntOf, h0, h1]

theorem PS_slA (hU : ∀ w, (underlying t).run P w = .ok (.array n e) w) (hS : ∀ w, (Go.sizeOf e).run P w = .ok s w) (hx : ev ρ x = .pointer (some ⟨b, o, none⟩))  (hlt : 0 < (n : Int)) : PS P (.slice t x none none none) ρ (.slice (some ⟨b, o, none⟩) n n) :=
  ⟨fun oo w hop => by
    have hne : ¬ (n = 0) := by omega
    simp [execOp, hop, Instr.sliceAt, hU, hx, Instr.sliceBounds, hS, Instr.sureAddr, hne]
    try simp [Addr.add]
    done⟩
theorem PS_slA_h (hU : ∀ w, (underlying t).run P w = .ok (.array n e) w) (hS : ∀ w, (Go.sizeOf e).run P w = .ok s w) (hx : ev ρ x = .pointer (some ⟨b, o, none⟩)) (hh : ev ρ xh = .int kh h) (hh0 : 0 ≤ h) (hh1 : h ≤ n) (hlt : 0 < (n : Int)) : PS P (.slice t x none (some xh) none) ρ (.slice (some ⟨b, o, none⟩) h.toNat n) :=
  ⟨fun oo w hop => by
    have bh := fun code => bound_ok (P := P) (k := kh) (code := code) w hh0 (show h ≤ ((n : Nat) : Int) by omega)
    have hne : ¬ (n = 0) := by omega
    simp [execOp, hop, Instr.sliceAt, hU, hx, Instr.sliceBounds, hS, Instr.sureAddr, hh, bh, hne]
    try simp [Addr.add]
    done⟩
theorem PS_slA_l (hU : ∀ w, (underlying t).run P w = .ok (.array n e) w) (hS : ∀ w, (Go.sizeOf e).run P w = .ok s w) (hx : ev ρ x = .pointer (some ⟨b, o, none⟩)) (hl : ev ρ xl = .int kl l) (hl0 : 0 ≤ l) (hl1 : l ≤ n) (hlt : l < (n : Int)) : PS P (.slice t x (some xl) none none) ρ (.slice (some ⟨b, o + l.toNat * s, none⟩) (n - l.toNat) (n - l.toNat)) :=
  ⟨fun oo w hop => by
    have bl := fun code => bound_ok (P := P) (k := kl) (code := code) w hl0 (show l ≤ ((n : Nat) : Int) by omega)
    have hne : ¬ (n = l.toNat) := by omega
    simp [execOp, hop, Instr.sliceAt, hU, hx, Instr.sliceBounds, hS, Instr.sureAddr, hl, bl, hne, add_mk]
    done⟩
theorem PS_slA_lh (hU : ∀ w, (underlying t).run P w = .ok (.array n e) w) (hS : ∀ w, (Go.sizeOf e).run P w = .ok s w) (hx : ev ρ x = .pointer (some ⟨b, o, none⟩)) (hh : ev ρ xh = .int kh h) (hl : ev ρ xl = .int kl l) (hh0 : 0 ≤ h) (hh1 : h ≤ n) (hl0 : 0 ≤ l) (hl1 : l ≤ h) (hlt : l < (n : Int)) : PS P (.slice t x (some xl) (some xh) none) ρ (.slice (some ⟨b, o + l.toNat * s, none⟩) (h.toNat - l.toNat) (n - l.toNat)) :=
  ⟨fun oo w hop => by
    have bh := fun code => bound_ok (P := P) (k := kh) (code := code) w hh0 (show h ≤ ((n : Nat) : Int) by omega)
    have bl := fun code => bound_ok (P := P) (k := kl) (code := code) w hl0 (show l ≤ ((h.toNat : Nat) : Int) by omega)
    have hne : ¬ (n = l.toNat) := by omega
    simp [execOp, hop, Instr.sliceAt, hU, hx, Instr.sliceBounds, hS, Instr.sureAddr, hl, hh, bh, bl, hne, add_mk]
    done⟩
theorem PS_slA_hm (hU : ∀ w, (underlying t).run P w = .ok (.array n e) w) (hS : ∀ w, (Go.sizeOf e).run P w = .ok s w) (hx : ev ρ x = .pointer (some ⟨b, o, none⟩)) (hm : ev ρ xm = .int km m) (hh : ev ρ xh = .int kh h) (hm0 : 0 ≤ m) (hm1 : m ≤ n) (hh0 : 0 ≤ h) (hh1 : h ≤ m) (hlt : 0 < m) : PS P (.slice t x none (some xh) (some xm)) ρ (.slice (some ⟨b, o, none⟩) h.toNat m.toNat) :=
  ⟨fun oo w hop => by
    have bm := fun code => bound_ok (P := P) (k := km) (code := code) w hm0 (show m ≤ ((n : Nat) : Int) from hm1)
    have bh := fun code => bound_ok (P := P) (k := kh) (code := code) w hh0 (show h ≤ ((m.toNat : Nat) : Int) by omega)
    have hne : ¬ (m.toNat = 0) := by omega
    simp [execOp, hop, Instr.sliceAt, hU, hx, Instr.sliceBounds, hS, Instr.sureAddr, hh, hm, bm, bh, hne]
    try simp [Addr.add]
    done⟩
theorem PS_slA_lhm (hU : ∀ w, (underlying t).run P w = .ok (.array n e) w) (hS : ∀ w, (Go.sizeOf e).run P w = .ok s w) (hx : ev ρ x = .pointer (some ⟨b, o, none⟩)) (hm : ev ρ xm = .int km m) (hh : ev ρ xh = .int kh h) (hl : ev ρ xl = .int kl l) (hm0 : 0 ≤ m) (hm1 : m ≤ n) (hh0 : 0 ≤ h) (hh1 : h ≤ m) (hl0 : 0 ≤ l) (hl1 : l ≤ h) (hlt : l < m) : PS P (.slice t x (some xl) (some xh) (some xm)) ρ (.slice (some ⟨b, o + l.toNat * s, none⟩) (h.toNat - l.toNat) (m.toNat - l.toNat)) :=
  ⟨fun oo w hop => by
    have bm := fun code => bound_ok (P := P) (k := km) (code := code) w hm0 (show m ≤ ((n : Nat) : Int) from hm1)
    have bh := fun code => bound_ok (P := P) (k := kh) (code := code) w hh0 (show h ≤ ((m.toNat : Nat) : Int) by omega)
    have bl := fun code => bound_ok (P := P) (k := kl) (code := code) w hl0 (show l ≤ ((h.toNat : Nat) : Int) by omega)
    have hne : ¬ (m.toNat = l.toNat) := by omega
    simp [execOp, hop, Instr.sliceAt, hU, hx, Instr.sliceBounds, hS, Instr.sureAddr, hl, hh, hm, bm, bh, bl, hne, add_mk]
    done⟩
theorem PS_slS (hU : ∀ w, (underlying t).run P w = .ok (.slice e) w) (hS : ∀ w, (Go.sizeOf e).run P w = .ok s w) (hx : ev ρ x = .slice (some ⟨b, o, none⟩) n cp)  (hlt : 0 < (cp : Int)) : PS P (.slice t x none none none) ρ (.slice (some ⟨b, o, none⟩) n cp) :=
  ⟨fun oo w hop => by
    have hne : ¬ (cp = 0) := by omega
    simp [execOp, hop, Instr.sliceAt, hU, hx, Instr.sliceBounds, hS, Instr.slice, hne]
    try simp [Addr.add]
    done⟩
theorem PS_slS_h (hU : ∀ w, (underlying t).run P w = .ok (.slice e) w) (hS : ∀ w, (Go.sizeOf e).run P w = .ok s w) (hx : ev ρ x = .slice (some ⟨b, o, none⟩) n cp) (hh : ev ρ xh = .int kh h) (hh0 : 0 ≤ h) (hh1 : h ≤ cp) (hlt : 0 < (cp : Int)) : PS P (.slice t x none (some xh) none) ρ (.slice (some ⟨b, o, none⟩) h.toNat cp) :=
  ⟨fun oo w hop => by
    have bh := fun code => bound_ok (P := P) (k := kh) (code := code) w hh0 (show h ≤ ((cp : Nat) : Int) by omega)
    have hne : ¬ (cp = 0) := by omega
    simp [execOp, hop, Instr.sliceAt, hU, hx, Instr.sliceBounds, hS, Instr.slice, hh, bh, hne]
    try simp [Addr.add]
    done⟩
theorem PS_slS_l (hU : ∀ w, (underlying t).run P w = .ok (.slice e) w) (hS : ∀ w, (Go.sizeOf e).run P w = .ok s w) (hx : ev ρ x = .slice (some ⟨b, o, none⟩) n cp) (hl : ev ρ xl = .int kl l) (hl0 : 0 ≤ l) (hl1 : l ≤ n) (hlt : l < (cp : Int)) : PS P (.slice t x (some xl) none none) ρ (.slice (some ⟨b, o + l.toNat * s, none⟩) (n - l.toNat) (cp - l.toNat)) :=
  ⟨fun oo w hop => by
    have bl := fun code => bound_ok (P := P) (k := kl) (code := code) w hl0 (show l ≤ ((n : Nat) : Int) by omega)
    have hne : ¬ (cp = l.toNat) := by omega
    simp [execOp, hop, Instr.sliceAt, hU, hx, Instr.sliceBounds, hS, Instr.slice, hl, bl, hne, add_mk]
    done⟩
theorem PS_slS_lh (hU : ∀ w, (underlying t).run P w = .ok (.slice e) w) (hS : ∀ w, (Go.sizeOf e).run P w = .ok s w) (hx : ev ρ x = .slice (some ⟨b, o, none⟩) n cp) (hh : ev ρ xh = .int kh h) (hl : ev ρ xl = .int kl l) (hh0 : 0 ≤ h) (hh1 : h ≤ cp) (hl0 : 0 ≤ l) (hl1 : l ≤ h) (hlt : l < (cp : Int)) : PS P (.slice t x (some xl) (some xh) none) ρ (.slice (some ⟨b, o + l.toNat * s, none⟩) (h.toNat - l.toNat) (cp - l.toNat)) :=
  ⟨fun oo w hop => by
    have bh := fun code => bound_ok (P := P) (k := kh) (code := code) w hh0 (show h ≤ ((cp : Nat) : Int) by omega)
    have bl := fun code => bound_ok (P := P) (k := kl) (code := code) w hl0 (show l ≤ ((h.toNat : Nat) : Int) by omega)
    have hne : ¬ (cp = l.toNat) := by omega
    simp [execOp, hop, Instr.sliceAt, hU, hx, Instr.sliceBounds, hS, Instr.slice, hl, hh, bh, bl, hne, add_mk]
    done⟩
theorem PS_slS_hm (hU : ∀ w, (underlying t).run P w = .ok (.slice e) w) (hS : ∀ w, (Go.sizeOf e).run P w = .ok s w) (hx : ev ρ x = .slice (some ⟨b, o, none⟩) n cp) (hm : ev ρ xm = .int km m) (hh : ev ρ xh = .int kh h) (hm0 : 0 ≤ m) (hm1 : m ≤ cp) (hh0 : 0 ≤ h) (hh1 : h ≤ m) (hlt : 0 < m) : PS P (.slice t x none (some xh) (some xm)) ρ (.slice (some ⟨b, o, none⟩) h.toNat m.toNat) :=
  ⟨fun oo w hop => by
    have bm := fun code => bound_ok (P := P) (k := km) (code := code) w hm0 (show m ≤ ((cp : Nat) : Int) from hm1)
    have bh := fun code => bound_ok (P := P) (k := kh) (code := code) w hh0 (show h ≤ ((m.toNat : Nat) : Int) by omega)
    have hne : ¬ (m.toNat = 0) := by omega
    simp [execOp, hop, Instr.sliceAt, hU, hx, Instr.sliceBounds, hS, Instr.slice, hh, hm, bm, bh, hne]
    try simp [Addr.add]
    done⟩
theorem PS_slS_lhm (hU : ∀ w, (underlying t).run P w = .ok (.slice e) w) (hS : ∀ w, (Go.sizeOf e).run P w = .ok s w) (hx : ev ρ x = .slice (some ⟨b, o, none⟩) n cp) (hm : ev ρ xm = .int km m) (hh : ev ρ xh = .int kh h) (hl : ev ρ xl = .int kl l) (hm0 : 0 ≤ m) (hm1 : m ≤ cp) (hh0 : 0 ≤ h) (hh1 : h ≤ m) (hl0 : 0 ≤ l) (hl1 : l ≤ h) (hlt : l < m) : PS P (.slice t x (some xl) (some xh) (some xm)) ρ (.slice (some ⟨b, o + l.toNat * s, none⟩) (h.toNat - l.toNat) (m.toNat - l.toNat)) :=
  ⟨fun oo w hop => by
    have bm := fun code => bound_ok (P := P) (k := km) (code := code) w hm0 (show m ≤ ((cp : Nat) : Int) from hm1)
    have bh := fun code => bound_ok (P := P) (k := kh) (code := code) w hh0 (show h ≤ ((m.toNat : Nat) : Int) by omega)
    have bl := fun code => bound_ok (P := P) (k := kl) (code := code) w hl0 (show l ≤ ((h.toNat : Nat) : Int) by omega)
    have hne : ¬ (m.toNat = l.toNat) := by omega
    simp [execOp, hop, Instr.sliceAt, hU, hx, Instr.sliceBounds, hS, Instr.slice, hl, hh, hm, bm, bh, bl, hne, add_mk]
    done⟩
theorem PS_indexV {y : Operand} {k k' : IntKind} {i v : Int} {L : List Int} (hU : ∀ w, (underlying t).run P w = .ok (.array n e) w) (hS : ∀ w, (Go.sizeOf e).run P w = .ok 1 w) (hA : ∀ w, (isAgg e).run P w = .ok false w)
    (hx : ev ρ x = .agg (ic k L)) (hy : ev ρ y = .int k' i) (h0 : 0 ≤ i) (h1 : i < n) (hv : L[i.toNat]? = some v) : PS P (.index t x y) ρ (.int k v) :=
  ⟨fun oo w hop => by
    have hg : (ic k L)[i.toNat]? = some (.int k v) := by rw [ic_get, hv]; rfl
    simp [execOp, hop, Instr.index, asIntOf, hU, hx, hy, h0, h1, hS, part, hA, hg]⟩
end
end Go.Proofs.YgvacwGreat
