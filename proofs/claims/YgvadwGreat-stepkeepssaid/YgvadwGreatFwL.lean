import Derived.Test.YgvadwGreatFwJ
import Derived.Test.YgvadwGreatFwH
import Derived.Test.YgvadwGreatVs
import Derived.Test.YgvadwGreatProg
import Derived.KernelRfl
namespace Go.Proofs.YgvadwGreat
set_option linter.unusedSimpArgs false
set_option linter.unusedVariables false
def PlacesL (P : Program) : List Field → List (Nat × Nat) → Prop
  | [], [] => True
  | f :: l, p :: pl => p.1 = f.offset ∧ (∀ w, (Go.sizeOf f.type).run P w = .ok p.2 w) ∧ PlacesL P l pl
  | _, _ => False
theorem places_list {P : Program} : ∀ (l : List Field) (pl : List (Nat × Nat)), PlacesL P l pl → ∀ w, (l.mapM fun f => do pure (f.offset, ← Go.sizeOf f.type) : Sem (List (Nat × Nat))).run P w = .ok pl w
  | [], [], _, w => rfl
  | [], _ :: _, h, _ => h.elim
  | _ :: _, [], h, _ => h.elim
  | f :: l, p :: pl, ⟨h1, h2, h3⟩, w => by
    have e := places_list l pl h3
    rw [List.mapM_cons]
    simp only [Sem.run_bind, Result.andThen_ok, h2, e, Sem.run_pure, ← h1]
theorem places_run {P : Program} {l : List Field} {pl : List (Nat × Nat)} (h : PlacesL P l pl) (w : World) : (l.toArray.mapM fun f => do pure (f.offset, ← Go.sizeOf f.type) : Sem (Array (Nat × Nat))).run P w = .ok pl.toArray w := by
  rw [List.mapM_toArray]
  have := places_list l pl h w
  simp only [al_mpb, Sem.run_bind, this, Sem.run_pure, Result.andThen_ok]
theorem len4 {l : List Int} (h : l.length = 4) : ∃ a b c d, l = [a, b, c, d] := by
  match l, h with
  | [a, b, c, d], _ => exact ⟨a, b, c, d, rfl⟩
theorem len20 {l : List Int} (h : l.length = 20) : ∃ a0 a1 a2 a3 a4 a5 a6 a7 a8 a9 b0 b1 b2 b3 b4 b5 b6 b7 b8 b9, l = [a0, a1, a2, a3, a4, a5, a6, a7, a8, a9, b0, b1, b2, b3, b4, b5, b6, b7, b8, b9] := by
  match l, h with
  | [a0, a1, a2, a3, a4, a5, a6, a7, a8, a9, b0, b1, b2, b3, b4, b5, b6, b7, b8, b9], _ => exact ⟨a0, a1, a2, a3, a4, a5, a6, a7, a8, a9, b0, b1, b2, b3, b4, b5, b6, b7, b8, b9, rfl⟩

theorem PS_b149_0 {ρ : Nat → Value} {x0 : Operand} {y0 : List Int} (h0 : ev ρ x0 = .agg (ic .u8 y0)) (l0 : y0.length = 20) : PS Hvad.prog (.build 149 #[(0, x0)]) ρ (.agg (encA ⟨y0, 0, [0, 0, 0, 0], (none, 0, 0), false, false, false⟩).toArray) := by
  obtain ⟨a0, a1, a2, a3, a4, a5, a6, a7, a8, a9, b0, b1, b2, b3, b4, b5, b6, b7, b8, b9, rfl⟩ := len20 l0
  exact PS_buildS Hvad.zeroValue149 Hvad.runUnderlying149 (places_run (pl := [(0, 20), (20, 1), (21, 4), (25, 1), (26, 1), (27, 1), (28, 1)]) ⟨rfl, Hvad.sizeOf25, rfl, Hvad.sizeOf26, rfl, Hvad.sizeOf59, rfl, Hvad.sizeOf32, rfl, Hvad.sizeOf4, rfl, Hvad.sizeOf4, rfl, Hvad.sizeOf4, trivial⟩) (ps := [(0, .agg (ic .u8 [a0, a1, a2, a3, a4, a5, a6, a7, a8, a9, b0, b1, b2, b3, b4, b5, b6, b7, b8, b9]))]) (by simp only [List.map, h0]) (by kernel_rfl)
theorem PS_b152_01 {ρ : Nat → Value} {x0 x1 : Operand} {y0 : Int} (h0 : ev ρ x0 = .int .i32 y0) {y1 : List Int} (h1 : ev ρ x1 = .agg (ic .u64 y1)) (l1 : y1.length = 4) : PS Hvad.prog (.build 152 #[(0, x0), (1, x1)]) ρ (.agg (encS ⟨y0, y1, [0, 0, 0, 0], [0, 0, 0, 0], false⟩).toArray) := by
  obtain ⟨c0, c1, c2, c3, rfl⟩ := len4 l1
  exact PS_buildS Hvad.zeroValue152 Hvad.runUnderlying152 (places_run (pl := [(0, 1), (1, 4), (5, 4), (9, 4), (13, 1)]) ⟨rfl, Hvad.sizeOf21, rfl, Hvad.sizeOf59, rfl, Hvad.sizeOf59, rfl, Hvad.sizeOf59, rfl, Hvad.sizeOf4, trivial⟩) (ps := [(0, .int .i32 y0), (1, .agg (ic .u64 [c0, c1, c2, c3]))]) (by simp only [List.map, h0, h1]) (by kernel_rfl)
theorem PS_b173_0 {ρ : Nat → Value} {x0 : Operand} {y0 : Int} (h0 : ev ρ x0 = .int .u8 y0) : PS Hvad.prog (.build 173 #[(0, x0)]) ρ (.agg (encE ⟨y0, 0, 0, [0, 0, 0, 0], (none, 0, 0), false⟩).toArray) := by
  exact PS_buildS Hvad.zeroValue173 Hvad.runUnderlying173 (places_run (pl := [(0, 1), (1, 1), (2, 1), (3, 4), (7, 1), (8, 1)]) ⟨rfl, Hvad.sizeOf5, rfl, Hvad.sizeOf21, rfl, Hvad.sizeOf26, rfl, Hvad.sizeOf59, rfl, Hvad.sizeOf32, rfl, Hvad.sizeOf4, trivial⟩) (ps := [(0, .int .u8 y0)]) (by simp only [List.map, h0]) (by kernel_rfl)
theorem PS_b173_012 {ρ : Nat → Value} {x0 x1 x2 : Operand} {y0 : Int} (h0 : ev ρ x0 = .int .u8 y0) {y1 : Int} (h1 : ev ρ x1 = .int .i32 y1) {y2 : Int} (h2 : ev ρ x2 = .int .u64 y2) : PS Hvad.prog (.build 173 #[(0, x0), (1, x1), (2, x2)]) ρ (.agg (encE ⟨y0, y1, y2, [0, 0, 0, 0], (none, 0, 0), false⟩).toArray) := by
  exact PS_buildS Hvad.zeroValue173 Hvad.runUnderlying173 (places_run (pl := [(0, 1), (1, 1), (2, 1), (3, 4), (7, 1), (8, 1)]) ⟨rfl, Hvad.sizeOf5, rfl, Hvad.sizeOf21, rfl, Hvad.sizeOf26, rfl, Hvad.sizeOf59, rfl, Hvad.sizeOf32, rfl, Hvad.sizeOf4, trivial⟩) (ps := [(0, .int .u8 y0), (1, .int .i32 y1), (2, .int .u64 y2)]) (by simp only [List.map, h0, h1, h2]) (by kernel_rfl)
theorem PS_b173_013 {ρ : Nat → Value} {x0 x1 x3 : Operand} {y0 : Int} (h0 : ev ρ x0 = .int .u8 y0) {y1 : Int} (h1 : ev ρ x1 = .int .i32 y1) {y3 : List Int} (h3 : ev ρ x3 = .agg (ic .u64 y3)) (l3 : y3.length = 4) : PS Hvad.prog (.build 173 #[(0, x0), (1, x1), (3, x3)]) ρ (.agg (encE ⟨y0, y1, 0, y3, (none, 0, 0), false⟩).toArray) := by
  obtain ⟨c0, c1, c2, c3, rfl⟩ := len4 l3
  exact PS_buildS Hvad.zeroValue173 Hvad.runUnderlying173 (places_run (pl := [(0, 1), (1, 1), (2, 1), (3, 4), (7, 1), (8, 1)]) ⟨rfl, Hvad.sizeOf5, rfl, Hvad.sizeOf21, rfl, Hvad.sizeOf26, rfl, Hvad.sizeOf59, rfl, Hvad.sizeOf32, rfl, Hvad.sizeOf4, trivial⟩) (ps := [(0, .int .u8 y0), (1, .int .i32 y1), (3, .agg (ic .u64 [c0, c1, c2, c3]))]) (by simp only [List.map, h0, h1, h3]) (by kernel_rfl)
theorem PS_b173_014 {ρ : Nat → Value} {x0 x1 x4 : Operand} {y0 : Int} (h0 : ev ρ x0 = .int .u8 y0) {y1 : Int} (h1 : ev ρ x1 = .int .i32 y1) {p4 : Option Addr} {m4 c4 : Nat} (h4 : ev ρ x4 = .slice p4 m4 c4) : PS Hvad.prog (.build 173 #[(0, x0), (1, x1), (4, x4)]) ρ (.agg (encE ⟨y0, y1, 0, [0, 0, 0, 0], (p4, m4, c4), false⟩).toArray) := by
  exact PS_buildS Hvad.zeroValue173 Hvad.runUnderlying173 (places_run (pl := [(0, 1), (1, 1), (2, 1), (3, 4), (7, 1), (8, 1)]) ⟨rfl, Hvad.sizeOf5, rfl, Hvad.sizeOf21, rfl, Hvad.sizeOf26, rfl, Hvad.sizeOf59, rfl, Hvad.sizeOf32, rfl, Hvad.sizeOf4, trivial⟩) (ps := [(0, .int .u8 y0), (1, .int .i32 y1), (4, .slice p4 m4 c4)]) (by simp only [List.map, h0, h1, h4]) (by kernel_rfl)
theorem PS_b173_015 {ρ : Nat → Value} {x0 x1 x5 : Operand} {y0 : Int} (h0 : ev ρ x0 = .int .u8 y0) {y1 : Int} (h1 : ev ρ x1 = .int .i32 y1) {y5 : Bool} (h5 : ev ρ x5 = .bool y5) : PS Hvad.prog (.build 173 #[(0, x0), (1, x1), (5, x5)]) ρ (.agg (encE ⟨y0, y1, 0, [0, 0, 0, 0], (none, 0, 0), y5⟩).toArray) := by
  exact PS_buildS Hvad.zeroValue173 Hvad.runUnderlying173 (places_run (pl := [(0, 1), (1, 1), (2, 1), (3, 4), (7, 1), (8, 1)]) ⟨rfl, Hvad.sizeOf5, rfl, Hvad.sizeOf21, rfl, Hvad.sizeOf26, rfl, Hvad.sizeOf59, rfl, Hvad.sizeOf32, rfl, Hvad.sizeOf4, trivial⟩) (ps := [(0, .int .u8 y0), (1, .int .i32 y1), (5, .bool y5)]) (by simp only [List.map, h0, h1, h5]) (by kernel_rfl)
theorem PS_b173_02 {ρ : Nat → Value} {x0 x2 : Operand} {y0 : Int} (h0 : ev ρ x0 = .int .u8 y0) {y2 : Int} (h2 : ev ρ x2 = .int .u64 y2) : PS Hvad.prog (.build 173 #[(0, x0), (2, x2)]) ρ (.agg (encE ⟨y0, 0, y2, [0, 0, 0, 0], (none, 0, 0), false⟩).toArray) := by
  exact PS_buildS Hvad.zeroValue173 Hvad.runUnderlying173 (places_run (pl := [(0, 1), (1, 1), (2, 1), (3, 4), (7, 1), (8, 1)]) ⟨rfl, Hvad.sizeOf5, rfl, Hvad.sizeOf21, rfl, Hvad.sizeOf26, rfl, Hvad.sizeOf59, rfl, Hvad.sizeOf32, rfl, Hvad.sizeOf4, trivial⟩) (ps := [(0, .int .u8 y0), (2, .int .u64 y2)]) (by simp only [List.map, h0, h2]) (by kernel_rfl)
theorem PS_b305_01 {ρ : Nat → Value} {x0 x1 : Operand} {y0 : Int} (h0 : ev ρ x0 = .int .i32 y0) {y1 : List Int} (h1 : ev ρ x1 = .agg (ic .u64 y1)) (l1 : y1.length = 4) : PS Hvad.prog (.build 305 #[(0, x0), (1, x1)]) ρ (.agg (encT ⟨y0, y1, [0, 0, 0, 0]⟩).toArray) := by
  obtain ⟨c0, c1, c2, c3, rfl⟩ := len4 l1
  exact PS_buildS Hvad.zeroValue305 Hvad.runUnderlying305 (places_run (pl := [(0, 1), (1, 4), (5, 4)]) ⟨rfl, Hvad.sizeOf21, rfl, Hvad.sizeOf59, rfl, Hvad.sizeOf59, trivial⟩) (ps := [(0, .int .i32 y0), (1, .agg (ic .u64 [c0, c1, c2, c3]))]) (by simp only [List.map, h0, h1]) (by kernel_rfl)
theorem PS_b307_02 {ρ : Nat → Value} {x0 x2 : Operand} {y0 : List Int} (h0 : ev ρ x0 = .agg (ic .u8 y0)) (l0 : y0.length = 20) {p2 : Option Addr} {m2 c2 : Nat} (h2 : ev ρ x2 = .slice p2 m2 c2) : PS Hvad.prog (.build 307 #[(0, x0), (2, x2)]) ρ (.agg (encL ⟨y0, (none, 0, 0), (p2, m2, c2)⟩).toArray) := by
  obtain ⟨a0, a1, a2, a3, a4, a5, a6, a7, a8, a9, b0, b1, b2, b3, b4, b5, b6, b7, b8, b9, rfl⟩ := len20 l0
  exact PS_buildS Hvad.zeroValue307 Hvad.runUnderlying307 (places_run (pl := [(0, 20), (20, 1), (21, 1)]) ⟨rfl, Hvad.sizeOf25, rfl, Hvad.sizeOf29, rfl, Hvad.sizeOf32, trivial⟩) (ps := [(0, .agg (ic .u8 [a0, a1, a2, a3, a4, a5, a6, a7, a8, a9, b0, b1, b2, b3, b4, b5, b6, b7, b8, b9])), (2, .slice p2 m2 c2)]) (by simp only [List.map, h0, h2]) (by kernel_rfl)
end Go.Proofs.YgvadwGreat
