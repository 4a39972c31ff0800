import Derived.Test.YgvacwGreatIk
namespace Go.Proofs.YgvacwGreat
set_option linter.unusedSimpArgs false
set_option linter.unusedVariables false
/-! what is seen of a chain -/
structure Vw where
  done : Bool
  statY : Bool
  depth : Int
  pc : Int
  gas : Int
  ref : Int
  self : List Int
  caller : List Int
  stack : SV
  mem : SV
  ret : SV
  nlogs : Int
def encVw (v : Vw) : List Value := .bool v.done :: .bool v.statY :: .int .u8 v.depth :: .int .u16 v.pc :: .int .u64 v.gas :: .int .u64 v.ref :: (v.self.map (Value.int .u8) ++ (v.caller.map (Value.int .u8) ++ [sv v.stack, sv v.mem, sv v.ret, .int .u16 v.nlogs]))
def vw0 : Vw := ⟨false, false, 0, 0, 0, 0, List.replicate 20 0, List.replicate 20 0, (none, 0, 0), (none, 0, 0), (none, 0, 0), 0⟩
theorem encVw_len {v : Vw} (h1 : v.self.length = 20) (h2 : v.caller.length = 20) : (encVw v).length = 50 := by simp [encVw, h1, h2]
theorem encVw_sz {v : Vw} (h1 : v.self.length = 20) (h2 : v.caller.length = 20) : (encVw v).toArray.size = 50 := by simpa using encVw_len h1 h2
theorem one_Vw (v : Vw) : ∀ u ∈ (encVw v).toArray.toList, u.oneCell' = true := by
  intro u hu
  simp only [encVw, List.mem_append, List.mem_map, List.mem_cons, List.not_mem_nil, al_of] at hu
  rcases hu with rfl | rfl | rfl | rfl | rfl | rfl | ⟨a, _, rfl⟩ | ⟨a, _, rfl⟩ | rfl | rfl | rfl | rfl <;> rfl
theorem PS_b44_0 {ρ : Nat → Value} {x0 : Operand} {q : Bool} (h0 : ev ρ x0 = .bool q) : PS Hvac.prog (.build 44 #[(0, x0)]) ρ (.agg (encVw { vw0 with done := q }).toArray) :=
  PS_buildS Hvac.zeroValue44 Hvac.runUnderlying44 (places_run (pl := [(0, 1), (1, 1), (2, 1), (3, 1), (4, 1), (5, 1), (6, 20), (26, 20), (46, 1), (47, 1), (48, 1), (49, 1)]) ⟨rfl, Hvac.sizeOf4, rfl, Hvac.sizeOf4, rfl, Hvac.sizeOf5, rfl, Hvac.sizeOf42, rfl, Hvac.sizeOf26, rfl, Hvac.sizeOf26, rfl, Hvac.sizeOf25, rfl, Hvac.sizeOf25, rfl, Hvac.sizeOf29, rfl, Hvac.sizeOf32, rfl, Hvac.sizeOf32, rfl, Hvac.sizeOf42, trivial⟩) (ps := [(0, .bool q)]) (by simp only [List.map, h0]) (by kernel_rfl)
theorem PS_b44_d {ρ : Nat → Value} {x0 x4 x5 x11 x10 : Operand} {q : Bool} {g r n : Int} {p10 : Option Addr} {n10 c10 : Nat} (h0 : ev ρ x0 = .bool q) (h4 : ev ρ x4 = .int .u64 g) (h5 : ev ρ x5 = .int .u64 r) (h11 : ev ρ x11 = .int .u16 n) (h10 : ev ρ x10 = .slice p10 n10 c10) : PS Hvac.prog (.build 44 #[(0, x0), (4, x4), (5, x5), (11, x11), (10, x10)]) ρ (.agg (encVw { vw0 with done := q, gas := g, ref := r, nlogs := n, ret := (p10, n10, c10) }).toArray) :=
  PS_buildS Hvac.zeroValue44 Hvac.runUnderlying44 (places_run (pl := [(0, 1), (1, 1), (2, 1), (3, 1), (4, 1), (5, 1), (6, 20), (26, 20), (46, 1), (47, 1), (48, 1), (49, 1)]) ⟨rfl, Hvac.sizeOf4, rfl, Hvac.sizeOf4, rfl, Hvac.sizeOf5, rfl, Hvac.sizeOf42, rfl, Hvac.sizeOf26, rfl, Hvac.sizeOf26, rfl, Hvac.sizeOf25, rfl, Hvac.sizeOf25, rfl, Hvac.sizeOf29, rfl, Hvac.sizeOf32, rfl, Hvac.sizeOf32, rfl, Hvac.sizeOf42, trivial⟩) (ps := [(0, .bool q), (4, .int .u64 g), (5, .int .u64 r), (11, .int .u16 n), (10, .slice p10 n10 c10)]) (by simp only [List.map, h0, h4, h5, h11, h10]) (by kernel_rfl)
theorem PS_b44_r {ρ : Nat → Value} {x1 x2 x3 x4 x5 x6 x7 x9 x10 x11 : Operand} {q : Bool} {d pc g r n : Int} {A B : List Int} {p9 p10 : Option Addr} {n9 c9 n10 c10 : Nat} (h1 : ev ρ x1 = .bool q) (h2 : ev ρ x2 = .int .u8 d) (h3 : ev ρ x3 = .int .u16 pc) (h4 : ev ρ x4 = .int .u64 g) (h5 : ev ρ x5 = .int .u64 r) (h6 : ev ρ x6 = .agg (ic .u8 A)) (hA : A.length = 20) (h7 : ev ρ x7 = .agg (ic .u8 B)) (hB : B.length = 20) (h9 : ev ρ x9 = .slice p9 n9 c9) (h10 : ev ρ x10 = .slice p10 n10 c10) (h11 : ev ρ x11 = .int .u16 n) :
    PS Hvac.prog (.build 44 #[(1, x1), (2, x2), (3, x3), (4, x4), (5, x5), (6, x6), (7, x7), (9, x9), (10, x10), (11, x11)]) ρ (.agg (encVw ⟨false, q, d, pc, g, r, A, B, (none, 0, 0), (p9, n9, c9), (p10, n10, c10), n⟩).toArray) := by
  obtain ⟨a0, a1, a2, a3, a4, a5, a6, a7, a8, a9, a10, a11, a12, a13, a14, a15, a16, a17, a18, a19, rfl⟩ := len20 hA
  obtain ⟨e0, e1, e2, e3, e4, e5, e6, e7, e8, e9, e10, e11, e12, e13, e14, e15, e16, e17, e18, e19, rfl⟩ := len20 hB
  exact PS_buildS Hvac.zeroValue44 Hvac.runUnderlying44 (places_run (pl := [(0, 1), (1, 1), (2, 1), (3, 1), (4, 1), (5, 1), (6, 20), (26, 20), (46, 1), (47, 1), (48, 1), (49, 1)]) ⟨rfl, Hvac.sizeOf4, rfl, Hvac.sizeOf4, rfl, Hvac.sizeOf5, rfl, Hvac.sizeOf42, rfl, Hvac.sizeOf26, rfl, Hvac.sizeOf26, rfl, Hvac.sizeOf25, rfl, Hvac.sizeOf25, rfl, Hvac.sizeOf29, rfl, Hvac.sizeOf32, rfl, Hvac.sizeOf32, rfl, Hvac.sizeOf42, trivial⟩) (ps := [(1, .bool q), (2, .int .u8 d), (3, .int .u16 pc), (4, .int .u64 g), (5, .int .u64 r), (6, .agg (ic .u8 [a0, a1, a2, a3, a4, a5, a6, a7, a8, a9, a10, a11, a12, a13, a14, a15, a16, a17, a18, a19])), (7, .agg (ic .u8 [e0, e1, e2, e3, e4, e5, e6, e7, e8, e9, e10, e11, e12, e13, e14, e15, e16, e17, e18, e19])), (9, .slice p9 n9 c9), (10, .slice p10 n10 c10), (11, .int .u16 n)]) (by simp only [List.map, h1, h2, h3, h4, h5, h6, h7, h9, h10, h11]) (by kernel_rfl)
/-- the state as seen: the frames' stack words by `be32N` -/
structure VwR [Om] (w : World) (v : Vw) (st : List Nat) (mem ret : List Int) : Prop where
  stack : PL encW32 32 28 w v.stack (st.map be32N)
  mem : PB w v.mem mem
  ret : PB w v.ret ret

end Go.Proofs.YgvacwGreat
