import Derived.Test.YgvacwGreatFwC
namespace Go.Proofs.YgvacwGreat
set_option linter.unusedSimpArgs false
set_option linter.unusedVariables false
def bXor8 (a b : Int) : Int := ((BitVec.ofInt 8 a ^^^ BitVec.ofInt 8 b).toNat : Int)
theorem bXor8_bd (a b : Int) : 0 ≤ bXor8 a b ∧ bXor8 a b ≤ 255 := by unfold bXor8; have := (BitVec.ofInt 8 a ^^^ BitVec.ofInt 8 b).isLt; omega
section
variable {P : Program} {ρ : Nat → Value} {x y : Operand} {t yt : TypeId} {a b : Int}
theorem PS_xor_u8 (hx : ev ρ x = .int .u8 a) (hy : ev ρ y = .int .u8 b) : PS P (.binOp .xor t x y yt) ρ (.int .u8 (bXor8 a b)) :=
  PS_bin hx hy fun w => by
    have := bXor8_bd a b
    have e : IntKind.u8.wrap (bXor8 a b) = bXor8 a b := wrap_u8n _ this.1 this.2
    unfold bXor8 at e
    simp only [binOp, al_ne, al_nt, al_i0, Op.intBits, Sem.run_pure, IntKind.bits]
    exact congrArg (fun n => Result.ok (Value.int .u8 n) w) e
theorem PS_shl_u8 {k' : IntKind} (m : Nat) (hx : ev ρ x = .int .u8 a) (hy : ev ρ y = .int k' b) (h0 : 0 ≤ b) (hm : min b.toNat 8 = m) : PS P (.binOp .shl t x y yt) ρ (.int .u8 ((a * 2 ^ m) % 256)) :=
  ⟨fun o w h => by
    have hg : (eqGuard .shl t x y (.int .u8 a) (.int k' b)).run P w = .ok () w := rfl
    have hb : ¬ b < 0 := by omega
    simp only [execOp, h, hx, hy, Sem.run_bind, hg, binOp, Op.shift, hb, al_i0, IntKind.bits, hm, wrap_u8, Sem.run_pure, Result.andThen_ok]⟩
theorem PS_com_u8 (hx : ev ρ x = .int .u8 a) : PS P (.unOp .xor t x) ρ (.int .u8 (bXor8 255 a)) :=
  ⟨fun o w h => by
    have := bXor8_bd 255 a
    have e : IntKind.u8.wrap (bXor8 255 a) = bXor8 255 a := wrap_u8n _ this.1 this.2
    unfold bXor8 at e
    simp only [execOp, h, Op.unary, hx, Op.intBits, IntKind.signed, IntKind.max, IntKind.bits, Sem.run_bind, Sem.run_pure, Result.andThen_ok, Bool.false_eq_true, al_i0]
    exact congrArg (fun n => Result.ok (Next.value (Value.int .u8 n)) w) e⟩
theorem PS_shr_u32 {k' : IntKind} (m : Nat) (hx : ev ρ x = .int .u32 a) (hy : ev ρ y = .int k' b) (h0 : 0 ≤ b) (hm : min b.toNat 32 = m) : PS P (.binOp .shr t x y yt) ρ (.int .u32 (a / 2 ^ m)) :=
  ⟨fun o w h => by
    have hg : (eqGuard .shr t x y (.int .u32 a) (.int k' b)).run P w = .ok () w := rfl
    have hb : ¬ b < 0 := by omega
    have e : a.fdiv (2 ^ m) = a / 2 ^ m := Int.fdiv_eq_ediv_of_nonneg _ (Int.le_of_lt (Int.pow_pos (by decide)))
    simp only [execOp, h, hx, hy, Sem.run_bind, hg, binOp, Op.shift, hb, al_i0, IntKind.bits, hm, e, Sem.run_pure, Result.andThen_ok]⟩
end
end Go.Proofs.YgvacwGreat
