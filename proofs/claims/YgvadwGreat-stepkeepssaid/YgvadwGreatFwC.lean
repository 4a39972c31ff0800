import Derived.Test.YgvadwGreatFwB
import Derived.Laws.Pointers
import Derived.Laws.StructEq
import Derived.Laws.Cover3
set_option linter.unusedSimpArgs false
set_option linter.unusedVariables false
namespace Go.Proofs.YgvadwGreat

theorem wrap_u8 (n : Int) : IntKind.u8.wrap n = n % 256 := by simp [IntKind.wrap, IntKind.bits, IntKind.signed]
theorem wrap_u8n (n : Int) (h0 : 0 ≤ n) (h1 : n ≤ 255) : IntKind.u8.wrap n = n := by
  rw [wrap_u8]; omega
theorem wrap_u16 (n : Int) : IntKind.u16.wrap n = n % 65536 := by simp [IntKind.wrap, IntKind.bits, IntKind.signed]
theorem wrap_u16n (n : Int) (h0 : 0 ≤ n) (h1 : n ≤ 65535) : IntKind.u16.wrap n = n := by
  rw [wrap_u16]; omega
theorem wrap_u32 (n : Int) : IntKind.u32.wrap n = n % 4294967296 := by simp [IntKind.wrap, IntKind.bits, IntKind.signed]
theorem wrap_u32n (n : Int) (h0 : 0 ≤ n) (h1 : n ≤ 4294967295) : IntKind.u32.wrap n = n := by
  rw [wrap_u32]; omega
theorem wrap_u64 (n : Int) : IntKind.u64.wrap n = n % 18446744073709551616 := by simp [IntKind.wrap, IntKind.bits, IntKind.signed]
theorem wrap_u64n (n : Int) (h0 : 0 ≤ n) (h1 : n ≤ 18446744073709551615) : IntKind.u64.wrap n = n := by
  rw [wrap_u64]; omega
theorem wrap_i8 (n : Int) : IntKind.i8.wrap n = if n % 256 ≥ 128 then n % 256 - 256 else n % 256 := by simp [IntKind.wrap, IntKind.bits, IntKind.signed]
theorem wrap_i8n (n : Int) (h0 : -128 ≤ n) (h1 : n ≤ 127) : IntKind.i8.wrap n = n := by
  rw [wrap_i8]; split <;> omega
theorem wrap_i32 (n : Int) : IntKind.i32.wrap n = if n % 4294967296 ≥ 2147483648 then n % 4294967296 - 4294967296 else n % 4294967296 := by simp [IntKind.wrap, IntKind.bits, IntKind.signed]
theorem wrap_i32n (n : Int) (h0 : -2147483648 ≤ n) (h1 : n ≤ 2147483647) : IntKind.i32.wrap n = n := by
  rw [wrap_i32]; split <;> omega
theorem wrap_i64 (n : Int) : IntKind.i64.wrap n = if n % 18446744073709551616 ≥ 9223372036854775808 then n % 18446744073709551616 - 18446744073709551616 else n % 18446744073709551616 := by simp [IntKind.wrap, IntKind.bits, IntKind.signed]
theorem wrap_i64n (n : Int) (h0 : -9223372036854775808 ≤ n) (h1 : n ≤ 9223372036854775807) : IntKind.i64.wrap n = n := by
  rw [wrap_i64]; split <;> omega

def bAnd (a b : Int) : Int := ((BitVec.ofInt 64 a &&& BitVec.ofInt 64 b).toNat : Int)
def bOr (a b : Int) : Int := ((BitVec.ofInt 64 a ||| BitVec.ofInt 64 b).toNat : Int)
def bXor (a b : Int) : Int := ((BitVec.ofInt 64 a ^^^ BitVec.ofInt 64 b).toNat : Int)
def bOr8 (a b : Int) : Int := ((BitVec.ofInt 8 a ||| BitVec.ofInt 8 b).toNat : Int)
def bAnd8 (a b : Int) : Int := ((BitVec.ofInt 8 a &&& BitVec.ofInt 8 b).toNat : Int)
theorem bAnd_bd (a b : Int) : 0 ≤ bAnd a b ∧ bAnd a b ≤ 18446744073709551615 := by unfold bAnd; have := (BitVec.ofInt 64 a &&& BitVec.ofInt 64 b).isLt; omega
theorem bOr_bd (a b : Int) : 0 ≤ bOr a b ∧ bOr a b ≤ 18446744073709551615 := by unfold bOr; have := (BitVec.ofInt 64 a ||| BitVec.ofInt 64 b).isLt; omega
theorem bXor_bd (a b : Int) : 0 ≤ bXor a b ∧ bXor a b ≤ 18446744073709551615 := by unfold bXor; have := (BitVec.ofInt 64 a ^^^ BitVec.ofInt 64 b).isLt; omega
theorem bOr8_bd (a b : Int) : 0 ≤ bOr8 a b ∧ bOr8 a b ≤ 255 := by unfold bOr8; have := (BitVec.ofInt 8 a ||| BitVec.ofInt 8 b).isLt; omega
theorem bAnd8_bd (a b : Int) : 0 ≤ bAnd8 a b ∧ bAnd8 a b ≤ 255 := by unfold bAnd8; have := (BitVec.ofInt 8 a &&& BitVec.ofInt 8 b).isLt; omega

/-- A pure step: whatever the world, the operation gives v and leaves the world. -/
structure PS (P : Program) (op : Op) (ρ : Nat → Value) (v : Value) : Prop where
  run : ∀ (o : Oper) (w : World), o.op = op → (execOp (ev ρ) o).run P w = .ok (.value v) w

theorem WO_p {P : Program} {ops : Array Oper} {Q : Post} {d : Nat} {op : Op} {ty : TypeId} {pos : String} {af : Array Edge} {os : List Oper} {ρ : Nat → Value} {w : World} {v : Value}
    (hp : PS P op ρ v) (h : WO P ops Q os (upd ρ d v) w) : WO P ops Q (⟨some d, op, ty, pos, af, none⟩ :: os) ρ w := by
  refine WO_cons ?_
  simp only [stepo, hp.run ⟨some d, op, ty, pos, af, none⟩ w rfl]; exact h

section
variable {P : Program} {d : Nat} {t yt ty : TypeId} {ρ : Nat → Value} {x y : Operand} {a b : Int} {k : IntKind}

theorem PS_move {v : Value} (hx : ev ρ x = v) : PS P (.move x) ρ v := ⟨fun o w h => by simp only [execOp, h, hx, Sem.run_pure]⟩
theorem PS_assign {v : Value} (hx : ev ρ x = v) : PS P (.assign x) ρ v := ⟨fun o w h => by simp only [execOp, h, hx, Sem.run_pure]⟩
theorem PS_pickT {c : Operand} {q r : Bool} (hc : ev ρ c = .bool q) (hb : q = true) (hv : ev ρ x = .bool r) : PS P (.pick c x y) ρ (.bool r) :=
  ⟨fun o w h => by subst hb; simp only [execOp, h, hc, hv, asBool, Sem.run_bind, Sem.run_pure, Result.andThen_ok, if_true]⟩
theorem PS_pickF {c : Operand} {q r : Bool} (hc : ev ρ c = .bool q) (hb : q = false) (hv : ev ρ y = .bool r) : PS P (.pick c x y) ρ (.bool r) :=
  ⟨fun o w h => by subst hb; simp only [execOp, h, hc, hv, asBool, Sem.run_bind, Sem.run_pure, Result.andThen_ok, Bool.false_eq_true, al_i0]⟩
theorem PS_extract {i : Nat} {us : Array Value} {v : Value} (hx : ev ρ x = .tuple us) (hv : us[i]? = some v) : PS P (.extract x i) ρ v :=
  ⟨fun o w h => by simp only [execOp, h, Instr.extract, hx, hv, Sem.run_bind, Sem.run_pure, Result.andThen_ok]⟩
theorem PS_not {q : Bool} (hx : ev ρ x = .bool q) : PS P (.unOp .not t x) ρ (.bool !q) :=
  ⟨fun o w h => by simp only [execOp, h, Op.unary, hx, Sem.run_bind, Sem.run_pure, Result.andThen_ok]⟩
theorem PS_nilCheck {p : Addr} (hx : ev ρ x = .pointer (some p)) : PS P (.nilCheck x) ρ (.pointer (some p)) :=
  ⟨fun o w h => by simp only [execOp, h, hx, Sem.run_pure]⟩
theorem PS_bin {op : BinOp} {v : Value} (hx : ev ρ x = .int k a) (hy : ev ρ y = .int k b) (hv : ∀ w, (binOp op t (.int k a) (.int k b)).run P w = .ok v w) : PS P (.binOp op t x y yt) ρ v :=
  ⟨fun o w h => by
    have hg : (eqGuard op t x y (.int k a) (.int k b)).run P w = .ok () w := by
      unfold eqGuard; split <;> rfl
    simp only [execOp, h, hx, hy, Sem.run_bind, hg, hv, Sem.run_pure, Result.andThen_ok]⟩
theorem PS_binG {op : BinOp} {vx vy v : Value} (hx : ev ρ x = vx) (hy : ev ρ y = vy) (hg : ∀ w, (eqGuard op t x y vx vy).run P w = .ok () w) (hb : ∀ w, (binOp op t vx vy).run P w = .ok v w) : PS P (.binOp op t x y yt) ρ v :=
  ⟨fun o w h => by simp only [execOp, h, hx, hy, Sem.run_bind, hg, hb, Sem.run_pure, Result.andThen_ok]⟩
theorem PS_convInt {s e : TypeId} {k' : IntKind} {ds : TypeDesc} (hs : ∀ w, (underlying s).run P w = .ok ds w) (he : ∀ w, (underlying e).run P w = .ok (.int k) w) (hx : ev ρ x = .int k' a) : PS P (.convert s e x) ρ (.int k (k.wrap a)) :=
  ⟨fun o w h => by simp only [execOp, h, convert, hs, he, hx, Sem.run_bind, Sem.run_pure, Result.andThen_ok, Conv.intToInt]⟩
theorem PS_fieldAddr {s f bb o : Nat} {fs : Array Field} {fl : Field} {m : Nat} (off : Nat) (hU : ∀ w, (underlying s).run P w = .ok (.struct fs) w) (hf : fs[f]? = some fl) (hk : ∀ w, (Go.sizeOf fl.type).run P w = .ok (m + 1) w)
    (ho : fl.offset = off) (hx : ev ρ x = .pointer (some ⟨bb, o, none⟩)) : PS P (.fieldAddr s x f) ρ (.pointer (some ⟨bb, o + off, none⟩)) :=
  ⟨fun oo w h => by subst ho; simp only [execOp, h, hx, Instr.fieldAt, Instr.sureAddr, fieldPlace, Sem.run_bind, Sem.run_pure, Result.andThen_ok, hU, hf, hk, Nat.add_eq_zero_iff, Nat.one_ne_zero, al_af, al_i0, add_mk]⟩
theorem PS_indexA {bb o n e s : Nat} {i : Int} (hU : ∀ w, (underlying t).run P w = .ok (.array n e) w) (hS : ∀ w, (Go.sizeOf e).run P w = .ok s w)
    (hx : ev ρ x = .pointer (some ⟨bb, o, none⟩)) (hy : ev ρ y = .int k i) (h0 : 0 ≤ i) (h1 : i < n) : PS P (.indexAddr t x y) ρ (.pointer (some ⟨bb, o + i.toNat * s, none⟩)) :=
  ⟨fun oo w h => by simp only [execOp, h, hx, hy, Instr.indexAt, Instr.sureAddr, asIntOf, Sem.run_bind, Sem.run_pure, Result.andThen_ok, hU, hS, h0, h1, al_as, if_true, add_mk]⟩
theorem PS_indexS {bb o n c e s : Nat} {i : Int} (hU : ∀ w, (underlying t).run P w = .ok (.slice e) w) (hS : ∀ w, (Go.sizeOf e).run P w = .ok s w)
    (hx : ev ρ x = .slice (some ⟨bb, o, none⟩) n c) (hy : ev ρ y = .int k i) (h0 : 0 ≤ i) (h1 : i < n) : PS P (.indexAddr t x y) ρ (.pointer (some ⟨bb, o + i.toNat * s, none⟩)) :=
  ⟨fun oo w h => by simp only [execOp, h, hx, hy, Instr.indexAt, asIntOf, Sem.run_bind, Sem.run_pure, Result.andThen_ok, hU, hS, h0, h1, al_as, if_true, add_mk]⟩
theorem PS_lenS {e : Nat} {p : Option Addr} {n c : Nat} (hU : ∀ w, (underlying t).run P w = .ok (.slice e) w) (hx : ev ρ x = .slice p n c) : PS P (.call ⟨.builtin .len, #[x], #[t]⟩) ρ (.int .i64 n) :=
  ⟨fun o w h => by simp [execOp, h, resolve, invoke, builtin, Builtin.len_, hU, hx, goInt]⟩
theorem PS_lenA {e m : Nat} (hU : ∀ w, (underlying t).run P w = .ok (.array m e) w) : PS P (.call ⟨.builtin .len, #[x], #[t]⟩) ρ (.int .i64 m) :=
  ⟨fun o w h => by simp [execOp, h, resolve, invoke, builtin, Builtin.len_, hU, goInt]⟩
theorem PS_max {ts : Array TypeId} (hx : ev ρ x = .int k a) (hy : ev ρ y = .int k b) : PS P (.call ⟨.builtin .max, #[x, y], ts⟩) ρ (.int k (if b > a then b else a)) :=
  ⟨fun o w h => by simp [execOp, h, resolve, invoke, builtin, Builtin.max_, Builtin.max2, hx, hy]⟩
theorem PS_min {ts : Array TypeId} (hx : ev ρ x = .int k a) (hy : ev ρ y = .int k b) : PS P (.call ⟨.builtin .min, #[x, y], ts⟩) ρ (.int k (if b < a then b else a)) :=
  ⟨fun o w h => by simp [execOp, h, resolve, invoke, builtin, Builtin.min_, Builtin.min2, hx, hy]⟩
theorem PS_arrayAt {n e : Nat} {p : Option Addr} {l c : Nat} (hU : ∀ w, (underlying t).run P w = .ok (.array n e) w) (hx : ev ρ x = .slice p l c) (hn : n ≤ l) : PS P (.sliceToArrayPointer t x) ρ (.pointer p) :=
  ⟨fun o w h => by simp only [execOp, h, Instr.arrayAt, hU, hx, Sem.run_bind, Sem.run_pure, Result.andThen_ok, Nat.not_lt.2 hn, al_i0]⟩

theorem PS_add_u8n (hx : ev ρ x = .int .u8 a) (hy : ev ρ y = .int .u8 b) (h0 : 0 ≤ a + b) (h1 : a + b ≤ 255) : PS P (.binOp .add t x y yt) ρ (.int .u8 (a + b)) :=
  PS_bin hx hy fun w => by simp only [binOp, al_ne, al_nt, al_i0, Op.intArith, wrap_u8n _ h0 h1, Sem.run_pure]
theorem PS_add_u8w (hx : ev ρ x = .int .u8 a) (hy : ev ρ y = .int .u8 b) : PS P (.binOp .add t x y yt) ρ (.int .u8 ((a + b) % 256)) :=
  PS_bin hx hy fun w => by simp only [binOp, al_ne, al_nt, al_i0, Op.intArith, wrap_u8, Sem.run_pure]
theorem PS_add_u16n (hx : ev ρ x = .int .u16 a) (hy : ev ρ y = .int .u16 b) (h0 : 0 ≤ a + b) (h1 : a + b ≤ 65535) : PS P (.binOp .add t x y yt) ρ (.int .u16 (a + b)) :=
  PS_bin hx hy fun w => by simp only [binOp, al_ne, al_nt, al_i0, Op.intArith, wrap_u16n _ h0 h1, Sem.run_pure]
theorem PS_add_u16w (hx : ev ρ x = .int .u16 a) (hy : ev ρ y = .int .u16 b) : PS P (.binOp .add t x y yt) ρ (.int .u16 ((a + b) % 65536)) :=
  PS_bin hx hy fun w => by simp only [binOp, al_ne, al_nt, al_i0, Op.intArith, wrap_u16, Sem.run_pure]
theorem PS_add_u32n (hx : ev ρ x = .int .u32 a) (hy : ev ρ y = .int .u32 b) (h0 : 0 ≤ a + b) (h1 : a + b ≤ 4294967295) : PS P (.binOp .add t x y yt) ρ (.int .u32 (a + b)) :=
  PS_bin hx hy fun w => by simp only [binOp, al_ne, al_nt, al_i0, Op.intArith, wrap_u32n _ h0 h1, Sem.run_pure]
theorem PS_add_u32w (hx : ev ρ x = .int .u32 a) (hy : ev ρ y = .int .u32 b) : PS P (.binOp .add t x y yt) ρ (.int .u32 ((a + b) % 4294967296)) :=
  PS_bin hx hy fun w => by simp only [binOp, al_ne, al_nt, al_i0, Op.intArith, wrap_u32, Sem.run_pure]
theorem PS_add_u64n (hx : ev ρ x = .int .u64 a) (hy : ev ρ y = .int .u64 b) (h0 : 0 ≤ a + b) (h1 : a + b ≤ 18446744073709551615) : PS P (.binOp .add t x y yt) ρ (.int .u64 (a + b)) :=
  PS_bin hx hy fun w => by simp only [binOp, al_ne, al_nt, al_i0, Op.intArith, wrap_u64n _ h0 h1, Sem.run_pure]
theorem PS_add_u64w (hx : ev ρ x = .int .u64 a) (hy : ev ρ y = .int .u64 b) : PS P (.binOp .add t x y yt) ρ (.int .u64 ((a + b) % 18446744073709551616)) :=
  PS_bin hx hy fun w => by simp only [binOp, al_ne, al_nt, al_i0, Op.intArith, wrap_u64, Sem.run_pure]
theorem PS_add_i8n (hx : ev ρ x = .int .i8 a) (hy : ev ρ y = .int .i8 b) (h0 : -128 ≤ a + b) (h1 : a + b ≤ 127) : PS P (.binOp .add t x y yt) ρ (.int .i8 (a + b)) :=
  PS_bin hx hy fun w => by simp only [binOp, al_ne, al_nt, al_i0, Op.intArith, wrap_i8n _ h0 h1, Sem.run_pure]
theorem PS_add_i8w (hx : ev ρ x = .int .i8 a) (hy : ev ρ y = .int .i8 b) : PS P (.binOp .add t x y yt) ρ (.int .i8 (IntKind.i8.wrap (a + b))) :=
  PS_bin hx hy fun w => by simp only [binOp, al_ne, al_nt, al_i0, Op.intArith, Sem.run_pure]
theorem PS_add_i32n (hx : ev ρ x = .int .i32 a) (hy : ev ρ y = .int .i32 b) (h0 : -2147483648 ≤ a + b) (h1 : a + b ≤ 2147483647) : PS P (.binOp .add t x y yt) ρ (.int .i32 (a + b)) :=
  PS_bin hx hy fun w => by simp only [binOp, al_ne, al_nt, al_i0, Op.intArith, wrap_i32n _ h0 h1, Sem.run_pure]
theorem PS_add_i32w (hx : ev ρ x = .int .i32 a) (hy : ev ρ y = .int .i32 b) : PS P (.binOp .add t x y yt) ρ (.int .i32 (IntKind.i32.wrap (a + b))) :=
  PS_bin hx hy fun w => by simp only [binOp, al_ne, al_nt, al_i0, Op.intArith, Sem.run_pure]
theorem PS_add_i64n (hx : ev ρ x = .int .i64 a) (hy : ev ρ y = .int .i64 b) (h0 : -9223372036854775808 ≤ a + b) (h1 : a + b ≤ 9223372036854775807) : PS P (.binOp .add t x y yt) ρ (.int .i64 (a + b)) :=
  PS_bin hx hy fun w => by simp only [binOp, al_ne, al_nt, al_i0, Op.intArith, wrap_i64n _ h0 h1, Sem.run_pure]
theorem PS_add_i64w (hx : ev ρ x = .int .i64 a) (hy : ev ρ y = .int .i64 b) : PS P (.binOp .add t x y yt) ρ (.int .i64 (IntKind.i64.wrap (a + b))) :=
  PS_bin hx hy fun w => by simp only [binOp, al_ne, al_nt, al_i0, Op.intArith, Sem.run_pure]
theorem PS_sub_u8n (hx : ev ρ x = .int .u8 a) (hy : ev ρ y = .int .u8 b) (h0 : 0 ≤ a - b) (h1 : a - b ≤ 255) : PS P (.binOp .sub t x y yt) ρ (.int .u8 (a - b)) :=
  PS_bin hx hy fun w => by simp only [binOp, al_ne, al_nt, al_i0, Op.intArith, wrap_u8n _ h0 h1, Sem.run_pure]
theorem PS_sub_u8w (hx : ev ρ x = .int .u8 a) (hy : ev ρ y = .int .u8 b) : PS P (.binOp .sub t x y yt) ρ (.int .u8 ((a - b) % 256)) :=
  PS_bin hx hy fun w => by simp only [binOp, al_ne, al_nt, al_i0, Op.intArith, wrap_u8, Sem.run_pure]
theorem PS_sub_u16n (hx : ev ρ x = .int .u16 a) (hy : ev ρ y = .int .u16 b) (h0 : 0 ≤ a - b) (h1 : a - b ≤ 65535) : PS P (.binOp .sub t x y yt) ρ (.int .u16 (a - b)) :=
  PS_bin hx hy fun w => by simp only [binOp, al_ne, al_nt, al_i0, Op.intArith, wrap_u16n _ h0 h1, Sem.run_pure]
theorem PS_sub_u16w (hx : ev ρ x = .int .u16 a) (hy : ev ρ y = .int .u16 b) : PS P (.binOp .sub t x y yt) ρ (.int .u16 ((a - b) % 65536)) :=
  PS_bin hx hy fun w => by simp only [binOp, al_ne, al_nt, al_i0, Op.intArith, wrap_u16, Sem.run_pure]
theorem PS_sub_u32n (hx : ev ρ x = .int .u32 a) (hy : ev ρ y = .int .u32 b) (h0 : 0 ≤ a - b) (h1 : a - b ≤ 4294967295) : PS P (.binOp .sub t x y yt) ρ (.int .u32 (a - b)) :=
  PS_bin hx hy fun w => by simp only [binOp, al_ne, al_nt, al_i0, Op.intArith, wrap_u32n _ h0 h1, Sem.run_pure]
theorem PS_sub_u32w (hx : ev ρ x = .int .u32 a) (hy : ev ρ y = .int .u32 b) : PS P (.binOp .sub t x y yt) ρ (.int .u32 ((a - b) % 4294967296)) :=
  PS_bin hx hy fun w => by simp only [binOp, al_ne, al_nt, al_i0, Op.intArith, wrap_u32, Sem.run_pure]
theorem PS_sub_u64n (hx : ev ρ x = .int .u64 a) (hy : ev ρ y = .int .u64 b) (h0 : 0 ≤ a - b) (h1 : a - b ≤ 18446744073709551615) : PS P (.binOp .sub t x y yt) ρ (.int .u64 (a - b)) :=
  PS_bin hx hy fun w => by simp only [binOp, al_ne, al_nt, al_i0, Op.intArith, wrap_u64n _ h0 h1, Sem.run_pure]
theorem PS_sub_u64w (hx : ev ρ x = .int .u64 a) (hy : ev ρ y = .int .u64 b) : PS P (.binOp .sub t x y yt) ρ (.int .u64 ((a - b) % 18446744073709551616)) :=
  PS_bin hx hy fun w => by simp only [binOp, al_ne, al_nt, al_i0, Op.intArith, wrap_u64, Sem.run_pure]
theorem PS_sub_i8n (hx : ev ρ x = .int .i8 a) (hy : ev ρ y = .int .i8 b) (h0 : -128 ≤ a - b) (h1 : a - b ≤ 127) : PS P (.binOp .sub t x y yt) ρ (.int .i8 (a - b)) :=
  PS_bin hx hy fun w => by simp only [binOp, al_ne, al_nt, al_i0, Op.intArith, wrap_i8n _ h0 h1, Sem.run_pure]
theorem PS_sub_i8w (hx : ev ρ x = .int .i8 a) (hy : ev ρ y = .int .i8 b) : PS P (.binOp .sub t x y yt) ρ (.int .i8 (IntKind.i8.wrap (a - b))) :=
  PS_bin hx hy fun w => by simp only [binOp, al_ne, al_nt, al_i0, Op.intArith, Sem.run_pure]
theorem PS_sub_i32n (hx : ev ρ x = .int .i32 a) (hy : ev ρ y = .int .i32 b) (h0 : -2147483648 ≤ a - b) (h1 : a - b ≤ 2147483647) : PS P (.binOp .sub t x y yt) ρ (.int .i32 (a - b)) :=
  PS_bin hx hy fun w => by simp only [binOp, al_ne, al_nt, al_i0, Op.intArith, wrap_i32n _ h0 h1, Sem.run_pure]
theorem PS_sub_i32w (hx : ev ρ x = .int .i32 a) (hy : ev ρ y = .int .i32 b) : PS P (.binOp .sub t x y yt) ρ (.int .i32 (IntKind.i32.wrap (a - b))) :=
  PS_bin hx hy fun w => by simp only [binOp, al_ne, al_nt, al_i0, Op.intArith, Sem.run_pure]
theorem PS_sub_i64n (hx : ev ρ x = .int .i64 a) (hy : ev ρ y = .int .i64 b) (h0 : -9223372036854775808 ≤ a - b) (h1 : a - b ≤ 9223372036854775807) : PS P (.binOp .sub t x y yt) ρ (.int .i64 (a - b)) :=
  PS_bin hx hy fun w => by simp only [binOp, al_ne, al_nt, al_i0, Op.intArith, wrap_i64n _ h0 h1, Sem.run_pure]
theorem PS_sub_i64w (hx : ev ρ x = .int .i64 a) (hy : ev ρ y = .int .i64 b) : PS P (.binOp .sub t x y yt) ρ (.int .i64 (IntKind.i64.wrap (a - b))) :=
  PS_bin hx hy fun w => by simp only [binOp, al_ne, al_nt, al_i0, Op.intArith, Sem.run_pure]
theorem PS_mul_u8n (hx : ev ρ x = .int .u8 a) (hy : ev ρ y = .int .u8 b) (h0 : 0 ≤ a * b) (h1 : a * b ≤ 255) : PS P (.binOp .mul t x y yt) ρ (.int .u8 (a * b)) :=
  PS_bin hx hy fun w => by simp only [binOp, al_ne, al_nt, al_i0, Op.intArith, wrap_u8n _ h0 h1, Sem.run_pure]
theorem PS_mul_u8w (hx : ev ρ x = .int .u8 a) (hy : ev ρ y = .int .u8 b) : PS P (.binOp .mul t x y yt) ρ (.int .u8 ((a * b) % 256)) :=
  PS_bin hx hy fun w => by simp only [binOp, al_ne, al_nt, al_i0, Op.intArith, wrap_u8, Sem.run_pure]
theorem PS_mul_u16n (hx : ev ρ x = .int .u16 a) (hy : ev ρ y = .int .u16 b) (h0 : 0 ≤ a * b) (h1 : a * b ≤ 65535) : PS P (.binOp .mul t x y yt) ρ (.int .u16 (a * b)) :=
  PS_bin hx hy fun w => by simp only [binOp, al_ne, al_nt, al_i0, Op.intArith, wrap_u16n _ h0 h1, Sem.run_pure]
theorem PS_mul_u16w (hx : ev ρ x = .int .u16 a) (hy : ev ρ y = .int .u16 b) : PS P (.binOp .mul t x y yt) ρ (.int .u16 ((a * b) % 65536)) :=
  PS_bin hx hy fun w => by simp only [binOp, al_ne, al_nt, al_i0, Op.intArith, wrap_u16, Sem.run_pure]
theorem PS_mul_u32n (hx : ev ρ x = .int .u32 a) (hy : ev ρ y = .int .u32 b) (h0 : 0 ≤ a * b) (h1 : a * b ≤ 4294967295) : PS P (.binOp .mul t x y yt) ρ (.int .u32 (a * b)) :=
  PS_bin hx hy fun w => by simp only [binOp, al_ne, al_nt, al_i0, Op.intArith, wrap_u32n _ h0 h1, Sem.run_pure]
theorem PS_mul_u32w (hx : ev ρ x = .int .u32 a) (hy : ev ρ y = .int .u32 b) : PS P (.binOp .mul t x y yt) ρ (.int .u32 ((a * b) % 4294967296)) :=
  PS_bin hx hy fun w => by simp only [binOp, al_ne, al_nt, al_i0, Op.intArith, wrap_u32, Sem.run_pure]
theorem PS_mul_u64n (hx : ev ρ x = .int .u64 a) (hy : ev ρ y = .int .u64 b) (h0 : 0 ≤ a * b) (h1 : a * b ≤ 18446744073709551615) : PS P (.binOp .mul t x y yt) ρ (.int .u64 (a * b)) :=
  PS_bin hx hy fun w => by simp only [binOp, al_ne, al_nt, al_i0, Op.intArith, wrap_u64n _ h0 h1, Sem.run_pure]
theorem PS_mul_u64w (hx : ev ρ x = .int .u64 a) (hy : ev ρ y = .int .u64 b) : PS P (.binOp .mul t x y yt) ρ (.int .u64 ((a * b) % 18446744073709551616)) :=
  PS_bin hx hy fun w => by simp only [binOp, al_ne, al_nt, al_i0, Op.intArith, wrap_u64, Sem.run_pure]
theorem PS_mul_i8n (hx : ev ρ x = .int .i8 a) (hy : ev ρ y = .int .i8 b) (h0 : -128 ≤ a * b) (h1 : a * b ≤ 127) : PS P (.binOp .mul t x y yt) ρ (.int .i8 (a * b)) :=
  PS_bin hx hy fun w => by simp only [binOp, al_ne, al_nt, al_i0, Op.intArith, wrap_i8n _ h0 h1, Sem.run_pure]
theorem PS_mul_i8w (hx : ev ρ x = .int .i8 a) (hy : ev ρ y = .int .i8 b) : PS P (.binOp .mul t x y yt) ρ (.int .i8 (IntKind.i8.wrap (a * b))) :=
  PS_bin hx hy fun w => by simp only [binOp, al_ne, al_nt, al_i0, Op.intArith, Sem.run_pure]
theorem PS_mul_i32n (hx : ev ρ x = .int .i32 a) (hy : ev ρ y = .int .i32 b) (h0 : -2147483648 ≤ a * b) (h1 : a * b ≤ 2147483647) : PS P (.binOp .mul t x y yt) ρ (.int .i32 (a * b)) :=
  PS_bin hx hy fun w => by simp only [binOp, al_ne, al_nt, al_i0, Op.intArith, wrap_i32n _ h0 h1, Sem.run_pure]
theorem PS_mul_i32w (hx : ev ρ x = .int .i32 a) (hy : ev ρ y = .int .i32 b) : PS P (.binOp .mul t x y yt) ρ (.int .i32 (IntKind.i32.wrap (a * b))) :=
  PS_bin hx hy fun w => by simp only [binOp, al_ne, al_nt, al_i0, Op.intArith, Sem.run_pure]
theorem PS_mul_i64n (hx : ev ρ x = .int .i64 a) (hy : ev ρ y = .int .i64 b) (h0 : -9223372036854775808 ≤ a * b) (h1 : a * b ≤ 9223372036854775807) : PS P (.binOp .mul t x y yt) ρ (.int .i64 (a * b)) :=
  PS_bin hx hy fun w => by simp only [binOp, al_ne, al_nt, al_i0, Op.intArith, wrap_i64n _ h0 h1, Sem.run_pure]
theorem PS_mul_i64w (hx : ev ρ x = .int .i64 a) (hy : ev ρ y = .int .i64 b) : PS P (.binOp .mul t x y yt) ρ (.int .i64 (IntKind.i64.wrap (a * b))) :=
  PS_bin hx hy fun w => by simp only [binOp, al_ne, al_nt, al_i0, Op.intArith, Sem.run_pure]
theorem PS_eql (hx : ev ρ x = .int k a) (hy : ev ρ y = .int k b) : PS P (.binOp .eql t x y yt) ρ (.bool (decide (a = b))) :=
  PS_bin hx hy fun w => by simp only [binOp, al_ne, al_nt, al_i0, Op.intCmp, Sem.run_pure]; rw [show (a == b) = decide (a = b) from by by_cases h : a = b <;> simp [h]]
theorem PS_neq (hx : ev ρ x = .int k a) (hy : ev ρ y = .int k b) : PS P (.binOp .neq t x y yt) ρ (.bool (decide (a ≠ b))) :=
  PS_bin hx hy fun w => by simp only [binOp, al_ne, al_nt, al_i0, Op.intCmp, Sem.run_pure]; rw [show (a != b) = decide (a ≠ b) from by by_cases h : a = b <;> simp [h]]
theorem PS_lss (hx : ev ρ x = .int k a) (hy : ev ρ y = .int k b) : PS P (.binOp .lss t x y yt) ρ (.bool (decide (a < b))) :=
  PS_bin hx hy fun w => by simp only [binOp, al_ne, al_nt, al_i0, Op.intCmp, Sem.run_pure]
theorem PS_leq (hx : ev ρ x = .int k a) (hy : ev ρ y = .int k b) : PS P (.binOp .leq t x y yt) ρ (.bool (decide (a ≤ b))) :=
  PS_bin hx hy fun w => by simp only [binOp, al_ne, al_nt, al_i0, Op.intCmp, Sem.run_pure]
theorem PS_gtr (hx : ev ρ x = .int k a) (hy : ev ρ y = .int k b) : PS P (.binOp .gtr t x y yt) ρ (.bool (decide (b < a))) :=
  PS_bin hx hy fun w => by simp only [binOp, al_ne, al_nt, al_i0, Op.intCmp, Sem.run_pure]
theorem PS_geq (hx : ev ρ x = .int k a) (hy : ev ρ y = .int k b) : PS P (.binOp .geq t x y yt) ρ (.bool (decide (b ≤ a))) :=
  PS_bin hx hy fun w => by simp only [binOp, al_ne, al_nt, al_i0, Op.intCmp, Sem.run_pure]
theorem PS_quo_u8 (hx : ev ρ x = .int .u8 a) (hy : ev ρ y = .int .u8 b) (h0 : 0 ≤ a) (h2 : a ≤ 255) (h1 : 0 < b) : PS P (.binOp .quo t x y yt) ρ (.int .u8 (a / b)) :=
  PS_bin hx hy fun w => by
    have hb : ¬ b = 0 := by omega
    have e1 : 0 ≤ a / b := Int.ediv_nonneg h0 (by omega)
    have e2 : a / b ≤ a := Int.ediv_le_self b h0
    simp only [binOp, al_ne, al_nt, al_i0, Op.intDiv, hb, Sem.run_pure, Int.tdiv_eq_ediv_of_nonneg h0, wrap_u8n _ (show 0 ≤ a / b by omega) (show a / b ≤ 255 by omega)]
theorem PS_rem_u8 (hx : ev ρ x = .int .u8 a) (hy : ev ρ y = .int .u8 b) (h0 : 0 ≤ a) (h1 : 0 < b) : PS P (.binOp .rem t x y yt) ρ (.int .u8 (a % b)) :=
  PS_bin hx hy fun w => by
    have hb : ¬ b = 0 := by omega
    simp only [binOp, al_ne, al_nt, al_i0, Op.intDiv, hb, Sem.run_pure, Int.tmod_eq_emod_of_nonneg h0]
theorem PS_quo_u16 (hx : ev ρ x = .int .u16 a) (hy : ev ρ y = .int .u16 b) (h0 : 0 ≤ a) (h2 : a ≤ 65535) (h1 : 0 < b) : PS P (.binOp .quo t x y yt) ρ (.int .u16 (a / b)) :=
  PS_bin hx hy fun w => by
    have hb : ¬ b = 0 := by omega
    have e1 : 0 ≤ a / b := Int.ediv_nonneg h0 (by omega)
    have e2 : a / b ≤ a := Int.ediv_le_self b h0
    simp only [binOp, al_ne, al_nt, al_i0, Op.intDiv, hb, Sem.run_pure, Int.tdiv_eq_ediv_of_nonneg h0, wrap_u16n _ (show 0 ≤ a / b by omega) (show a / b ≤ 65535 by omega)]
theorem PS_rem_u16 (hx : ev ρ x = .int .u16 a) (hy : ev ρ y = .int .u16 b) (h0 : 0 ≤ a) (h1 : 0 < b) : PS P (.binOp .rem t x y yt) ρ (.int .u16 (a % b)) :=
  PS_bin hx hy fun w => by
    have hb : ¬ b = 0 := by omega
    simp only [binOp, al_ne, al_nt, al_i0, Op.intDiv, hb, Sem.run_pure, Int.tmod_eq_emod_of_nonneg h0]
theorem PS_quo_u32 (hx : ev ρ x = .int .u32 a) (hy : ev ρ y = .int .u32 b) (h0 : 0 ≤ a) (h2 : a ≤ 4294967295) (h1 : 0 < b) : PS P (.binOp .quo t x y yt) ρ (.int .u32 (a / b)) :=
  PS_bin hx hy fun w => by
    have hb : ¬ b = 0 := by omega
    have e1 : 0 ≤ a / b := Int.ediv_nonneg h0 (by omega)
    have e2 : a / b ≤ a := Int.ediv_le_self b h0
    simp only [binOp, al_ne, al_nt, al_i0, Op.intDiv, hb, Sem.run_pure, Int.tdiv_eq_ediv_of_nonneg h0, wrap_u32n _ (show 0 ≤ a / b by omega) (show a / b ≤ 4294967295 by omega)]
theorem PS_rem_u32 (hx : ev ρ x = .int .u32 a) (hy : ev ρ y = .int .u32 b) (h0 : 0 ≤ a) (h1 : 0 < b) : PS P (.binOp .rem t x y yt) ρ (.int .u32 (a % b)) :=
  PS_bin hx hy fun w => by
    have hb : ¬ b = 0 := by omega
    simp only [binOp, al_ne, al_nt, al_i0, Op.intDiv, hb, Sem.run_pure, Int.tmod_eq_emod_of_nonneg h0]
theorem PS_quo_u64 (hx : ev ρ x = .int .u64 a) (hy : ev ρ y = .int .u64 b) (h0 : 0 ≤ a) (h2 : a ≤ 18446744073709551615) (h1 : 0 < b) : PS P (.binOp .quo t x y yt) ρ (.int .u64 (a / b)) :=
  PS_bin hx hy fun w => by
    have hb : ¬ b = 0 := by omega
    have e1 : 0 ≤ a / b := Int.ediv_nonneg h0 (by omega)
    have e2 : a / b ≤ a := Int.ediv_le_self b h0
    simp only [binOp, al_ne, al_nt, al_i0, Op.intDiv, hb, Sem.run_pure, Int.tdiv_eq_ediv_of_nonneg h0, wrap_u64n _ (show 0 ≤ a / b by omega) (show a / b ≤ 18446744073709551615 by omega)]
theorem PS_rem_u64 (hx : ev ρ x = .int .u64 a) (hy : ev ρ y = .int .u64 b) (h0 : 0 ≤ a) (h1 : 0 < b) : PS P (.binOp .rem t x y yt) ρ (.int .u64 (a % b)) :=
  PS_bin hx hy fun w => by
    have hb : ¬ b = 0 := by omega
    simp only [binOp, al_ne, al_nt, al_i0, Op.intDiv, hb, Sem.run_pure, Int.tmod_eq_emod_of_nonneg h0]
theorem PS_quo_i64 (hx : ev ρ x = .int .i64 a) (hy : ev ρ y = .int .i64 b) (h0 : 0 ≤ a) (h2 : a ≤ 9223372036854775807) (h1 : 0 < b) : PS P (.binOp .quo t x y yt) ρ (.int .i64 (a / b)) :=
  PS_bin hx hy fun w => by
    have hb : ¬ b = 0 := by omega
    have e1 : 0 ≤ a / b := Int.ediv_nonneg h0 (by omega)
    have e2 : a / b ≤ a := Int.ediv_le_self b h0
    simp only [binOp, al_ne, al_nt, al_i0, Op.intDiv, hb, Sem.run_pure, Int.tdiv_eq_ediv_of_nonneg h0, wrap_i64n _ (show -9223372036854775808 ≤ a / b by omega) (show a / b ≤ 9223372036854775807 by omega)]
theorem PS_rem_i64 (hx : ev ρ x = .int .i64 a) (hy : ev ρ y = .int .i64 b) (h0 : 0 ≤ a) (h1 : 0 < b) : PS P (.binOp .rem t x y yt) ρ (.int .i64 (a % b)) :=
  PS_bin hx hy fun w => by
    have hb : ¬ b = 0 := by omega
    simp only [binOp, al_ne, al_nt, al_i0, Op.intDiv, hb, Sem.run_pure, Int.tmod_eq_emod_of_nonneg h0]
theorem PS_and_u64 (hx : ev ρ x = .int .u64 a) (hy : ev ρ y = .int .u64 b) : PS P (.binOp .and t x y yt) ρ (.int .u64 (bAnd a b)) :=
  PS_bin hx hy fun w => by
    have := bAnd_bd a b
    have e : IntKind.u64.wrap (bAnd a b) = bAnd a b := wrap_u64n _ this.1 this.2
    unfold bAnd at e
    simp only [binOp, al_ne, al_nt, al_i0, Op.intBits, Sem.run_pure, IntKind.bits]
    exact congrArg (fun n => Result.ok (Value.int .u64 n) w) e
theorem PS_or_u64 (hx : ev ρ x = .int .u64 a) (hy : ev ρ y = .int .u64 b) : PS P (.binOp .or t x y yt) ρ (.int .u64 (bOr a b)) :=
  PS_bin hx hy fun w => by
    have := bOr_bd a b
    have e : IntKind.u64.wrap (bOr a b) = bOr a b := wrap_u64n _ this.1 this.2
    unfold bOr at e
    simp only [binOp, al_ne, al_nt, al_i0, Op.intBits, Sem.run_pure, IntKind.bits]
    exact congrArg (fun n => Result.ok (Value.int .u64 n) w) e
theorem PS_xor_u64 (hx : ev ρ x = .int .u64 a) (hy : ev ρ y = .int .u64 b) : PS P (.binOp .xor t x y yt) ρ (.int .u64 (bXor a b)) :=
  PS_bin hx hy fun w => by
    have := bXor_bd a b
    have e : IntKind.u64.wrap (bXor a b) = bXor a b := wrap_u64n _ this.1 this.2
    unfold bXor at e
    simp only [binOp, al_ne, al_nt, al_i0, Op.intBits, Sem.run_pure, IntKind.bits]
    exact congrArg (fun n => Result.ok (Value.int .u64 n) w) e
theorem PS_or_u8 (hx : ev ρ x = .int .u8 a) (hy : ev ρ y = .int .u8 b) : PS P (.binOp .or t x y yt) ρ (.int .u8 (bOr8 a b)) :=
  PS_bin hx hy fun w => by
    have := bOr8_bd a b
    have e : IntKind.u8.wrap (bOr8 a b) = bOr8 a b := wrap_u8n _ this.1 this.2
    unfold bOr8 at e
    simp only [binOp, al_ne, al_nt, al_i0, Op.intBits, Sem.run_pure, IntKind.bits]
    exact congrArg (fun n => Result.ok (Value.int .u8 n) w) e
theorem PS_and_u8 (hx : ev ρ x = .int .u8 a) (hy : ev ρ y = .int .u8 b) : PS P (.binOp .and t x y yt) ρ (.int .u8 (bAnd8 a b)) :=
  PS_bin hx hy fun w => by
    have := bAnd8_bd a b
    have e : IntKind.u8.wrap (bAnd8 a b) = bAnd8 a b := wrap_u8n _ this.1 this.2
    unfold bAnd8 at e
    simp only [binOp, al_ne, al_nt, al_i0, Op.intBits, Sem.run_pure, IntKind.bits]
    exact congrArg (fun n => Result.ok (Value.int .u8 n) w) e
theorem PS_com_u64 (hx : ev ρ x = .int .u64 a) : PS P (.unOp .xor t x) ρ (.int .u64 (bXor 18446744073709551615 a)) :=
  ⟨fun o w h => by
    have := bXor_bd 18446744073709551615 a
    have e : IntKind.u64.wrap (bXor 18446744073709551615 a) = bXor 18446744073709551615 a := wrap_u64n _ this.1 this.2
    unfold bXor at e
    simp only [execOp, h, Op.unary, hx, Op.intBits, IntKind.signed, IntKind.max, IntKind.bits, Sem.run_bind, Sem.run_pure, Result.andThen_ok, Bool.false_eq_true, al_i0]
    exact congrArg (fun n => Result.ok (Next.value (Value.int .u64 n)) w) e⟩
theorem PS_shr_u8 {k' : IntKind} (m : Nat) (hx : ev ρ x = .int .u8 a) (hy : ev ρ y = .int k' b) (h0 : 0 ≤ b) (hm : min b.toNat 8 = m) : PS P (.binOp .shr t x y yt) ρ (.int .u8 (a / 2 ^ m)) :=
  ⟨fun o w h => by
    have hg : (eqGuard .shr t x y (.int .u8 a) (.int k' b)).run P w = .ok () w := rfl
    have hb : ¬ b < 0 := by omega
    have e : a.fdiv (2 ^ m) = a / 2 ^ m := Int.fdiv_eq_ediv_of_nonneg _ (Int.le_of_lt (Int.pow_pos (by decide)))
    simp only [execOp, h, hx, hy, Sem.run_bind, hg, binOp, Op.shift, hb, al_i0, IntKind.bits, hm, e, Sem.run_pure, Result.andThen_ok]⟩
theorem PS_shr_u16 {k' : IntKind} (m : Nat) (hx : ev ρ x = .int .u16 a) (hy : ev ρ y = .int k' b) (h0 : 0 ≤ b) (hm : min b.toNat 16 = m) : PS P (.binOp .shr t x y yt) ρ (.int .u16 (a / 2 ^ m)) :=
  ⟨fun o w h => by
    have hg : (eqGuard .shr t x y (.int .u16 a) (.int k' b)).run P w = .ok () w := rfl
    have hb : ¬ b < 0 := by omega
    have e : a.fdiv (2 ^ m) = a / 2 ^ m := Int.fdiv_eq_ediv_of_nonneg _ (Int.le_of_lt (Int.pow_pos (by decide)))
    simp only [execOp, h, hx, hy, Sem.run_bind, hg, binOp, Op.shift, hb, al_i0, IntKind.bits, hm, e, Sem.run_pure, Result.andThen_ok]⟩
theorem PS_shr_u64 {k' : IntKind} (m : Nat) (hx : ev ρ x = .int .u64 a) (hy : ev ρ y = .int k' b) (h0 : 0 ≤ b) (hm : min b.toNat 64 = m) : PS P (.binOp .shr t x y yt) ρ (.int .u64 (a / 2 ^ m)) :=
  ⟨fun o w h => by
    have hg : (eqGuard .shr t x y (.int .u64 a) (.int k' b)).run P w = .ok () w := rfl
    have hb : ¬ b < 0 := by omega
    have e : a.fdiv (2 ^ m) = a / 2 ^ m := Int.fdiv_eq_ediv_of_nonneg _ (Int.le_of_lt (Int.pow_pos (by decide)))
    simp only [execOp, h, hx, hy, Sem.run_bind, hg, binOp, Op.shift, hb, al_i0, IntKind.bits, hm, e, Sem.run_pure, Result.andThen_ok]⟩
theorem PS_shr_i64 {k' : IntKind} (m : Nat) (hx : ev ρ x = .int .i64 a) (hy : ev ρ y = .int k' b) (h0 : 0 ≤ b) (hm : min b.toNat 64 = m) : PS P (.binOp .shr t x y yt) ρ (.int .i64 (a / 2 ^ m)) :=
  ⟨fun o w h => by
    have hg : (eqGuard .shr t x y (.int .i64 a) (.int k' b)).run P w = .ok () w := rfl
    have hb : ¬ b < 0 := by omega
    have e : a.fdiv (2 ^ m) = a / 2 ^ m := Int.fdiv_eq_ediv_of_nonneg _ (Int.le_of_lt (Int.pow_pos (by decide)))
    simp only [execOp, h, hx, hy, Sem.run_bind, hg, binOp, Op.shift, hb, al_i0, IntKind.bits, hm, e, Sem.run_pure, Result.andThen_ok]⟩
theorem PS_shl_u64 {k' : IntKind} (m : Nat) (hx : ev ρ x = .int .u64 a) (hy : ev ρ y = .int k' b) (h0 : 0 ≤ b) (hm : min b.toNat 64 = m) : PS P (.binOp .shl t x y yt) ρ (.int .u64 ((a * 2 ^ m) % 18446744073709551616)) :=
  ⟨fun o w h => by
    have hg : (eqGuard .shl t x y (.int .u64 a) (.int k' b)).run P w = .ok () w := rfl
    have hb : ¬ b < 0 := by omega
    simp only [execOp, h, hx, hy, Sem.run_bind, hg, binOp, Op.shift, hb, al_i0, IntKind.bits, hm, wrap_u64, Sem.run_pure, Result.andThen_ok]⟩
theorem PS_conv_u8n {s e : TypeId} {k' : IntKind} {ds : TypeDesc} (hs : ∀ w, (underlying s).run P w = .ok ds w) (he : ∀ w, (underlying e).run P w = .ok (.int .u8) w) (hx : ev ρ x = .int k' a)
    (h0 : 0 ≤ a) (h1 : a ≤ 255) : PS P (.convert s e x) ρ (.int .u8 a) := by
  have := PS_convInt (P := P) hs he hx
  rwa [wrap_u8n _ h0 h1] at this
theorem PS_conv_u8w {s e : TypeId} {k' : IntKind} {ds : TypeDesc} (hs : ∀ w, (underlying s).run P w = .ok ds w) (he : ∀ w, (underlying e).run P w = .ok (.int .u8) w) (hx : ev ρ x = .int k' a) :
    PS P (.convert s e x) ρ (.int .u8 (a % 256)) := by
  have := PS_convInt (P := P) hs he hx
  rwa [wrap_u8] at this
theorem PS_conv_u16n {s e : TypeId} {k' : IntKind} {ds : TypeDesc} (hs : ∀ w, (underlying s).run P w = .ok ds w) (he : ∀ w, (underlying e).run P w = .ok (.int .u16) w) (hx : ev ρ x = .int k' a)
    (h0 : 0 ≤ a) (h1 : a ≤ 65535) : PS P (.convert s e x) ρ (.int .u16 a) := by
  have := PS_convInt (P := P) hs he hx
  rwa [wrap_u16n _ h0 h1] at this
theorem PS_conv_u16w {s e : TypeId} {k' : IntKind} {ds : TypeDesc} (hs : ∀ w, (underlying s).run P w = .ok ds w) (he : ∀ w, (underlying e).run P w = .ok (.int .u16) w) (hx : ev ρ x = .int k' a) :
    PS P (.convert s e x) ρ (.int .u16 (a % 65536)) := by
  have := PS_convInt (P := P) hs he hx
  rwa [wrap_u16] at this
theorem PS_conv_u32n {s e : TypeId} {k' : IntKind} {ds : TypeDesc} (hs : ∀ w, (underlying s).run P w = .ok ds w) (he : ∀ w, (underlying e).run P w = .ok (.int .u32) w) (hx : ev ρ x = .int k' a)
    (h0 : 0 ≤ a) (h1 : a ≤ 4294967295) : PS P (.convert s e x) ρ (.int .u32 a) := by
  have := PS_convInt (P := P) hs he hx
  rwa [wrap_u32n _ h0 h1] at this
theorem PS_conv_u32w {s e : TypeId} {k' : IntKind} {ds : TypeDesc} (hs : ∀ w, (underlying s).run P w = .ok ds w) (he : ∀ w, (underlying e).run P w = .ok (.int .u32) w) (hx : ev ρ x = .int k' a) :
    PS P (.convert s e x) ρ (.int .u32 (a % 4294967296)) := by
  have := PS_convInt (P := P) hs he hx
  rwa [wrap_u32] at this
theorem PS_conv_u64n {s e : TypeId} {k' : IntKind} {ds : TypeDesc} (hs : ∀ w, (underlying s).run P w = .ok ds w) (he : ∀ w, (underlying e).run P w = .ok (.int .u64) w) (hx : ev ρ x = .int k' a)
    (h0 : 0 ≤ a) (h1 : a ≤ 18446744073709551615) : PS P (.convert s e x) ρ (.int .u64 a) := by
  have := PS_convInt (P := P) hs he hx
  rwa [wrap_u64n _ h0 h1] at this
theorem PS_conv_u64w {s e : TypeId} {k' : IntKind} {ds : TypeDesc} (hs : ∀ w, (underlying s).run P w = .ok ds w) (he : ∀ w, (underlying e).run P w = .ok (.int .u64) w) (hx : ev ρ x = .int k' a) :
    PS P (.convert s e x) ρ (.int .u64 (a % 18446744073709551616)) := by
  have := PS_convInt (P := P) hs he hx
  rwa [wrap_u64] at this
theorem PS_conv_i8n {s e : TypeId} {k' : IntKind} {ds : TypeDesc} (hs : ∀ w, (underlying s).run P w = .ok ds w) (he : ∀ w, (underlying e).run P w = .ok (.int .i8) w) (hx : ev ρ x = .int k' a)
    (h0 : -128 ≤ a) (h1 : a ≤ 127) : PS P (.convert s e x) ρ (.int .i8 a) := by
  have := PS_convInt (P := P) hs he hx
  rwa [wrap_i8n _ h0 h1] at this
theorem PS_conv_i8w {s e : TypeId} {k' : IntKind} {ds : TypeDesc} (hs : ∀ w, (underlying s).run P w = .ok ds w) (he : ∀ w, (underlying e).run P w = .ok (.int .i8) w) (hx : ev ρ x = .int k' a) :
    PS P (.convert s e x) ρ (.int .i8 (IntKind.i8.wrap a)) := by
  have := PS_convInt (P := P) hs he hx
  exact this
theorem PS_conv_i32n {s e : TypeId} {k' : IntKind} {ds : TypeDesc} (hs : ∀ w, (underlying s).run P w = .ok ds w) (he : ∀ w, (underlying e).run P w = .ok (.int .i32) w) (hx : ev ρ x = .int k' a)
    (h0 : -2147483648 ≤ a) (h1 : a ≤ 2147483647) : PS P (.convert s e x) ρ (.int .i32 a) := by
  have := PS_convInt (P := P) hs he hx
  rwa [wrap_i32n _ h0 h1] at this
theorem PS_conv_i32w {s e : TypeId} {k' : IntKind} {ds : TypeDesc} (hs : ∀ w, (underlying s).run P w = .ok ds w) (he : ∀ w, (underlying e).run P w = .ok (.int .i32) w) (hx : ev ρ x = .int k' a) :
    PS P (.convert s e x) ρ (.int .i32 (IntKind.i32.wrap a)) := by
  have := PS_convInt (P := P) hs he hx
  exact this
theorem PS_conv_i64n {s e : TypeId} {k' : IntKind} {ds : TypeDesc} (hs : ∀ w, (underlying s).run P w = .ok ds w) (he : ∀ w, (underlying e).run P w = .ok (.int .i64) w) (hx : ev ρ x = .int k' a)
    (h0 : -9223372036854775808 ≤ a) (h1 : a ≤ 9223372036854775807) : PS P (.convert s e x) ρ (.int .i64 a) := by
  have := PS_convInt (P := P) hs he hx
  rwa [wrap_i64n _ h0 h1] at this
theorem PS_conv_i64w {s e : TypeId} {k' : IntKind} {ds : TypeDesc} (hs : ∀ w, (underlying s).run P w = .ok ds w) (he : ∀ w, (underlying e).run P w = .ok (.int .i64) w) (hx : ev ρ x = .int k' a) :
    PS P (.convert s e x) ρ (.int .i64 (IntKind.i64.wrap a)) := by
  have := PS_convInt (P := P) hs he hx
  exact this
theorem PS_move_int {k : IntKind} {a : Int} (hx : ev ρ x = .int k a) : PS P (.move x) ρ (.int k a) := PS_move hx
theorem PS_assign_int {k : IntKind} {a : Int} (hx : ev ρ x = .int k a) : PS P (.assign x) ρ (.int k a) := PS_assign hx
theorem PS_extract_int {k : IntKind} {a : Int} {us : Array Value} {i : Nat} (hx : ev ρ x = .tuple us) (hv : us[i]? = some (.int k a)) : PS P (.extract x i) ρ (.int k a) := PS_extract hx hv
theorem PS_move_bool {q : Bool} (hx : ev ρ x = .bool q) : PS P (.move x) ρ (.bool q) := PS_move hx
theorem PS_assign_bool {q : Bool} (hx : ev ρ x = .bool q) : PS P (.assign x) ρ (.bool q) := PS_assign hx
theorem PS_extract_bool {q : Bool} {us : Array Value} {i : Nat} (hx : ev ρ x = .tuple us) (hv : us[i]? = some (.bool q)) : PS P (.extract x i) ρ (.bool q) := PS_extract hx hv
theorem PS_move_ptr {p : Option Addr} (hx : ev ρ x = .pointer p) : PS P (.move x) ρ (.pointer p) := PS_move hx
theorem PS_assign_ptr {p : Option Addr} (hx : ev ρ x = .pointer p) : PS P (.assign x) ρ (.pointer p) := PS_assign hx
theorem PS_extract_ptr {p : Option Addr} {us : Array Value} {i : Nat} (hx : ev ρ x = .tuple us) (hv : us[i]? = some (.pointer p)) : PS P (.extract x i) ρ (.pointer p) := PS_extract hx hv
theorem PS_move_slice {p : Option Addr} {n c : Nat} (hx : ev ρ x = .slice p n c) : PS P (.move x) ρ (.slice p n c) := PS_move hx
theorem PS_assign_slice {p : Option Addr} {n c : Nat} (hx : ev ρ x = .slice p n c) : PS P (.assign x) ρ (.slice p n c) := PS_assign hx
theorem PS_extract_slice {p : Option Addr} {n c : Nat} {us : Array Value} {i : Nat} (hx : ev ρ x = .tuple us) (hv : us[i]? = some (.slice p n c)) : PS P (.extract x i) ρ (.slice p n c) := PS_extract hx hv
theorem PS_move_tuple {vs : Array Value} (hx : ev ρ x = .tuple vs) : PS P (.move x) ρ (.tuple vs) := PS_move hx
theorem PS_assign_tuple {vs : Array Value} (hx : ev ρ x = .tuple vs) : PS P (.assign x) ρ (.tuple vs) := PS_assign hx
theorem PS_extract_tuple {vs : Array Value} {us : Array Value} {i : Nat} (hx : ev ρ x = .tuple us) (hv : us[i]? = some (.tuple vs)) : PS P (.extract x i) ρ (.tuple vs) := PS_extract hx hv
theorem PS_move_agg {vs : Array Value} (hx : ev ρ x = .agg vs) : PS P (.move x) ρ (.agg vs) := PS_move hx
theorem PS_assign_agg {vs : Array Value} (hx : ev ρ x = .agg vs) : PS P (.assign x) ρ (.agg vs) := PS_assign hx
theorem PS_extract_agg {vs : Array Value} {us : Array Value} {i : Nat} (hx : ev ρ x = .tuple us) (hv : us[i]? = some (.agg vs)) : PS P (.extract x i) ρ (.agg vs) := PS_extract hx hv

theorem PS_eqlnil {p : Option Addr} {e : TypeId} (hU : P.underlying t = some (.pointer e)) (hx : ev ρ x = .pointer p) : PS P (.binOp .eql t x (.const (.pointer none)) yt) ρ (.bool p.isNone) :=
  PS_binG hx rfl (fun _ => rfl) (fun w => run_eql_pointer_nil w t p (by simp [Program.pointee, hU]))
theorem PS_neqnil {p : Option Addr} {e : TypeId} (hU : P.underlying t = some (.pointer e)) (hx : ev ρ x = .pointer p) : PS P (.binOp .neq t x (.const (.pointer none)) yt) ρ (.bool (!p.isNone)) :=
  PS_binG hx rfl (fun _ => rfl) (fun w => run_neq_pointer_nil w t p (by simp [Program.pointee, hU]))
theorem run_eql_slice_nil' (w : World) (t e : TypeId) (p : Option Addr) (l c : Nat) (h : P.underlying t = some (.slice e)) : (binOp .eql t (.slice p l c) (.slice none 0 0)).run P w = .ok (.bool p.isNone) w := by
  simp only [binOp]; simp [run_equal_slice_nil w t e p l c h]
theorem PS_eqlslnil {p : Option Addr} {l c : Nat} {e : TypeId} (hU : P.underlying t = some (.slice e)) (hx : ev ρ x = .slice p l c) : PS P (.binOp .eql t x (.const (.slice none 0 0)) yt) ρ (.bool p.isNone) :=
  PS_binG hx rfl (fun _ => rfl) (fun w => run_eql_slice_nil' w t e p l c hU)
theorem run_neq_slice_nil' (w : World) (t e : TypeId) (p : Option Addr) (l c : Nat) (h : P.underlying t = some (.slice e)) : (binOp .neq t (.slice p l c) (.slice none 0 0)).run P w = .ok (.bool (!p.isNone)) w := by
  simp only [binOp]; simp [run_equal_slice_nil w t e p l c h]
theorem PS_neqslnil {p : Option Addr} {l c : Nat} {e : TypeId} (hU : P.underlying t = some (.slice e)) (hx : ev ρ x = .slice p l c) : PS P (.binOp .neq t x (.const (.slice none 0 0)) yt) ρ (.bool (!p.isNone)) :=
  PS_binG hx rfl (fun _ => rfl) (fun w => run_neq_slice_nil' w t e p l c hU)
theorem PS_eqlbool {q r : Bool} (hU : P.underlying t = some .bool) (hx : ev ρ x = .bool q) (hy : ev ρ y = .bool r) : PS P (.binOp .eql t x y yt) ρ (.bool (q == r)) :=
  PS_binG hx hy (fun _ => rfl) (fun w => run_eql_bool w t q r hU)
theorem run_neq_bool' (w : World) (t : TypeId) (q r : Bool) (h : P.underlying t = some .bool) : (binOp .neq t (.bool q) (.bool r)).run P w = .ok (.bool (!(q == r))) w := by
  simp only [binOp]; simp [run_equal_bool w t q r h]
theorem PS_neqbool {q r : Bool} (hU : P.underlying t = some .bool) (hx : ev ρ x = .bool q) (hy : ev ρ y = .bool r) : PS P (.binOp .neq t x y yt) ρ (.bool (!(q == r))) :=
  PS_binG hx hy (fun _ => rfl) (fun w => run_neq_bool' w t q r hU)
end

theorem all_range_int : ∀ (xs ys : List Int), xs.length = ys.length → ((List.range xs.length).all fun i => xs.getD i 0 == ys.getD i 0) = decide (xs = ys)
  | [], [], _ => rfl
  | x :: xs, y :: ys, h => by
    have ih := all_range_int xs ys (by simpa using h)
    rw [List.length_cons, List.range_succ_eq_map, List.all_cons, List.all_map]
    simp only [List.getD_cons_zero, al_cd, List.getD_cons_succ, ih]
    by_cases h1 : x = y <;> by_cases h2 : xs = ys <;> simp [h1, h2]
  | [], _ :: _, h => by simp at h
  | _ :: _, [], h => by simp at h

/-- the cells of a row of integers of one kind -/
def ic (k : IntKind) (l : List Int) : Array Value := (l.map (Value.int k)).toArray
theorem size_ic (k : IntKind) (l : List Int) : (ic k l).size = l.length := by simp [ic]

theorem al_rng {β : Type} (n : Nat) (b : β) : ∀ f, (forIn (m := Sem) [:n] b f : Sem β) = forIn (m := Sem) (List.range' 0 n 1) b f := by intro f; simp
theorem run_equalIn_ints {P : Program} (w : World) (d : Nat) (t e : TypeId) (n : Nat) (k : IntKind) (ht : P.underlying t = some (.array n e)) (he : P.underlying e = some (.int k))
    (hsz : ∀ w, (Go.sizeOf e).run P w = .ok 1 w) (xs ys : List Int) (hx : xs.length = n) (hy : ys.length = n) :
    (Op.equalIn (d + 2) t (.agg (ic k xs)) (.agg (ic k ys))).run P w = .ok (decide (xs = ys)) w := by
  rw [← all_range_int xs ys (hx.trans hy.symm), hx, List.range_eq_range', Op.equalIn]
  simp only [Sem.run_bind, run_underlying ht, Result.andThen_ok, hsz, al_rng]
  have hl : ∀ i ∈ List.range' 0 n 1, i < n := fun i hi => by simpa using (List.mem_range'_1.1 hi).2
  generalize List.range' 0 n 1 = l at hl ⊢
  induction l with
  | nil => simp
  | cons i l ih =>
    have hi : i < n := hl i (by simp)
    have px : (part e (ic k xs) (i * 1)).run P w = .ok (.int k (xs.getD i 0)) w := by
      simp [part, isAgg, run_underlying he, List.getD, ic, List.getElem?_eq_getElem (show i < xs.length by omega)]
    have py : (part e (ic k ys) (i * 1)).run P w = .ok (.int k (ys.getD i 0)) w := by
      simp [part, isAgg, run_underlying he, List.getD, ic, List.getElem?_eq_getElem (show i < ys.length by omega)]
    have pe : (Op.equalIn (d + 1) e (.int k (xs.getD i 0)) (.int k (ys.getD i 0))).run P w = .ok (xs.getD i 0 == ys.getD i 0) w := run_equalIn_int w d e k k _ _ he
    simp only [List.forIn_cons, Sem.run_bind, px, py, pe, Result.andThen_ok, List.all_cons]
    cases hb : (xs.getD i 0 == ys.getD i 0)
    · simp
    · simp only [al_bnt, Bool.false_eq_true, al_i0, Sem.run_pure, Result.andThen_ok, al_bta]
      exact ih fun j hj => hl j (by simp [hj])

section
variable {P : Program} {t yt ty : TypeId} {ρ : Nat → Value} {x y : Operand}
theorem PS_eqlA {e : TypeId} {n : Nat} {k : IntKind} {xs ys : List Int} (ht : P.underlying t = some (.array n e)) (he : P.underlying e = some (.int k)) (hsz : ∀ w, (Go.sizeOf e).run P w = .ok 1 w) (hm : P.eqGuardType P.depth t = false)
    (hx : ev ρ x = .agg (ic k xs)) (hy : ev ρ y = .agg (ic k ys)) (lx : xs.length = n) (ly : ys.length = n) : PS P (.binOp .eql t x y yt) ρ (.bool (decide (xs = ys))) :=
  PS_binG hx hy (fun w => run_eqGuard_agg w .eql t x y _ _ hm) fun w => by
    rw [run_eql_struct, run_equalIn_ints w 9998 t e n k ht he hsz xs ys lx ly]; rfl
theorem PS_neqA {e : TypeId} {n : Nat} {k : IntKind} {xs ys : List Int} (ht : P.underlying t = some (.array n e)) (he : P.underlying e = some (.int k)) (hsz : ∀ w, (Go.sizeOf e).run P w = .ok 1 w) (hm : P.eqGuardType P.depth t = false)
    (hx : ev ρ x = .agg (ic k xs)) (hy : ev ρ y = .agg (ic k ys)) (lx : xs.length = n) (ly : ys.length = n) : PS P (.binOp .neq t x y yt) ρ (.bool (decide (xs ≠ ys))) :=
  PS_binG hx hy (fun w => run_eqGuard_agg w .neq t x y _ _ hm) fun w => by
    rw [run_neq_struct, run_equalIn_ints w 9998 t e n k ht he hsz xs ys lx ly]
    by_cases hh : xs = ys <;> simp [hh]
end
end Go.Proofs.YgvadwGreat
