import Derived.Test.YgvadwGreatPl
import Derived.Test.YgvadwGreatProg
import Derived.Laws.Externs
import Derived.KernelRfl
namespace Go.Proofs.YgvadwGreat
set_option linter.unusedSimpArgs false
set_option linter.unusedVariables false
theorem hmix : Hvad.prog.follows .mixedOrders = true := by kernel_rfl
def sub64E : Array Value → Sem Value := fun args => do
  let (x, y, b) ← Extern.MathBitsCarry.three "Sub64" args
  pure (Extern.MathBitsCarry.pair ((x + Extern.MathBitsCarry.m64 - y - b) % Extern.MathBitsCarry.m64) (if x < y + b then 1 else 0))
theorem callx123 (x y c : Int) (w : World) (hx : 0 ≤ x) (hy : 0 ≤ y) (hc0 : 0 ≤ c) (hc : c ≤ 1) : (callFunc 123 #[.int .u64 x, .int .u64 y, .int .u64 c]).run Hvad.prog w =
    .ok (.value (.tuple #[.int .u64 ((x + y + c) % 18446744073709551616), .int .u64 ((x + y + c) / 18446744073709551616)])) w := by
  rw [run_callFunc_extern Hvad.func123 (by kernel_rfl) (by kernel_rfl) (by kernel_rfl) (e := add64Entry) (by kernel_rfl), run_add64 x y c hx hy hc0 hc]; rfl
def bor (x y : Int) : Int := if x < y then 1 else 0
theorem bor_bd (x y : Int) : 0 ≤ bor x y ∧ bor x y ≤ 1 := by unfold bor; split <;> omega
theorem callx220 (x y b : Int) (w : World) (hx : 0 ≤ x) (hy : 0 ≤ y) (hy' : y ≤ 18446744073709551615) (hb0 : 0 ≤ b) (hb : b ≤ 1) : (callFunc 220 #[.int .u64 x, .int .u64 y, .int .u64 b]).run Hvad.prog w =
    .ok (.value (.tuple #[.int .u64 ((x - y - b) % 18446744073709551616), .int .u64 (bor x (y + b))])) w := by
  obtain ⟨x, rfl⟩ := Int.eq_ofNat_of_zero_le hx
  obtain ⟨y, rfl⟩ := Int.eq_ofNat_of_zero_le hy
  obtain ⟨b, rfl⟩ := Int.eq_ofNat_of_zero_le hb0
  have e0 : (sub64E #[.int .u64 x, .int .u64 y, .int .u64 b]).run Hvad.prog w = .ok (.tuple #[.int .u64 (((x + 18446744073709551616 - y - b) % 18446744073709551616 : Nat) : Int), .int .u64 ((if x < y + b then 1 else 0 : Nat) : Int)]) w := by
    have : b = 0 ∨ b = 1 := by omega
    rcases this with rfl | rfl <;> rfl
  rw [run_callFunc_extern Hvad.func220 (by kernel_rfl) (by kernel_rfl) (by kernel_rfl) (e := sub64E) (by kernel_rfl), e0]
  have e1 : (((x + 18446744073709551616 - y - b) % 18446744073709551616 : Nat) : Int) = ((x : Int) - y - b) % 18446744073709551616 := by omega
  have e2 : ((if x < y + b then 1 else 0 : Nat) : Int) = bor (x : Int) (y + b) := by unfold bor; split <;> split <;> omega
  rw [e1, e2]; rfl
def U64 (x : Int) : Prop := 0 ≤ x ∧ x ≤ 18446744073709551615

set_option maxRecDepth 10000 in
theorem words_spec (n : Int) (w : World) (h : U64 n) : Ret Hvad.prog 70 #[.int .u64 n] w fun v w' => v = .int .u64 ((n + 31) / 32) ∧ w' = w := by
  obtain ⟨h0, h1⟩ := h
  refine Ret_of_W Hvad.func70 rfl rfl ?_
  refine W_seq ?_
  refine W_region rfl ?_
  refine WO_p (PS_assign_int rfl) ?_
  refine WO_nil ?_
  refine thn_normal ?_
  refine W_seq ?_
  refine W_seq ?_
  refine W_region rfl ?_
  refine WO_p (PS_move_int rfl) ?_
  refine WO_p (PS_rem_u64 rfl rfl (by omega) (by omega)) ?_
  refine WO_p (PS_neq rfl rfl) ?_
  refine WO_nil ?_
  refine thn_normal ?_
  refine W_if rfl (fun hb2 => ?_) (fun hb2 => ?_)
  · have hb2p := hb2.h; try simp only [al_ete, al_dfn, Bool.not_eq_true', Bool.not_eq_false', al_ne, Bool.not_not, al_nn] at hb2p
    refine W_seq ?_
    refine W_region rfl ?_
    refine WO_p (PS_move_int rfl) ?_
    refine WO_p (PS_quo_u64 rfl rfl (by omega) (by omega) (by omega)) ?_
    refine WO_p (PS_add_u64n rfl rfl (by omega) (by omega)) ?_
    refine WO_p (PS_assign_int rfl) ?_
    refine WO_nil ?_
    refine thn_normal ?_
    refine W_ret ?_
    refine thn_ret ?_
    refine bodyQ_ret1 Hvad.results70 rfl (.int _ _) rfl ?_
    exact ⟨congrArg (Value.int .u64) (by omega), rfl⟩
  · have hb2p := hb2.h; try simp only [al_ete, al_dfn, Bool.not_eq_true', Bool.not_eq_false', al_ne, Bool.not_not, al_nn] at hb2p
    refine W_skip ?_
    refine thn_normal ?_
    refine W_seq ?_
    refine W_region rfl ?_
    refine WO_p (PS_move_int rfl) ?_
    refine WO_p (PS_quo_u64 rfl rfl (by omega) (by omega) (by omega)) ?_
    refine WO_p (PS_assign_int rfl) ?_
    refine WO_nil ?_
    refine thn_normal ?_
    refine W_ret ?_
    refine bodyQ_ret1 Hvad.results70 rfl (.int _ _) rfl ?_
    exact ⟨congrArg (Value.int .u64) (by omega), rfl⟩

set_option maxRecDepth 10000 in
theorem add64_spec (x y c : Int) (w : World) (hx : 0 ≤ x) (hy : 0 ≤ y) (hc0 : 0 ≤ c) (hc : c ≤ 1) : Ret Hvad.prog 72 #[.int .u64 x, .int .u64 y, .int .u64 c] w fun v w' => v = .tuple #[.int .u64 ((x + y + c) % 18446744073709551616), .int .u64 ((x + y + c) / 18446744073709551616)] ∧ w' = w := by
  refine Ret_of_W Hvad.func72 rfl rfl ?_
  refine W_seq ?_
  refine W_region rfl ?_
  refine WO_p (PS_assign_int rfl) ?_
  refine WO_p (PS_assign_int rfl) ?_
  refine WO_nil ?_
  refine thn_normal ?_
  refine W_seq ?_
  refine W_region rfl ?_
  refine WO_p (PS_move_int rfl) ?_
  refine WO_p (PS_move_int rfl) ?_
  refine WO_p (PS_move_int rfl) ?_
  refine WO_callX (by rfl) (callx123 _ _ _ _ hx hy hc0 hc) ?_
  refine WO_p (PS_extract_int rfl rfl) ?_
  refine WO_p (PS_extract_int rfl rfl) ?_
  refine WO_p (PS_assign_int rfl) ?_
  refine WO_p (PS_assign_int rfl) ?_
  refine WO_nil ?_
  refine thn_normal ?_
  refine W_ret ?_
  refine bodyQ_ret2 Hvad.results72 rfl rfl (.int _ _) (.int _ _) rfl rfl ?_
  exact ⟨rfl, rfl⟩

set_option maxRecDepth 10000 in
theorem sub64_spec (x y c : Int) (w : World) (hx : 0 ≤ x) (hy : 0 ≤ y) (hy' : y ≤ 18446744073709551615) (hc0 : 0 ≤ c) (hc : c ≤ 1) : Ret Hvad.prog 124 #[.int .u64 x, .int .u64 y, .int .u64 c] w fun v w' => v = .tuple #[.int .u64 ((x - y - c) % 18446744073709551616), .int .u64 (bor x (y + c))] ∧ w' = w := by
  refine Ret_of_W Hvad.func124 rfl rfl ?_
  refine W_seq ?_
  refine W_region rfl ?_
  refine WO_p (PS_assign_int rfl) ?_
  refine WO_p (PS_assign_int rfl) ?_
  refine WO_nil ?_
  refine thn_normal ?_
  refine W_seq ?_
  refine W_region rfl ?_
  refine WO_p (PS_move_int rfl) ?_
  refine WO_p (PS_move_int rfl) ?_
  refine WO_p (PS_move_int rfl) ?_
  refine WO_callX (by rfl) (callx220 _ _ _ _ hx hy hy' hc0 hc) ?_
  refine WO_p (PS_extract_int rfl rfl) ?_
  refine WO_p (PS_extract_int rfl rfl) ?_
  refine WO_p (PS_assign_int rfl) ?_
  refine WO_p (PS_assign_int rfl) ?_
  refine WO_nil ?_
  refine thn_normal ?_
  refine W_ret ?_
  refine bodyQ_ret2 Hvad.results124 rfl rfl (.int _ _) (.int _ _) rfl rfl ?_
  exact ⟨rfl, rfl⟩

set_option maxRecDepth 10000 in
theorem inside_spec (n off : Int) (w : World) (hn : -9223372036854775800 ≤ n) (hn' : n ≤ 9223372036854775807) : Ret Hvad.prog 128 #[.int .i64 n, .int .i64 off] w fun v w' => v = .bool (decide (0 ≤ off ∧ 8 ≤ n ∧ off ≤ n - 8)) ∧ w' = w := by
  refine Ret_of_W Hvad.func128 rfl rfl ?_
  refine W_seq ?_
  refine W_region rfl ?_
  refine WO_p (PS_assign_bool rfl) ?_
  refine WO_nil ?_
  refine thn_normal ?_
  refine W_seq ?_
  refine W_region rfl ?_
  refine WO_p (PS_move_int rfl) ?_
  refine WO_p (PS_geq rfl rfl) ?_
  refine WO_p (PS_move_bool rfl) ?_
  refine WO_if (t := 7) rfl (fun hb2 => ?_) (fun hb2 => ?_)
  · have hb2p := hb2.h; try simp only [al_ete, al_dfn, Bool.not_eq_true', Bool.not_eq_false', al_ne, Bool.not_not, al_nn] at hb2p
    refine WO_guardT rfl rfl hb2.h ?_
    refine WO_p (PS_move_int rfl) ?_
    refine WO_guardT rfl rfl hb2.h ?_
    refine WO_p (PS_geq rfl rfl) ?_
    refine WO_p (PS_pickT rfl hb2.h rfl) ?_
    refine WO_p (PS_move_bool rfl) ?_
    refine WO_if (t := 11) rfl (fun hb4 => ?_) (fun hb4 => ?_)
    · have hb4p := hb4.h; try simp only [al_ete, al_dfn, Bool.not_eq_true', Bool.not_eq_false', al_ne, Bool.not_not, al_nn] at hb4p
      refine WO_guardT rfl rfl hb4.h ?_
      refine WO_p (PS_move_int rfl) ?_
      refine WO_guardT rfl rfl hb4.h ?_
      refine WO_p (PS_move_int rfl) ?_
      refine WO_guardT rfl rfl hb4.h ?_
      refine WO_p (PS_sub_i64n rfl rfl (by omega) (by omega)) ?_
      refine WO_guardT rfl rfl hb4.h ?_
      refine WO_p (PS_leq rfl rfl) ?_
      refine WO_p (PS_pickT rfl hb4.h rfl) ?_
      refine WO_p (PS_assign_bool rfl) ?_
      refine WO_nil ?_
      refine thn_normal ?_
      refine W_ret ?_
      refine bodyQ_ret1 Hvad.results128 rfl (.bool _) rfl ?_
      refine ⟨?_, rfl⟩
      exact congrArg Value.bool (by first | (rw [al_dd]; omega) | (symm; rw [al_dfn]; omega))
    · have hb4p := hb4.h; try simp only [al_ete, al_dfn, Bool.not_eq_true', Bool.not_eq_false', al_ne, Bool.not_not, al_nn] at hb4p
      refine WO_guardF rfl rfl hb4.h ?_
      refine WO_guardF rfl rfl hb4.h ?_
      refine WO_guardF rfl rfl hb4.h ?_
      refine WO_guardF rfl rfl hb4.h ?_
      refine WO_p (PS_pickF rfl hb4.h rfl) ?_
      refine WO_p (PS_assign_bool rfl) ?_
      refine WO_nil ?_
      refine thn_normal ?_
      refine W_ret ?_
      refine bodyQ_ret1 Hvad.results128 rfl (.bool _) rfl ?_
      refine ⟨?_, rfl⟩
      exact congrArg Value.bool (by first | (rw [al_dd]; omega) | (symm; rw [al_dfn]; omega))
  · have hb2p := hb2.h; try simp only [al_ete, al_dfn, Bool.not_eq_true', Bool.not_eq_false', al_ne, Bool.not_not, al_nn] at hb2p
    refine WO_guardF rfl rfl hb2.h ?_
    refine WO_guardF rfl rfl hb2.h ?_
    refine WO_p (PS_pickF rfl hb2.h rfl) ?_
    refine WO_p (PS_move_bool rfl) ?_
    refine WO_guardF rfl rfl rfl ?_
    refine WO_guardF rfl rfl rfl ?_
    refine WO_guardF rfl rfl rfl ?_
    refine WO_guardF rfl rfl rfl ?_
    refine WO_p (PS_pickF rfl rfl rfl) ?_
    refine WO_p (PS_assign_bool rfl) ?_
    refine WO_nil ?_
    refine thn_normal ?_
    refine W_ret ?_
    refine bodyQ_ret1 Hvad.results128 rfl (.bool _) rfl ?_
    refine ⟨?_, rfl⟩
    exact congrArg Value.bool (by first | (rw [al_dd]; omega) | (symm; rw [al_dfn]; omega))

set_option maxRecDepth 10000 in
theorem mul64b_spec (x y : Int) (w : World) (hx : U64 x) (hy : U64 y) : Ret Hvad.prog 122 #[.int .u64 x, .int .u64 y] w fun v w' => v = .tuple #[.int .u64 (x * y / 18446744073709551616), .int .u64 (x * y % 18446744073709551616)] ∧ w' = w := by
  obtain ⟨hx0, hx1⟩ := hx
  obtain ⟨hy0, hy1⟩ := hy
  have ex := bAnd_mask32 hx0 hx1
  have ey := bAnd_mask32 hy0 hy1
  have px := mul_bd (a := x % 4294967296) (b := y % 4294967296) (A := 4294967295) (B := 4294967295) (by omega) (by omega) (by omega) (by omega)
  have p1 := mul_bd (a := x / 2 ^ 32) (b := y % 4294967296) (A := 4294967295) (B := 4294967295) (by omega) (by omega) (by omega) (by omega)
  have p2 := mul_bd (a := x % 4294967296) (b := y / 2 ^ 32) (A := 4294967295) (B := 4294967295) (by omega) (by omega) (by omega) (by omega)
  have p3 := mul_bd (a := x / 2 ^ 32) (b := y / 2 ^ 32) (A := 4294967295) (B := 4294967295) (by omega) (by omega) (by omega) (by omega)
  refine Ret_of_W Hvad.func122 rfl rfl ?_
  refine W_seq ?_
  refine W_region rfl ?_
  refine WO_p (PS_assign_int rfl) ?_
  refine WO_p (PS_assign_int rfl) ?_
  refine WO_nil ?_
  refine thn_normal ?_
  refine W_seq ?_
  refine W_region rfl ?_
  refine WO_p (PS_move_int rfl) ?_
  refine WO_p (PS_and_u64 rfl rfl) ?_
  rw [ex]
  refine WO_p (PS_assign_int rfl) ?_
  refine WO_nil ?_
  refine thn_normal ?_
  refine W_seq ?_
  refine W_region rfl ?_
  refine WO_p (PS_move_int rfl) ?_
  refine WO_p (PS_shr_u64 32 rfl rfl (by decide) rfl) ?_
  refine WO_p (PS_assign_int rfl) ?_
  refine WO_nil ?_
  refine thn_normal ?_
  refine W_seq ?_
  refine W_region rfl ?_
  refine WO_p (PS_move_int rfl) ?_
  refine WO_p (PS_and_u64 rfl rfl) ?_
  rw [ey]
  refine WO_p (PS_assign_int rfl) ?_
  refine WO_nil ?_
  refine thn_normal ?_
  refine W_seq ?_
  refine W_region rfl ?_
  refine WO_p (PS_move_int rfl) ?_
  refine WO_p (PS_shr_u64 32 rfl rfl (by decide) rfl) ?_
  refine WO_p (PS_assign_int rfl) ?_
  refine WO_nil ?_
  refine thn_normal ?_
  refine W_seq ?_
  refine W_region rfl ?_
  refine WO_p (PS_move_int rfl) ?_
  refine WO_p (PS_move_int rfl) ?_
  refine WO_p (PS_mul_u64n rfl rfl (by omega) (by omega)) ?_
  refine WO_p (PS_assign_int rfl) ?_
  refine WO_nil ?_
  refine thn_normal ?_
  refine W_seq ?_
  refine W_region rfl ?_
  refine WO_p (PS_move_int rfl) ?_
  refine WO_p (PS_move_int rfl) ?_
  refine WO_p (PS_mul_u64n rfl rfl (by omega) (by omega)) ?_
  refine WO_p (PS_move_int rfl) ?_
  refine WO_p (PS_shr_u64 32 rfl rfl (by decide) rfl) ?_
  refine WO_p (PS_add_u64n rfl rfl (by omega) (by omega)) ?_
  refine WO_p (PS_assign_int rfl) ?_
  refine WO_nil ?_
  refine thn_normal ?_
  refine W_seq ?_
  refine W_region rfl ?_
  refine WO_p (PS_move_int rfl) ?_
  refine WO_p (PS_and_u64 rfl rfl) ?_
  rw [bAnd_mask32 (by omega) (by omega)]
  refine WO_p (PS_assign_int rfl) ?_
  refine WO_nil ?_
  refine thn_normal ?_
  refine W_seq ?_
  refine W_region rfl ?_
  refine WO_p (PS_move_int rfl) ?_
  refine WO_p (PS_shr_u64 32 rfl rfl (by decide) rfl) ?_
  refine WO_p (PS_assign_int rfl) ?_
  refine WO_nil ?_
  refine thn_normal ?_
  refine W_seq ?_
  refine W_region rfl ?_
  refine WO_p (PS_move_int rfl) ?_
  refine WO_p (PS_move_int rfl) ?_
  refine WO_p (PS_move_int rfl) ?_
  refine WO_p (PS_mul_u64n rfl rfl (by omega) (by omega)) ?_
  refine WO_p (PS_add_u64n rfl rfl (by omega) (by omega)) ?_
  refine WO_p (PS_assign_int rfl) ?_
  refine WO_nil ?_
  refine thn_normal ?_
  refine W_seq ?_
  refine W_region rfl ?_
  refine WO_p (PS_move_int rfl) ?_
  refine WO_p (PS_move_int rfl) ?_
  refine WO_p (PS_mul_u64n rfl rfl (by omega) (by omega)) ?_
  refine WO_p (PS_move_int rfl) ?_
  refine WO_p (PS_add_u64n rfl rfl (by omega) (by omega)) ?_
  refine WO_p (PS_move_int rfl) ?_
  refine WO_p (PS_shr_u64 32 rfl rfl (by decide) rfl) ?_
  refine WO_p (PS_add_u64n rfl rfl (by omega) (by omega)) ?_
  refine WO_p (PS_assign_int rfl) ?_
  refine WO_nil ?_
  refine thn_normal ?_
  refine W_seq ?_
  refine W_region rfl ?_
  refine WO_p (PS_move_int rfl) ?_
  refine WO_p (PS_move_int rfl) ?_
  refine WO_p (PS_mul_u64w rfl rfl) ?_
  refine WO_p (PS_assign_int rfl) ?_
  refine WO_nil ?_
  refine thn_normal ?_
  refine W_ret ?_
  refine bodyQ_ret2 Hvad.results122 rfl rfl (.int _ _) (.int _ _) rfl rfl ?_
  refine ⟨?_, rfl⟩
  have hh := mul64_hi (x := x) (y := y) (x0 := x % 4294967296) (x1 := x / 2 ^ 32) (y0 := y % 4294967296) (y1 := y / 2 ^ 32) (by omega) (by omega) (by omega) (by omega)
  rw [← hh]; rfl

set_option maxRecDepth 10000 in
theorem mul64_spec (x y : Int) (w : World) (hx : U64 x) (hy : U64 y) : Ret Hvad.prog 71 #[.int .u64 x, .int .u64 y] w fun v w' => v = .tuple #[.int .u64 (x * y / 18446744073709551616), .int .u64 (x * y % 18446744073709551616)] ∧ w' = w := by
  obtain ⟨hx0, hx1⟩ := hx
  obtain ⟨hy0, hy1⟩ := hy
  refine Ret_of_W Hvad.func71 rfl rfl ?_
  refine W_seq ?_
  refine W_region rfl ?_
  refine WO_p (PS_assign_int rfl) ?_
  refine WO_p (PS_assign_int rfl) ?_
  refine WO_nil ?_
  refine thn_normal ?_
  refine W_seq ?_
  refine W_region rfl ?_
  refine WO_p (PS_move_int rfl) ?_
  refine WO_p (PS_move_int rfl) ?_
  refine WO_call Hvad.call122 (by rfl) (Ret.mono (mul64b_spec _ _ _ ⟨by omega, by omega⟩ ⟨by omega, by omega⟩) ?_)
  rintro _ _ ⟨rfl, rfl⟩
  refine WO_p (PS_extract_int rfl rfl) ?_
  refine WO_p (PS_extract_int rfl rfl) ?_
  refine WO_p (PS_assign_int rfl) ?_
  refine WO_p (PS_assign_int rfl) ?_
  refine WO_nil ?_
  refine thn_normal ?_
  refine W_ret ?_
  refine bodyQ_ret2 Hvad.results71 rfl rfl (.int _ _) (.int _ _) rfl rfl ?_
  exact ⟨rfl, rfl⟩

def hfold (h x : Int) : Int := bXor (bXor h x * 11400714819323198485 / 18446744073709551616) (bXor h x * 11400714819323198485 % 18446744073709551616)
theorem hfold_bd (h x : Int) : 0 ≤ hfold h x ∧ hfold h x ≤ 18446744073709551615 := bXor_bd _ _

set_option maxRecDepth 10000 in
theorem fold_spec (h x : Int) (w : World) : Ret Hvad.prog 221 #[.int .u64 h, .int .u64 x] w fun v w' => v = .int .u64 (hfold h x) ∧ w' = w := by
  refine Ret_of_W Hvad.func221 rfl rfl ?_
  refine W_seq ?_
  refine W_region rfl ?_
  refine WO_p (PS_assign_int rfl) ?_
  refine WO_nil ?_
  refine thn_normal ?_
  refine W_seq ?_
  refine W_region rfl ?_
  refine WO_p (PS_move_int rfl) ?_
  refine WO_p (PS_move_int rfl) ?_
  refine WO_p (PS_xor_u64 rfl rfl) ?_
  refine WO_call Hvad.call71 (by rfl) (Ret.mono (mul64_spec _ _ _ (bXor_bd _ _) ⟨by decide, by decide⟩) ?_)
  rintro _ _ ⟨rfl, rfl⟩
  refine WO_p (PS_move_tuple rfl) ?_
  refine WO_p (PS_extract_int rfl rfl) ?_
  refine WO_p (PS_extract_int rfl rfl) ?_
  refine WO_p (PS_assign_int rfl) ?_
  refine WO_p (PS_assign_int rfl) ?_
  refine WO_nil ?_
  refine thn_normal ?_
  refine W_seq ?_
  refine W_region rfl ?_
  refine WO_p (PS_move_int rfl) ?_
  refine WO_p (PS_move_int rfl) ?_
  refine WO_p (PS_xor_u64 rfl rfl) ?_
  refine WO_p (PS_assign_int rfl) ?_
  refine WO_nil ?_
  refine thn_normal ?_
  refine W_ret ?_
  refine bodyQ_ret1 Hvad.results221 rfl (.int _ _) rfl ?_
  exact ⟨rfl, rfl⟩

set_option maxRecDepth 10000 in
theorem be64_spec (b o n cp : Nat) (off : Int) (p0 p1 p2 p3 p4 p5 p6 p7 : Int) (r : Array Value) (T : TypeId) (fz : Nat × Nat) (w : World) (hb : Hb w b (.cells r T fz)) (hx : Xt r (o + off.toNat * 1) (o + off.toNat * 1 + 8) (ic .u8 [p0, p1, p2, p3, p4, p5, p6, p7])) (hsz : o + off.toNat * 1 + 8 ≤ r.size) (h0 : 0 ≤ off) (h1 : off + 8 ≤ n) (hn : n ≤ 9223372036854775807) (hcp : n ≤ cp) (q0 : 0 ≤ p0 ∧ p0 ≤ 255) (q1 : 0 ≤ p1 ∧ p1 ≤ 255) (q2 : 0 ≤ p2 ∧ p2 ≤ 255) (q3 : 0 ≤ p3 ∧ p3 ≤ 255) (q4 : 0 ≤ p4 ∧ p4 ≤ 255) (q5 : 0 ≤ p5 ∧ p5 ≤ 255) (q6 : 0 ≤ p6 ∧ p6 ≤ 255) (q7 : 0 ≤ p7 ∧ p7 ≤ 255) : Ret Hvad.prog 80 #[.slice (some ⟨b, o, none⟩) n cp, .int .i64 off] w fun v w' => v = .tuple #[.int .u64 (be8 p0 p1 p2 p3 p4 p5 p6 p7), .bool true] ∧ Ext w w' := by
  refine Ret_of_W Hvad.func80 rfl rfl ?_
  refine W_seq ?_
  refine W_region rfl ?_
  refine WO_p (PS_assign_int rfl) ?_
  refine WO_p (PS_assign_bool rfl) ?_
  refine WO_nil ?_
  refine thn_normal ?_
  refine W_seq ?_
  refine W_seq ?_
  refine W_region rfl ?_
  refine WO_p (PS_move_slice rfl) ?_
  refine WO_p (PS_lenS Hvad.runUnderlying32 rfl) ?_
  refine WO_p (PS_move_int rfl) ?_
  refine WO_call Hvad.call128 (by rfl) (Ret.mono (inside_spec _ _ _ (by omega) (by omega)) ?_)
  rintro _ _ ⟨rfl, rfl⟩
  refine WO_p (PS_not rfl) ?_
  refine WO_nil ?_
  refine thn_normal ?_
  refine W_if rfl (fun hb4 => ?_) (fun hb4 => ?_)
  · have hb4p := hb4.h; try simp only [al_ete, al_dfn, Bool.not_eq_true', Bool.not_eq_false', al_ne, Bool.not_not, al_nn] at hb4p
    exfalso
    omega --END
  · have hb4p := hb4.h; try simp only [al_ete, al_dfn, Bool.not_eq_true', Bool.not_eq_false', al_ne, Bool.not_not, al_nn] at hb4p
    refine W_skip ?_
    refine thn_normal ?_
    refine W_seq ?_
    refine W_region rfl ?_
    refine WO_p (PS_move_slice rfl) ?_
    refine WO_p (PS_move_int rfl) ?_
    refine WO_p (PS_move_int rfl) ?_
    refine WO_p (PS_add_i64n rfl rfl (by omega) (by omega)) ?_
    refine WO_p (PS_slS_lh Hvad.runUnderlying32 Hvad.sizeOf5 rfl rfl rfl (by omega) (by omega) (by omega) (by omega) (by omega)) ?_
    refine WO_p (PS_arrayAt Hvad.runUnderlying189 rfl (by omega)) ?_
    refine WO_loadA _ Hvad.isAgg189 Hvad.sizeOf189 rfl (Hb.h (by repeat (first | assumption | exact Hb.newY _ _ | refine Hb.alloc ?_ | refine Hb.drew ?_ | refine Hb.ext (by assumption) ?_ | exact Hb.setSameL (by first | omega | (simp only [size_alloc, size_setB, size_drew]; omega)) | exact Hb.setSame (by assumption) | refine Hb.set (by first | omega | (simp only [size_alloc, size_setB, size_drew]; omega)) ?_ ))) (by first | omega | assumption | rfl | decide | exact Nat.le_refl _ | (simp only [size_ic, Value.cells]; omega) | simp) (Xt.h (by first | assumption | exact Xt.whole rfl rfl | exact Xt.whole rfl (by simp only [size_ic, Value.cells]; omega) | exact ⟨rfl⟩)) ?_
    refine WO_alloc Hvad.zeroValue189 ?_
    first | refine WO_storeW Hvad.sizeOf189 rfl (v := .agg _) rfl (Hb.h (by repeat (first | assumption | exact Hb.newY _ _ | refine Hb.alloc ?_ | refine Hb.drew ?_ | refine Hb.ext (by assumption) ?_ | exact Hb.setSameL (by first | omega | (simp only [size_alloc, size_setB, size_drew]; omega)) | exact Hb.setSame (by assumption) | refine Hb.set (by first | omega | (simp only [size_alloc, size_setB, size_drew]; omega)) ?_ ))) rfl (by first | omega | assumption | rfl | decide | exact Nat.le_refl _ | (simp only [size_ic, Value.cells]; omega) | simp) (by first | omega | assumption | rfl | decide | exact Nat.le_refl _ | (simp only [size_ic, Value.cells]; omega) | simp) (by first | exact oneCell_ic | assumption) ?_ | refine WO_store Hvad.sizeOf189 rfl (v := .agg _) rfl (Hb.h (by repeat (first | assumption | exact Hb.newY _ _ | refine Hb.alloc ?_ | refine Hb.drew ?_ | refine Hb.ext (by assumption) ?_ | exact Hb.setSameL (by first | omega | (simp only [size_alloc, size_setB, size_drew]; omega)) | exact Hb.setSame (by assumption) | refine Hb.set (by first | omega | (simp only [size_alloc, size_setB, size_drew]; omega)) ?_ ))) (by first | omega | assumption | rfl | decide | exact Nat.le_refl _ | (simp only [size_ic, Value.cells]; omega) | simp) (by first | omega | assumption | rfl | decide | exact Nat.le_refl _ | (simp only [size_ic, Value.cells]; omega) | simp) (by first | exact oneCell_ic | assumption) ?_
    refine WO_nil ?_
    refine thn_normal ?_
    refine W_seq ?_
    refine W_region rfl ?_
    refine WO_p (PS_indexA Hvad.runUnderlying189 Hvad.sizeOf5 rfl rfl (by omega) (by omega)) ?_
    refine WO_load (.int _ _) Hvad.isAgg5 rfl (Hb.h (by repeat (first | assumption | exact Hb.newY _ _ | refine Hb.alloc ?_ | refine Hb.drew ?_ | refine Hb.ext (by assumption) ?_ | exact Hb.setSameL (by first | omega | (simp only [size_alloc, size_setB, size_drew]; omega)) | exact Hb.setSame (by assumption) | refine Hb.set (by first | omega | (simp only [size_alloc, size_setB, size_drew]; omega)) ?_ ))) (Ce.h (by first | assumption | exact ⟨rfl⟩)) ?_
    refine WO_p (PS_conv_u64n Hvad.runUnderlying5 Hvad.runUnderlying26 rfl (by omega) (by omega)) ?_
    refine WO_p (PS_indexA Hvad.runUnderlying189 Hvad.sizeOf5 rfl rfl (by omega) (by omega)) ?_
    refine WO_load (.int _ _) Hvad.isAgg5 rfl (Hb.h (by repeat (first | assumption | exact Hb.newY _ _ | refine Hb.alloc ?_ | refine Hb.drew ?_ | refine Hb.ext (by assumption) ?_ | exact Hb.setSameL (by first | omega | (simp only [size_alloc, size_setB, size_drew]; omega)) | exact Hb.setSame (by assumption) | refine Hb.set (by first | omega | (simp only [size_alloc, size_setB, size_drew]; omega)) ?_ ))) (Ce.h (by first | assumption | exact ⟨rfl⟩)) ?_
    refine WO_p (PS_conv_u64n Hvad.runUnderlying5 Hvad.runUnderlying26 rfl (by omega) (by omega)) ?_
    refine WO_p (PS_shl_u64 8 rfl rfl (by decide) rfl) ?_
    refine WO_p (PS_or_u64 rfl rfl) ?_
    refine WO_p (PS_indexA Hvad.runUnderlying189 Hvad.sizeOf5 rfl rfl (by omega) (by omega)) ?_
    refine WO_load (.int _ _) Hvad.isAgg5 rfl (Hb.h (by repeat (first | assumption | exact Hb.newY _ _ | refine Hb.alloc ?_ | refine Hb.drew ?_ | refine Hb.ext (by assumption) ?_ | exact Hb.setSameL (by first | omega | (simp only [size_alloc, size_setB, size_drew]; omega)) | exact Hb.setSame (by assumption) | refine Hb.set (by first | omega | (simp only [size_alloc, size_setB, size_drew]; omega)) ?_ ))) (Ce.h (by first | assumption | exact ⟨rfl⟩)) ?_
    refine WO_p (PS_conv_u64n Hvad.runUnderlying5 Hvad.runUnderlying26 rfl (by omega) (by omega)) ?_
    refine WO_p (PS_shl_u64 16 rfl rfl (by decide) rfl) ?_
    refine WO_p (PS_or_u64 rfl rfl) ?_
    refine WO_p (PS_indexA Hvad.runUnderlying189 Hvad.sizeOf5 rfl rfl (by omega) (by omega)) ?_
    refine WO_load (.int _ _) Hvad.isAgg5 rfl (Hb.h (by repeat (first | assumption | exact Hb.newY _ _ | refine Hb.alloc ?_ | refine Hb.drew ?_ | refine Hb.ext (by assumption) ?_ | exact Hb.setSameL (by first | omega | (simp only [size_alloc, size_setB, size_drew]; omega)) | exact Hb.setSame (by assumption) | refine Hb.set (by first | omega | (simp only [size_alloc, size_setB, size_drew]; omega)) ?_ ))) (Ce.h (by first | assumption | exact ⟨rfl⟩)) ?_
    refine WO_p (PS_conv_u64n Hvad.runUnderlying5 Hvad.runUnderlying26 rfl (by omega) (by omega)) ?_
    refine WO_p (PS_shl_u64 24 rfl rfl (by decide) rfl) ?_
    refine WO_p (PS_or_u64 rfl rfl) ?_
    refine WO_p (PS_indexA Hvad.runUnderlying189 Hvad.sizeOf5 rfl rfl (by omega) (by omega)) ?_
    refine WO_load (.int _ _) Hvad.isAgg5 rfl (Hb.h (by repeat (first | assumption | exact Hb.newY _ _ | refine Hb.alloc ?_ | refine Hb.drew ?_ | refine Hb.ext (by assumption) ?_ | exact Hb.setSameL (by first | omega | (simp only [size_alloc, size_setB, size_drew]; omega)) | exact Hb.setSame (by assumption) | refine Hb.set (by first | omega | (simp only [size_alloc, size_setB, size_drew]; omega)) ?_ ))) (Ce.h (by first | assumption | exact ⟨rfl⟩)) ?_
    refine WO_p (PS_conv_u64n Hvad.runUnderlying5 Hvad.runUnderlying26 rfl (by omega) (by omega)) ?_
    refine WO_p (PS_shl_u64 32 rfl rfl (by decide) rfl) ?_
    refine WO_p (PS_or_u64 rfl rfl) ?_
    refine WO_p (PS_indexA Hvad.runUnderlying189 Hvad.sizeOf5 rfl rfl (by omega) (by omega)) ?_
    refine WO_load (.int _ _) Hvad.isAgg5 rfl (Hb.h (by repeat (first | assumption | exact Hb.newY _ _ | refine Hb.alloc ?_ | refine Hb.drew ?_ | refine Hb.ext (by assumption) ?_ | exact Hb.setSameL (by first | omega | (simp only [size_alloc, size_setB, size_drew]; omega)) | exact Hb.setSame (by assumption) | refine Hb.set (by first | omega | (simp only [size_alloc, size_setB, size_drew]; omega)) ?_ ))) (Ce.h (by first | assumption | exact ⟨rfl⟩)) ?_
    refine WO_p (PS_conv_u64n Hvad.runUnderlying5 Hvad.runUnderlying26 rfl (by omega) (by omega)) ?_
    refine WO_p (PS_shl_u64 40 rfl rfl (by decide) rfl) ?_
    refine WO_p (PS_or_u64 rfl rfl) ?_
    refine WO_p (PS_indexA Hvad.runUnderlying189 Hvad.sizeOf5 rfl rfl (by omega) (by omega)) ?_
    refine WO_load (.int _ _) Hvad.isAgg5 rfl (Hb.h (by repeat (first | assumption | exact Hb.newY _ _ | refine Hb.alloc ?_ | refine Hb.drew ?_ | refine Hb.ext (by assumption) ?_ | exact Hb.setSameL (by first | omega | (simp only [size_alloc, size_setB, size_drew]; omega)) | exact Hb.setSame (by assumption) | refine Hb.set (by first | omega | (simp only [size_alloc, size_setB, size_drew]; omega)) ?_ ))) (Ce.h (by first | assumption | exact ⟨rfl⟩)) ?_
    refine WO_p (PS_conv_u64n Hvad.runUnderlying5 Hvad.runUnderlying26 rfl (by omega) (by omega)) ?_
    refine WO_p (PS_shl_u64 48 rfl rfl (by decide) rfl) ?_
    refine WO_p (PS_or_u64 rfl rfl) ?_
    refine WO_p (PS_indexA Hvad.runUnderlying189 Hvad.sizeOf5 rfl rfl (by omega) (by omega)) ?_
    refine WO_load (.int _ _) Hvad.isAgg5 rfl (Hb.h (by repeat (first | assumption | exact Hb.newY _ _ | refine Hb.alloc ?_ | refine Hb.drew ?_ | refine Hb.ext (by assumption) ?_ | exact Hb.setSameL (by first | omega | (simp only [size_alloc, size_setB, size_drew]; omega)) | exact Hb.setSame (by assumption) | refine Hb.set (by first | omega | (simp only [size_alloc, size_setB, size_drew]; omega)) ?_ ))) (Ce.h (by first | assumption | exact ⟨rfl⟩)) ?_
    refine WO_p (PS_conv_u64n Hvad.runUnderlying5 Hvad.runUnderlying26 rfl (by omega) (by omega)) ?_
    refine WO_p (PS_shl_u64 56 rfl rfl (by decide) rfl) ?_
    refine WO_p (PS_or_u64 rfl rfl) ?_
    refine WO_p (PS_assign_int rfl) ?_
    refine WO_p (PS_assign_bool rfl) ?_
    refine WO_nil ?_
    refine thn_normal ?_
    refine W_ret ?_
    refine bodyQ_ret2 Hvad.results80 rfl rfl (.int _ _) (.bool _) rfl rfl ?_
    refine ⟨?_, (by repeat (first | assumption | exact Ext.refl _ | refine Ext.alloc ?_ _ | refine Ext.drew ?_ | refine Ext.setB ?_ (by first | omega | (simp only [size_alloc, size_setB, size_drew]; omega)) _ | refine Ext.trans ?_ (by assumption)))⟩
    rw [← be8_or q0 q1 q2 q3 q4 q5 q6 q7]


/-- eight bytes of a list from k on -/
def beAt (l : List Int) (k : Nat) : Int := be8 (l.getD k 0) (l.getD (k+1) 0) (l.getD (k+2) 0) (l.getD (k+3) 0) (l.getD (k+4) 0) (l.getD (k+5) 0) (l.getD (k+6) 0) (l.getD (k+7) 0)
theorem getD_byte {l : List Int} (h : ∀ x ∈ l, 0 ≤ x ∧ x ≤ 255) (k : Nat) : 0 ≤ l.getD k 0 ∧ l.getD k 0 ≤ 255 := by
  rw [List.getD_eq_getElem?_getD]
  cases hk : l[k]? with
  | none => simp
  | some x => exact h x (List.mem_of_getElem? hk)
theorem beAt_bd {l : List Int} (h : ∀ x ∈ l, 0 ≤ x ∧ x ≤ 255) (k : Nat) : 0 ≤ beAt l k ∧ beAt l k ≤ 18446744073709551615 :=
  be8_bd (getD_byte h _) (getD_byte h _) (getD_byte h _) (getD_byte h _) (getD_byte h _) (getD_byte h _) (getD_byte h _) (getD_byte h _)
theorem ic_ext8 {l : List Int} {k : Nat} (h : k + 8 ≤ l.length) : Xt (ic .u8 l) (0 + k * 1) (0 + k * 1 + 8) (ic .u8 [l.getD k 0, l.getD (k+1) 0, l.getD (k+2) 0, l.getD (k+3) 0, l.getD (k+4) 0, l.getD (k+5) 0, l.getD (k+6) 0, l.getD (k+7) 0]) := by
  refine ⟨Array.ext_getElem? ?_⟩
  intro j
  by_cases hj : j < 8
  · rw [Array.getElem?_extract, if_pos (by simp [size_ic]; omega), ic_get, ic_get]
    have hlt : ∀ i, i < 8 → l[0 + k * 1 + i]? = some (l.getD (k + i) 0) := by
      intro i hi
      rw [List.getD_eq_getElem?_getD, show 0 + k * 1 + i = k + i by omega, List.getElem?_eq_getElem (by omega)]; rfl
    rw [hlt j hj]
    match j, hj with
    | 0, _ => rfl
    | 1, _ => rfl
    | 2, _ => rfl
    | 3, _ => rfl
    | 4, _ => rfl
    | 5, _ => rfl
    | 6, _ => rfl
    | 7, _ => rfl
  · rw [Array.getElem?_eq_none (by simp [size_ic]; omega), Array.getElem?_eq_none (by simp [size_ic]; omega)]
/-- .. of an array in a block of its own -/
theorem be64_arr (l : List Int) (b : Nat) (off : Int) (T : TypeId) (fz : Nat × Nat) (w : World) (hb : Hb w b (.cells (ic .u8 l) T fz)) (hl : ∀ x ∈ l, 0 ≤ x ∧ x ≤ 255) (h0 : 0 ≤ off) (h1 : off + 8 ≤ l.length) (hn : l.length ≤ 1000) (n cp : Nat) (hn' : n = l.length) (hcp : cp = l.length) :
    Ret Hvad.prog 80 #[.slice (some ⟨b, 0, none⟩) n cp, .int .i64 off] w fun v w' => v = .tuple #[.int .u64 (beAt l off.toNat), .bool true] ∧ Ext w w' := by
  subst hn' hcp
  exact be64_spec b 0 l.length l.length off _ _ _ _ _ _ _ _ (ic .u8 l) T fz w hb (ic_ext8 (by omega)) (by rw [size_ic]; omega) h0 h1 (by omega) (by omega) (getD_byte hl _) (getD_byte hl _) (getD_byte hl _) (getD_byte hl _) (getD_byte hl _) (getD_byte hl _) (getD_byte hl _) (getD_byte hl _)


def home (A : List Int) : Int := hfold (hfold (hfold (hfold 2611923443488327891 (beAt A 0)) (beAt A 8)) (beAt A 12)) 1376283091369227076 % 4096
theorem home_bd (A : List Int) : 0 ≤ home A ∧ home A < 4096 := by unfold home; omega

set_option maxRecDepth 10000 in
theorem acctHome_spec (A : List Int) (w : World) (hA : By A 20) : Ret Hvad.prog 125 #[.agg (ic .u8 A)] w fun v w' => v = .int .u32 (home A) ∧ Ext w w' := by
  have hAl := hA.1
  refine Ret_of_W Hvad.func125 rfl rfl ?_
  refine W_seq ?_
  refine W_region rfl ?_
  refine WO_box (.agg _) rfl ?_
  refine WO_p (PS_assign_int rfl) ?_
  refine WO_nil ?_
  refine thn_normal ?_
  refine W_seq ?_
  refine W_region rfl ?_
  refine WO_p (PS_slA Hvad.runUnderlying25 Hvad.sizeOf5 rfl (by omega)) ?_
  refine WO_call Hvad.call80 (by rfl) (Ret.mono (be64_arr _ _ _ _ _ _ (Hb.mk (Hb.h (by repeat (first | assumption | exact Hb.newY _ _ | refine Hb.alloc ?_ | refine Hb.drew ?_ | refine Hb.ext (by assumption) ?_ | exact Hb.setSameL (by first | omega | (simp only [size_alloc, size_setB, size_drew]; omega)) | exact Hb.setSame (by assumption) | refine Hb.set (by first | omega | (simp only [size_alloc, size_setB, size_drew]; omega)) ?_ )))) hA.2 (by decide) (by omega) (by omega) _ _ (by omega) (by omega)) ?_)
  rintro _ w80_0 ⟨rfl, hE80_0⟩
  refine WO_p (PS_move_tuple rfl) ?_
  refine WO_p (PS_extract_int rfl rfl) ?_
  refine WO_p (PS_extract_bool rfl rfl) ?_
  refine WO_p (PS_assign_int rfl) ?_
  refine WO_p (PS_assign_bool rfl) ?_
  refine WO_nil ?_
  refine thn_normal ?_
  refine W_seq ?_
  refine W_region rfl ?_
  refine WO_p (PS_slA Hvad.runUnderlying25 Hvad.sizeOf5 rfl (by omega)) ?_
  refine WO_call Hvad.call80 (by rfl) (Ret.mono (be64_arr _ _ _ _ _ _ (Hb.mk (Hb.h (by repeat (first | assumption | exact Hb.newY _ _ | refine Hb.alloc ?_ | refine Hb.drew ?_ | refine Hb.ext (by assumption) ?_ | exact Hb.setSameL (by first | omega | (simp only [size_alloc, size_setB, size_drew]; omega)) | exact Hb.setSame (by assumption) | refine Hb.set (by first | omega | (simp only [size_alloc, size_setB, size_drew]; omega)) ?_ )))) hA.2 (by decide) (by omega) (by omega) _ _ (by omega) (by omega)) ?_)
  rintro _ w80_2 ⟨rfl, hE80_2⟩
  refine WO_p (PS_move_tuple rfl) ?_
  refine WO_p (PS_extract_int rfl rfl) ?_
  refine WO_p (PS_extract_bool rfl rfl) ?_
  refine WO_p (PS_assign_int rfl) ?_
  refine WO_p (PS_assign_bool rfl) ?_
  refine WO_nil ?_
  refine thn_normal ?_
  refine W_seq ?_
  refine W_region rfl ?_
  refine WO_p (PS_slA Hvad.runUnderlying25 Hvad.sizeOf5 rfl (by omega)) ?_
  refine WO_call Hvad.call80 (by rfl) (Ret.mono (be64_arr _ _ _ _ _ _ (Hb.mk (Hb.h (by repeat (first | assumption | exact Hb.newY _ _ | refine Hb.alloc ?_ | refine Hb.drew ?_ | refine Hb.ext (by assumption) ?_ | exact Hb.setSameL (by first | omega | (simp only [size_alloc, size_setB, size_drew]; omega)) | exact Hb.setSame (by assumption) | refine Hb.set (by first | omega | (simp only [size_alloc, size_setB, size_drew]; omega)) ?_ )))) hA.2 (by decide) (by omega) (by omega) _ _ (by omega) (by omega)) ?_)
  rintro _ w80_4 ⟨rfl, hE80_4⟩
  refine WO_p (PS_move_tuple rfl) ?_
  refine WO_p (PS_extract_int rfl rfl) ?_
  refine WO_p (PS_extract_bool rfl rfl) ?_
  refine WO_p (PS_assign_int rfl) ?_
  refine WO_p (PS_assign_bool rfl) ?_
  refine WO_nil ?_
  refine thn_normal ?_
  refine W_seq ?_
  refine W_region rfl ?_
  refine WO_p (PS_move_int rfl) ?_
  refine WO_call Hvad.call221 (by rfl) (Ret.mono (fold_spec _ _ _) ?_)
  rintro _ _ ⟨rfl, rfl⟩
  refine WO_p (PS_move_int rfl) ?_
  refine WO_call Hvad.call221 (by rfl) (Ret.mono (fold_spec _ _ _) ?_)
  rintro _ _ ⟨rfl, rfl⟩
  refine WO_p (PS_move_int rfl) ?_
  refine WO_call Hvad.call221 (by rfl) (Ret.mono (fold_spec _ _ _) ?_)
  rintro _ _ ⟨rfl, rfl⟩
  refine WO_p (PS_assign_int rfl) ?_
  refine WO_nil ?_
  refine thn_normal ?_
  refine W_seq ?_
  refine W_region rfl ?_
  refine WO_p (PS_move_int rfl) ?_
  refine WO_call Hvad.call221 (by rfl) (Ret.mono (fold_spec _ _ _) ?_)
  rintro _ _ ⟨rfl, rfl⟩
  refine WO_p (PS_rem_u64 rfl rfl (hfold_bd _ _).1 (by decide)) ?_
  refine WO_p (PS_conv_u32n Hvad.runUnderlying26 Hvad.runUnderlying54 rfl (by omega) (by omega)) ?_
  refine WO_p (PS_assign_int rfl) ?_
  refine WO_nil ?_
  refine thn_normal ?_
  refine W_ret ?_
  refine bodyQ_ret1 Hvad.results125 rfl (.int _ _) rfl ?_
  exact ⟨rfl, (by repeat (first | assumption | exact Ext.refl _ | refine Ext.alloc ?_ _ | refine Ext.drew ?_ | refine Ext.setB ?_ (by first | omega | (simp only [size_alloc, size_setB, size_drew]; omega)) _ | refine Ext.trans ?_ (by assumption)))⟩


def mixS (a : Int) (K : List Int) : Int := hfold (K.foldl hfold (hfold 2611923443488327891 (a % 4294967296))) 1376283091369227076
theorem foldl_bd (l : List Int) (x : Int) (h : 0 ≤ x ∧ x ≤ 18446744073709551615) : 0 ≤ l.foldl hfold x ∧ l.foldl hfold x ≤ 18446744073709551615 := by
  induction l generalizing x with
  | nil => exact h
  | cons a l ih => exact ih _ (hfold_bd _ _)
theorem foldl_take_succ {K : List Int} {i : Nat} {v x : Int} (h : K[i]? = some v) : (K.take (i + 1)).foldl hfold x = hfold ((K.take i).foldl hfold x) v := by
  have hi := lt_of_getElem? h
  rw [List.take_succ_eq_append_getElem hi, List.foldl_append]
  rw [List.getElem?_eq_getElem hi] at h
  injection h with h
  rw [h]; rfl

set_option maxRecDepth 10000 in
theorem mixSlot_spec (a : Int) (K : List Int) (w : World) (ha : I32 a) (hK : Wd K) : Ret Hvad.prog 265 #[.int .i32 a, .agg (ic .u64 K)] w fun v w' => v = .int .u64 (mixS a K) ∧ Ext w w' := by
  have hKl := hK.1
  obtain ⟨ha0, ha1⟩ := ha
  generalize hR : mixS a K = R
  refine Ret_of_W Hvad.func265 rfl rfl ?_
  refine W_seq ?_
  refine W_region rfl ?_
  refine WO_box (.agg _) rfl ?_
  refine WO_p (PS_assign_int rfl) ?_
  refine WO_nil ?_
  refine thn_normal ?_
  refine W_seq ?_
  refine W_region rfl ?_
  refine WO_p (PS_move_int rfl) ?_
  refine WO_p (PS_conv_u32w Hvad.runUnderlying21 Hvad.runUnderlying54 rfl) ?_
  refine WO_p (PS_conv_u64n Hvad.runUnderlying54 Hvad.runUnderlying26 rfl (by omega) (by omega)) ?_
  refine WO_call Hvad.call221 (by rfl) (Ret.mono (fold_spec _ _ _) ?_)
  rintro _ _ ⟨rfl, rfl⟩
  refine WO_p (PS_assign_int rfl) ?_
  refine WO_nil ?_
  refine thn_normal ?_
  refine W_seq ?_
  refine W_seq ?_
  refine W_region rfl ?_
  refine WO_loadA _ Hvad.isAgg59 Hvad.sizeOf59 rfl (Hb.h (by repeat (first | assumption | exact Hb.newY _ _ | refine Hb.alloc ?_ | refine Hb.drew ?_ | refine Hb.ext (by assumption) ?_ | exact Hb.setSameL (by first | omega | (simp only [size_alloc, size_setB, size_drew]; omega)) | exact Hb.setSame (by assumption) | refine Hb.set (by first | omega | (simp only [size_alloc, size_setB, size_drew]; omega)) ?_ ))) (by first | omega | assumption | rfl | decide | exact Nat.le_refl _ | (simp only [size_ic, Value.cells]; omega) | simp) (Xt.h (by first | assumption | exact Xt.whole rfl rfl | exact Xt.whole rfl (by simp only [size_ic, Value.cells]; omega) | exact ⟨rfl⟩)) ?_
  refine WO_p (PS_move_int rfl) ?_
  refine WO_nil ?_
  refine thn_normal ?_
  refine W_block ?_
  refine W_loopN (fun m ρ w' => ∃ i : Nat, m + i = 4 ∧ Fr [(5, .int .u64 ((K.take i).foldl hfold (hfold 2611923443488327891 (a % 4294967296)))), (12, .agg (ic .u64 K)), (13, .int .i64 i)] ρ ∧ Ext w w') 4 ?_ ?_
  · exact ⟨0, rfl, ⟨rfl, rfl, rfl, trivial⟩, (by repeat (first | assumption | exact Ext.refl _ | refine Ext.alloc ?_ _ | refine Ext.drew ?_ | refine Ext.setB ?_ (by first | omega | (simp only [size_alloc, size_setB, size_drew]; omega)) _ | refine Ext.trans ?_ (by assumption)))⟩
  intro m ρ w2 hI
  obtain ⟨i, hmi, hF, hE2⟩ := hI
  refine W_env _ hF ?_
  refine W_seq ?_
  refine W_region rfl ?_
  refine WO_p (PS_lss rfl rfl) ?_
  refine WO_nil ?_
  refine thn_normal ?_
  refine W_seq ?_
  refine W_if rfl (fun hb3 => ?_) (fun hb3 => ?_)
  · have hb3p := hb3.h; try simp only [al_ete, al_dfn, Bool.not_eq_true', Bool.not_eq_false', al_ne, Bool.not_not, al_nn] at hb3p
    obtain ⟨v, hv⟩ : ∃ v, K[i]? = some v := ⟨_, List.getElem?_eq_getElem (by omega)⟩
    refine W_skip ?_
    refine thn_normal ?_
    refine W_seq ?_
    refine W_block ?_
    refine W_seq ?_
    refine W_region rfl ?_
    refine WO_p (PS_indexV Hvad.runUnderlying59 Hvad.sizeOf26 Hvad.isAgg26 rfl rfl (by omega) (by omega) (by assumption)) ?_
    refine WO_p (PS_assign_int rfl) ?_
    refine WO_nil ?_
    refine thn_normal ?_
    refine W_region rfl ?_
    refine WO_p (PS_move_int rfl) ?_
    refine WO_p (PS_move_int rfl) ?_
    refine WO_call Hvad.call221 (by rfl) (Ret.mono (fold_spec _ _ _) ?_)
    rintro _ _ ⟨rfl, rfl⟩
    refine WO_p (PS_assign_int rfl) ?_
    refine WO_nil ?_
    refine inBlk_normal ?_
    refine thn_normal ?_
    refine W_region rfl ?_
    refine WO_p (PS_add_i64n rfl rfl (by omega) (by omega)) ?_
    refine WO_p (PS_move_int rfl) ?_
    refine WO_nil ?_
    refine thn_normal ?_
    refine ⟨m - 1, by omega, i + 1, by omega, ⟨?_, rfl, congrArg (Value.int .i64) (by omega), trivial⟩, hE2⟩
    rw [foldl_take_succ hv]; rfl
  · have hb3p := hb3.h; try simp only [al_ete, al_dfn, Bool.not_eq_true', Bool.not_eq_false', al_ne, Bool.not_not, al_nn] at hb3p
    have hi4 : i = 4 := by omega
    subst hi4
    rw [List.take_of_length_le (by omega)]
    refine W_exit ?_
    refine thn_exit ?_
    refine thn_exit ?_
    refine inBlk_exit ?_
    refine thn_normal ?_
    refine W_seq ?_
    refine W_region rfl ?_
    refine WO_p (PS_move_int rfl) ?_
    refine WO_call Hvad.call221 (by rfl) (Ret.mono (fold_spec _ _ _) ?_)
    rintro _ _ ⟨rfl, rfl⟩
    refine WO_p (PS_assign_int rfl) ?_
    refine WO_nil ?_
    refine thn_normal ?_
    refine W_ret ?_
    refine bodyQ_ret1 Hvad.results265 rfl (.int _ _) rfl ?_
    refine ⟨?_, hE2⟩
    rw [← hR]; rfl


def homeS (a : Int) (K : List Int) : Int := mixS a K % 4096
theorem homeS_bd (a : Int) (K : List Int) : 0 ≤ homeS a K ∧ homeS a K < 4096 := by unfold homeS; omega
theorem mixS_bd (a : Int) (K : List Int) : 0 ≤ mixS a K ∧ mixS a K ≤ 18446744073709551615 := hfold_bd _ _

set_option maxRecDepth 10000 in
theorem slotHome_spec (a : Int) (K : List Int) (w : World) (ha : I32 a) (hK : Wd K) : Ret Hvad.prog 217 #[.int .i32 a, .agg (ic .u64 K)] w fun v w' => v = .int .u32 (homeS a K) ∧ Ext w w' := by
  have hKl := hK.1
  have hmb := mixS_bd a K
  refine Ret_of_W Hvad.func217 rfl rfl ?_
  refine W_seq ?_
  refine W_region rfl ?_
  refine WO_box (.agg _) rfl ?_
  refine WO_p (PS_assign_int rfl) ?_
  refine WO_nil ?_
  refine thn_normal ?_
  refine W_seq ?_
  refine W_region rfl ?_
  refine WO_p (PS_move_int rfl) ?_
  refine WO_loadA _ Hvad.isAgg59 Hvad.sizeOf59 rfl (Hb.h (by repeat (first | assumption | exact Hb.newY _ _ | refine Hb.alloc ?_ | refine Hb.drew ?_ | refine Hb.ext (by assumption) ?_ | exact Hb.setSameL (by first | omega | (simp only [size_alloc, size_setB, size_drew]; omega)) | exact Hb.setSame (by assumption) | refine Hb.set (by first | omega | (simp only [size_alloc, size_setB, size_drew]; omega)) ?_ ))) (by first | omega | assumption | rfl | decide | exact Nat.le_refl _ | (simp only [size_ic, Value.cells]; omega) | simp) (Xt.h (by first | assumption | exact Xt.whole rfl rfl | exact Xt.whole rfl (by simp only [size_ic, Value.cells]; omega) | exact ⟨rfl⟩)) ?_
  refine WO_call Hvad.call265 (by rfl) (Ret.mono (mixSlot_spec _ _ _ ha hK) ?_)
  rintro _ w265_0 ⟨rfl, hE265_0⟩
  refine WO_p (PS_rem_u64 rfl rfl (by omega) (by omega)) ?_
  refine WO_p (PS_conv_u32n Hvad.runUnderlying26 Hvad.runUnderlying54 rfl (by omega) (by omega)) ?_
  refine WO_p (PS_assign_int rfl) ?_
  refine WO_nil ?_
  refine thn_normal ?_
  refine W_ret ?_
  refine bodyQ_ret1 Hvad.results217 rfl (.int _ _) rfl ?_
  exact ⟨rfl, (by repeat (first | assumption | exact Ext.refl _ | refine Ext.alloc ?_ _ | refine Ext.drew ?_ | refine Ext.setB ?_ (by first | omega | (simp only [size_alloc, size_setB, size_drew]; omega)) _ | refine Ext.trans ?_ (by assumption)))⟩

end Go.Proofs.YgvadwGreat
