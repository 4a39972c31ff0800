import Derived.Test.YgvadwGreatUe
namespace Go.Proofs.YgvadwGreat
set_option linter.unusedSimpArgs false
set_option linter.unusedVariables false
/-- n is the bit length of x -/
def Ln (x : Int) (n : Nat) : Prop := x < 2 ^ n ∧ (x ≠ 0 → (2:Int) ^ n ≤ 2 * x)
theorem Ln.up {x : Int} {n : Nat} (j : Nat) (hx : 0 ≤ x) (h0 : x / 2 ^ j ≠ 0) (h : Ln (x / 2 ^ j) n) : Ln x (n + j) := by
  have hp : (0:Int) < 2 ^ j := Int.pow_pos (by decide)
  obtain ⟨h1, h2⟩ := h
  have h2 := h2 h0
  have hd := Int.mul_ediv_add_emod x (2 ^ j)
  have hm0 := Int.emod_nonneg x (Int.ne_of_gt hp)
  have hm1 := Int.emod_lt_of_pos x hp
  have e1 : (2:Int) ^ (n + j) = 2 ^ j * 2 ^ n := by rw [Int.pow_add, Int.mul_comm]
  have m1 : (2:Int) ^ j * (x / 2 ^ j + 1) ≤ 2 ^ j * 2 ^ n := Int.mul_le_mul_of_nonneg_left (by omega) (Int.le_of_lt hp)
  have m2 : (2:Int) ^ j * 2 ^ n ≤ 2 ^ j * (2 * (x / 2 ^ j)) := Int.mul_le_mul_of_nonneg_left h2 (Int.le_of_lt hp)
  rw [Int.mul_add, Int.mul_one] at m1
  have e2 : (2:Int) ^ j * (2 * (x / 2 ^ j)) = 2 * (2 ^ j * (x / 2 ^ j)) := by rw [Int.mul_left_comm]
  rw [e2] at m2
  generalize (2:Int) ^ j * (x / 2 ^ j) = z at *
  generalize (2:Int) ^ j * 2 ^ n = y at *
  refine ⟨by rw [e1]; omega, fun _ => by rw [e1]; omega⟩
def tabOK (s : ByteArray) : Bool := (List.range 256).all fun i => match s[i]? with | some b => Nat.ble b.toNat 8 && Nat.blt i (2 ^ b.toNat) && (Nat.beq i 0 || Nat.ble (2 ^ b.toNat) (2 * i)) | none => false
theorem tabOK_at {s : ByteArray} (h : tabOK s = true) {i : Nat} (hi : i < 256) : ∃ b : UInt8, s[i]? = some b ∧ b.toNat ≤ 8 ∧ Ln i b.toNat := by
  unfold tabOK at h
  rw [List.all_eq_true] at h
  have := h i (List.mem_range.2 hi)
  split at this
  · rename_i b hb
    simp only [Bool.and_eq_true, Bool.or_eq_true] at this
    obtain ⟨⟨h1, h2⟩, h3⟩ := this
    refine ⟨b, hb, Nat.le_of_ble_eq_true h1, ?_, ?_⟩
    · have h2 : i < 2 ^ b.toNat := Nat.le_of_ble_eq_true h2
      exact_mod_cast h2
    · intro hne
      rcases h3 with h3 | h3
      · have := Nat.eq_of_beq_eq_true h3; omega
      · have h3 : 2 ^ b.toNat ≤ 2 * i := Nat.le_of_ble_eq_true h3
        exact_mod_cast h3
  · cases this
theorem WO_indexTab {P : Program} {ops : Array Oper} {Q : Post} {d : Nat} {t ty : TypeId} {pos : String} {af : Array Edge} {os : List Oper} {ρ : Nat → Value} {w : World} {x y : Operand} {s : ByteArray} {k : IntKind} {i : Int} (hU : ∀ w, (underlying t).run P w = .ok .string w) (hx : ev ρ x = .string s) (hy : ev ρ y = .int k i) (h0 : 0 ≤ i) (h1 : i < 256) (hs : tabOK s = true)
    (h : ∀ b : Nat, b ≤ 8 → Ln i b → WO P ops Q os (upd ρ d (.int .u8 b)) w) : WO P ops Q (⟨some d, .index t x y, ty, pos, af, none⟩ :: os) ρ w := by
  obtain ⟨b, hb, hb8, hL⟩ := tabOK_at hs (i := i.toNat) (by omega)
  refine WO_cons ?_
  simp only [stepo, execOp, hx, hy, Instr.index, asIntOf, hU, h0, hb, if_true, Sem.run_bind, Sem.run_pure, Result.andThen_ok]
  exact h b.toNat hb8 (by rwa [Int.toNat_of_nonneg h0] at hL)

set_option maxRecDepth 10000 in
theorem len64b_spec (x : Int) (w : World) (hx : 0 ≤ x ∧ x ≤ 18446744073709551615) : Ret Hvad.prog 236 #[.int .u64 x] w fun u w' => w' = w ∧ ∃ n : Nat, u = .int .i64 n ∧ n ≤ 64 ∧ Ln x n := by
  refine Ret_of_W Hvad.func236 rfl rfl ?_
  refine W_seq ?_
  refine W_region rfl ?_
  refine WO_p (PS_assign_int rfl) ?_
  refine WO_nil ?_
  refine thn_normal ?_
  refine W_seq ?_
  refine W_seq ?_
  refine W_region rfl ?_
  refine WO_p (PS_move_int rfl) ?_
  refine WO_p (PS_geq rfl rfl) ?_
  refine WO_nil ?_
  refine thn_normal ?_
  refine W_if rfl (fun hb2 => ?_) (fun hb2 => ?_)
  · have hb2p := hb2.h; try simp only [al_ete, al_dfn, Bool.not_eq_true', Bool.not_eq_false', al_ne, Bool.not_not, al_nn] at hb2p
    refine W_seq ?_
    refine W_region rfl ?_
    refine WO_p (PS_move_int rfl) ?_
    refine WO_p (PS_shr_u64 32 rfl rfl (by decide) rfl) ?_
    refine WO_p (PS_assign_int rfl) ?_
    refine WO_nil ?_
    refine thn_normal ?_
    refine W_region rfl ?_
    refine WO_p (PS_assign_int rfl) ?_
    refine WO_nil ?_
    refine thn_normal ?_
    refine W_seq ?_
    refine W_seq ?_
    refine W_region rfl ?_
    refine WO_p (PS_move_int rfl) ?_
    refine WO_p (PS_geq rfl rfl) ?_
    refine WO_nil ?_
    refine thn_normal ?_
    refine W_if rfl (fun hb4 => ?_) (fun hb4 => ?_)
    · have hb4p := hb4.h; try simp only [al_ete, al_dfn, Bool.not_eq_true', Bool.not_eq_false', al_ne, Bool.not_not, al_nn] at hb4p
      refine W_seq ?_
      refine W_region rfl ?_
      refine WO_p (PS_move_int rfl) ?_
      refine WO_p (PS_shr_u64 16 rfl rfl (by decide) rfl) ?_
      refine WO_p (PS_assign_int rfl) ?_
      refine WO_nil ?_
      refine thn_normal ?_
      refine W_region rfl ?_
      refine WO_p (PS_move_int rfl) ?_
      first | refine WO_p (PS_add_i64n rfl rfl (by omega) (by omega)) ?_ | refine WO_p (PS_add_i64w rfl rfl) ?_
      refine WO_p (PS_assign_int rfl) ?_
      refine WO_nil ?_
      refine thn_normal ?_
      refine W_seq ?_
      refine W_seq ?_
      refine W_region rfl ?_
      refine WO_p (PS_move_int rfl) ?_
      refine WO_p (PS_geq rfl rfl) ?_
      refine WO_nil ?_
      refine thn_normal ?_
      refine W_if rfl (fun hb6 => ?_) (fun hb6 => ?_)
      · have hb6p := hb6.h; try simp only [al_ete, al_dfn, Bool.not_eq_true', Bool.not_eq_false', al_ne, Bool.not_not, al_nn] at hb6p
        refine W_seq ?_
        refine W_region rfl ?_
        refine WO_p (PS_move_int rfl) ?_
        refine WO_p (PS_shr_u64 8 rfl rfl (by decide) rfl) ?_
        refine WO_p (PS_assign_int rfl) ?_
        refine WO_nil ?_
        refine thn_normal ?_
        refine W_region rfl ?_
        refine WO_p (PS_move_int rfl) ?_
        first | refine WO_p (PS_add_i64n rfl rfl (by omega) (by omega)) ?_ | refine WO_p (PS_add_i64w rfl rfl) ?_
        refine WO_p (PS_assign_int rfl) ?_
        refine WO_nil ?_
        refine thn_normal ?_
        refine W_seq ?_
        refine W_region rfl ?_
        refine WO_p (PS_move_int rfl) ?_
        refine WO_p (PS_move_int rfl) ?_
        first | refine WO_p (PS_conv_u8n Hvad.runUnderlying26 Hvad.runUnderlying5 rfl (by omega) (by omega)) ?_ | refine WO_p (PS_conv_u8w Hvad.runUnderlying26 Hvad.runUnderlying5 rfl) ?_
        refine WO_indexTab Hvad.runUnderlying9 rfl rfl (by omega) (by omega) (by kernel_rfl) ?_
        intro b hb hL
        first | refine WO_p (PS_conv_i64n Hvad.runUnderlying5 Hvad.runUnderlying3 rfl (by omega) (by omega)) ?_ | refine WO_p (PS_conv_i64w Hvad.runUnderlying5 Hvad.runUnderlying3 rfl) ?_
        first | refine WO_p (PS_add_i64n rfl rfl (by omega) (by omega)) ?_ | refine WO_p (PS_add_i64w rfl rfl) ?_
        refine WO_p (PS_assign_int rfl) ?_
        refine WO_nil ?_
        refine thn_normal ?_
        refine W_ret ?_
        refine bodyQ_ret1 Hvad.results236 rfl (.int _ _) rfl ?_
        first
        | exact ⟨rfl, b, congrArg (Value.int .i64) (by omega), by omega, hL⟩
        | exact ⟨rfl, b + 8 , congrArg (Value.int .i64) (by omega), by omega, (Ln.up (x := x) 8 (by omega) (by omega) hL)⟩
        | exact ⟨rfl, b + 16 , congrArg (Value.int .i64) (by omega), by omega, (Ln.up (x := x) 16 (by omega) (by omega) hL)⟩
        | exact ⟨rfl, b + 8 + 16 , congrArg (Value.int .i64) (by omega), by omega, (Ln.up (x := x) 16 (by omega) (by omega) (Ln.up (x := x / 2 ^ 16) 8 (by omega) (by omega) hL))⟩
        | exact ⟨rfl, b + 32 , congrArg (Value.int .i64) (by omega), by omega, (Ln.up (x := x) 32 (by omega) (by omega) hL)⟩
        | exact ⟨rfl, b + 8 + 32 , congrArg (Value.int .i64) (by omega), by omega, (Ln.up (x := x) 32 (by omega) (by omega) (Ln.up (x := x / 2 ^ 32) 8 (by omega) (by omega) hL))⟩
        | exact ⟨rfl, b + 16 + 32 , congrArg (Value.int .i64) (by omega), by omega, (Ln.up (x := x) 32 (by omega) (by omega) (Ln.up (x := x / 2 ^ 32) 16 (by omega) (by omega) hL))⟩
        | exact ⟨rfl, b + 8 + 16 + 32 , congrArg (Value.int .i64) (by omega), by omega, (Ln.up (x := x) 32 (by omega) (by omega) (Ln.up (x := x / 2 ^ 32) 16 (by omega) (by omega) (Ln.up (x := x / 2 ^ 32 / 2 ^ 16) 8 (by omega) (by omega) hL)))⟩
      · have hb6p := hb6.h; try simp only [al_ete, al_dfn, Bool.not_eq_true', Bool.not_eq_false', al_ne, Bool.not_not, al_nn] at hb6p
        refine W_skip ?_
        refine thn_normal ?_
        refine W_seq ?_
        refine W_region rfl ?_
        refine WO_p (PS_move_int rfl) ?_
        refine WO_p (PS_move_int rfl) ?_
        first | refine WO_p (PS_conv_u8n Hvad.runUnderlying26 Hvad.runUnderlying5 rfl (by omega) (by omega)) ?_ | refine WO_p (PS_conv_u8w Hvad.runUnderlying26 Hvad.runUnderlying5 rfl) ?_
        refine WO_indexTab Hvad.runUnderlying9 rfl rfl (by omega) (by omega) (by kernel_rfl) ?_
        intro b hb hL
        first | refine WO_p (PS_conv_i64n Hvad.runUnderlying5 Hvad.runUnderlying3 rfl (by omega) (by omega)) ?_ | refine WO_p (PS_conv_i64w Hvad.runUnderlying5 Hvad.runUnderlying3 rfl) ?_
        first | refine WO_p (PS_add_i64n rfl rfl (by omega) (by omega)) ?_ | refine WO_p (PS_add_i64w rfl rfl) ?_
        refine WO_p (PS_assign_int rfl) ?_
        refine WO_nil ?_
        refine thn_normal ?_
        refine W_ret ?_
        refine bodyQ_ret1 Hvad.results236 rfl (.int _ _) rfl ?_
        first
        | exact ⟨rfl, b, congrArg (Value.int .i64) (by omega), by omega, hL⟩
        | exact ⟨rfl, b + 8 , congrArg (Value.int .i64) (by omega), by omega, (Ln.up (x := x) 8 (by omega) (by omega) hL)⟩
        | exact ⟨rfl, b + 16 , congrArg (Value.int .i64) (by omega), by omega, (Ln.up (x := x) 16 (by omega) (by omega) hL)⟩
        | exact ⟨rfl, b + 8 + 16 , congrArg (Value.int .i64) (by omega), by omega, (Ln.up (x := x) 16 (by omega) (by omega) (Ln.up (x := x / 2 ^ 16) 8 (by omega) (by omega) hL))⟩
        | exact ⟨rfl, b + 32 , congrArg (Value.int .i64) (by omega), by omega, (Ln.up (x := x) 32 (by omega) (by omega) hL)⟩
        | exact ⟨rfl, b + 8 + 32 , congrArg (Value.int .i64) (by omega), by omega, (Ln.up (x := x) 32 (by omega) (by omega) (Ln.up (x := x / 2 ^ 32) 8 (by omega) (by omega) hL))⟩
        | exact ⟨rfl, b + 16 + 32 , congrArg (Value.int .i64) (by omega), by omega, (Ln.up (x := x) 32 (by omega) (by omega) (Ln.up (x := x / 2 ^ 32) 16 (by omega) (by omega) hL))⟩
        | exact ⟨rfl, b + 8 + 16 + 32 , congrArg (Value.int .i64) (by omega), by omega, (Ln.up (x := x) 32 (by omega) (by omega) (Ln.up (x := x / 2 ^ 32) 16 (by omega) (by omega) (Ln.up (x := x / 2 ^ 32 / 2 ^ 16) 8 (by omega) (by omega) hL)))⟩
    · have hb4p := hb4.h; try simp only [al_ete, al_dfn, Bool.not_eq_true', Bool.not_eq_false', al_ne, Bool.not_not, al_nn] at hb4p
      refine W_skip ?_
      refine thn_normal ?_
      refine W_seq ?_
      refine W_seq ?_
      refine W_region rfl ?_
      refine WO_p (PS_move_int rfl) ?_
      refine WO_p (PS_geq rfl rfl) ?_
      refine WO_nil ?_
      refine thn_normal ?_
      refine W_if rfl (fun hb8 => ?_) (fun hb8 => ?_)
      · have hb8p := hb8.h; try simp only [al_ete, al_dfn, Bool.not_eq_true', Bool.not_eq_false', al_ne, Bool.not_not, al_nn] at hb8p
        refine W_seq ?_
        refine W_region rfl ?_
        refine WO_p (PS_move_int rfl) ?_
        refine WO_p (PS_shr_u64 8 rfl rfl (by decide) rfl) ?_
        refine WO_p (PS_assign_int rfl) ?_
        refine WO_nil ?_
        refine thn_normal ?_
        refine W_region rfl ?_
        refine WO_p (PS_move_int rfl) ?_
        first | refine WO_p (PS_add_i64n rfl rfl (by omega) (by omega)) ?_ | refine WO_p (PS_add_i64w rfl rfl) ?_
        refine WO_p (PS_assign_int rfl) ?_
        refine WO_nil ?_
        refine thn_normal ?_
        refine W_seq ?_
        refine W_region rfl ?_
        refine WO_p (PS_move_int rfl) ?_
        refine WO_p (PS_move_int rfl) ?_
        first | refine WO_p (PS_conv_u8n Hvad.runUnderlying26 Hvad.runUnderlying5 rfl (by omega) (by omega)) ?_ | refine WO_p (PS_conv_u8w Hvad.runUnderlying26 Hvad.runUnderlying5 rfl) ?_
        refine WO_indexTab Hvad.runUnderlying9 rfl rfl (by omega) (by omega) (by kernel_rfl) ?_
        intro b hb hL
        first | refine WO_p (PS_conv_i64n Hvad.runUnderlying5 Hvad.runUnderlying3 rfl (by omega) (by omega)) ?_ | refine WO_p (PS_conv_i64w Hvad.runUnderlying5 Hvad.runUnderlying3 rfl) ?_
        first | refine WO_p (PS_add_i64n rfl rfl (by omega) (by omega)) ?_ | refine WO_p (PS_add_i64w rfl rfl) ?_
        refine WO_p (PS_assign_int rfl) ?_
        refine WO_nil ?_
        refine thn_normal ?_
        refine W_ret ?_
        refine bodyQ_ret1 Hvad.results236 rfl (.int _ _) rfl ?_
        first
        | exact ⟨rfl, b, congrArg (Value.int .i64) (by omega), by omega, hL⟩
        | exact ⟨rfl, b + 8 , congrArg (Value.int .i64) (by omega), by omega, (Ln.up (x := x) 8 (by omega) (by omega) hL)⟩
        | exact ⟨rfl, b + 16 , congrArg (Value.int .i64) (by omega), by omega, (Ln.up (x := x) 16 (by omega) (by omega) hL)⟩
        | exact ⟨rfl, b + 8 + 16 , congrArg (Value.int .i64) (by omega), by omega, (Ln.up (x := x) 16 (by omega) (by omega) (Ln.up (x := x / 2 ^ 16) 8 (by omega) (by omega) hL))⟩
        | exact ⟨rfl, b + 32 , congrArg (Value.int .i64) (by omega), by omega, (Ln.up (x := x) 32 (by omega) (by omega) hL)⟩
        | exact ⟨rfl, b + 8 + 32 , congrArg (Value.int .i64) (by omega), by omega, (Ln.up (x := x) 32 (by omega) (by omega) (Ln.up (x := x / 2 ^ 32) 8 (by omega) (by omega) hL))⟩
        | exact ⟨rfl, b + 16 + 32 , congrArg (Value.int .i64) (by omega), by omega, (Ln.up (x := x) 32 (by omega) (by omega) (Ln.up (x := x / 2 ^ 32) 16 (by omega) (by omega) hL))⟩
        | exact ⟨rfl, b + 8 + 16 + 32 , congrArg (Value.int .i64) (by omega), by omega, (Ln.up (x := x) 32 (by omega) (by omega) (Ln.up (x := x / 2 ^ 32) 16 (by omega) (by omega) (Ln.up (x := x / 2 ^ 32 / 2 ^ 16) 8 (by omega) (by omega) hL)))⟩
      · have hb8p := hb8.h; try simp only [al_ete, al_dfn, Bool.not_eq_true', Bool.not_eq_false', al_ne, Bool.not_not, al_nn] at hb8p
        refine W_skip ?_
        refine thn_normal ?_
        refine W_seq ?_
        refine W_region rfl ?_
        refine WO_p (PS_move_int rfl) ?_
        refine WO_p (PS_move_int rfl) ?_
        first | refine WO_p (PS_conv_u8n Hvad.runUnderlying26 Hvad.runUnderlying5 rfl (by omega) (by omega)) ?_ | refine WO_p (PS_conv_u8w Hvad.runUnderlying26 Hvad.runUnderlying5 rfl) ?_
        refine WO_indexTab Hvad.runUnderlying9 rfl rfl (by omega) (by omega) (by kernel_rfl) ?_
        intro b hb hL
        first | refine WO_p (PS_conv_i64n Hvad.runUnderlying5 Hvad.runUnderlying3 rfl (by omega) (by omega)) ?_ | refine WO_p (PS_conv_i64w Hvad.runUnderlying5 Hvad.runUnderlying3 rfl) ?_
        first | refine WO_p (PS_add_i64n rfl rfl (by omega) (by omega)) ?_ | refine WO_p (PS_add_i64w rfl rfl) ?_
        refine WO_p (PS_assign_int rfl) ?_
        refine WO_nil ?_
        refine thn_normal ?_
        refine W_ret ?_
        refine bodyQ_ret1 Hvad.results236 rfl (.int _ _) rfl ?_
        first
        | exact ⟨rfl, b, congrArg (Value.int .i64) (by omega), by omega, hL⟩
        | exact ⟨rfl, b + 8 , congrArg (Value.int .i64) (by omega), by omega, (Ln.up (x := x) 8 (by omega) (by omega) hL)⟩
        | exact ⟨rfl, b + 16 , congrArg (Value.int .i64) (by omega), by omega, (Ln.up (x := x) 16 (by omega) (by omega) hL)⟩
        | exact ⟨rfl, b + 8 + 16 , congrArg (Value.int .i64) (by omega), by omega, (Ln.up (x := x) 16 (by omega) (by omega) (Ln.up (x := x / 2 ^ 16) 8 (by omega) (by omega) hL))⟩
        | exact ⟨rfl, b + 32 , congrArg (Value.int .i64) (by omega), by omega, (Ln.up (x := x) 32 (by omega) (by omega) hL)⟩
        | exact ⟨rfl, b + 8 + 32 , congrArg (Value.int .i64) (by omega), by omega, (Ln.up (x := x) 32 (by omega) (by omega) (Ln.up (x := x / 2 ^ 32) 8 (by omega) (by omega) hL))⟩
        | exact ⟨rfl, b + 16 + 32 , congrArg (Value.int .i64) (by omega), by omega, (Ln.up (x := x) 32 (by omega) (by omega) (Ln.up (x := x / 2 ^ 32) 16 (by omega) (by omega) hL))⟩
        | exact ⟨rfl, b + 8 + 16 + 32 , congrArg (Value.int .i64) (by omega), by omega, (Ln.up (x := x) 32 (by omega) (by omega) (Ln.up (x := x / 2 ^ 32) 16 (by omega) (by omega) (Ln.up (x := x / 2 ^ 32 / 2 ^ 16) 8 (by omega) (by omega) hL)))⟩
  · have hb2p := hb2.h; try simp only [al_ete, al_dfn, Bool.not_eq_true', Bool.not_eq_false', al_ne, Bool.not_not, al_nn] at hb2p
    refine W_skip ?_
    refine thn_normal ?_
    refine W_seq ?_
    refine W_seq ?_
    refine W_region rfl ?_
    refine WO_p (PS_move_int rfl) ?_
    refine WO_p (PS_geq rfl rfl) ?_
    refine WO_nil ?_
    refine thn_normal ?_
    refine W_if rfl (fun hb10 => ?_) (fun hb10 => ?_)
    · have hb10p := hb10.h; try simp only [al_ete, al_dfn, Bool.not_eq_true', Bool.not_eq_false', al_ne, Bool.not_not, al_nn] at hb10p
      refine W_seq ?_
      refine W_region rfl ?_
      refine WO_p (PS_move_int rfl) ?_
      refine WO_p (PS_shr_u64 16 rfl rfl (by decide) rfl) ?_
      refine WO_p (PS_assign_int rfl) ?_
      refine WO_nil ?_
      refine thn_normal ?_
      refine W_region rfl ?_
      refine WO_p (PS_move_int rfl) ?_
      first | refine WO_p (PS_add_i64n rfl rfl (by omega) (by omega)) ?_ | refine WO_p (PS_add_i64w rfl rfl) ?_
      refine WO_p (PS_assign_int rfl) ?_
      refine WO_nil ?_
      refine thn_normal ?_
      refine W_seq ?_
      refine W_seq ?_
      refine W_region rfl ?_
      refine WO_p (PS_move_int rfl) ?_
      refine WO_p (PS_geq rfl rfl) ?_
      refine WO_nil ?_
      refine thn_normal ?_
      refine W_if rfl (fun hb12 => ?_) (fun hb12 => ?_)
      · have hb12p := hb12.h; try simp only [al_ete, al_dfn, Bool.not_eq_true', Bool.not_eq_false', al_ne, Bool.not_not, al_nn] at hb12p
        refine W_seq ?_
        refine W_region rfl ?_
        refine WO_p (PS_move_int rfl) ?_
        refine WO_p (PS_shr_u64 8 rfl rfl (by decide) rfl) ?_
        refine WO_p (PS_assign_int rfl) ?_
        refine WO_nil ?_
        refine thn_normal ?_
        refine W_region rfl ?_
        refine WO_p (PS_move_int rfl) ?_
        first | refine WO_p (PS_add_i64n rfl rfl (by omega) (by omega)) ?_ | refine WO_p (PS_add_i64w rfl rfl) ?_
        refine WO_p (PS_assign_int rfl) ?_
        refine WO_nil ?_
        refine thn_normal ?_
        refine W_seq ?_
        refine W_region rfl ?_
        refine WO_p (PS_move_int rfl) ?_
        refine WO_p (PS_move_int rfl) ?_
        first | refine WO_p (PS_conv_u8n Hvad.runUnderlying26 Hvad.runUnderlying5 rfl (by omega) (by omega)) ?_ | refine WO_p (PS_conv_u8w Hvad.runUnderlying26 Hvad.runUnderlying5 rfl) ?_
        refine WO_indexTab Hvad.runUnderlying9 rfl rfl (by omega) (by omega) (by kernel_rfl) ?_
        intro b hb hL
        first | refine WO_p (PS_conv_i64n Hvad.runUnderlying5 Hvad.runUnderlying3 rfl (by omega) (by omega)) ?_ | refine WO_p (PS_conv_i64w Hvad.runUnderlying5 Hvad.runUnderlying3 rfl) ?_
        first | refine WO_p (PS_add_i64n rfl rfl (by omega) (by omega)) ?_ | refine WO_p (PS_add_i64w rfl rfl) ?_
        refine WO_p (PS_assign_int rfl) ?_
        refine WO_nil ?_
        refine thn_normal ?_
        refine W_ret ?_
        refine bodyQ_ret1 Hvad.results236 rfl (.int _ _) rfl ?_
        first
        | exact ⟨rfl, b, congrArg (Value.int .i64) (by omega), by omega, hL⟩
        | exact ⟨rfl, b + 8 , congrArg (Value.int .i64) (by omega), by omega, (Ln.up (x := x) 8 (by omega) (by omega) hL)⟩
        | exact ⟨rfl, b + 16 , congrArg (Value.int .i64) (by omega), by omega, (Ln.up (x := x) 16 (by omega) (by omega) hL)⟩
        | exact ⟨rfl, b + 8 + 16 , congrArg (Value.int .i64) (by omega), by omega, (Ln.up (x := x) 16 (by omega) (by omega) (Ln.up (x := x / 2 ^ 16) 8 (by omega) (by omega) hL))⟩
        | exact ⟨rfl, b + 32 , congrArg (Value.int .i64) (by omega), by omega, (Ln.up (x := x) 32 (by omega) (by omega) hL)⟩
        | exact ⟨rfl, b + 8 + 32 , congrArg (Value.int .i64) (by omega), by omega, (Ln.up (x := x) 32 (by omega) (by omega) (Ln.up (x := x / 2 ^ 32) 8 (by omega) (by omega) hL))⟩
        | exact ⟨rfl, b + 16 + 32 , congrArg (Value.int .i64) (by omega), by omega, (Ln.up (x := x) 32 (by omega) (by omega) (Ln.up (x := x / 2 ^ 32) 16 (by omega) (by omega) hL))⟩
        | exact ⟨rfl, b + 8 + 16 + 32 , congrArg (Value.int .i64) (by omega), by omega, (Ln.up (x := x) 32 (by omega) (by omega) (Ln.up (x := x / 2 ^ 32) 16 (by omega) (by omega) (Ln.up (x := x / 2 ^ 32 / 2 ^ 16) 8 (by omega) (by omega) hL)))⟩
      · have hb12p := hb12.h; try simp only [al_ete, al_dfn, Bool.not_eq_true', Bool.not_eq_false', al_ne, Bool.not_not, al_nn] at hb12p
        refine W_skip ?_
        refine thn_normal ?_
        refine W_seq ?_
        refine W_region rfl ?_
        refine WO_p (PS_move_int rfl) ?_
        refine WO_p (PS_move_int rfl) ?_
        first | refine WO_p (PS_conv_u8n Hvad.runUnderlying26 Hvad.runUnderlying5 rfl (by omega) (by omega)) ?_ | refine WO_p (PS_conv_u8w Hvad.runUnderlying26 Hvad.runUnderlying5 rfl) ?_
        refine WO_indexTab Hvad.runUnderlying9 rfl rfl (by omega) (by omega) (by kernel_rfl) ?_
        intro b hb hL
        first | refine WO_p (PS_conv_i64n Hvad.runUnderlying5 Hvad.runUnderlying3 rfl (by omega) (by omega)) ?_ | refine WO_p (PS_conv_i64w Hvad.runUnderlying5 Hvad.runUnderlying3 rfl) ?_
        first | refine WO_p (PS_add_i64n rfl rfl (by omega) (by omega)) ?_ | refine WO_p (PS_add_i64w rfl rfl) ?_
        refine WO_p (PS_assign_int rfl) ?_
        refine WO_nil ?_
        refine thn_normal ?_
        refine W_ret ?_
        refine bodyQ_ret1 Hvad.results236 rfl (.int _ _) rfl ?_
        first
        | exact ⟨rfl, b, congrArg (Value.int .i64) (by omega), by omega, hL⟩
        | exact ⟨rfl, b + 8 , congrArg (Value.int .i64) (by omega), by omega, (Ln.up (x := x) 8 (by omega) (by omega) hL)⟩
        | exact ⟨rfl, b + 16 , congrArg (Value.int .i64) (by omega), by omega, (Ln.up (x := x) 16 (by omega) (by omega) hL)⟩
        | exact ⟨rfl, b + 8 + 16 , congrArg (Value.int .i64) (by omega), by omega, (Ln.up (x := x) 16 (by omega) (by omega) (Ln.up (x := x / 2 ^ 16) 8 (by omega) (by omega) hL))⟩
        | exact ⟨rfl, b + 32 , congrArg (Value.int .i64) (by omega), by omega, (Ln.up (x := x) 32 (by omega) (by omega) hL)⟩
        | exact ⟨rfl, b + 8 + 32 , congrArg (Value.int .i64) (by omega), by omega, (Ln.up (x := x) 32 (by omega) (by omega) (Ln.up (x := x / 2 ^ 32) 8 (by omega) (by omega) hL))⟩
        | exact ⟨rfl, b + 16 + 32 , congrArg (Value.int .i64) (by omega), by omega, (Ln.up (x := x) 32 (by omega) (by omega) (Ln.up (x := x / 2 ^ 32) 16 (by omega) (by omega) hL))⟩
        | exact ⟨rfl, b + 8 + 16 + 32 , congrArg (Value.int .i64) (by omega), by omega, (Ln.up (x := x) 32 (by omega) (by omega) (Ln.up (x := x / 2 ^ 32) 16 (by omega) (by omega) (Ln.up (x := x / 2 ^ 32 / 2 ^ 16) 8 (by omega) (by omega) hL)))⟩
    · have hb10p := hb10.h; try simp only [al_ete, al_dfn, Bool.not_eq_true', Bool.not_eq_false', al_ne, Bool.not_not, al_nn] at hb10p
      refine W_skip ?_
      refine thn_normal ?_
      refine W_seq ?_
      refine W_seq ?_
      refine W_region rfl ?_
      refine WO_p (PS_move_int rfl) ?_
      refine WO_p (PS_geq rfl rfl) ?_
      refine WO_nil ?_
      refine thn_normal ?_
      refine W_if rfl (fun hb14 => ?_) (fun hb14 => ?_)
      · have hb14p := hb14.h; try simp only [al_ete, al_dfn, Bool.not_eq_true', Bool.not_eq_false', al_ne, Bool.not_not, al_nn] at hb14p
        refine W_seq ?_
        refine W_region rfl ?_
        refine WO_p (PS_move_int rfl) ?_
        refine WO_p (PS_shr_u64 8 rfl rfl (by decide) rfl) ?_
        refine WO_p (PS_assign_int rfl) ?_
        refine WO_nil ?_
        refine thn_normal ?_
        refine W_region rfl ?_
        refine WO_p (PS_move_int rfl) ?_
        first | refine WO_p (PS_add_i64n rfl rfl (by omega) (by omega)) ?_ | refine WO_p (PS_add_i64w rfl rfl) ?_
        refine WO_p (PS_assign_int rfl) ?_
        refine WO_nil ?_
        refine thn_normal ?_
        refine W_seq ?_
        refine W_region rfl ?_
        refine WO_p (PS_move_int rfl) ?_
        refine WO_p (PS_move_int rfl) ?_
        first | refine WO_p (PS_conv_u8n Hvad.runUnderlying26 Hvad.runUnderlying5 rfl (by omega) (by omega)) ?_ | refine WO_p (PS_conv_u8w Hvad.runUnderlying26 Hvad.runUnderlying5 rfl) ?_
        refine WO_indexTab Hvad.runUnderlying9 rfl rfl (by omega) (by omega) (by kernel_rfl) ?_
        intro b hb hL
        first | refine WO_p (PS_conv_i64n Hvad.runUnderlying5 Hvad.runUnderlying3 rfl (by omega) (by omega)) ?_ | refine WO_p (PS_conv_i64w Hvad.runUnderlying5 Hvad.runUnderlying3 rfl) ?_
        first | refine WO_p (PS_add_i64n rfl rfl (by omega) (by omega)) ?_ | refine WO_p (PS_add_i64w rfl rfl) ?_
        refine WO_p (PS_assign_int rfl) ?_
        refine WO_nil ?_
        refine thn_normal ?_
        refine W_ret ?_
        refine bodyQ_ret1 Hvad.results236 rfl (.int _ _) rfl ?_
        first
        | exact ⟨rfl, b, congrArg (Value.int .i64) (by omega), by omega, hL⟩
        | exact ⟨rfl, b + 8 , congrArg (Value.int .i64) (by omega), by omega, (Ln.up (x := x) 8 (by omega) (by omega) hL)⟩
        | exact ⟨rfl, b + 16 , congrArg (Value.int .i64) (by omega), by omega, (Ln.up (x := x) 16 (by omega) (by omega) hL)⟩
        | exact ⟨rfl, b + 8 + 16 , congrArg (Value.int .i64) (by omega), by omega, (Ln.up (x := x) 16 (by omega) (by omega) (Ln.up (x := x / 2 ^ 16) 8 (by omega) (by omega) hL))⟩
        | exact ⟨rfl, b + 32 , congrArg (Value.int .i64) (by omega), by omega, (Ln.up (x := x) 32 (by omega) (by omega) hL)⟩
        | exact ⟨rfl, b + 8 + 32 , congrArg (Value.int .i64) (by omega), by omega, (Ln.up (x := x) 32 (by omega) (by omega) (Ln.up (x := x / 2 ^ 32) 8 (by omega) (by omega) hL))⟩
        | exact ⟨rfl, b + 16 + 32 , congrArg (Value.int .i64) (by omega), by omega, (Ln.up (x := x) 32 (by omega) (by omega) (Ln.up (x := x / 2 ^ 32) 16 (by omega) (by omega) hL))⟩
        | exact ⟨rfl, b + 8 + 16 + 32 , congrArg (Value.int .i64) (by omega), by omega, (Ln.up (x := x) 32 (by omega) (by omega) (Ln.up (x := x / 2 ^ 32) 16 (by omega) (by omega) (Ln.up (x := x / 2 ^ 32 / 2 ^ 16) 8 (by omega) (by omega) hL)))⟩
      · have hb14p := hb14.h; try simp only [al_ete, al_dfn, Bool.not_eq_true', Bool.not_eq_false', al_ne, Bool.not_not, al_nn] at hb14p
        refine W_skip ?_
        refine thn_normal ?_
        refine W_seq ?_
        refine W_region rfl ?_
        refine WO_p (PS_move_int rfl) ?_
        refine WO_p (PS_move_int rfl) ?_
        first | refine WO_p (PS_conv_u8n Hvad.runUnderlying26 Hvad.runUnderlying5 rfl (by omega) (by omega)) ?_ | refine WO_p (PS_conv_u8w Hvad.runUnderlying26 Hvad.runUnderlying5 rfl) ?_
        refine WO_indexTab Hvad.runUnderlying9 rfl rfl (by omega) (by omega) (by kernel_rfl) ?_
        intro b hb hL
        first | refine WO_p (PS_conv_i64n Hvad.runUnderlying5 Hvad.runUnderlying3 rfl (by omega) (by omega)) ?_ | refine WO_p (PS_conv_i64w Hvad.runUnderlying5 Hvad.runUnderlying3 rfl) ?_
        first | refine WO_p (PS_add_i64n rfl rfl (by omega) (by omega)) ?_ | refine WO_p (PS_add_i64w rfl rfl) ?_
        refine WO_p (PS_assign_int rfl) ?_
        refine WO_nil ?_
        refine thn_normal ?_
        refine W_ret ?_
        refine bodyQ_ret1 Hvad.results236 rfl (.int _ _) rfl ?_
        first
        | exact ⟨rfl, b, congrArg (Value.int .i64) (by omega), by omega, hL⟩
        | exact ⟨rfl, b + 8 , congrArg (Value.int .i64) (by omega), by omega, (Ln.up (x := x) 8 (by omega) (by omega) hL)⟩
        | exact ⟨rfl, b + 16 , congrArg (Value.int .i64) (by omega), by omega, (Ln.up (x := x) 16 (by omega) (by omega) hL)⟩
        | exact ⟨rfl, b + 8 + 16 , congrArg (Value.int .i64) (by omega), by omega, (Ln.up (x := x) 16 (by omega) (by omega) (Ln.up (x := x / 2 ^ 16) 8 (by omega) (by omega) hL))⟩
        | exact ⟨rfl, b + 32 , congrArg (Value.int .i64) (by omega), by omega, (Ln.up (x := x) 32 (by omega) (by omega) hL)⟩
        | exact ⟨rfl, b + 8 + 32 , congrArg (Value.int .i64) (by omega), by omega, (Ln.up (x := x) 32 (by omega) (by omega) (Ln.up (x := x / 2 ^ 32) 8 (by omega) (by omega) hL))⟩
        | exact ⟨rfl, b + 16 + 32 , congrArg (Value.int .i64) (by omega), by omega, (Ln.up (x := x) 32 (by omega) (by omega) (Ln.up (x := x / 2 ^ 32) 16 (by omega) (by omega) hL))⟩
        | exact ⟨rfl, b + 8 + 16 + 32 , congrArg (Value.int .i64) (by omega), by omega, (Ln.up (x := x) 32 (by omega) (by omega) (Ln.up (x := x / 2 ^ 32) 16 (by omega) (by omega) (Ln.up (x := x / 2 ^ 32 / 2 ^ 16) 8 (by omega) (by omega) hL)))⟩

set_option maxRecDepth 10000 in
theorem len64_spec (x : Int) (w : World) (hx : 0 ≤ x ∧ x ≤ 18446744073709551615) : Ret Hvad.prog 149 #[.int .u64 x] w fun u w' => w' = w ∧ ∃ n : Nat, u = .int .i64 n ∧ n ≤ 64 ∧ Ln x n := by
  refine Ret_of_W Hvad.func149 rfl rfl ?_
  refine W_seq ?_
  refine W_region rfl ?_
  refine WO_p (PS_assign_int rfl) ?_
  refine WO_nil ?_
  refine thn_normal ?_
  refine W_seq ?_
  refine W_region rfl ?_
  refine WO_p (PS_move_int rfl) ?_
  refine WO_call Hvad.call236 (by rfl) (Ret.mono (len64b_spec _ _ hx) ?_)
  rintro _ _ ⟨rfl, n, rfl, hn1, hL⟩
  refine WO_p (PS_assign_int rfl) ?_
  refine WO_nil ?_
  refine thn_normal ?_
  refine W_ret ?_
  refine bodyQ_ret1 Hvad.results149 rfl (.int _ _) rfl ?_
  exact ⟨rfl, _, rfl, hn1, hL⟩

set_option maxRecDepth 10000 in
theorem square_spec (W : List Int) (w : World) (hW : Wd W) : Ret Hvad.prog 256 #[.agg (ic .u64 W)] w fun u w' => Ext w w' ∧ ∃ R, u = .agg (ic .u64 R) ∧ Wd R := by
  obtain ⟨a0, a1, a2, a3, rfl, h0, h1, h2, h3⟩ := isZ hW
  refine Ret_of_W Hvad.func256 rfl rfl ?_
  refine W_seq ?_
  refine W_region rfl ?_
  refine WO_box (.agg _) rfl ?_
  refine WO_alloc Hvad.zeroValue59 ?_
  refine WO_nil ?_
  refine thn_normal ?_
  refine W_seq ?_
  refine W_region rfl ?_
  refine WO_p (PS_indexA Hvad.runUnderlying59 Hvad.sizeOf26 rfl rfl (by omega) (by omega)) ?_
  refine WO_load (.int _ _) Hvad.isAgg26 rfl (Hb.h (by repeat (first | assumption | exact Hb.newY _ _ | refine Hb.alloc ?_ | refine Hb.drew ?_ | refine Hb.ext (by assumption) ?_ | exact Hb.setSameL (by first | omega | (simp only [size_alloc, size_setB, size_drew]; omega)) | exact Hb.setSame (by assumption) | refine Hb.set (by first | omega | (simp only [size_alloc, size_setB, size_drew]; omega)) ?_ ))) (Ce.h (by first | assumption | exact ⟨rfl⟩)) ?_
  refine WO_p (PS_indexA Hvad.runUnderlying59 Hvad.sizeOf26 rfl rfl (by omega) (by omega)) ?_
  refine WO_load (.int _ _) Hvad.isAgg26 rfl (Hb.h (by repeat (first | assumption | exact Hb.newY _ _ | refine Hb.alloc ?_ | refine Hb.drew ?_ | refine Hb.ext (by assumption) ?_ | exact Hb.setSameL (by first | omega | (simp only [size_alloc, size_setB, size_drew]; omega)) | exact Hb.setSame (by assumption) | refine Hb.set (by first | omega | (simp only [size_alloc, size_setB, size_drew]; omega)) ?_ ))) (Ce.h (by first | assumption | exact ⟨rfl⟩)) ?_
  refine WO_call Hvad.call71 (by rfl) (Ret.mono (mul64_ex _ _ _ (by omega) (by omega)) ?_)
  rintro _ _ ⟨h71_0, l71_0, rfl, hm71_0, hh71_0, hl71_0, rfl⟩
  refine WO_p (PS_move_tuple rfl) ?_
  refine WO_p (PS_extract_int rfl rfl) ?_
  refine WO_p (PS_extract_int rfl rfl) ?_
  refine WO_p (PS_assign_int rfl) ?_
  refine WO_p (PS_assign_int rfl) ?_
  refine WO_nil ?_
  refine thn_normal ?_
  refine W_seq ?_
  refine W_region rfl ?_
  refine WO_p (PS_indexA Hvad.runUnderlying59 Hvad.sizeOf26 rfl rfl (by omega) (by omega)) ?_
  refine WO_load (.int _ _) Hvad.isAgg26 rfl (Hb.h (by repeat (first | assumption | exact Hb.newY _ _ | refine Hb.alloc ?_ | refine Hb.drew ?_ | refine Hb.ext (by assumption) ?_ | exact Hb.setSameL (by first | omega | (simp only [size_alloc, size_setB, size_drew]; omega)) | exact Hb.setSame (by assumption) | refine Hb.set (by first | omega | (simp only [size_alloc, size_setB, size_drew]; omega)) ?_ ))) (Ce.h (by first | assumption | exact ⟨rfl⟩)) ?_
  refine WO_p (PS_indexA Hvad.runUnderlying59 Hvad.sizeOf26 rfl rfl (by omega) (by omega)) ?_
  refine WO_load (.int _ _) Hvad.isAgg26 rfl (Hb.h (by repeat (first | assumption | exact Hb.newY _ _ | refine Hb.alloc ?_ | refine Hb.drew ?_ | refine Hb.ext (by assumption) ?_ | exact Hb.setSameL (by first | omega | (simp only [size_alloc, size_setB, size_drew]; omega)) | exact Hb.setSame (by assumption) | refine Hb.set (by first | omega | (simp only [size_alloc, size_setB, size_drew]; omega)) ?_ ))) (Ce.h (by first | assumption | exact ⟨rfl⟩)) ?_
  refine WO_call Hvad.call71 (by rfl) (Ret.mono (mul64_ex _ _ _ (by omega) (by omega)) ?_)
  rintro _ _ ⟨h71_1, l71_1, rfl, hm71_1, hh71_1, hl71_1, rfl⟩
  refine WO_p (PS_move_tuple rfl) ?_
  refine WO_p (PS_extract_int rfl rfl) ?_
  refine WO_p (PS_extract_int rfl rfl) ?_
  refine WO_p (PS_assign_int rfl) ?_
  refine WO_p (PS_assign_int rfl) ?_
  refine WO_nil ?_
  refine thn_normal ?_
  refine W_seq ?_
  refine W_region rfl ?_
  refine WO_p (PS_move_int rfl) ?_
  refine WO_p (PS_move_int rfl) ?_
  refine WO_call Hvad.call72 (by rfl) (Ret.mono (add64_ex _ _ _ _ (by first | omega | exact bOr_bd _ _) (by first | omega | exact bOr_bd _ _) (by omega)) ?_)
  rintro _ _ ⟨s72_2, k72_2, rfl, hs72_2, hr72_2, hk72_2, rfl⟩
  refine WO_p (PS_move_tuple rfl) ?_
  refine WO_p (PS_extract_int rfl rfl) ?_
  refine WO_p (PS_extract_int rfl rfl) ?_
  refine WO_p (PS_assign_int rfl) ?_
  refine WO_p (PS_assign_int rfl) ?_
  refine WO_nil ?_
  refine thn_normal ?_
  refine W_seq ?_
  refine W_region rfl ?_
  refine WO_p (PS_move_int rfl) ?_
  refine WO_p (PS_indexA Hvad.runUnderlying59 Hvad.sizeOf26 rfl rfl (by omega) (by omega)) ?_
  refine WO_load (.int _ _) Hvad.isAgg26 rfl (Hb.h (by repeat (first | assumption | exact Hb.newY _ _ | refine Hb.alloc ?_ | refine Hb.drew ?_ | refine Hb.ext (by assumption) ?_ | exact Hb.setSameL (by first | omega | (simp only [size_alloc, size_setB, size_drew]; omega)) | exact Hb.setSame (by assumption) | refine Hb.set (by first | omega | (simp only [size_alloc, size_setB, size_drew]; omega)) ?_ ))) (Ce.h (by first | assumption | exact ⟨rfl⟩)) ?_
  refine WO_p (PS_indexA Hvad.runUnderlying59 Hvad.sizeOf26 rfl rfl (by omega) (by omega)) ?_
  refine WO_load (.int _ _) Hvad.isAgg26 rfl (Hb.h (by repeat (first | assumption | exact Hb.newY _ _ | refine Hb.alloc ?_ | refine Hb.drew ?_ | refine Hb.ext (by assumption) ?_ | exact Hb.setSameL (by first | omega | (simp only [size_alloc, size_setB, size_drew]; omega)) | exact Hb.setSame (by assumption) | refine Hb.set (by first | omega | (simp only [size_alloc, size_setB, size_drew]; omega)) ?_ ))) (Ce.h (by first | assumption | exact ⟨rfl⟩)) ?_
  refine WO_p (PS_mul_u64w rfl rfl) ?_
  refine WO_p (PS_add_u64w rfl rfl) ?_
  refine WO_p (PS_indexA Hvad.runUnderlying59 Hvad.sizeOf26 rfl rfl (by omega) (by omega)) ?_
  refine WO_load (.int _ _) Hvad.isAgg26 rfl (Hb.h (by repeat (first | assumption | exact Hb.newY _ _ | refine Hb.alloc ?_ | refine Hb.drew ?_ | refine Hb.ext (by assumption) ?_ | exact Hb.setSameL (by first | omega | (simp only [size_alloc, size_setB, size_drew]; omega)) | exact Hb.setSame (by assumption) | refine Hb.set (by first | omega | (simp only [size_alloc, size_setB, size_drew]; omega)) ?_ ))) (Ce.h (by first | assumption | exact ⟨rfl⟩)) ?_
  refine WO_p (PS_indexA Hvad.runUnderlying59 Hvad.sizeOf26 rfl rfl (by omega) (by omega)) ?_
  refine WO_load (.int _ _) Hvad.isAgg26 rfl (Hb.h (by repeat (first | assumption | exact Hb.newY _ _ | refine Hb.alloc ?_ | refine Hb.drew ?_ | refine Hb.ext (by assumption) ?_ | exact Hb.setSameL (by first | omega | (simp only [size_alloc, size_setB, size_drew]; omega)) | exact Hb.setSame (by assumption) | refine Hb.set (by first | omega | (simp only [size_alloc, size_setB, size_drew]; omega)) ?_ ))) (Ce.h (by first | assumption | exact ⟨rfl⟩)) ?_
  refine WO_p (PS_mul_u64w rfl rfl) ?_
  refine WO_p (PS_add_u64w rfl rfl) ?_
  refine WO_p (PS_move_int rfl) ?_
  refine WO_p (PS_add_u64w rfl rfl) ?_
  refine WO_p (PS_assign_int rfl) ?_
  refine WO_nil ?_
  refine thn_normal ?_
  refine W_seq ?_
  refine W_region rfl ?_
  refine WO_p (PS_indexA Hvad.runUnderlying59 Hvad.sizeOf26 rfl rfl (by omega) (by omega)) ?_
  refine WO_load (.int _ _) Hvad.isAgg26 rfl (Hb.h (by repeat (first | assumption | exact Hb.newY _ _ | refine Hb.alloc ?_ | refine Hb.drew ?_ | refine Hb.ext (by assumption) ?_ | exact Hb.setSameL (by first | omega | (simp only [size_alloc, size_setB, size_drew]; omega)) | exact Hb.setSame (by assumption) | refine Hb.set (by first | omega | (simp only [size_alloc, size_setB, size_drew]; omega)) ?_ ))) (Ce.h (by first | assumption | exact ⟨rfl⟩)) ?_
  refine WO_p (PS_indexA Hvad.runUnderlying59 Hvad.sizeOf26 rfl rfl (by omega) (by omega)) ?_
  refine WO_load (.int _ _) Hvad.isAgg26 rfl (Hb.h (by repeat (first | assumption | exact Hb.newY _ _ | refine Hb.alloc ?_ | refine Hb.drew ?_ | refine Hb.ext (by assumption) ?_ | exact Hb.setSameL (by first | omega | (simp only [size_alloc, size_setB, size_drew]; omega)) | exact Hb.setSame (by assumption) | refine Hb.set (by first | omega | (simp only [size_alloc, size_setB, size_drew]; omega)) ?_ ))) (Ce.h (by first | assumption | exact ⟨rfl⟩)) ?_
  refine WO_call Hvad.call71 (by rfl) (Ret.mono (mul64_ex _ _ _ (by omega) (by omega)) ?_)
  rintro _ _ ⟨h71_3, l71_3, rfl, hm71_3, hh71_3, hl71_3, rfl⟩
  refine WO_p (PS_move_tuple rfl) ?_
  refine WO_p (PS_extract_int rfl rfl) ?_
  refine WO_p (PS_extract_int rfl rfl) ?_
  refine WO_p (PS_assign_int rfl) ?_
  refine WO_p (PS_assign_int rfl) ?_
  refine WO_nil ?_
  refine thn_normal ?_
  refine W_seq ?_
  refine W_region rfl ?_
  refine WO_p (PS_indexA Hvad.runUnderlying59 Hvad.sizeOf26 rfl rfl (by omega) (by omega)) ?_
  refine WO_load (.int _ _) Hvad.isAgg26 rfl (Hb.h (by repeat (first | assumption | exact Hb.newY _ _ | refine Hb.alloc ?_ | refine Hb.drew ?_ | refine Hb.ext (by assumption) ?_ | exact Hb.setSameL (by first | omega | (simp only [size_alloc, size_setB, size_drew]; omega)) | exact Hb.setSame (by assumption) | refine Hb.set (by first | omega | (simp only [size_alloc, size_setB, size_drew]; omega)) ?_ ))) (Ce.h (by first | assumption | exact ⟨rfl⟩)) ?_
  refine WO_p (PS_indexA Hvad.runUnderlying59 Hvad.sizeOf26 rfl rfl (by omega) (by omega)) ?_
  refine WO_load (.int _ _) Hvad.isAgg26 rfl (Hb.h (by repeat (first | assumption | exact Hb.newY _ _ | refine Hb.alloc ?_ | refine Hb.drew ?_ | refine Hb.ext (by assumption) ?_ | exact Hb.setSameL (by first | omega | (simp only [size_alloc, size_setB, size_drew]; omega)) | exact Hb.setSame (by assumption) | refine Hb.set (by first | omega | (simp only [size_alloc, size_setB, size_drew]; omega)) ?_ ))) (Ce.h (by first | assumption | exact ⟨rfl⟩)) ?_
  refine WO_call Hvad.call71 (by rfl) (Ret.mono (mul64_ex _ _ _ (by omega) (by omega)) ?_)
  rintro _ _ ⟨h71_4, l71_4, rfl, hm71_4, hh71_4, hl71_4, rfl⟩
  refine WO_p (PS_move_tuple rfl) ?_
  refine WO_p (PS_extract_int rfl rfl) ?_
  refine WO_p (PS_extract_int rfl rfl) ?_
  refine WO_p (PS_assign_int rfl) ?_
  refine WO_p (PS_assign_int rfl) ?_
  refine WO_nil ?_
  refine thn_normal ?_
  refine W_seq ?_
  refine W_region rfl ?_
  refine WO_p (PS_move_int rfl) ?_
  refine WO_p (PS_move_int rfl) ?_
  refine WO_p (PS_shl_u64 1 rfl rfl (by decide) rfl) ?_
  refine WO_call Hvad.call72 (by rfl) (Ret.mono (add64_ex _ _ _ _ (by first | omega | exact bOr_bd _ _) (by first | omega | exact bOr_bd _ _) (by omega)) ?_)
  rintro _ _ ⟨s72_5, k72_5, rfl, hs72_5, hr72_5, hk72_5, rfl⟩
  refine WO_p (PS_move_tuple rfl) ?_
  refine WO_p (PS_extract_int rfl rfl) ?_
  refine WO_p (PS_extract_int rfl rfl) ?_
  refine WO_p (PS_assign_int rfl) ?_
  refine WO_p (PS_assign_int rfl) ?_
  refine WO_nil ?_
  refine thn_normal ?_
  refine W_seq ?_
  refine W_region rfl ?_
  refine WO_p (PS_move_int rfl) ?_
  refine WO_p (PS_move_int rfl) ?_
  refine WO_p (PS_shl_u64 1 rfl rfl (by decide) rfl) ?_
  refine WO_p (PS_move_int rfl) ?_
  refine WO_p (PS_shr_u64 63 rfl rfl (by decide) rfl) ?_
  refine WO_p (PS_or_u64 rfl rfl) ?_
  refine WO_p (PS_move_int rfl) ?_
  refine WO_call Hvad.call72 (by rfl) (Ret.mono (add64_ex _ _ _ _ (by first | omega | exact bOr_bd _ _) (by first | omega | exact bOr_bd _ _) (by omega)) ?_)
  rintro _ _ ⟨s72_6, k72_6, rfl, hs72_6, hr72_6, hk72_6, rfl⟩
  refine WO_p (PS_move_tuple rfl) ?_
  refine WO_p (PS_extract_int rfl rfl) ?_
  refine WO_p (PS_extract_int rfl rfl) ?_
  refine WO_p (PS_assign_int rfl) ?_
  refine WO_p (PS_assign_int rfl) ?_
  refine WO_nil ?_
  refine thn_normal ?_
  refine W_seq ?_
  refine W_region rfl ?_
  refine WO_p (PS_move_int rfl) ?_
  refine WO_p (PS_move_int rfl) ?_
  refine WO_p (PS_shl_u64 1 rfl rfl (by decide) rfl) ?_
  refine WO_p (PS_move_int rfl) ?_
  refine WO_p (PS_shr_u64 63 rfl rfl (by decide) rfl) ?_
  refine WO_p (PS_or_u64 rfl rfl) ?_
  refine WO_p (PS_add_u64w rfl rfl) ?_
  refine WO_p (PS_move_int rfl) ?_
  refine WO_p (PS_add_u64w rfl rfl) ?_
  refine WO_p (PS_assign_int rfl) ?_
  refine WO_nil ?_
  refine thn_normal ?_
  refine W_seq ?_
  refine W_region rfl ?_
  refine WO_p (PS_move_int rfl) ?_
  refine WO_p (PS_move_int rfl) ?_
  refine WO_p (PS_move_int rfl) ?_
  refine WO_p (PS_move_int rfl) ?_
  refine WO_p (PS_buildI (k := .u64) (zs := [0, 0, 0, 0]) (ps := [(0, _), (1, _), (2, _), (3, _)]) (L := [_, _, _, _]) Hvad.zeroValue59 Hvad.runUnderlying59 Hvad.sizeOf26 rfl rfl rfl rfl) ?_
  first | refine WO_storeW Hvad.sizeOf59 rfl (v := .agg _) rfl (Hb.h (by repeat (first | assumption | exact Hb.newY _ _ | refine Hb.alloc ?_ | refine Hb.drew ?_ | refine Hb.ext (by assumption) ?_ | exact Hb.setSameL (by first | omega | (simp only [size_alloc, size_setB, size_drew]; omega)) | exact Hb.setSame (by assumption) | refine Hb.set (by first | omega | (simp only [size_alloc, size_setB, size_drew]; omega)) ?_ ))) rfl (by first | omega | assumption | rfl | decide | exact Nat.le_refl _ | (simp only [size_ic, Value.cells]; omega) | simp) (by first | omega | assumption | rfl | decide | exact Nat.le_refl _ | (simp only [size_ic, Value.cells]; omega) | simp) (by first | exact oneCell_ic | assumption) ?_ | refine WO_store Hvad.sizeOf59 rfl (v := .agg _) rfl (Hb.h (by repeat (first | assumption | exact Hb.newY _ _ | refine Hb.alloc ?_ | refine Hb.drew ?_ | refine Hb.ext (by assumption) ?_ | exact Hb.setSameL (by first | omega | (simp only [size_alloc, size_setB, size_drew]; omega)) | exact Hb.setSame (by assumption) | refine Hb.set (by first | omega | (simp only [size_alloc, size_setB, size_drew]; omega)) ?_ ))) (by first | omega | assumption | rfl | decide | exact Nat.le_refl _ | (simp only [size_ic, Value.cells]; omega) | simp) (by first | omega | assumption | rfl | decide | exact Nat.le_refl _ | (simp only [size_ic, Value.cells]; omega) | simp) (by first | exact oneCell_ic | assumption) ?_
  refine WO_nil ?_
  refine thn_normal ?_
  refine W_ret ?_
  refine bodyQ_cell1 Hvad.results256 rfl Hvad.isAgg59 Hvad.sizeOf59 rfl (Hb.h (by repeat (first | assumption | exact Hb.newY _ _ | refine Hb.alloc ?_ | refine Hb.drew ?_ | refine Hb.ext (by assumption) ?_ | exact Hb.setSameL (by first | omega | (simp only [size_alloc, size_setB, size_drew]; omega)) | exact Hb.setSame (by assumption) | refine Hb.set (by first | omega | (simp only [size_alloc, size_setB, size_drew]; omega)) ?_ ))) (by first | omega | assumption | rfl | decide | exact Nat.le_refl _ | (simp only [size_ic, Value.cells]; omega) | simp) ?_
  exact ⟨(by repeat (first | assumption | exact Ext.refl _ | refine Ext.alloc ?_ _ | refine Ext.drew ?_ | refine Ext.setB ?_ (by first | omega | (simp only [size_alloc, size_setB, size_drew]; omega)) _ | refine Ext.trans ?_ (by assumption))), _, rfl, wd4 (by omega) (by omega) (by omega) (by omega)⟩

set_option maxRecDepth 10000 in
theorem nbytes_spec (W : List Int) (w : World) (hW : Wd W) : Ret Hvad.prog 280 #[.agg (ic .u64 W)] w fun u w' => Ext w w' ∧ ∃ n : Int, u = .int .u8 n ∧ 0 ≤ n ∧ n ≤ 32 := by
  have hWl := hW.1
  refine Ret_of_W Hvad.func280 rfl rfl ?_
  refine W_seq ?_
  refine W_region rfl ?_
  refine WO_box (.agg _) rfl ?_
  refine WO_p (PS_assign_int rfl) ?_
  refine WO_nil ?_
  refine thn_normal ?_
  refine W_seq ?_
  refine W_region rfl ?_
  refine WO_loadA _ Hvad.isAgg59 Hvad.sizeOf59 rfl (Hb.h (by repeat (first | assumption | exact Hb.newY _ _ | refine Hb.alloc ?_ | refine Hb.drew ?_ | refine Hb.ext (by assumption) ?_ | exact Hb.setSameL (by first | omega | (simp only [size_alloc, size_setB, size_drew]; omega)) | exact Hb.setSame (by assumption) | refine Hb.set (by first | omega | (simp only [size_alloc, size_setB, size_drew]; omega)) ?_ ))) (by first | omega | assumption | rfl | decide | exact Nat.le_refl _ | (simp only [size_ic, Value.cells]; omega) | simp) (Xt.h (by first | assumption | exact Xt.whole rfl rfl | exact Xt.whole rfl (by simp only [size_ic, Value.cells]; omega) | exact ⟨rfl⟩)) ?_
  refine WO_call Hvad.call148 (by rfl) (Ret.mono (limbs_spec W _ hW) ?_)
  rintro _ w1 ⟨hE1, n, rfl, hn4, hnz⟩
  refine WO_p (PS_assign_int rfl) ?_
  refine WO_nil ?_
  refine thn_normal ?_
  refine W_seq ?_
  refine W_seq ?_
  refine W_region rfl ?_
  refine WO_p (PS_move_int rfl) ?_
  refine WO_p (PS_eql rfl rfl) ?_
  refine WO_nil ?_
  refine thn_normal ?_
  refine W_if rfl (fun hb3 => ?_) (fun hb3 => ?_)
  · have hb3p := hb3.h; try simp only [al_ete, al_dfn, Bool.not_eq_true', Bool.not_eq_false', al_ne, Bool.not_not, al_nn] at hb3p
    refine W_seq ?_
    refine W_region rfl ?_
    refine WO_p (PS_assign_int rfl) ?_
    refine WO_nil ?_
    refine thn_normal ?_
    refine W_ret ?_
    refine thn_ret ?_
    refine bodyQ_ret1 Hvad.results280 rfl (.int _ _) rfl ?_
    exact ⟨(by repeat (first | assumption | exact Ext.refl _ | refine Ext.alloc ?_ _ | refine Ext.drew ?_ | refine Ext.setB ?_ (by first | omega | (simp only [size_alloc, size_setB, size_drew]; omega)) _ | refine Ext.trans ?_ (by assumption))), _, rfl, by omega, by omega⟩
  · have hb3p := hb3.h; try simp only [al_ete, al_dfn, Bool.not_eq_true', Bool.not_eq_false', al_ne, Bool.not_not, al_nn] at hb3p
    have hce : Ce (ic .u64 W) (0 + ((n:Int) - 1).toNat * 1) (.int .u64 (W.getD ((n:Int) - 1).toNat 0)) := ce_ic (by omega)
    have hxb := wd_get hW ((n:Int) - 1).toNat
    refine W_skip ?_
    refine thn_normal ?_
    refine W_seq ?_
    refine W_region rfl ?_
    refine WO_p (PS_move_int rfl) ?_
    first | refine WO_p (PS_sub_u8n rfl rfl (by omega) (by omega)) ?_ | refine WO_p (PS_sub_u8w rfl rfl) ?_
    first | refine WO_p (PS_mul_u8n rfl rfl (by omega) (by omega)) ?_ | refine WO_p (PS_mul_u8w rfl rfl) ?_
    refine WO_p (PS_move_int rfl) ?_
    first | refine WO_p (PS_sub_u8n rfl rfl (by omega) (by omega)) ?_ | refine WO_p (PS_sub_u8w rfl rfl) ?_
    refine WO_p (PS_indexA Hvad.runUnderlying59 Hvad.sizeOf26 rfl rfl (by omega) (by omega)) ?_
    refine WO_load (.int _ _) Hvad.isAgg26 rfl (Hb.h (by repeat (first | assumption | exact Hb.newY _ _ | refine Hb.alloc ?_ | refine Hb.drew ?_ | refine Hb.ext (by assumption) ?_ | exact Hb.setSameL (by first | omega | (simp only [size_alloc, size_setB, size_drew]; omega)) | exact Hb.setSame (by assumption) | refine Hb.set (by first | omega | (simp only [size_alloc, size_setB, size_drew]; omega)) ?_ ))) (Ce.h (by first | assumption | exact ⟨rfl⟩)) ?_
    refine WO_call Hvad.call149 (by rfl) (Ret.mono (len64_spec _ _ (by omega)) ?_)
    rintro _ _ ⟨rfl, n149_3, rfl, hn1149_3, hL149_3⟩
    first | refine WO_p (PS_add_i64n rfl rfl (by omega) (by omega)) ?_ | refine WO_p (PS_add_i64w rfl rfl) ?_
    refine WO_p (PS_quo_i64 rfl rfl (by omega) (by omega) (by omega)) ?_
    first | refine WO_p (PS_conv_u8n Hvad.runUnderlying3 Hvad.runUnderlying5 rfl (by omega) (by omega)) ?_ | refine WO_p (PS_conv_u8w Hvad.runUnderlying3 Hvad.runUnderlying5 rfl) ?_
    first | refine WO_p (PS_add_u8n rfl rfl (by omega) (by omega)) ?_ | refine WO_p (PS_add_u8w rfl rfl) ?_
    refine WO_p (PS_assign_int rfl) ?_
    refine WO_nil ?_
    refine thn_normal ?_
    refine W_ret ?_
    refine bodyQ_ret1 Hvad.results280 rfl (.int _ _) rfl ?_
    exact ⟨(by repeat (first | assumption | exact Ext.refl _ | refine Ext.alloc ?_ _ | refine Ext.drew ?_ | refine Ext.setB ?_ (by first | omega | (simp only [size_alloc, size_setB, size_drew]; omega)) _ | refine Ext.trans ?_ (by assumption))), _, rfl, by omega, by omega⟩

end Go.Proofs.YgvadwGreat
