import Derived.Test.YgvacwGreatHw
namespace Go.Proofs.YgvacwGreat
set_option linter.unusedSimpArgs false
set_option linter.unusedVariables false
/-! what an instruction that is not refused needs -/
theorem ymem_le {n : Nat} (h : ymem n ≤ 1048576) : n ≤ 22415 := by
  rcases Nat.lt_or_ge n 22416 with h1 | h1
  · omega
  · unfold ymem at h
    have h2 : 22416 * 22416 ≤ n * n := Nat.mul_le_mul h1 h1
    omega
theorem ymem_mono {a b : Nat} (h : a ≤ b) : ymem a ≤ ymem b := by
  unfold ymem
  have h2 : a * a ≤ b * b := Nat.mul_le_mul h h
  omega
structure NoRef (y : PSt) (f : PF) (o : Int) : Prop where
  kn : yknown o = true
  tk : ytakes o ≤ (f.stack.length : Int)
  ov : (f.stack.length : Int) - ytakes o + ygives o ≤ 64
  st : ¬ (f.statY = true ∧ ywrites f o = true)
  cr : o = 240 ∨ o = 245 → yarg f 2 ≤ 512
  rd : o = 62 → yarg f 1 + yarg f 2 ≤ y.ret.length
  co : ycost y f o ≤ f.gas
theorem noRef {y : PSt} {f : PF} {o : Int} (h : yrefuse y f o = 0) : NoRef y f o := by
  unfold yrefuse at h
  repeat (split at h; · omega)
  rename_i h1 h2 h3 h4 h5 h6 h7 h8 h9 h10
  refine ⟨by simpa using h1, by omega, by omega, h4, fun h => ?_, fun h => ?_, by omega⟩
  · rcases Nat.lt_or_ge 512 (yarg f 2) with h11 | h11
    · exact absurd ⟨h, h11⟩ h5
    · exact h11
  · rcases Nat.lt_or_ge y.ret.length (yarg f 1 + yarg f 2) with h11 | h11
    · exact absurd ⟨h, h11⟩ h6
    · exact h11
theorem NoRef.reach {y : PSt} {f : PF} {o : Int} (h : NoRef y f o) (hmg : f.gas + ymem (f.mem.length / 32) ≤ 1048576) : ymem (ywords (yreach f o)) ≤ 1048576 ∧ ywords (yreach f o) ≤ 22415 ∧ yreach f o ≤ 717280 := by
  have hc := h.co
  have h1 : ymem (ywords (yreach f o)) ≤ 1048576 := by
    unfold ycost at hc
    split at hc
    · rename_i h2
      have := ymem_mono h2
      omega
    · omega
  have h2 := ymem_le h1
  refine ⟨h1, h2, ?_⟩
  unfold ywords at h2
  omega
theorem ygrow_len {f : PF} {o : Int} {y : PSt} (h : NoRef y f o) (hmg : f.gas + ymem (f.mem.length / 32) ≤ 1048576) (hm : f.mem.length % 32 = 0) : (ygrow f (yreach f o)).mem.length ≤ 717280 ∧ (ygrow f (yreach f o)).mem.length % 32 = 0 := by
  obtain ⟨_, h2, _⟩ := h.reach hmg
  unfold ygrow
  split
  · show (ycut f.mem 0 (32 * ywords (yreach f o))).length ≤ _ ∧ (ycut f.mem 0 (32 * ywords (yreach f o))).length % 32 = 0
    rw [ycut_len2]; omega
  · have h3 := ymem_le (n := f.mem.length / 32) (by omega)
    omega
theorem yend_len {a n k : Nat} (h : yend a n ≤ k) : n ≤ k := by
  unfold yend at h
  split at h
  · omega
  · omega
theorem ygrow_arg (f : PF) (a i : Nat) : yarg (ygrow f a) i = yarg f i := by unfold ygrow; split <;> rfl

end Go.Proofs.YgvacwGreat
