import Derived.Test.YgvacwGreatHx
namespace Go.Proofs.YgvacwGreat
set_option linter.unusedSimpArgs false
set_option linter.unusedVariables false
theorem yreach_a {f : PF} {o : Int} (h : o = 32 ∨ o = 243 ∨ o = 253 ∨ (160 ≤ o ∧ o ≤ 164)) : yreach f o = yend (yarg f 0) (yarg f 1) := by unfold yreach; rw [if_pos h]
theorem len_a {f : PF} {o : Int} {k : Nat} (hr : yreach f o ≤ k) (h : o = 32 ∨ o = 243 ∨ o = 253 ∨ (160 ≤ o ∧ o ≤ 164)) : yarg f 1 ≤ k := yend_len (by rw [yreach_a h] at hr; exact hr)
theorem len_b {f : PF} {o : Int} {k : Nat} (hr : yreach f o ≤ k) (h : o = 55 ∨ o = 57 ∨ o = 62 ∨ o = 94) : yarg f 2 ≤ k := by
  unfold yreach at hr
  rcases h with rfl | rfl | rfl | rfl
  · simp at hr; exact yend_len hr
  · simp at hr; exact yend_len hr
  · simp at hr; exact yend_len hr
  · simp at hr; exact yend_len (a := yarg f 0) (by omega)
theorem len_c {f : PF} {o : Int} {k : Nat} (hr : yreach f o ≤ k) (h : o = 60) : yarg f 3 ≤ k := by
  subst h; unfold yreach at hr; simp at hr; exact yend_len hr
theorem len_d {f : PF} {o : Int} {k : Nat} (hr : yreach f o ≤ k) (h : o = 241 ∨ o = 242 ∨ o = 244 ∨ o = 250) : yarg f (yck o + 1) ≤ k := by
  unfold yreach at hr
  rcases h with rfl | rfl | rfl | rfl
  · rw [show yck 241 + 1 = 4 by decide]; simp at hr; exact yend_len (a := yarg f 3) (by omega)
  · rw [show yck 242 + 1 = 4 by decide]; simp at hr; exact yend_len (a := yarg f 3) (by omega)
  · rw [show yck 244 + 1 = 3 by decide]; simp at hr; exact yend_len (a := yarg f 2) (by omega)
  · rw [show yck 250 + 1 = 3 by decide]; simp at hr; exact yend_len (a := yarg f 2) (by omega)

end Go.Proofs.YgvacwGreat
