import Derived.Test.YgvacwGreatHz
namespace Go.Proofs.YgvacwGreat
set_option linter.unusedSimpArgs false
set_option linter.unusedVariables false
theorem YRet.pre2 {O O2 : Om} {Y Y2 : Nat → Prop} {w w1 w2 : World} {C : Nat} {y' : PSt} {fs' : List PF} (hG : YG w O Y O2 Y2) (hk : KeepO Y w w1) (h : @YRet O2 Y2 w1 w2 C y' fs') : @YRet O Y w w2 C y' fs' := by
  obtain ⟨O3, Y3, x', xs', hG2, hk2, hX⟩ := h
  exact ⟨O3, Y3, x', xs', hG.trans hG2 hk.sz, hk.trans hk2 (fun b hb h9 => hG.ydn b hb h9), hX⟩
def ystepG (y : PSt) (f : PF) : PF := ygrow { f with gas := f.gas - ycost y f (yopcode f) } (yreach f (yopcode f))
def ystep (ks : List Int → List Int) (y : PSt) (rest : List PF) (f : PF) : PSt × List PF :=
  if f.nat ≠ 0 then ynative_ y rest f
  else if yrefuse y f (yopcode f) ≠ 0 then yleave y rest f (yrefuse y f (yopcode f)) []
  else if yopcode f = 0 then yleave y rest (ystepG y f) 0 []
  else if yopcode f = 243 then yleave y rest (ystepG y f) 0 (ycut (ystepG y f).mem (yarg f 0) (yarg f 1))
  else if yopcode f = 253 then yleave y rest (ystepG y f) 1 (ycut (ystepG y f).mem (yarg f 0) (yarg f 1))
  else if yopcode f = 255 then ydestroys y rest (ystepG y f)
  else if yfam (yopcode f) = 16 then yenters ks y rest (ystepG y f) (yopcode f)
  else yplain ks y rest (ystepG y f) (yopcode f)
theorem yreach_gas (f : PF) (g : Nat) (o : Int) : yreach { f with gas := g } o = yreach f o := rfl
theorem fam16 {o : Int} (h : 0 ≤ o ∧ o ≤ 255) (h2 : yfam o = 16) (h3 : o ≠ 255) : o = 240 ∨ o = 245 ∨ o = 241 ∨ o = 242 ∨ o = 244 ∨ o = 250 := by
  unfold yfam at h2
  repeat (first | omega | split at h2)
theorem plain_vo {o : Int} (h : 0 ≤ o ∧ o ≤ 255) (hk : yknown o = true) (h2 : yfam o ≠ 16) (h3 : ygives o = 1) (h4 : ¬ (128 ≤ o ∧ o ≤ 159)) : (1 ≤ o ∧ o ≤ 11) ∨ (16 ≤ o ∧ o ≤ 29) ∨ o = 32 ∨ (48 ≤ o ∧ o ≤ 54) ∨ o = 56 ∨ o = 58 ∨ o = 59 ∨ o = 61 ∨ (63 ≤ o ∧ o ≤ 72) ∨ o = 81 ∨ o = 84 ∨ o = 88 ∨ o = 89 ∨ o = 90 ∨ o = 92 ∨ (95 ≤ o ∧ o ≤ 127) := by
  unfold yknown at hk
  split at hk
  · cases hk
  · rename_i h0
    unfold ygives at h3
    unfold yfam at h0 h2 h3
    repeat (first | omega | split at h3)

end Go.Proofs.YgvacwGreat
