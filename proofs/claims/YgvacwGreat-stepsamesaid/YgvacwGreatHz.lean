import Derived.Test.YgvacwGreatHy
namespace Go.Proofs.YgvacwGreat
set_option linter.unusedSimpArgs false
set_option linter.unusedVariables false
theorem ygrow_eq (f : PF) (a : Nat) : ygrow f a = { f with mem := (ygrow f a).mem } := by unfold ygrow; split <;> rfl
theorem FrR.sMem [Om] {w : World} {x : YFr} {f : PF} {s : SV} {L : List Int} (h : FrR w x f) (hm : MB w s L) : FrR w { x with mem := s } { f with mem := L } := { h with mem := hm }
theorem yGrowX [O : Om] (w : World) (hO : OmB w) (Y : Nat → Prop) (C : Nat) (x : YSt) (y : PSt) (xs : List YFr) (rest : List PF) (f : PF) (hX : YX Y w C x y xs (rest ++ [f])) (hP : PFB f) (F : Nat) (hFp : x.frames.1 = some ⟨F, 0, none⟩) (ap : Option Addr) (an acY a : Nat) (ha : NN w (ap, an, acY) a) (za : sz a ≤ 900) (ha8 : a ≤ 100000000) : Ret Hvac.prog 44 #[.pointer (some ⟨F, rest.length * 60, none⟩), .slice ap an acY] w fun u w' => u = .tuple #[] ∧ ∃ (O' : Om) (Y' : Nat → Prop) (xs' : List YFr), YG w O Y O' Y' ∧ KeepO Y w w' ∧ @YX O' Y' w' C x y xs' (rest ++ [ygrow f a]) := by
  obtain ⟨r, xf, hxf, hFM, hMW, hYF, hlf⟩ := hX.top hFp
  refine Ret.mono (yGrow_spec w hO F _ r xf f hFM hP ap an acY a ha za ha8) ?_
  rintro u w' ⟨h1, r', s', hS, hc⟩
  have hkY : KeepO Y w w' := KeepO.mono hS.keep (fun b e => e ▸ hYF)
  rcases hc with ⟨e1, e2⟩ | ⟨c, hc0, e1, hcb⟩
  · exact ⟨h1, O, Y, _, YG.refl w O Y, hkY, hX.ftop hFp hxf hFM hS e1 (by rw [e2])⟩
  · have hf : (rest ++ [f])[rest.length]? = some f := by rw [List.getElem?_append_right (Nat.le_refl _), Nat.sub_self]; rfl
    have hG := YG.add O Y hc0
    have hrel : @FrR (O.add c) w' { xf with mem := s' } (ygrow f a) := by
      rw [ygrow_eq]
      have h9 : @FrR (O.add c) w' xf f := @FrR.keep (O.add c) _ _ _ _ (FrR.om hFM.rel hG.le) (@KeepO.om (O.add c) _ _ _ hS.keep (fun b _ e => Or.inl (e ▸ hFM.om))) (KT.kf hFM.blk hS.keep (by decide))
      exact @FrR.sMem (O.add c) _ _ _ _ _ h9 hS.rel.mem
    have hM2 : @FrM (O.add c) w F (rest.length * 60) r xf f := @FrM.mk (O.add c) _ _ _ _ _ _ hFM.blk hFM.fc (FrR.om hFM.rel hG.le) (Or.inl hFM.om)
    have hS2 : @FStep (O.add c) w w' F (rest.length * 60) r (ygrow f a) r' { xf with mem := s' } := @FStep.mk (O.add c) _ _ _ _ _ _ _ _ hS.keep hS.blk hS.ft hrel
    have hmw2 : @MW (O.add c) w' s' (ygrow f a).mem := by
      subst e1
      exact @MW.mk (O.add c) _ _ _ rfl (fun _ => ⟨c, rfl, Or.inr rfl, hcb⟩)
    have hfrs := @FRS.fstep (O.add c) _ _ _ _ _ _ _ _ _ _ _ _ _ _ _ (FRS.om hX.frs hG.le hG.up hG.yup) hFp hxf hf hM2 hS2 hmw2 (fun b hb => by
      right
      obtain ⟨o9, h9, _⟩ := hb
      rw [e1] at h9
      injection h9 with h9
      injection h9 with h9 _
      rw [← h9]
      exact ⟨Or.inr rfl, hc0⟩)
    rw [set_last] at hfrs
    exact ⟨h1, O.add c, (fun b => Y b ∨ b = c), _, hG, hkY, @YX.mk (O.add c) _ _ _ _ _ _ _ (OmB.add hX.omb hS.keep.sz hcb.lt) (fun b hb => by rcases hb with hb | hb; exact Or.inl (hX.sub b hb); exact Or.inr hb) (Or.inl hX.yc) (@YSS.fk (O.add c) _ _ _ _ _ _ _ (@YSS.mk (O.add c) _ _ _ _ hX.ss.blk (StRel.om hX.ss.rel hG.le hG.up) (Or.inl hX.ss.om)) hFM.blk (Or.inl hFM.om) hS.keep) hfrs (fun b hb hp => by rcases hp with hp | hp; exact Or.inl (hX.yl b hb hp); exact Or.inr hp)⟩

end Go.Proofs.YgvacwGreat
