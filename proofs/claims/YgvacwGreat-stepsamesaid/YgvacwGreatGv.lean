import Derived.Test.YgvacwGreatGu
namespace Go.Proofs.YgvacwGreat
set_option linter.unusedSimpArgs false
set_option linter.unusedVariables false
/-! the blocks that may turn become more: only such as lie behind the world's end -/
structure OmLe (w : World) (O O' : Om) : Prop where
  dn : ∀ b, b < w.heap.size → (@Om.p O') b → (@Om.p O) b
theorem OmLe.refl (w : World) (O : Om) : OmLe w O O := ⟨fun _ _ h => h⟩
theorem OmLe.trans {w w' : World} {O O1 O2 : Om} (h : OmLe w O O1) (h2 : OmLe w' O1 O2) (hw : w.heap.size ≤ w'.heap.size) : OmLe w O O2 := ⟨fun b hb hp => h.dn b hb (h2.dn b (by omega) hp)⟩
/-- one block more -/
abbrev Om.add (O : Om) (c : Nat) : Om := ⟨fun b => (@Om.p O) b ∨ b = c⟩
theorem Om.add_le {w : World} (O : Om) {c : Nat} (h : w.heap.size ≤ c) : OmLe w O (O.add c) := ⟨fun b hb hp => by rcases hp with hp | hp; exact hp; omega⟩
theorem Om.add_self (O : Om) (c : Nat) : (@Om.p (O.add c)) c := Or.inr rfl
theorem OmB.add {O : Om} {w w' : World} {c : Nat} (h : @OmB O w) (hw : w.heap.size ≤ w'.heap.size) (hc : c < w'.heap.size) : @OmB (O.add c) w' := fun b hb => by
  rcases hb with hb | hb
  · exact Nat.lt_of_lt_of_le (h b hb) hw
  · omega
section
variable {O O' : Om} {w : World}
theorem PB.om {s : SV} {L : List Int} (h : @PB O w s L) (ho : OmLe w O O') : @PB O' w s L := by
  obtain ⟨h1, h2, h3, h4⟩ := h
  exact ⟨h1, h2, h3, fun h0 => by obtain ⟨b, r, fz, k1, k2, k3, k4⟩ := h4 h0; exact ⟨b, r, fz, k1, fun hp => k2 (ho.dn b k3.lt hp), k3, k4⟩⟩
theorem NN.om {s : SV} {n : Nat} (h : @NN O w s n) (ho : OmLe w O O') : @NN O' w s n := PB.om h ho
theorem PL.om {α : Type} {enc : α → List Value} {u : Nat} {T : TypeId} {s : SV} {l : List α} (h : @PL O α enc u T w s l) (ho : OmLe w O O') : @PL O' α enc u T w s l := by
  obtain ⟨h1, h2, h4⟩ := h
  exact ⟨h1, h2, fun h0 => by obtain ⟨b, r, fz, k1, k2, k3, k4⟩ := h4 h0; exact ⟨b, r, fz, k1, fun hp => k2 (ho.dn b k3.lt hp), k3, k4⟩⟩
theorem SlR.om {x : YSl} {y : Nat × Nat} (h : @SlR O w x y) (ho : OmLe w O O') : @SlR O' w x y := by obtain ⟨h1, h2, h3, h4⟩ := h; exact ⟨NN.om h1 ho, NN.om h2 ho, h3, h4⟩
theorem SlsR.om {s : SV} {l : List (Nat × Nat)} (h : @SlsR O w s l) (ho : OmLe w O O') : @SlsR O' w s l := by obtain ⟨L, h1, h2⟩ := h; exact ⟨L, PL.om h1 ho, h2.mono fun _ _ h => SlR.om h ho⟩
theorem AcR.om {x : YAc} {y : PA} (h : @AcR O w x y) (ho : OmLe w O O') : @AcR O' w x y := by obtain ⟨h1, h2, h3, h4, h5, h6, h7, h8⟩ := h; exact ⟨h1, h2, NN.om h3 ho, NN.om h4 ho, h5, h6, PB.om h7 ho, SlsR.om h8 ho⟩
theorem AcsR.om {s : SV} {l : List PA} (h : @AcsR O w s l) (ho : OmLe w O O') : @AcsR O' w s l := by obtain ⟨L, h1, h2⟩ := h; exact ⟨L, PL.om h1 ho, h2.mono fun _ _ h => AcR.om h ho⟩
theorem AdR.om {s : SV} {l : List (List Int)} (h : @AdR O w s l) (ho : OmLe w O O') : @AdR O' w s l := by obtain ⟨h1, h2⟩ := h; exact ⟨PL.om h1 ho, h2⟩
theorem MkR.om {x : YMk} {y : List Int × Nat} (h : @MkR O w x y) (ho : OmLe w O O') : @MkR O' w x y := by obtain ⟨h1, h2, h3, h4⟩ := h; exact ⟨h1, h2, NN.om h3 ho, h4⟩
theorem MksR.om {s : SV} {l : List (List Int × Nat)} (h : @MksR O w s l) (ho : OmLe w O O') : @MksR O' w s l := by obtain ⟨L, h1, h2⟩ := h; exact ⟨L, PL.om h1 ho, h2.mono fun _ _ h => MkR.om h ho⟩
theorem TpR.om {x : YTp} {y : List Int × Nat × Nat} (h : @TpR O w x y) (ho : OmLe w O O') : @TpR O' w x y := by obtain ⟨h1, h2, h3, h4, h5, h6⟩ := h; exact ⟨h1, h2, NN.om h3 ho, NN.om h4 ho, h5, h6⟩
theorem TpsR.om {T : TypeId} {s : SV} {l : List (List Int × Nat × Nat)} (h : @TpsR O T w s l) (ho : OmLe w O O') : @TpsR O' T w s l := by obtain ⟨L, h1, h2⟩ := h; exact ⟨L, PL.om h1 ho, h2.mono fun _ _ h => TpR.om h ho⟩
theorem LgR.om {x : LogR} (h : @LgR O w x) (ho : OmLe w O O') : @LgR O' w x := by
  obtain ⟨h1, ⟨L, h2, h3⟩, ⟨L2, h4, h5⟩⟩ := h
  exact ⟨h1, ⟨L, PL.om h2 ho, h3⟩, ⟨L2, PB.om h4 ho, h5⟩⟩
theorem LgsR.om {s : SV} {n : Nat} (h : @LgsR O w s n) (ho : OmLe w O O') : @LgsR O' w s n := by obtain ⟨L, h1, h2, h3, h4⟩ := h; exact ⟨L, PL.om h1 ho, h2, fun x hx => LgR.om (h3 x hx) ho, h4⟩
theorem PWR.om {x : YWs} {p : PW} (h : @PWR O w x p) (ho : OmLe w O O') : @PWR O' w x p := by
  obtain ⟨h1, h2, h3, h4, h5, h6, h7, h8⟩ := h
  exact ⟨AcsR.om h1 ho, AdR.om h2 ho, MksR.om h3 ho, NN.om h4 ho, LgsR.om h5 ho, TpsR.om h6 ho, AdR.om h7 ho, AdR.om h8 ho⟩
theorem LgsN.om {s : SV} {n : Nat} (h : @LgsN O w s n) (ho : OmLe w O O') (hu : ∀ b, (@Om.p O) b → (@Om.p O') b) : @LgsN O' w s n := by
  obtain ⟨L, h1, h2, h3, h4, h5⟩ := h
  exact ⟨L, h1, h2, fun x hx => LgR.om (h3 x hx) ho, h4, fun h0 => by
    obtain ⟨b, r, fz, k1, k2, k3⟩ := h5 h0
    refine ⟨b, r, fz, k1, k2, ?_⟩
    rcases k3 with ⟨k3, k4⟩ | ⟨k3, k4⟩
    · exact Or.inl ⟨hu b k3, k4⟩
    · exact Or.inr ⟨fun hp => k3 (ho.dn b k2.lt hp), k4⟩⟩
theorem PWN.om {x : YWs} {p : PW} (h : @PWN O w x p) (ho : OmLe w O O') (hu : ∀ b, (@Om.p O) b → (@Om.p O') b) : @PWN O' w x p := by
  obtain ⟨h1, h2, h3, h4, h5, h6, h7, h8⟩ := h
  exact ⟨AcsR.om h1 ho, AdR.om h2 ho, MksR.om h3 ho, NN.om h4 ho, LgsN.om h5 ho hu, TpsR.om h6 ho, AdR.om h7 ho, AdR.om h8 ho⟩
theorem StR.om {s : SV} {l : List Nat} (h : @StR O w s l) (ho : OmLe w O O') : @StR O' w s l := by obtain ⟨L, h1, h2⟩ := h; exact ⟨L, PL.om h1 ho, h2.mono fun _ _ h => NN.om h ho⟩
theorem FrR.om {x : YFr} {f : PF} (h : @FrR O w x f) (ho : OmLe w O O') : @FrR O' w x f := by
  obtain ⟨h1, h2, h3, h4, h5, h6, h7, h8, h9, h10, h11, h12, h13, h14, h15, h16, h17⟩ := h
  exact ⟨h1, h2, h3, NN.om h4 ho, NN.om h5 ho, NN.om h6 ho, NN.om h7 ho, NN.om h8 ho, StR.om h9 ho, h10, PB.om h11 ho, PB.om h12 ho, h13, h14, h15, h16, PWR.om h17 ho⟩
theorem FrS.om {F fo : Nat} {x : YFr} {f : PF} (h : @FrS O w F fo x f) (ho : OmLe w O O') : @FrS O' w F fo x f := by obtain ⟨h1, h2⟩ := h; exact ⟨h1, FrR.om h2 ho⟩
theorem FrM.om' {F fo : Nat} {r : Array Value} {x : YFr} {f : PF} (h : @FrM O w F fo r x f) (ho : OmLe w O O') (hF : (@Om.p O') F) : @FrM O' w F fo r x f := by obtain ⟨h1, h2, h3, h4⟩ := h; exact ⟨h1, h2, FrR.om h3 ho, hF⟩
theorem StRel.om {x : YSt} {y : PSt} (h : @StRel O w x y) (ho : OmLe w O O') (hu : ∀ b, (@Om.p O) b → (@Om.p O') b) : @StRel O' w x y := by
  obtain ⟨h1, h2, h3, h4, h5, h6, h7, h8, h9, h10, h11, h12, h13, h14, h15, h16, h17, h18⟩ := h
  exact ⟨PWN.om h1 ho hu, TpsR.om h2 ho, PB.om h3 ho, h4, h5, h6, NN.om h7 ho, NN.om h8 ho, NN.om h9 ho, NN.om h10 ho, h11, h12, h13, h14, PL.om h15 ho, h16, h17, h18⟩
theorem YSS.om' {C : Nat} {x : YSt} {y : PSt} (h : @YSS O w C x y) (ho : OmLe w O O') (hu : ∀ b, (@Om.p O) b → (@Om.p O') b) (hC : (@Om.p O') C) : @YSS O' w C x y := by obtain ⟨h1, h2, h3⟩ := h; exact ⟨h1, StRel.om h2 ho hu, hC⟩
end
/-! a mutator of a frame -/
theorem FrM.step [Om] {w w' : World} {F fo : Nat} {r r' : Array Value} {x x' : YFr} {f f' : PF} (h : FrM w F fo r x f) (hb : Hb w' F (.cells r' 121 (0, 0))) (ht : FT r fo r' x') (hr : FrR w' x' f') : FrM w' F fo r' x' f' := ⟨hb, ht.fc, hr, h.om⟩
/-- what a mutator of a frame leaves -/
structure FStep [Om] (w w' : World) (F fo : Nat) (r : Array Value) (f' : PF) (r' : Array Value) (x' : YFr) : Prop where
  keep : KeepO (fun b => b = F) w w'
  blk : Hb w' F (.cells r' 121 (0, 0))
  ft : FT r fo r' x'
  rel : FrR w' x' f'
theorem FStep.m [Om] {w w' : World} {F fo : Nat} {r r' : Array Value} {x' : YFr} {f' : PF} (h : FStep w w' F fo r f' r' x') (ho : Om.p F) : FrM w' F fo r' x' f' := ⟨h.blk, h.ft.fc, h.rel, ho⟩

end Go.Proofs.YgvacwGreat
