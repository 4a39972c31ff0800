import Derived.Test.YgvacwGreatIi
namespace Go.Proofs.YgvacwGreat
set_option linter.unusedSimpArgs false
set_option linter.unusedVariables false
/-! the chain as New makes it -/
def yslP (x : Sl) : Nat × Nat := (bvY x.key, bvY x.val)
def yacP (x : Ac) : PA := ⟨x.addr, x.nonce.toNat, bvY x.bal, x.cb, x.sl.map yslP⟩
def ev0 : Ev := ⟨List.replicate 20 0, 0, 0, 0, List.replicate 32 0, List.replicate 32 0, List.replicate 32 0, (none, 0, 0), []⟩
def ysE (e : Ev) : YSt := ⟨ws0, (none, 0, 0), (none, 0, 0), (none, 0, 0), 0, 0, 0, (none, 0, 0), (none, 0, 0), (none, 0, 0), (none, 0, 0), (none, 0, 0), List.replicate 20 0, List.replicate 20 0, e⟩
def ysN (e : Ev) (a tt : SV) : YSt := { ysE e with now := { ws0 with accts := a }, total := tt }
def ypN (l : List PA) (e : Ev) (hs : List (List Int)) : PSt := ⟨{ pw0 with accts := l }, [], [], 0, 0, 0, 0, 0, 0, 0, List.replicate 20 0, List.replicate 20 0, hs, e⟩
theorem encYS_ev {e : Ev} {w : World} (he : EvOK w e) : splice (encYS (ysE ev0)).toArray (0 + 0 + 59) (encEv e) = (encYS (ysE e)).toArray :=
  splice_at (M' := encEv e) (P := hdYO (ysE ev0) ++ (List.replicate 20 (0 : Int)).map (Value.int .u8) ++ (List.replicate 20 (0 : Int)).map (Value.int .u8)) (M := encEv ev0) (S := []) (by simp [encYS, hdYO, ysE]) (by simp [hdYO]) (by rw [encEv_len he]; rfl) (by simp [encYS, hdYO, ysE])
theorem setLastV {P : List Value} {x v : Value} {k : Nat} (h : k = P.length) : (P ++ [x]).toArray.setIfInBounds k v = (P ++ [v]).toArray := by
  subst h
  rw [List.setIfInBounds_toArray]
  simp
def hdEv (x : Ev) : List Value := x.cb.map (Value.int .u8) ++ (.int .u64 x.num :: .int .u64 x.timeY :: .int .u64 x.glim :: (x.rand.map (Value.int .u8) ++ (x.cid.map (Value.int .u8) ++ x.bfee.map (Value.int .u8))))
theorem encYS_eh {e : Ev} {w : World} (he : EvOK w e) (s : SV) : (encYS (ysE e)).toArray.setIfInBounds (0 + 0 + 59 + 119) (.slice s.1 s.2.1 s.2.2) = (encYS (ysE { e with hash := s })).toArray := by
  have h1 : ∀ e' : Ev, encYS (ysE e') = (hdYO (ysE e') ++ ((ysE e').origin.map (Value.int .u8) ++ ((ysE e').made.map (Value.int .u8) ++ hdEv e'))) ++ [sv e'.hash] := fun e' => by simp [encYS, hdYO, hdEv, encEv, ysE]
  rw [h1, h1, setLastV]
  · rfl
  · simp [hdYO, hdEv, ysE, he.cb.1, he.rand.1, he.cid.1, he.bfee.1]
theorem EvOK.evb {e : Ev} {w : World} (h : EvOK w e) (s : SV) : EvB { e with hash := s } := ⟨h.cb, h.rand, h.cid, h.bfee, h.num, h.timeY, h.glim⟩
theorem strel_new [Om] {w : World} {e : Ev} {a tt : SV} {l : List PA} {hs : List (List Int)} (hE : EvB e) (ha : AcsR w a l) (hh : PL encW32 32 28 w e.hash hs) (hb : ∀ x ∈ hs, By x 32) : StRel w (ysN e a tt) (ypN l e hs) :=
  ⟨⟨ha, AdR.nil _, MksR.nil _, NN.nil _, (PWR.nil w).n.logs, TpsR.nil _ _, AdR.nil _, AdR.nil _⟩, TpsR.nil _ _, PB.nil _, rfl, rfl, rfl, NN.nil _, NN.nil _, NN.nil _, NN.nil _, rfl, ⟨List.length_replicate, by_zero 20⟩, rfl, ⟨List.length_replicate, by_zero 20⟩, hh, hb, rfl, hE⟩
theorem one_encAc2 (x : Ac) : ∀ u ∈ (encAc x).toArray.toList, u.oneCell' = true := by
  intro u hu
  simp only [encAc, List.mem_append, List.mem_map, List.mem_cons, List.not_mem_nil, al_of] at hu
  rcases hu with ⟨a, _, rfl⟩ | rfl | ⟨a, _, rfl⟩ | rfl | rfl <;> rfl
theorem ac_whole2 {w : World} {x : Ac} (h : AcOK w x) : ((encAc x).drop 0).take 55 = encAc x := by rw [List.drop_zero, List.take_of_length_le (by rw [encAc_len h]; omega)]

end Go.Proofs.YgvacwGreat
