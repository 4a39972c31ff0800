import Derived.Test.YgvacwGreatHf
import Derived.Test.YgvacwGreatOk
namespace Go.Proofs.YgvacwGreat
set_option linter.unusedSimpArgs false
set_option linter.unusedVariables false
/-! a frame being built in a box -/
theorem encYF_0 (x : YFr) (n : Nat) : (encYF x).toArray.setIfInBounds (0 + 0) (.int .u8 n) = (encYF { x with kind := n }).toArray := by rw [List.setIfInBounds_toArray]; rfl
theorem encYF_1 (x : YFr) (n : Nat) : (encYF x).toArray.setIfInBounds (0 + 1) (.int .u8 n) = (encYF { x with nat := n }).toArray := by rw [List.setIfInBounds_toArray]; rfl
theorem encYF_2 (x : YFr) (n : Bool) : (encYF x).toArray.setIfInBounds (0 + 2) (.bool n) = (encYF { x with statY := n }).toArray := by rw [List.setIfInBounds_toArray]; rfl
theorem encYF_3 (x : YFr) (s : SV) : (encYF x).toArray.setIfInBounds (0 + 3) (.slice s.1 s.2.1 s.2.2) = (encYF { x with pc := s }).toArray := by rw [List.setIfInBounds_toArray]; rfl
theorem encYF_4 (x : YFr) (s : SV) : (encYF x).toArray.setIfInBounds (0 + 4) (.slice s.1 s.2.1 s.2.2) = (encYF { x with gas := s }).toArray := by rw [List.setIfInBounds_toArray]; rfl
theorem encYF_5 (x : YFr) (s : SV) : (encYF x).toArray.setIfInBounds (0 + 5) (.slice s.1 s.2.1 s.2.2) = (encYF { x with value := s }).toArray := by rw [List.setIfInBounds_toArray]; rfl
theorem encYF_10 (x : YFr) (s : SV) : (encYF x).toArray.setIfInBounds (0 + 10) (.slice s.1 s.2.1 s.2.2) = (encYF { x with code := s }).toArray := by rw [List.setIfInBounds_toArray]; rfl
theorem encYF_11 (x : YFr) (s : SV) : (encYF x).toArray.setIfInBounds (0 + 11) (.slice s.1 s.2.1 s.2.2) = (encYF { x with inputY := s }).toArray := by rw [List.setIfInBounds_toArray]; rfl
theorem encYF_12 {x : YFr} {A : List Int} (h1 : x.self.length = 20) (hA : A.length = 20) : splice (encYF x).toArray (0 + 12) (Value.agg (ic .u8 A)).cells.toList = (encYF { x with self := A }).toArray :=
  splice_at (M' := A.map (Value.int .u8)) (P := [.int .u8 x.kind, .int .u8 x.nat, .bool x.statY, sv x.pc, sv x.gas, sv x.value, sv x.outOff, sv x.outLen, sv x.stack, sv x.mem, sv x.code, sv x.inputY]) (M := x.self.map (Value.int .u8)) (S := x.caller.map (Value.int .u8) ++ encWs x.saved) (by simp [encYF]) rfl (by simp [h1, hA]) (by simp [encYF])
theorem encYF_13 {x : YFr} {A : List Int} (h1 : x.self.length = 20) (h2 : x.caller.length = 20) (hA : A.length = 20) : splice (encYF x).toArray (0 + 32) (Value.agg (ic .u8 A)).cells.toList = (encYF { x with caller := A }).toArray :=
  splice_at (M' := A.map (Value.int .u8)) (P := [.int .u8 x.kind, .int .u8 x.nat, .bool x.statY, sv x.pc, sv x.gas, sv x.value, sv x.outOff, sv x.outLen, sv x.stack, sv x.mem, sv x.code, sv x.inputY] ++ x.self.map (Value.int .u8)) (M := x.caller.map (Value.int .u8)) (S := encWs x.saved) (by simp [encYF]) (by simp [h1]) (by simp [h2, hA]) (by simp [encYF])
def ws0 : YWs := ⟨(none, 0, 0), (none, 0, 0), (none, 0, 0), (none, 0, 0), (none, 0, 0), (none, 0, 0), (none, 0, 0), (none, 0, 0)⟩
def pw0 : PW := ⟨[], [], [], 0, 0, [], [], []⟩
theorem PWR.nil [Om] (w : World) : PWR w ws0 pw0 := ⟨⟨[], PL.nil _ _ _ _, R2.nil _⟩, AdR.nil _, MksR.nil _, NN.nil _, ⟨[], PL.nil _ _ _ _, rfl, (by intro x hx; cases hx), rfl⟩, TpsR.nil _ _, AdR.nil _, AdR.nil _⟩
def kYF (k : Nat) (st : Bool) (g v cd : SV) (A B : List Int) : YFr := ⟨k, 0, st, (none, 0, 0), g, v, (none, 0, 0), (none, 0, 0), (none, 0, 0), (none, 0, 0), cd, (none, 0, 0), A, B, ws0⟩
def kPF (k : Nat) (st : Bool) (g v : Nat) (cd A B : List Int) : PF := ⟨k, 0, st, 0, g, v, 0, 0, [], [], cd, [], A, B, pw0⟩
theorem kYF_rel [Om] {w : World} {k : Nat} {st : Bool} {g v cd : SV} {A B : List Int} {g' v' : Nat} {cd' : List Int} (hg : NN w g g') (hv : NN w v v') (hc : PB w cd cd') (hA : By A 20) (hB : By B 20) : FrR w (kYF k st g v cd A B) (kPF k st g' v' cd' A B) :=
  ⟨rfl, rfl, rfl, NN.nil _, hg, hv, NN.nil _, NN.nil _, ⟨[], PL.nil _ _ _ _, R2.nil _⟩, MB.nil _, hc, PB.nil _, rfl, rfl, hA, hB, PWR.nil _⟩
set_option maxRecDepth 10000 in
theorem PS_b121_0_2_5_12_13 {ρ : Nat → Value} {x0 x2 x5 x12 x13 : Operand} {k : Nat} (h0 : ev ρ x0 = .int .u8 (k : Int)) {st : Bool} (h2 : ev ρ x2 = .bool st) {p5 : Option Addr} {n5 c5 : Nat} (h5 : ev ρ x5 = .slice p5 n5 c5) {A12 : List Int} (h12 : ev ρ x12 = .agg (ic .u8 A12)) (l12 : A12.length = 20) {A13 : List Int} (h13 : ev ρ x13 = .agg (ic .u8 A13)) (l13 : A13.length = 20) : PS Hvac.prog (.build 121 #[(0, x0), (2, x2), (5, x5), (12, x12), (13, x13)]) ρ (.agg (encYF (kYF k st (none, 0, 0) (p5, n5, c5) (none, 0, 0) A12 A13)).toArray) := by
  obtain ⟨a12_0, a12_1, a12_2, a12_3, a12_4, a12_5, a12_6, a12_7, a12_8, a12_9, a12_10, a12_11, a12_12, a12_13, a12_14, a12_15, a12_16, a12_17, a12_18, a12_19, rfl⟩ := len20 l12
  obtain ⟨a13_0, a13_1, a13_2, a13_3, a13_4, a13_5, a13_6, a13_7, a13_8, a13_9, a13_10, a13_11, a13_12, a13_13, a13_14, a13_15, a13_16, a13_17, a13_18, a13_19, rfl⟩ := len20 l13
  exact PS_buildS Hvac.zeroValue121 Hvac.runUnderlying121 (places_run (pl := [(0, 1), (1, 1), (2, 1), (3, 1), (4, 1), (5, 1), (6, 1), (7, 1), (8, 1), (9, 1), (10, 1), (11, 1), (12, 20), (32, 20), (52, 8)]) ⟨rfl, Hvac.sizeOf5, rfl, Hvac.sizeOf5, rfl, Hvac.sizeOf4, rfl, Hvac.sizeOf92, rfl, Hvac.sizeOf92, rfl, Hvac.sizeOf92, rfl, Hvac.sizeOf92, rfl, Hvac.sizeOf92, rfl, Hvac.sizeOf119, rfl, Hvac.sizeOf32, rfl, Hvac.sizeOf32, rfl, Hvac.sizeOf32, rfl, Hvac.sizeOf25, rfl, Hvac.sizeOf25, rfl, Hvac.sizeOf95, trivial⟩) (ps := [(0, .int .u8 (k : Int)), (2, .bool st), (5, .slice p5 n5 c5), (12, .agg (ic .u8 [a12_0, a12_1, a12_2, a12_3, a12_4, a12_5, a12_6, a12_7, a12_8, a12_9, a12_10, a12_11, a12_12, a12_13, a12_14, a12_15, a12_16, a12_17, a12_18, a12_19])), (13, .agg (ic .u8 [a13_0, a13_1, a13_2, a13_3, a13_4, a13_5, a13_6, a13_7, a13_8, a13_9, a13_10, a13_11, a13_12, a13_13, a13_14, a13_15, a13_16, a13_17, a13_18, a13_19]))]) (by simp only [List.map, h0, h2, h5, h12, h13]) (by kernel_rfl)
set_option maxRecDepth 10000 in
theorem PS_b121_0_5_13_10 {ρ : Nat → Value} {x0 x5 x13 x10 : Operand} {k : Nat} (h0 : ev ρ x0 = .int .u8 (k : Int)) {p5 : Option Addr} {n5 c5 : Nat} (h5 : ev ρ x5 = .slice p5 n5 c5) {A13 : List Int} (h13 : ev ρ x13 = .agg (ic .u8 A13)) (l13 : A13.length = 20) {p10 : Option Addr} {n10 c10 : Nat} (h10 : ev ρ x10 = .slice p10 n10 c10) : PS Hvac.prog (.build 121 #[(0, x0), (5, x5), (13, x13), (10, x10)]) ρ (.agg (encYF (kYF k false (none, 0, 0) (p5, n5, c5) (p10, n10, c10) (List.replicate 20 0) A13)).toArray) := by
  obtain ⟨a13_0, a13_1, a13_2, a13_3, a13_4, a13_5, a13_6, a13_7, a13_8, a13_9, a13_10, a13_11, a13_12, a13_13, a13_14, a13_15, a13_16, a13_17, a13_18, a13_19, rfl⟩ := len20 l13
  exact PS_buildS Hvac.zeroValue121 Hvac.runUnderlying121 (places_run (pl := [(0, 1), (1, 1), (2, 1), (3, 1), (4, 1), (5, 1), (6, 1), (7, 1), (8, 1), (9, 1), (10, 1), (11, 1), (12, 20), (32, 20), (52, 8)]) ⟨rfl, Hvac.sizeOf5, rfl, Hvac.sizeOf5, rfl, Hvac.sizeOf4, rfl, Hvac.sizeOf92, rfl, Hvac.sizeOf92, rfl, Hvac.sizeOf92, rfl, Hvac.sizeOf92, rfl, Hvac.sizeOf92, rfl, Hvac.sizeOf119, rfl, Hvac.sizeOf32, rfl, Hvac.sizeOf32, rfl, Hvac.sizeOf32, rfl, Hvac.sizeOf25, rfl, Hvac.sizeOf25, rfl, Hvac.sizeOf95, trivial⟩) (ps := [(0, .int .u8 (k : Int)), (5, .slice p5 n5 c5), (13, .agg (ic .u8 [a13_0, a13_1, a13_2, a13_3, a13_4, a13_5, a13_6, a13_7, a13_8, a13_9, a13_10, a13_11, a13_12, a13_13, a13_14, a13_15, a13_16, a13_17, a13_18, a13_19])), (10, .slice p10 n10 c10)]) (by simp only [List.map, h0, h5, h13, h10]) (by kernel_rfl)
set_option maxRecDepth 10000 in
theorem PS_b121_0_4_5_12_13 {ρ : Nat → Value} {x0 x4 x5 x12 x13 : Operand} {k : Nat} (h0 : ev ρ x0 = .int .u8 (k : Int)) {p4 : Option Addr} {n4 c4 : Nat} (h4 : ev ρ x4 = .slice p4 n4 c4) {p5 : Option Addr} {n5 c5 : Nat} (h5 : ev ρ x5 = .slice p5 n5 c5) {A12 : List Int} (h12 : ev ρ x12 = .agg (ic .u8 A12)) (l12 : A12.length = 20) {A13 : List Int} (h13 : ev ρ x13 = .agg (ic .u8 A13)) (l13 : A13.length = 20) : PS Hvac.prog (.build 121 #[(0, x0), (4, x4), (5, x5), (12, x12), (13, x13)]) ρ (.agg (encYF (kYF k false (p4, n4, c4) (p5, n5, c5) (none, 0, 0) A12 A13)).toArray) := by
  obtain ⟨a12_0, a12_1, a12_2, a12_3, a12_4, a12_5, a12_6, a12_7, a12_8, a12_9, a12_10, a12_11, a12_12, a12_13, a12_14, a12_15, a12_16, a12_17, a12_18, a12_19, rfl⟩ := len20 l12
  obtain ⟨a13_0, a13_1, a13_2, a13_3, a13_4, a13_5, a13_6, a13_7, a13_8, a13_9, a13_10, a13_11, a13_12, a13_13, a13_14, a13_15, a13_16, a13_17, a13_18, a13_19, rfl⟩ := len20 l13
  exact PS_buildS Hvac.zeroValue121 Hvac.runUnderlying121 (places_run (pl := [(0, 1), (1, 1), (2, 1), (3, 1), (4, 1), (5, 1), (6, 1), (7, 1), (8, 1), (9, 1), (10, 1), (11, 1), (12, 20), (32, 20), (52, 8)]) ⟨rfl, Hvac.sizeOf5, rfl, Hvac.sizeOf5, rfl, Hvac.sizeOf4, rfl, Hvac.sizeOf92, rfl, Hvac.sizeOf92, rfl, Hvac.sizeOf92, rfl, Hvac.sizeOf92, rfl, Hvac.sizeOf92, rfl, Hvac.sizeOf119, rfl, Hvac.sizeOf32, rfl, Hvac.sizeOf32, rfl, Hvac.sizeOf32, rfl, Hvac.sizeOf25, rfl, Hvac.sizeOf25, rfl, Hvac.sizeOf95, trivial⟩) (ps := [(0, .int .u8 (k : Int)), (4, .slice p4 n4 c4), (5, .slice p5 n5 c5), (12, .agg (ic .u8 [a12_0, a12_1, a12_2, a12_3, a12_4, a12_5, a12_6, a12_7, a12_8, a12_9, a12_10, a12_11, a12_12, a12_13, a12_14, a12_15, a12_16, a12_17, a12_18, a12_19])), (13, .agg (ic .u8 [a13_0, a13_1, a13_2, a13_3, a13_4, a13_5, a13_6, a13_7, a13_8, a13_9, a13_10, a13_11, a13_12, a13_13, a13_14, a13_15, a13_16, a13_17, a13_18, a13_19]))]) (by simp only [List.map, h0, h4, h5, h12, h13]) (by kernel_rfl)
theorem set_last {α : Type} (l : List α) (a b : α) : (l ++ [a]).set l.length b = l ++ [b] := by rw [List.set_append_right _ _ (Nat.le_refl _), Nat.sub_self]; rfl
/-- the top frame is turned -/
theorem YX.ftop [Om] {Y : Nat → Prop} {w w' : World} {C : Nat} {x : YSt} {y : PSt} {xs : List YFr} {rest : List PF} {F o : Nat} {r r' : Array Value} {xf x' : YFr} {f f' : PF} (h : YX Y w C x y xs (rest ++ [f])) (hs : x.frames.1 = some ⟨F, o, none⟩) (hx : xs[rest.length]? = some xf) (hM : FrM w F (rest.length * 60) r xf f) (hS : FStep w w' F (rest.length * 60) r f' r' x') (hm : x'.mem = xf.mem) (hm2 : f'.mem = f.mem) : YX Y w' C x y (xs.set rest.length x') (rest ++ [f']) := by
  have hf : (rest ++ [f])[rest.length]? = some f := by rw [List.getElem?_append_right (Nat.le_refl _), Nat.sub_self]; rfl
  have h1 := h.frs.rel _ _ _ hx hf
  have h2 := h.fstep hs hx hf hM hS (by rw [hm, hm2]; exact h1.mw.fs hM.blk hS.keep) (fun b hb => Or.inl (hm ▸ hb))
  rw [set_last] at h2
  exact h2
theorem FrR.sGas [Om] {w : World} {x : YFr} {f : PF} {s : SV} {n : Nat} (h : FrR w x f) (hs : NN w s n) : FrR w { x with gas := s } { f with gas := n } := { h with gas := hs }
theorem FrR.sInput [Om] {w : World} {x : YFr} {f : PF} {s : SV} {L : List Int} (h : FrR w x f) (hs : PB w s L) : FrR w { x with inputY := s } { f with inputY := L } := { h with inputY := hs }
theorem FrR.sCode [Om] {w : World} {x : YFr} {f : PF} {s : SV} {L : List Int} (h : FrR w x f) (hs : PB w s L) : FrR w { x with code := s } { f with code := L } := { h with code := hs }
theorem FrR.sNat [Om] {w : World} {x : YFr} {f : PF} {n : Nat} (h : FrR w x f) : FrR w { x with nat := n } { f with nat := n } := { h with nat := rfl }
theorem StR.kt [Om] {w w' : World} {s : SV} {l : List Nat} (h : StR w s l) (h92 : KT 92 w w') (h5 : KT 5 w w') : StR w' s l := by obtain ⟨L, h1, h2⟩ := h; exact ⟨L, h1.kt h92, h2.mono fun _ _ h => NN.kt h h5⟩
theorem FrR.kt [Om] {w w' : World} {x : YFr} {f : PF} (h : FrR w x f) (hk : ∀ T, T ≠ 121 → KT T w w') : FrR w' x f := by
  have h5 := hk 5 (by decide)
  exact { h with pc := h.pc.kt h5, gas := h.gas.kt h5, value := h.value.kt h5, outOff := h.outOff.kt h5, outLen := h.outLen.kt h5, stack := h.stack.kt (hk 92 (by decide)) h5, mem := h.mem.kt h5, code := h.code.kt h5, inputY := h.inputY.kt h5, saved := h.saved.kt hk }
theorem PWN.kt [Om] {w w' : World} {x : YWs} {p : PW} (h : PWN w x p) (hk : ∀ T, T ≠ 121 → KT T w w') : PWN w' x p := by
  obtain ⟨⟨L1, a1, a2⟩, ⟨b1, b2⟩, ⟨L3, c1, c2⟩, d1, e1, ⟨L6, f1, f2⟩, ⟨g1, g2⟩, ⟨i1, i2⟩⟩ := h
  have h5 := hk 5 (by decide)
  have h111 := hk 111 (by decide)
  have h28 := hk 28 (by decide)
  exact ⟨⟨L1, a1.kt (hk _ (by decide)), a2.mono fun _ _ h => h.kt h5 h111⟩, ⟨b1.kt (hk _ (by decide)), b2⟩, ⟨L3, c1.kt (hk _ (by decide)), c2.mono fun _ _ h => h.kt h5⟩, NN.kt d1 h5, e1.kt0 (fun x hx => hx.kt h5 h28) (hk 277 (by decide)), ⟨L6, f1.kt (hk _ (by decide)), f2.mono fun _ _ h => h.kt h5⟩, ⟨g1.kt (hk _ (by decide)), g2⟩, ⟨i1.kt (hk _ (by decide)), i2⟩⟩
theorem StRel.kt [Om] {w w' : World} {x : YSt} {y : PSt} (h : StRel w x y) (hk : ∀ T, T ≠ 121 → KT T w w') : StRel w' x y := by
  have h5 := hk 5 (by decide)
  obtain ⟨L, hs1, hs2⟩ := h.start
  exact { h with now := h.now.kt hk, start := ⟨L, hs1.kt (hk _ (by decide)), hs2.mono fun _ _ h => h.kt h5⟩, ret := h.ret.kt h5, limit := h.limit.kt h5, txGas := h.txGas.kt h5, left := h.left.kt h5, price := h.price.kt h5, hs := h.hs.kt (hk _ (by decide)) }
theorem FR1.kt [Om] {Y : Nat → Prop} {w w' : World} {x : YFr} {f : PF} (h : FR1 Y w x f) (hk : ∀ T, T ≠ 121 → KT T w w') : FR1 Y w' x f := ⟨h.rel.kt hk, h.mw.keep fun _ _ _ hb => hk 5 (by decide) _ _ _ hb, h.ym⟩
theorem FRS.box [Om] {Y : Nat → Prop} {w : World} {s : SV} {xs : List YFr} {fs : List PF} {b : Nat} {r : Array Value} (h : FRS Y w s xs fs) (hb : Hb w b (.cells r 121 (0, 0))) (hne : ∀ F o, s.1 = some ⟨F, o, none⟩ → b ≠ F) (o : Obj) : FRS Y (setB w b o) s xs fs :=
  ⟨h.lx, h.lf, h.cap, h.c0, fun h0 => by obtain ⟨F, r, h1, h2, h3, h4, h5⟩ := h.blk h0; exact ⟨F, r, h1, h2, h3, Hb.set (hne F 0 h1) h4, h5⟩, fun i x f hx hf => (h.rel i x f hx hf).kt fun T hT => KT.setB hb hT, h.dis⟩
theorem YX.box [Om] {Y : Nat → Prop} {w : World} {C : Nat} {x : YSt} {y : PSt} {xs : List YFr} {fs : List PF} {b : Nat} {r : Array Value} {o : Obj} (h : YX Y w C x y xs fs) (hb : Hb w b (.cells r 121 (0, 0))) (hne : ∀ F o, x.frames.1 = some ⟨F, o, none⟩ → b ≠ F) : YX Y (setB w b o) C x y xs fs :=
  ⟨fun c hc => by rw [size_setB]; exact h.omb c hc, h.sub, h.yc, ⟨KT.setB hb (by decide) _ _ _ h.ss.blk, h.ss.rel.kt fun T hT => KT.setB hb hT, h.ss.om⟩, h.frs.box hb hne o, h.yl⟩
theorem FrM.box [Om] {w : World} {F fo : Nat} {r : Array Value} {x : YFr} {f : PF} {b : Nat} {r2 : Array Value} {o : Obj} (h : FrM w F fo r x f) (hb : Hb w b (.cells r2 121 (0, 0))) (hne : b ≠ F) : FrM (setB w b o) F fo r x f := ⟨Hb.set hne h.blk, h.fc, h.rel.kt fun T hT => KT.setB hb hT, h.om⟩
theorem FrR.b121 [Om] {w : World} {x : YFr} {f : PF} {b : Nat} {r2 : Array Value} {o : Obj} (h : FrR w x f) (hb : Hb w b (.cells r2 121 (0, 0))) : FrR (setB w b o) x f := h.kt fun T hT => KT.setB hb hT
theorem PB.b121 [Om] {w : World} {s : SV} {L : List Int} {b : Nat} {r2 : Array Value} {o : Obj} (h : PB w s L) (hb : Hb w b (.cells r2 121 (0, 0))) : PB (setB w b o) s L := h.kt (KT.setB hb (by decide))
theorem ynative_bd (A : List Int) : 0 ≤ ynative A ∧ ynative A ≤ 255 := by unfold ynative; repeat (first | omega | split)

end Go.Proofs.YgvacwGreat
