import Derived.Test.YgvacwGreatGb
namespace Go.Proofs.YgvacwGreat
set_option linter.unusedSimpArgs false
set_option linter.unusedVariables false
/-! the specification's world -/
structure YWs where
  accts : SV
  warmA : SV
  warmS : SV
  ref : SV
  logs : SV
  temps : SV
  made : SV
  gone : SV
def encWs (x : YWs) : List Value := [sv x.accts, sv x.warmA, sv x.warmS, sv x.ref, sv x.logs, sv x.temps, sv x.made, sv x.gone]
structure PW where
  accts : List PA
  warmA : List (List Int)
  warmS : List (List Int × Nat)
  ref : Nat
  nlogs : Nat
  temps : List (List Int × Nat × Nat)
  made : List (List Int)
  gone : List (List Int)
/-- lengths and sizes -/
structure PWB (N : Nat) (p : PW) : Prop where
  al : p.accts.length ≤ N
  sl : ∀ a ∈ p.accts, a.slots.length ≤ N
  cd : CdOK p.accts
  wa : p.warmA.length ≤ N
  ws : p.warmS.length ≤ N
  lg : p.nlogs ≤ N
  tp : p.temps.length ≤ N
  md : p.made.length ≤ N
  gn : p.gone.length ≤ N
  rz : sz p.ref ≤ 40
structure PWR [Om] (w : World) (x : YWs) (p : PW) : Prop where
  accts : AcsR w x.accts p.accts
  warmA : AdR w x.warmA p.warmA
  warmS : MksR w x.warmS p.warmS
  ref : NN w x.ref p.ref
  logs : LgsR w x.logs p.nlogs
  temps : TpsR 254 w x.temps p.temps
  made : AdR w x.made p.made
  gone : AdR w x.gone p.gone
theorem PWR.ext [Om] {w w' : World} {x : YWs} {p : PW} (h : PWR w x p) (he : Ext w w') : PWR w' x p := ⟨h.accts.ext he, h.warmA.ext he, h.warmS.ext he, h.ref.ext he, h.logs.ext he, h.temps.ext he, h.made.ext he, h.gone.ext he⟩
theorem PWR.keep [Om] {w w' : World} {x : YWs} {p : PW} (h : PWR w x p) (he : KeepO Om.p w w') : PWR w' x p := ⟨h.accts.keep he, h.warmA.keep he, h.warmS.keep he, h.ref.keep he, h.logs.keep he, h.temps.keep he, h.made.keep he, h.gone.keep he⟩
/-- the logs that are being written: their block is our own, or there is no room in it -/
def LgsN [Om] (w : World) (s : SV) (n : Nat) : Prop := ∃ L, PLA encL 22 277 w s L ∧ L.length = n ∧ (∀ x ∈ L, LgR w x) ∧ (s.2.1 = 0 → s.2.2 = 0) ∧ (0 < s.2.1 → ∃ b r fz, s.1 = some ⟨b, 0, none⟩ ∧ Hb w b (.cells r 277 fz) ∧ ((Om.p b ∧ fz = (0, 0) ∧ s.2.2 * 22 ≤ r.size) ∨ (¬ Om.p b ∧ s.2.2 = s.2.1)))
theorem LgsN.a [Om] {w : World} {s : SV} {n : Nat} (h : LgsN w s n) : LgsA w s n := by obtain ⟨L, h1, h2, h3, _⟩ := h; exact ⟨L, h1, h2, h3⟩
theorem LgsN.len [Om] {w : World} {s : SV} {n : Nat} (h : LgsN w s n) : s.2.1 = n := by obtain ⟨L, h1, h2, _⟩ := h; rw [← h1.len, h2]
theorem LgsN.kt0 [Om] {w w' : World} {s : SV} {n : Nat} (h : LgsN w s n) (hl : ∀ x, LgR w x → LgR w' x) (hk : KT 277 w w') : LgsN w' s n := by obtain ⟨L, h1, h2, h3, h4, h5⟩ := h; exact ⟨L, h1.kt hk, h2, fun x hx => hl x (h3 x hx), h4, fun h0 => by obtain ⟨b, r, fz, k1, k2, k3⟩ := h5 h0; exact ⟨b, r, fz, k1, hk _ _ _ k2, k3⟩⟩
theorem LgsN.ext [Om] {w w' : World} {s : SV} {n : Nat} (h : LgsN w s n) (he : Ext w w') : LgsN w' s n := h.kt0 (fun _ h => h.ext he) (KT.ext he)
theorem LgsN.keep [Om] {w w' : World} {s : SV} {n : Nat} (h : LgsN w s n) (he : KeepO Om.p w w') (hk : KT 277 w w') : LgsN w' s n := h.kt0 (fun _ h => h.keep he) hk
theorem LgsR.n [Om] {w : World} {s : SV} {n : Nat} (h : LgsR w s n) : LgsN w s n := by
  obtain ⟨L, h1, h2, h3, h4⟩ := h
  exact ⟨L, h1.a, h2, h3, fun h0 => by rw [h4]; exact h0, fun h0 => by obtain ⟨b, r, fz, k1, k2, k3, _⟩ := h1.row h0; exact ⟨b, r, fz, k1, k3, Or.inr ⟨k2, h4⟩⟩⟩
/-- the world that is being turned -/
structure PWN [Om] (w : World) (x : YWs) (p : PW) : Prop where
  accts : AcsR w x.accts p.accts
  warmA : AdR w x.warmA p.warmA
  warmS : MksR w x.warmS p.warmS
  ref : NN w x.ref p.ref
  logs : LgsN w x.logs p.nlogs
  temps : TpsR 254 w x.temps p.temps
  made : AdR w x.made p.made
  gone : AdR w x.gone p.gone
theorem PWN.ext [Om] {w w' : World} {x : YWs} {p : PW} (h : PWN w x p) (he : Ext w w') : PWN w' x p := ⟨h.accts.ext he, h.warmA.ext he, h.warmS.ext he, h.ref.ext he, h.logs.ext he, h.temps.ext he, h.made.ext he, h.gone.ext he⟩
theorem PWN.keep [Om] {w w' : World} {x : YWs} {p : PW} (h : PWN w x p) (he : KeepO Om.p w w') (hk : KT 277 w w') : PWN w' x p := ⟨h.accts.keep he, h.warmA.keep he, h.warmS.keep he, h.ref.keep he, h.logs.keep he hk, h.temps.keep he, h.made.keep he, h.gone.keep he⟩
theorem PWR.n [Om] {w : World} {x : YWs} {p : PW} (h : PWR w x p) : PWN w x p := ⟨h.accts, h.warmA, h.warmS, h.ref, h.logs.n, h.temps, h.made, h.gone⟩
theorem PWB.mono {N M : Nat} {p : PW} (h : PWB N p) (hm : N ≤ M) : PWB M p := ⟨Nat.le_trans h.al hm, fun a ha => Nat.le_trans (h.sl a ha) hm, h.cd, Nat.le_trans h.wa hm, Nat.le_trans h.ws hm, Nat.le_trans h.lg hm, Nat.le_trans h.tp hm, Nat.le_trans h.md hm, Nat.le_trans h.gn hm, h.rz⟩
theorem AcsR.len [Om] {w : World} {s : SV} {l : List PA} (h : AcsR w s l) : s.2.1 = l.length := by obtain ⟨L, h1, h2⟩ := h; rw [← h1.len, h2.1]
theorem AdR.len [Om] {w : World} {s : SV} {l : List (List Int)} (h : AdR w s l) : s.2.1 = l.length := h.1.len.symm
theorem MksR.len [Om] {w : World} {s : SV} {l : List (List Int × Nat)} (h : MksR w s l) : s.2.1 = l.length := by obtain ⟨L, h1, h2⟩ := h; rw [← h1.len, h2.1]
theorem TpsR.len [Om] {T : TypeId} {w : World} {s : SV} {l : List (List Int × Nat × Nat)} (h : TpsR T w s l) : s.2.1 = l.length := by obtain ⟨L, h1, h2⟩ := h; rw [← h1.len, h2.1]
theorem LgsR.len [Om] {w : World} {s : SV} {n : Nat} (h : LgsR w s n) : s.2.1 = n := by obtain ⟨L, h1, h2, _⟩ := h; rw [← h1.len, h2]
theorem SlsR.len [Om] {w : World} {s : SV} {l : List (Nat × Nat)} (h : SlsR w s l) : s.2.1 = l.length := by obtain ⟨L, h1, h2⟩ := h; rw [← h1.len, h2.1]
/-! a copy that is being made -/
def used (k : Nat) (T : TypeId) : Prop := T = 5 ∨ T = 28 ∨ T = 277 ∨ (1 ≤ k ∧ (T = 104 ∨ T = 111)) ∨ (2 ≤ k ∧ T = 25) ∨ (5 ≤ k ∧ T = 254) ∨ (6 ≤ k ∧ T = 181)
structure CF [Om] (w : World) (x : YWs) (p : PW) (k : Nat) : Prop where
  ref : NN w x.ref p.ref
  logs : LgsR w x.logs p.nlogs
  accts : 1 ≤ k → AcsR w x.accts p.accts
  warmA : 2 ≤ k → AdR w x.warmA p.warmA
  made : 3 ≤ k → AdR w x.made p.made
  gone : 4 ≤ k → AdR w x.gone p.gone
  temps : 5 ≤ k → TpsR 254 w x.temps p.temps
  warmS : 6 ≤ k → MksR w x.warmS p.warmS
theorem CF.kt [Om] {w w' : World} {x : YWs} {p : PW} {k : Nat} (h : CF w x p k) (hk : ∀ T, used k T → KT T w w') : CF w' x p k := by
  have k5 := hk 5 (Or.inl rfl)
  have k28 := hk 28 (Or.inr (Or.inl rfl))
  have k277 := hk 277 (Or.inr (Or.inr (Or.inl rfl)))
  refine ⟨h.ref.kt k5, ?_, fun h0 => ?_, fun h0 => ?_, fun h0 => ?_, fun h0 => ?_, fun h0 => ?_, fun h0 => ?_⟩
  · obtain ⟨L, h1, h2, h3, h4⟩ := h.logs; exact ⟨L, h1.kt k277, h2, fun x hx => (h3 x hx).kt k5 k28, h4⟩
  · obtain ⟨L, h1, h2⟩ := h.accts h0
    exact ⟨L, h1.kt (hk _ (Or.inr (Or.inr (Or.inr (Or.inl ⟨h0, Or.inl rfl⟩))))), h2.mono fun _ _ h => h.kt k5 (hk _ (Or.inr (Or.inr (Or.inr (Or.inl ⟨h0, Or.inr rfl⟩)))))⟩
  · exact ⟨(h.warmA h0).1.kt (hk _ (Or.inr (Or.inr (Or.inr (Or.inr (Or.inl ⟨h0, rfl⟩)))))), (h.warmA h0).2⟩
  · exact ⟨(h.made h0).1.kt (hk _ (Or.inr (Or.inr (Or.inr (Or.inr (Or.inl ⟨by omega, rfl⟩)))))), (h.made h0).2⟩
  · exact ⟨(h.gone h0).1.kt (hk _ (Or.inr (Or.inr (Or.inr (Or.inr (Or.inl ⟨by omega, rfl⟩)))))), (h.gone h0).2⟩
  · obtain ⟨L, h1, h2⟩ := h.temps h0
    exact ⟨L, h1.kt (hk _ (Or.inr (Or.inr (Or.inr (Or.inr (Or.inr (Or.inl ⟨h0, rfl⟩))))))), h2.mono fun _ _ h => h.kt k5⟩
  · obtain ⟨L, h1, h2⟩ := h.warmS h0
    exact ⟨L, h1.kt (hk _ (Or.inr (Or.inr (Or.inr (Or.inr (Or.inr (Or.inr ⟨h0, rfl⟩))))))), h2.mono fun _ _ h => h.kt k5⟩
theorem CF.ext [Om] {w w' : World} {x : YWs} {p : PW} {k : Nat} (h : CF w x p k) (he : Ext w w') : CF w' x p k := h.kt fun T _ => KT.ext he
theorem CF.set [Om] {w : World} {x : YWs} {p : PW} {k b : Nat} {r r' : Array Value} {T0 : TypeId} {fz : Nat × Nat} (h : CF w x p k) (hb : Hb w b (.cells r T0 fz)) (hT : ¬ used k T0) : CF (setB w b (.cells r' T0 (0, 0))) x p k :=
  h.kt fun T hT' b' r2 fz2 hb' => Hb.set (fun e => by
    subst e
    rw [hb.type_eq hb'] at hT
    exact hT hT') hb'
theorem CF.all [Om] {w : World} {x : YWs} {p : PW} (h : CF w x p 6) : PWR w x p := ⟨h.accts (by decide), h.warmA (by decide), h.warmS (by decide), h.ref, h.logs, h.temps (by decide), h.made (by decide), h.gone (by decide)⟩
theorem used_95 (k : Nat) : ¬ used k 95 := by rintro (h | h | h | ⟨h0, h | h⟩ | ⟨h0, h⟩ | ⟨h0, h⟩ | ⟨h0, h⟩) <;> first | exact absurd h (by decide) | omega
theorem used_104 : ¬ used 0 104 := by rintro (h | h | h | ⟨h0, h | h⟩ | ⟨h0, h⟩ | ⟨h0, h⟩ | ⟨h0, h⟩) <;> first | exact absurd h (by decide) | omega
theorem used_111 : ¬ used 0 111 := by rintro (h | h | h | ⟨h0, h | h⟩ | ⟨h0, h⟩ | ⟨h0, h⟩ | ⟨h0, h⟩) <;> first | exact absurd h (by decide) | omega
theorem used_254 : ¬ used 4 254 := by rintro (h | h | h | ⟨h0, h | h⟩ | ⟨h0, h⟩ | ⟨h0, h⟩ | ⟨h0, h⟩) <;> first | exact absurd h (by decide) | omega
theorem used_181 : ¬ used 5 181 := by rintro (h | h | h | ⟨h0, h | h⟩ | ⟨h0, h⟩ | ⟨h0, h⟩ | ⟨h0, h⟩) <;> first | exact absurd h (by decide) | omega
theorem PS_b95_34 {ρ : Nat → Value} {x1 x2 : Operand} {p1 p2 : Option Addr} {n1 c1 n2 c2 : Nat} (h1 : ev ρ x1 = .slice p1 n1 c1) (h2 : ev ρ x2 = .slice p2 n2 c2) :
    PS Hvac.prog (.build 95 #[(3, x1), (4, x2)]) ρ (.agg (encWs ⟨(none, 0, 0), (none, 0, 0), (none, 0, 0), (p1, n1, c1), (p2, n2, c2), (none, 0, 0), (none, 0, 0), (none, 0, 0)⟩).toArray) :=
  PS_buildS Hvac.zeroValue95 Hvac.runUnderlying95 (places_run (pl := [(0, 1), (1, 1), (2, 1), (3, 1), (4, 1), (5, 1), (6, 1), (7, 1)]) ⟨rfl, Hvac.sizeOf89, rfl, Hvac.sizeOf90, rfl, Hvac.sizeOf91, rfl, Hvac.sizeOf92, rfl, Hvac.sizeOf76, rfl, Hvac.sizeOf93, rfl, Hvac.sizeOf90, rfl, Hvac.sizeOf90, trivial⟩) (ps := [(3, .slice p1 n1 c1), (4, .slice p2 n2 c2)]) (by simp only [List.map, h1, h2]) (by kernel_rfl)
theorem PS_b104_0123 {ρ : Nat → Value} {x0 x1 x2 x3 : Operand} {A : List Int} {p1 p2 p3 : Option Addr} {n1 c1 n2 c2 n3 c3 : Nat} (h0 : ev ρ x0 = .agg (ic .u8 A)) (hA : A.length = 20) (h1 : ev ρ x1 = .slice p1 n1 c1) (h2 : ev ρ x2 = .slice p2 n2 c2) (h3 : ev ρ x3 = .slice p3 n3 c3) :
    PS Hvac.prog (.build 104 #[(0, x0), (1, x1), (2, x2), (3, x3)]) ρ (.agg (encYA ⟨A, (p1, n1, c1), (p2, n2, c2), (p3, n3, c3), (none, 0, 0)⟩).toArray) := by
  obtain ⟨a0, a1, a2, a3, a4, a5, a6, a7, a8, a9, b0, b1, b2, b3, b4, b5, b6, b7, b8, b9, rfl⟩ := len20 hA
  exact PS_buildS Hvac.zeroValue104 Hvac.runUnderlying104 (places_run (pl := [(0, 20), (20, 1), (21, 1), (22, 1), (23, 1)]) ⟨rfl, Hvac.sizeOf25, rfl, Hvac.sizeOf92, rfl, Hvac.sizeOf92, rfl, Hvac.sizeOf32, rfl, Hvac.sizeOf102, trivial⟩) (ps := [(0, .agg (ic .u8 [a0, a1, a2, a3, a4, a5, a6, a7, a8, a9, b0, b1, b2, b3, b4, b5, b6, b7, b8, b9])), (1, .slice p1 n1 c1), (2, .slice p2 n2 c2), (3, .slice p3 n3 c3)]) (by simp only [List.map, h0, h1, h2, h3]) (by kernel_rfl)
/-- the world's cells at the head of a block -/
structure WC (c : Array Value) (x : YWs) : Prop where
  accts : Ce c (0 + 0) (.slice x.accts.1 x.accts.2.1 x.accts.2.2)
  warmA : Ce c (0 + 1) (.slice x.warmA.1 x.warmA.2.1 x.warmA.2.2)
  warmS : Ce c (0 + 2) (.slice x.warmS.1 x.warmS.2.1 x.warmS.2.2)
  ref : Ce c (0 + 3) (.slice x.ref.1 x.ref.2.1 x.ref.2.2)
  logs : Ce c (0 + 4) (.slice x.logs.1 x.logs.2.1 x.logs.2.2)
  temps : Ce c (0 + 5) (.slice x.temps.1 x.temps.2.1 x.temps.2.2)
  made : Ce c (0 + 6) (.slice x.made.1 x.made.2.1 x.made.2.2)
  gone : Ce c (0 + 7) (.slice x.gone.1 x.gone.2.1 x.gone.2.2)
theorem one_Ws (x : YWs) : ∀ u ∈ encWs x, u.oneCell' = true := by intro u hu; simp [encWs] at hu; rcases hu with rfl | rfl | rfl | rfl | rfl | rfl | rfl | rfl <;> rfl
theorem one_Ws2 (x : YWs) : ∀ u ∈ (encWs x).toArray.toList, u.oneCell' = true := by intro u hu; exact one_Ws x u (by simpa using hu)
section
variable [Om] {w : World} {y : YWs} {q : PW} {s : SV}
theorem CF.f0 (h : CF w y q 0) : CF w { y with accts := s } q 0 := ⟨h.ref, h.logs, fun h => absurd h (by decide), fun h => absurd h (by decide), fun h => absurd h (by decide), fun h => absurd h (by decide), fun h => absurd h (by decide), fun h => absurd h (by decide)⟩
theorem CF.f1 (h : CF w y q 0) (ha : AcsR w y.accts q.accts) : CF w y q 1 := ⟨h.ref, h.logs, fun _ => ha, fun h => absurd h (by decide), fun h => absurd h (by decide), fun h => absurd h (by decide), fun h => absurd h (by decide), fun h => absurd h (by decide)⟩
theorem CF.f2 (h : CF w y q 1) (ha : AdR w s q.warmA) : CF w { y with warmA := s } q 2 := ⟨h.ref, h.logs, fun _ => h.accts (by decide), fun _ => ha, fun h => absurd h (by decide), fun h => absurd h (by decide), fun h => absurd h (by decide), fun h => absurd h (by decide)⟩
theorem CF.f3 (h : CF w y q 2) (ha : AdR w s q.made) : CF w { y with made := s } q 3 := ⟨h.ref, h.logs, fun _ => h.accts (by decide), fun _ => h.warmA (by decide), fun _ => ha, fun h => absurd h (by decide), fun h => absurd h (by decide), fun h => absurd h (by decide)⟩
theorem CF.f4 (h : CF w y q 3) (ha : AdR w s q.gone) : CF w { y with gone := s } q 4 := ⟨h.ref, h.logs, fun _ => h.accts (by decide), fun _ => h.warmA (by decide), fun _ => h.made (by decide), fun _ => ha, fun h => absurd h (by decide), fun h => absurd h (by decide)⟩
theorem CF.g4 (h : CF w y q 4) : CF w { y with temps := s } q 4 := ⟨h.ref, h.logs, fun _ => h.accts (by decide), fun _ => h.warmA (by decide), fun _ => h.made (by decide), fun _ => h.gone (by decide), fun h => absurd h (by decide), fun h => absurd h (by decide)⟩
theorem CF.f5 (h : CF w y q 4) (ha : TpsR 254 w y.temps q.temps) : CF w y q 5 := ⟨h.ref, h.logs, fun _ => h.accts (by decide), fun _ => h.warmA (by decide), fun _ => h.made (by decide), fun _ => h.gone (by decide), fun _ => ha, fun h => absurd h (by decide)⟩
theorem CF.g5 (h : CF w y q 5) : CF w { y with warmS := s } q 5 := ⟨h.ref, h.logs, fun _ => h.accts (by decide), fun _ => h.warmA (by decide), fun _ => h.made (by decide), fun _ => h.gone (by decide), fun _ => h.temps (by decide), fun h => absurd h (by decide)⟩
theorem CF.f6 (h : CF w y q 5) (ha : MksR w y.warmS q.warmS) : CF w y q 6 := ⟨h.ref, h.logs, fun _ => h.accts (by decide), fun _ => h.warmA (by decide), fun _ => h.made (by decide), fun _ => h.gone (by decide), fun _ => h.temps (by decide), fun _ => ha⟩
end
end Go.Proofs.YgvacwGreat
