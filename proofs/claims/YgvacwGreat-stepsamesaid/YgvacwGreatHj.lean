import Derived.Test.YgvacwGreatHi
namespace Go.Proofs.YgvacwGreat
set_option linter.unusedSimpArgs false
set_option linter.unusedVariables false
/-! a log more -/
def LApp [O : Om] (Y : Nat → Prop) (w w' : World) (s' : SV) (n' : Nat) : Prop :=
  ∃ (O' : Om) (Y' : Nat → Prop), YG w O Y O' Y' ∧ KeepO Y w w' ∧ @OmB O' w' ∧ (∀ b, Y' b → (@Om.p O') b) ∧ (∀ T, T ≠ 277 → KT T w w') ∧ @LgsN O' w' s' n' ∧ (∀ b, sblk s' b → (@Om.p O') b → Y' b)
theorem LApp.kt [Om] {Y : Nat → Prop} {w w' : World} {s' : SV} {n' : Nat} (h : LApp Y w w' s' n') : ∀ T, T ≠ 277 → KT T w w' := by obtain ⟨_, _, _, _, _, _, h, _⟩ := h; exact h
theorem lgs_app [O : Om] {Y : Nat → Prop} {w : World} {s : SV} {n : Nat} {x : LogR} {b1 : Nat} {fz : Nat × Nat} {ty : TypeId} (h : LgsN w s n) (hyl : ∀ b, sblk s b → Om.p b → Y b) (hO : OmB w) (hsub : ∀ b, Y b → Om.p b) (hx : LgR w x) (hsrc : Hb w b1 (.cells (encL x).toArray 277 fz)) (hn : n ≤ 100000000) :
    ∃ (s' : SV) (w' : World), (Builtin.append_ #[76, 76] ty #[.slice s.1 s.2.1 s.2.2, .slice (some ⟨b1, 0, none⟩) 1 1]).run Hvac.prog w = .ok (.slice s'.1 s'.2.1 s'.2.2) w' ∧ LApp Y w w' s' (n + 1) := by
  obtain ⟨L, hP, hLn, hLg, hc0, hown⟩ := h
  have hlen := hP.len
  have hcap := hP.cap
  have hsn : s.2.1 = n := by omega
  have hxa := hx.ab.1
  have hel := encL_len2 hxa
  by_cases hroom : s.2.1 + 1 ≤ s.2.2
  · have h0 : 0 < s.2.1 := by
      rcases Nat.eq_zero_or_pos s.2.1 with h9 | h9
      · have := hc0 h9; omega
      · exact h9
    obtain ⟨b, r, fz2, hs, hb, hrow⟩ := hP.row h0
    obtain ⟨b', r', fz', hs', hb', hcase⟩ := hown h0
    rw [hs] at hs'
    injection hs' with hs'
    injection hs' with hs' _
    subst hs'
    have he := hb.h.symm.trans hb'.h
    injection he with he
    injection he with he1 _ he2
    subst he1; subst he2
    rcases hcase with ⟨ho, hfz, hr⟩ | ⟨_, h9⟩
    · subst hfz
      have hY := hyl b ⟨0, hs, h0⟩ ho
      have hfit : s.2.1 * 22 + 22 ≤ r.size := by
        have : (s.2.1 + 1) * 22 ≤ s.2.2 * 22 := Nat.mul_le_mul_right 22 hroom
        omega
      have hnews : ∀ j v, (encL x)[j]? = some v → w.cell? ((Addr.mk b1 0 none).add j) = some v := by
        intro j v hv
        rw [add_mk, cell_hp hsrc.h]; simpa using hv
      have hst := run_storeCells_hp (P := Hvac.prog) (encL x) r (s.2.1 * 22) 0 w hb.h (by rw [hel]; omega) (one_L x)
      simp only [Nat.add_zero] at hst
      have hfc1 := run_firstCells_some (P := Hvac.prog) w 22 1 ⟨b1, 0, none⟩ 1 1 (encL x) (by rw [hel]) hnews
      have hi60 : Hvac.t277.size = 22 := rfl
      refine ⟨(s.1, s.2.1 + 1, s.2.2), setB w b (.cells (splice r (s.2.1 * 22) (encL x)) 277 (0, 0)), ?_, ?_⟩
      · rw [hs]
        simp [Builtin.append_, run_underlying Hvac.underlying76, Go.sizeOf, typeInfo, info277, hi60, Builtin.lenOf, hroom, hfc1, add_mk, hst]
      · have hk : KeepO (fun c => c = b) w (setB w b (.cells (splice r (s.2.1 * 22) (encL x)) 277 (0, 0))) := keepS (Ext.refl w) _ _
        have hkt : ∀ T, T ≠ 277 → KT T w (setB w b (.cells (splice r (s.2.1 * 22) (encL x)) 277 (0, 0))) := fun T hT => KT.kf hb hk (al_ns hT)
        have hb2 : Hb (setB w b (.cells (splice r (s.2.1 * 22) (encL x)) 277 (0, 0))) b (.cells (splice r (s.2.1 * 22) (encL x)) 277 (0, 0)) := Hb.setSame hb
        refine ⟨O, Y, YG.refl w O Y, hk.mono (fun c e => e ▸ hY), hO.keep hk, hsub, hkt, ⟨L ++ [x], ⟨by simp; omega, hroom, fun _ => ⟨b, _, (0, 0), hs, hb2, ?_⟩⟩, by simp; omega, fun y hy => ?_, fun h9 => by simp at h9, fun _ => ⟨b, _, (0, 0), hs, hb2, Or.inl ⟨ho, rfl, by rw [size_splice]; exact hr⟩⟩⟩, fun c hc _ => ?_⟩
        · refine ⟨by rw [size_splice]; simp only [List.length_append, List.length_singleton, Nat.mul_add, Nat.mul_one]; omega, ?_⟩
          intro j y hy k hk2
          rw [splice_get _ _ _ _ (by rw [hel]; omega), hel]
          by_cases hj : j < L.length
          · rw [List.getElem?_append_left hj] at hy
            have := mul_le_of_lt (sz := 22) hj
            rw [if_neg (by rw [← hlen]; omega)]
            exact hrow.2 j y hy k hk2
          · have hil := lt_of_getElem? hy
            simp at hil
            have hje : j = L.length := by omega
            subst hje
            rw [List.getElem?_append_right (Nat.le_refl _)] at hy
            simp at hy
            subst hy
            rw [if_pos (by rw [← hlen]; omega)]
            congr 1; rw [← hlen]; omega
        · rcases List.mem_append.1 hy with hy | hy
          · exact (hLg y hy).kt (hkt 5 (by decide)) (hkt 28 (by decide))
          · simp at hy; subst hy; exact hx.kt (hkt 5 (by decide)) (hkt 28 (by decide))
        · obtain ⟨o, h8, _⟩ := hc
          rw [show ((s.1, s.2.1 + 1, s.2.2) : SV).1 = s.1 from rfl, hs] at h8
          injection h8 with h8
          injection h8 with h8 _
          rw [← h8]; exact hY
    · omega
  · have hceq : s.2.2 = s.2.1 := by omega
    have hbts : (s.2.1 + 1) * Hvac.t277.bytes ≤ 140737488355328 := by
      have h8 : Hvac.t277.bytes ≤ 1000 := by decide
      have h9 : (s.2.1 + 1) * Hvac.t277.bytes ≤ 100000001 * 1000 := Nat.mul_le_mul (by omega) h8
      omega
    obtain ⟨so, w', hrun, hrow, hE, hbl⟩ := run_append_cut (enc := encL) (l := L) (x := x) (rt := ty) (p := s.1) (n := s.2.1) (w := w) (b1 := b1) (T1 := 277) (fz := fz) (P := Hvac.prog) (t := 76) (e := 277) Hvac.underlying76 info277 rfl rfl rfl rfl hlen (fun h0 => by
      obtain ⟨b, r, fz2, hs, hb, hrow⟩ := hP.row h0
      exact ⟨b, r, 277, fz2, hs, hb, hrow⟩) hel hsrc hbts (by omega)
    cases so with
    | none => simp only [Row] at hrow; exact absurd hrow (by simp)
    | some q =>
      obtain ⟨c, N⟩ := q
      obtain ⟨hN, r, hb, hrs, hrl⟩ := hrow
      rw [show Hvac.t277.size = 22 from rfl] at hrs hrl
      simp only [List.length_append, List.length_singleton] at hN
      have hc := hbl c ⟨N, rfl⟩
      refine ⟨(some ⟨c, 0, none⟩, s.2.1 + 1, N), w', ?_, ?_⟩
      · rw [hceq]; exact hrun
      · have hg := YG.add (w := w) O Y hc
        refine ⟨O.add c, fun b => Y b ∨ b = c, hg, hE.keepO _, OmB.add hO hE.1 hb.lt, fun b hb => ?_, fun T _ => KT.ext hE, ⟨L ++ [x], ⟨by simp; omega, by show s.2.1 + 1 ≤ N; omega, fun _ => ⟨c, r, (0, 0), rfl, hb, hrl⟩⟩, by simp; omega, fun y hy => ?_, fun h9 => by simp at h9, fun _ => ⟨c, r, (0, 0), rfl, hb, Or.inl ⟨Or.inr rfl, rfl, by show N * 22 ≤ r.size; rw [hrs]; omega⟩⟩⟩, fun b hb _ => ?_⟩
        · rcases hb with hb | hb
          · exact Or.inl (hsub b hb)
          · exact Or.inr hb
        · rcases List.mem_append.1 hy with hy | hy
          · exact @LgR.ext (O.add c) _ _ _ (LgR.om (hLg y hy) hg.le) hE
          · simp at hy; subst hy; exact @LgR.ext (O.add c) _ _ _ (LgR.om hx hg.le) hE
        · obtain ⟨o, h8, _⟩ := hb
          injection h8 with h8
          injection h8 with h8 _
          exact Or.inr h8.symm
theorem FRS.kk [Om] {Y : Nat → Prop} {w w' : World} {s : SV} {xs : List YFr} {fs : List PF} (h : FRS Y w s xs fs) (hk : KeepO Om.p w w') (h5 : KT 5 w w') (h121 : KT 121 w w') : FRS Y w' s xs fs :=
  ⟨h.lx, h.lf, h.cap, h.c0, fun h0 => by obtain ⟨F, r, h1, h2, h3, h4, h6⟩ := h.blk h0; exact ⟨F, r, h1, h2, h3, h121 _ _ _ h4, h6⟩, fun i x f hx hf => (h.rel i x f hx hf).keep hk h5, h.dis⟩
def xsLogs (x : YSt) (s : SV) : YSt := { x with now := { x.now with logs := s } }
def ysLog (y : PSt) : PSt := { y with now := { y.now with nlogs := y.now.nlogs + 1 } }
/-- the same, and the frames lie where they lay -/
def YRetF [O : Om] (Y : Nat → Prop) (w w' : World) (C : Nat) (y' : PSt) (fs' : List PF) (s : SV) : Prop := ∃ (O' : Om) (Y' : Nat → Prop) (x' : YSt) (xs' : List YFr), YG w O Y O' Y' ∧ KeepO Y w w' ∧ @YX O' Y' w' C x' y' xs' fs' ∧ x'.frames = s
theorem YX.retF [O : Om] {Y : Nat → Prop} {w w' : World} {C : Nat} {x : YSt} {y : PSt} {xs : List YFr} {fs : List PF} {s : SV} (h : YX Y w' C x y xs fs) (hk : KeepO Y w w') (hs : x.frames = s) : YRetF Y w w' C y fs s := ⟨O, Y, x, xs, YG.refl w O Y, hk, h, hs⟩
theorem YRetF.pre [O : Om] {Y : Nat → Prop} {w w1 w2 : World} {C : Nat} {y' : PSt} {fs' : List PF} {s : SV} (hk : KeepO Y w w1) (h : YRetF Y w1 w2 C y' fs' s) : YRetF Y w w2 C y' fs' s := by
  obtain ⟨O', Y', x', xs', hg, hk2, hX, hs⟩ := h
  exact ⟨O', Y', x', xs', ⟨⟨fun b hb => hg.le.dn b (Nat.lt_of_lt_of_le hb hk.sz)⟩, hg.up, hg.yup, fun b hb => hg.ydn b (Nat.lt_of_lt_of_le hb hk.sz), hg.newY⟩, hk.trans hk2 (fun _ _ e => e), hX, hs⟩
theorem YX.lapp [O : Om] {Y : Nat → Prop} {w w1 w2 : World} {C : Nat} {x : YSt} {y : PSt} {xs : List YFr} {fs : List PF} {s' : SV} {c : Array Value} (h2 : w2 = setB w1 C (.cells c 101 (0, 0))) (hX : YX Y w C x y xs fs) (hA : LApp Y w w1 s' (y.now.nlogs + 1)) (hc : c = (encYS (xsLogs x s')).toArray) : YRetF Y w w2 C (ysLog y) fs x.frames := by
  subst h2; subst hc
  obtain ⟨hX1, hX2, hX3, ⟨hX4, hX5, hX6⟩, hX7, hX8⟩ := hX
  obtain ⟨O', Y', hg, hk, hO, hsub, hkt, hL, hyl⟩ := hA
  have hCo : (@Om.p O') C := hg.up C hX6
  have hYC := hg.yup C hX3
  have hCb := hkt 101 (by decide) _ _ _ hX4
  have hko : KeepO (@Om.p O') w w1 := hk.mono fun b hb => hg.up b (hX2 b hb)
  have hF := @FRS.kk O' _ _ _ _ _ _ (FRS.om hX7 hg.le hg.up hg.yup) hko (hkt 5 (by decide)) (hkt 121 (by decide))
  have h0 := StRel.om hX5 hg.le hg.up
  have hrel : @StRel O' w1 (xsLogs x s') (ysLog y) := by
    obtain ⟨⟨n1, n2, n3, n4, n5, n6, n7, n8⟩, a2, a3, a4, a5, a6, a7, a8, a9, a10, a11, a12, a13, a14, a15, a16, a17, a18⟩ := h0
    exact ⟨⟨n1.keep hko, n2.keep hko, n3.keep hko, n4.keep hko, hL, n6.keep hko, n7.keep hko, n8.keep hko⟩, a2.keep hko, a3.keep hko, a4, a5, a6, a7.keep hko, a8.keep hko, a9.keep hko, a10.keep hko, a11, a12, a13, a14, a15.keep hko, a16, a17, a18⟩
  have hS : @SStep O' w1 (setB w1 C (.cells (encYS (xsLogs x s')).toArray 101 (0, 0))) C (xsLogs x s') (ysLog y) :=
    ⟨keepS (Ext.refl _) _ _, Hb.setSame hCb, @StRel.keep O' _ _ _ _ hrel (@keepSO O' _ _ (Ext.refl _) _ hCo _) (KT.setB hCb (by decide)), hCo⟩
  exact ⟨O', Y', xsLogs x s', xs, hg, hk.trans (KeepO.mono hS.keep (fun b e => (e ▸ hX3 : Y b))) (fun _ _ e => e), ⟨@OmB.keep O' _ _ _ hO hS.keep, hsub, hYC, hS.ss, @FRS.cs O' _ _ _ _ _ _ C _ hF hCb hCo hS.keep, hyl⟩, rfl⟩
section
variable [Om] {ops : Array Oper} {S : World → Prop} {Q : Post} {ty : TypeId} {pos : String} {af : Array Edge} {os : List Oper} {os' : List TOp} {ρ : Nat → Value} {w : World} {xo yo : Operand} {d : Nat} {bb : Bool}
theorem WH_appL {Y : Nat → Prop} {s : SV} {n : Nat} (x : LogR) {b1 : Nat} {fz : Nat × Nat} (h : LgsN w s n) (hyl : ∀ b, sblk s b → Om.p b → Y b) (hO : OmB w) (hsub : ∀ b, Y b → Om.p b) (hl : LgR w x) (hsrc : Hb w b1 (.cells (encL x).toArray 277 fz)) (hn : n ≤ 100000000) (hx : ev ρ xo = .slice s.1 s.2.1 s.2.2) (hy : ev ρ yo = .slice (some ⟨b1, 0, none⟩) 1 1)
    (hh : ∀ (s' : SV) (w' : World), LApp Y w w' s' (n + 1) → (bb = true → S w') ∧ WH Hvac.prog ops S Q os' (upd ρ d (.slice s'.1 s'.2.1 s'.2.2)) w') :
    WH Hvac.prog ops S Q ((⟨some d, .call ⟨.builtin .append, #[xo, yo], #[76, 76]⟩, ty, pos, af, none⟩, bb) :: os') ρ w := by
  obtain ⟨s', w', hr, hA⟩ := lgs_app (ty := ty) h hyl hO hsub hl hsrc hn
  exact WH_append hx hy hr (hh s' w' hA).1 (hh s' w' hA).2
end

end Go.Proofs.YgvacwGreat
