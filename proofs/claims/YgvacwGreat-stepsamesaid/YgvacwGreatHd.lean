import Derived.Test.YgvacwGreatHc
namespace Go.Proofs.YgvacwGreat
set_option linter.unusedSimpArgs false
set_option linter.unusedVariables false
/-! lookups -/
theorem yputGo_find (a : PA) (B : List Int) (l : List PA) (b : Bool) (hB : B ≠ a.addr) : (yputGo a b l).find? (fun x => x.addr = B) = l.find? (fun x => x.addr = B) := by
  induction l generalizing b with
  | nil =>
    unfold yputGo
    cases b
    · simp [al_ns hB]
    · rfl
  | cons y l ih =>
    unfold yputGo
    rw [List.find?_append, List.find?_append, ih, List.find?_cons]
    have h1 : (if (!b && !yless y.addr a.addr) = true then [a] else []).find? (fun x => x.addr = B) = none := by
      split
      · simp [al_ns hB]
      · rfl
    rw [h1]
    by_cases hy : y.addr = a.addr
    · have : y.addr ≠ B := fun e => hB (e ▸ hy)
      simp [hy, al_ns hB]
    · by_cases hyB : y.addr = B
      · have hB' : ¬ B = a.addr := hB
        simp [hyB, hB']
      · simp [hy, hyB]
theorem yputGo_find2 (a : PA) (l : List PA) (b : Bool) : (yputGo a b l).find? (fun x => x.addr = a.addr) = if b then none else some a := by
  induction l generalizing b with
  | nil => unfold yputGo; cases b <;> simp
  | cons y l ih =>
    unfold yputGo
    rw [List.find?_append, List.find?_append, ih]
    have h1 : (if y.addr ≠ a.addr then [y] else []).find? (fun x => x.addr = a.addr) = none := by
      split
      · rename_i h; simp [h]
      · rfl
    rw [h1]
    cases b
    · cases yless y.addr a.addr <;> simp
    · simp
theorem yacct_put (l : List PA) (a : PA) (B : List Int) : yacct (yput l a) B = if B = a.addr then a else yacct l B := by
  unfold yacct yput
  split
  · rename_i x hx
    by_cases hB : B = a.addr
    · subst hB
      rw [yputGo_find2] at hx
      split at hx
      · cases hx
      · rw [if_pos rfl, ← Option.some.inj hx]
    · rw [yputGo_find _ _ _ _ hB] at hx
      rw [if_neg hB, hx]
  · rename_i hx
    by_cases hB : B = a.addr
    · subst hB
      rw [yputGo_find2] at hx
      split at hx
      · rename_i he
        rw [if_pos rfl]
        simp only [yempty, Bool.and_eq_true, al_ete, List.length_eq_zero_iff] at he
        obtain ⟨⟨⟨h1, h2⟩, h3⟩, h4⟩ := he
        cases a
        simp at h1 h2 h3 h4
        simp [h1, h2, h3, h4]
      · cases hx
    · rw [yputGo_find _ _ _ _ hB] at hx
      rw [if_neg hB, hx]
theorem yacct_addr (l : List PA) (A : List Int) : (yacct l A).addr = A := by
  unfold yacct
  split
  · rename_i x hx; simpa using List.find?_some hx
  · rfl
theorem yacct_setBal (l : List PA) (A B : List Int) (n : Nat) : yacct (ysetBal l A n) B = if B = A then { yacct l A with bal := n } else yacct l B := by
  unfold ysetBal; rw [yacct_put]; show (if B = (yacct l A).addr then _ else _) = _; rw [yacct_addr]
theorem yacct_setNonce (l : List PA) (A B : List Int) (n : Nat) : yacct (ysetNonce l A n) B = if B = A then { yacct l A with nonce := n } else yacct l B := by
  unfold ysetNonce; rw [yacct_put]; show (if B = (yacct l A).addr then _ else _) = _; rw [yacct_addr]
/-- balances are small -/
def YB (y : PSt) : Prop := ∀ A, sz (yacct y.now.accts A).bal ≤ 32
theorem move_sum {l : List PA} {A B : List Int} {v : Nat} (h : ∀ A, sz (yacct l A).bal ≤ 32) (hv : sz v ≤ 32) : sz ((yacct (ysetBal l A ((yacct l A).bal - v)) B).bal + v) ≤ 40 := by
  have h1 : sz (yacct (ysetBal l A ((yacct l A).bal - v)) B).bal ≤ 32 := by
    rw [yacct_setBal]
    split
    · exact Nat.le_trans (sz_mono (Nat.sub_le _ _)) (h A)
    · exact h B
  have := sz_add (yacct (ysetBal l A ((yacct l A).bal - v)) B).bal v
  omega
theorem WC.st (x : YSt) : WC (encYS x).toArray x.now := ⟨⟨rfl⟩, ⟨rfl⟩, ⟨rfl⟩, ⟨rfl⟩, ⟨rfl⟩, ⟨rfl⟩, ⟨rfl⟩, ⟨rfl⟩⟩
/-! a frame more -/
theorem info121 : Hvac.prog.info? 121 = some Hvac.t121 := by kernel_rfl
theorem FC.row {r : Array Value} {i : Nat} {x : YFr} (h : FC r (i * 60) x) (h1 : x.self.length = 20) (h2 : x.caller.length = 20) : ∀ k, k < 60 → r[0 + i * 60 + k]? = (encYF x)[k]? := by
  intro k hk
  have h3 := h.xt.h
  have h4 := h.size
  have e : (r.extract (i * 60) (i * 60 + 60))[k]? = (encYF x).toArray[k]? := by rw [h3]
  rw [Array.getElem?_extract, if_pos (by omega)] at e
  rw [Nat.zero_add, e]
  simp
theorem FC.of_row {r : Array Value} {i : Nat} {x : YFr} (h : ∀ k, k < 60 → r[0 + i * 60 + k]? = (encYF x)[k]?) (hs : i * 60 + 60 ≤ r.size) (h1 : x.self.length = 20) (h2 : x.caller.length = 20) : FC r (i * 60) x := by
  refine FC.of_xt ⟨?_⟩ hs h1 h2
  refine Array.ext_getElem? fun k => ?_
  rw [Array.getElem?_extract]
  rcases Nat.lt_or_ge k 60 with hk | hk
  · rw [if_pos (by omega)]
    have := h k hk
    rw [Nat.zero_add] at this
    rw [this]; simp
  · rw [if_neg (by omega), Array.getElem?_eq_none (by rw [encYF_sz h1 h2]; exact hk)]
/-- what an append of a frame leaves -/
def FApp [O : Om] (Y : Nat → Prop) (w w' : World) (s' : SV) (xs' : List YFr) (fs' : List PF) : Prop :=
  ∃ (O' : Om) (Y' : Nat → Prop), YG w O Y O' Y' ∧ KeepO Y w w' ∧ @OmB O' w' ∧ (∀ b, Y' b → (@Om.p O') b) ∧ (∀ T, T ≠ 121 → KT T w w') ∧ @FRS O' Y' w' s' xs' fs'
theorem FRS.snoc [Om] {Y : Nat → Prop} {w : World} {s s' : SV} {xs : List YFr} {fs : List PF} {x : YFr} {f : PF} {F : Nat} {r : Array Value} (h : FRS Y w s xs fs) (h1 : FR1 Y w x f) (hm : x.mem.2.1 = 0) (hs : s'.1 = some ⟨F, 0, none⟩) (hn : s'.2.1 = s.2.1 + 1) (hc : s'.2.1 ≤ s'.2.2) (ho : Om.p F) (hY : Y F) (hb : Hb w F (.cells r 121 (0, 0))) (hr : s'.2.2 * 60 ≤ r.size) (hfc : ∀ (i : Nat) (y : YFr), (xs ++ [x])[i]? = some y → FC r (i * 60) y) : FRS Y w s' (xs ++ [x]) (fs ++ [f]) := by
  have hl := h.lx
  have hl2 := h.lf
  have key : ∀ (i : Nat) (y : YFr), (xs ++ [x])[i]? = some y → xs[i]? = some y ∨ (i = xs.length ∧ y = x) := by
    intro i y hy
    rcases Nat.lt_or_ge i xs.length with hi | hi
    · rw [List.getElem?_append_left hi] at hy; exact Or.inl hy
    · have := lt_of_getElem? hy
      simp at this
      have e : i = xs.length := by omega
      subst e
      rw [List.getElem?_append_right (Nat.le_refl _)] at hy
      simp at hy
      exact Or.inr ⟨rfl, hy.symm⟩
  refine ⟨by simp; omega, by simp; omega, hc, fun h0 => by omega, fun _ => ⟨F, r, hs, ho, hY, hb, hr, hfc⟩, fun i y g hy hg => ?_, fun i j y z b hij hy hz hb => ?_⟩
  · rcases key i y hy with hy | ⟨rfl, rfl⟩
    · rw [List.getElem?_append_left (by have := lt_of_getElem? hy; omega)] at hg
      exact h.rel i y g hy hg
    · rw [show xs.length = fs.length by omega, List.getElem?_append_right (Nat.le_refl _)] at hg
      simp at hg
      rw [← hg]; exact h1
  · rcases key i y hy with hy | ⟨_, rfl⟩
    · rcases key j z hz with hz | ⟨_, rfl⟩
      · exact h.dis i j y z b hij hy hz hb
      · rintro ⟨o, _, h9⟩; omega
    · obtain ⟨o, _, h9⟩ := hb; omega
theorem app_frs [O : Om] {Y : Nat → Prop} {w : World} {s : SV} {xs : List YFr} {fs : List PF} {x : YFr} {f : PF} {b1 : Nat} {fz : Nat × Nat} {ty : TypeId} (h : FRS Y w s xs fs) (hO : OmB w) (hsub : ∀ b, Y b → Om.p b) (h1 : FR1 Y w x f) (hm : x.mem.2.1 = 0) (hsrc : Hb w b1 (.cells (encYF x).toArray 121 fz)) (hn : s.2.1 ≤ 1000) :
    ∃ (s' : SV) (w' : World), (Builtin.append_ #[97, 97] ty #[.slice s.1 s.2.1 s.2.2, .slice (some ⟨b1, 0, none⟩) 1 1]).run Hvac.prog w = .ok (.slice s'.1 s'.2.1 s'.2.2) w' ∧ FApp Y w w' s' (xs ++ [x]) (fs ++ [f]) := by
  have hlx := h.lx
  have hlf := h.lf
  have hcap := h.cap
  have hxs : x.self.length = 20 := by rw [h1.rel.self]; exact h1.rel.sb.1
  have hxc : x.caller.length = 20 := by rw [h1.rel.caller]; exact h1.rel.cb.1
  have hel := encYF_len hxs hxc
  have hlen : ∀ (i : Nat) (y : YFr), xs[i]? = some y → y.self.length = 20 ∧ y.caller.length = 20 := by
    intro i y hy
    obtain ⟨g, hg⟩ : ∃ g, fs[i]? = some g := ⟨_, List.getElem?_eq_getElem (by rw [hlf, ← hlx]; exact lt_of_getElem? hy)⟩
    have h9 := (h.rel i y g hy hg).rel
    exact ⟨by rw [h9.self]; exact h9.sb.1, by rw [h9.caller]; exact h9.cb.1⟩
  by_cases hroom : s.2.1 + 1 ≤ s.2.2
  · -- in place
    have h0 : 0 < s.2.1 := by
      rcases Nat.eq_zero_or_pos s.2.1 with h9 | h9
      · have := h.c0 h9; omega
      · exact h9
    obtain ⟨F, r, hs, ho, hY, hb, hr, hfc⟩ := h.blk h0
    have hfit : s.2.1 * 60 + 60 ≤ r.size := by
      have : (s.2.1 + 1) * 60 ≤ s.2.2 * 60 := Nat.mul_le_mul_right 60 hroom
      omega
    have hnews : ∀ j v, (encYF x)[j]? = some v → w.cell? ((Addr.mk b1 0 none).add j) = some v := by
      intro j v hv
      rw [add_mk, cell_hp hsrc.h]; simpa using hv
    have hone : ∀ u ∈ encYF x, u.oneCell' = true := fun u hu => one_YF x u (by simpa using hu)
    have hst := run_storeCells_hp (P := Hvac.prog) (encYF x) r (s.2.1 * 60) 0 w hb.h (by rw [hel]; omega) hone
    simp only [Nat.add_zero] at hst
    have hfc1 := run_firstCells_some (P := Hvac.prog) w 60 1 ⟨b1, 0, none⟩ 1 1 (encYF x) (by rw [hel]) hnews
    have hi60 : Hvac.t121.size = 60 := rfl
    refine ⟨(s.1, s.2.1 + 1, s.2.2), setB w F (.cells (splice r (s.2.1 * 60) (encYF x)) 121 (0, 0)), ?_, ?_⟩
    · rw [hs]
      simp [Builtin.append_, run_underlying Hvac.underlying97, Go.sizeOf, typeInfo, info121, hi60, Builtin.lenOf, hroom, hfc1, add_mk, hst]
    · have hk : KeepO (fun b => b = F) w (setB w F (.cells (splice r (s.2.1 * 60) (encYF x)) 121 (0, 0))) := keepS (Ext.refl w) _ _
      have hko : KeepO Om.p w (setB w F (.cells (splice r (s.2.1 * 60) (encYF x)) 121 (0, 0))) := keepSO (Ext.refl w) ho _
      have hkt : ∀ T, T ≠ 121 → KT T w (setB w F (.cells (splice r (s.2.1 * 60) (encYF x)) 121 (0, 0))) := fun T hT => KT.kf hb hk (al_ns hT)
      refine ⟨O, Y, YG.refl w O Y, hk.mono (fun b e => e ▸ hY), hO.keep hk, hsub, hkt, ?_⟩
      have hF2 : FRS Y (setB w F (.cells (splice r (s.2.1 * 60) (encYF x)) 121 (0, 0))) s xs fs := by
        refine ⟨hlx, hlf, hcap, h.c0, fun _ => ⟨F, _, hs, ho, hY, Hb.setSame hb, by rw [size_splice]; exact hr, fun i y hy => ?_⟩, fun i y g hy hg => (h.rel i y g hy hg).keep hko (hkt 5 (by decide)), h.dis⟩
        refine (hfc i y hy).out (size_splice _ _ _) fun j hj1 hj2 => ?_
        rw [splice_get _ _ _ _ (by rw [hel]; omega), if_neg]
        have h8 : i < s.2.1 := by rw [← hlx]; exact lt_of_getElem? hy
        have h9 : (i + 1) * 60 ≤ s.2.1 * 60 := Nat.mul_le_mul_right 60 h8
        omega
      refine hF2.snoc (h1.keep hko (hkt 5 (by decide))) hm hs rfl hroom ho hY (Hb.setSame hb) (by rw [size_splice]; exact hr) fun i y hy => ?_
      rcases Nat.lt_or_ge i xs.length with hi | hi
      · rw [List.getElem?_append_left hi] at hy
        obtain ⟨F', r', hs', _, _, hb', _, hfc'⟩ := hF2.blk h0
        rw [hs] at hs'
        injection hs' with hs'
        injection hs' with hs' _
        subst hs'
        have h9 := hb'.h.symm.trans (Hb.setSame hb).h
        injection h9 with h9
        injection h9 with h9
        rw [← h9]
        exact hfc' i y hy
      · have h8 := lt_of_getElem? hy
        simp at h8
        have e : i = xs.length := by omega
        subst e
        rw [List.getElem?_append_right (Nat.le_refl _)] at hy
        simp at hy
        subst hy
        refine FC.of_row (fun k hk => ?_) (by rw [size_splice, hlx]; omega) hxs hxc
        rw [splice_get _ _ _ _ (by rw [hel]; omega), if_pos (by rw [hel, hlx]; omega)]
        congr 1
        rw [hlx]; omega
  · have hceq : s.2.2 = s.2.1 := by omega
    obtain ⟨so, w', hrun, hrow, hE, hbl⟩ := run_append_cut (enc := encYF) (l := xs) (x := x) (rt := ty) (p := s.1) (n := s.2.1) (w := w) (b1 := b1) (T1 := 121) (fz := fz) (P := Hvac.prog) (t := 97) (e := 121) Hvac.underlying97 info121 rfl rfl rfl rfl hlx (fun h0 => by
      obtain ⟨F, r, hs, ho, hY, hb, hr, hfc⟩ := h.blk h0
      refine ⟨F, r, 121, (0, 0), hs, hb, ?_, fun i y hy k hk => (hfc i y hy).row (hlen i y hy).1 (hlen i y hy).2 k hk⟩
      show 0 + 60 * xs.length ≤ r.size
      rw [hlx]; omega) hel hsrc (by have : Hvac.t121.bytes ≤ 1000 := by decide
                                    have h9 : (s.2.1 + 1) * Hvac.t121.bytes ≤ 1001 * 1000 := Nat.mul_le_mul (by omega) this
                                    omega) (by omega)
    cases so with
    | none => simp only [Row] at hrow; exact absurd hrow (by simp)
    | some q =>
      obtain ⟨c, N⟩ := q
      obtain ⟨hN, r, hb, hrs, hrl⟩ := hrow
      rw [show Hvac.t121.size = 60 from rfl] at hrs
      simp only [List.length_append, List.length_singleton] at hN
      have hc := hbl c ⟨N, rfl⟩
      refine ⟨(some ⟨c, 0, none⟩, s.2.1 + 1, N), w', ?_, ?_⟩
      · rw [hceq]; exact hrun
      · have hg := YG.add (w := w) O Y hc
        refine ⟨O.add c, fun b => Y b ∨ b = c, hg, hE.keepO _, OmB.add hO hE.1 hb.lt, fun b hb => ?_, fun T _ => KT.ext hE, ?_⟩
        · rcases hb with hb | hb
          · exact Or.inl (hsub b hb)
          · exact Or.inr hb
        · have hF2 := @FRS.ext (O.add c) _ _ _ _ _ _ (FRS.om h hg.le hg.up hg.yup) hE
          refine @FRS.snoc (O.add c) _ _ _ _ _ _ _ _ c r hF2 (@FR1.ext (O.add c) _ _ _ _ _ (FR1.om h1 hg.le hg.up hg.yup) hE) hm rfl rfl (by rw [hlx] at hN; exact hN) (Or.inr rfl) (Or.inr rfl) hb (by show N * 60 ≤ r.size; rw [hrs]; omega) fun i y hy => ?_
          have hi := lt_of_getElem? hy
          rw [List.length_append, List.length_singleton] at hi
          have h9 : (i + 1) * 60 ≤ N * 60 := Nat.mul_le_mul_right 60 (by omega)
          refine FC.of_row (hrl.2 i y hy) (by rw [hrs]; omega) ?_ ?_
          · rcases Nat.lt_or_ge i xs.length with h8 | h8
            · rw [List.getElem?_append_left h8] at hy; exact (hlen i y hy).1
            · rw [List.getElem?_append_right h8] at hy
              have e : i - xs.length = 0 := by omega
              rw [e] at hy; simp at hy; rw [← hy]; exact hxs
          · rcases Nat.lt_or_ge i xs.length with h8 | h8
            · rw [List.getElem?_append_left h8] at hy; exact (hlen i y hy).2
            · rw [List.getElem?_append_right h8] at hy
              have e : i - xs.length = 0 := by omega
              rw [e] at hy; simp at hy; rw [← hy]; exact hxc
theorem YX.push [O : Om] {Y : Nat → Prop} {w w1 w2 : World} {C : Nat} {x : YSt} {y : PSt} {xs xs' : List YFr} {fs fs' : List PF} {s' : SV} {c : Array Value} (h2 : w2 = setB w1 C (.cells c 101 (0, 0))) (hX : YX Y w C x y xs fs) (hA : FApp Y w w1 s' xs' fs') (hc : c = (encYS { x with frames := s' }).toArray) : YRet Y w w2 C y fs' := by
  subst h2; subst hc
  obtain ⟨hX1, hX2, hX3, ⟨hX4, hX5, hX6⟩, hX7, hX8⟩ := hX
  obtain ⟨O', Y', hg, hk, hO, hsub, hkt, hF⟩ := hA
  have hCo : (@Om.p O') C := hg.up C hX6
  have hYC := hg.yup C hX3
  have hCb := hkt 101 (by decide) _ _ _ hX4
  have hrel : @StRel O' w1 x y := @StRel.keep O' _ _ _ _ (StRel.om hX5 hg.le hg.up) (hk.mono fun b hb => hg.up b (hX2 b hb)) (hkt 277 (by decide))
  have hsb := @SStep.put O' w1 w1 _ C x { x with frames := s' } y y _ ⟨hCb, hrel, hCo⟩ (Ext.refl w1) (by obtain ⟨h1, h2, h3, h4, h5, h6, h7, h8, h9, h10, h11, h12, h13, h14, h15, h16, h17, h18⟩ := hrel; exact ⟨h1, h2, h3, h4, h5, h6, h7, h8, h9, h10, h11, h12, h13, h14, h15, h16, h17, h18⟩) rfl rfl
  refine ⟨O', Y', { x with frames := s' }, xs', hg, hk.trans (KeepO.mono hsb.keep (fun b e => (e ▸ hX3 : Y b))) (fun _ _ e => e), ?_⟩
  exact ⟨@OmB.keep O' _ _ _ hO hsb.keep, hsub, hYC, hsb.ss, @FRS.cs O' _ _ _ _ _ _ C _ hF hCb hCo hsb.keep, fun b hb hp => by
    rcases hg.newY b hp with h9 | h9
    · exact hg.yup b (hX8 b hb h9)
    · exact h9⟩
section
variable [Om] {P : Program} {ops : Array Oper} {S : World → Prop} {Q : Post} {ty : TypeId} {pos : String} {af : Array Edge} {os : List Oper} {os' : List TOp} {ρ : Nat → Value} {w : World} {xo yo : Operand} {d : Nat} {bb : Bool}
theorem WH_appF {Y : Nat → Prop} {s : SV} {xs : List YFr} {fs : List PF} (x : YFr) (f : PF) {b1 : Nat} {fz : Nat × Nat} (h : FRS Y w s xs fs) (hO : OmB w) (hsub : ∀ b, Y b → Om.p b) (h1 : FR1 Y w x f) (hm : x.mem.2.1 = 0) (hsrc : Hb w b1 (.cells (encYF x).toArray 121 fz)) (hn : s.2.1 ≤ 1000) (hx : ev ρ xo = .slice s.1 s.2.1 s.2.2) (hy : ev ρ yo = .slice (some ⟨b1, 0, none⟩) 1 1)
    (hh : ∀ (s' : SV) (w' : World), FApp Y w w' s' (xs ++ [x]) (fs ++ [f]) → (bb = true → S w') ∧ WH Hvac.prog ops S Q os' (upd ρ d (.slice s'.1 s'.2.1 s'.2.2)) w') :
    WH Hvac.prog ops S Q ((⟨some d, .call ⟨.builtin .append, #[xo, yo], #[97, 97]⟩, ty, pos, af, none⟩, bb) :: os') ρ w := by
  obtain ⟨s', w', hr, hA⟩ := app_frs (ty := ty) h hO hsub h1 hm hsrc hn
  exact WH_append hx hy hr (hh s' w' hA).1 (hh s' w' hA).2
end

end Go.Proofs.YgvacwGreat
