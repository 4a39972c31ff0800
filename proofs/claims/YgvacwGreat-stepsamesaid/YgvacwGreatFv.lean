import Derived.Test.YgvacwGreatFu
namespace Go.Proofs.YgvacwGreat
set_option linter.unusedSimpArgs false
set_option linter.unusedVariables false
/-! lists grow by little -/
def clw (p : PW) : PW := { p with nlogs := 0, ref := 0 }
def cln (y : PSt) : PSt := { y with now := clw y.now, ret := [], phase := 0, price := 0 }
structure YN (N : Nat) (y : PSt) (fs : List PF) : Prop where
  b : PSB N (cln y)
  sv : ∀ f ∈ fs, PWB N (clw f.saved)
theorem YN.mono {N M : Nat} {y : PSt} {fs : List PF} (h : YN N y fs) (hm : N ≤ M) : YN M y fs := ⟨h.b.mono hm, fun f hf => (h.sv f hf).mono hm⟩
theorem cln_now {N : Nat} {y : PSt} {p : PW} (h : PSB N (cln y)) (hp : PWB N (clw p)) (hN : N ≤ 100000000) : PSB N (cln { y with now := p }) :=
  { h with now := hp, sl := fun A => Nat.le_trans (hp.slots A) hN }
theorem YN.psb {N : Nat} {y : PSt} {fs : List PF} (h : YN N y fs) (hl : y.now.nlogs ≤ N) (hr : sz y.now.ref ≤ 40) (hrt : y.ret.length ≤ 10000000) (hp : y.phase ≤ 255) (hpr : sz y.price ≤ 40) : PSB N y :=
  { h.b with now := { h.b.now with lg := hl, rz := hr }, rl := hrt, ph := hp, sz4 := hpr }
theorem lvA_n {N : Nat} {y : PSt} {f : PF} {st : Nat} {L : List Int} (h : PSB N (cln y)) (hN : N < 100000000) : PSB (N + 1) (cln (ylvA y f st L).2.2.2) ∧ (ylvA y f st L).1 ≤ f.gas := by
  have h1 := h.mono (Nat.le_succ N)
  unfold ylvA
  split
  · have hd : (ydep f L).1 ≤ f.gas ∧ ((ydep f L).2 = 0 → L.length ≤ 256) := by
      unfold ydep
      split
      · exact ⟨Nat.zero_le _, fun e => absurd e (by decide)⟩
      · split
        · exact ⟨Nat.zero_le _, fun e => absurd e (by decide)⟩
        · split
          · exact ⟨Nat.zero_le _, fun e => absurd e (by decide)⟩
          · exact ⟨Nat.sub_le _ _, fun _ => by omega⟩
    split
    · rename_i h0
      refine ⟨?_, hd.1⟩
      show PSB (N + 1) (cln (if 0 < L.length then _ else y))
      split
      · exact PSB.put (y := cln y) h hN (a := { yacct y.now.accts f.self with code := L }) (by have := hd.2 h0; show L.length ≤ 1000000; omega) (Nat.le_trans (h.now.slots f.self) (Nat.le_succ N))
      · exact h1
    · exact ⟨h1, hd.1⟩
  · exact ⟨h1, Nat.le_refl _⟩
theorem lvB_n {M : Nat} {f : PF} {a : Nat × Nat × List Int × PSt} (h : PSB M (cln a.2.2.2)) (hf : PWB M (clw f.saved)) (hM : M ≤ 100000000) : PSB M (cln (ylvB f a).2.2.2) ∧ (ylvB f a).1 ≤ a.1 := by
  unfold ylvB
  refine ⟨?_, ?_⟩
  · show PSB M (cln (if a.2.1 ≠ 0 then _ else _))
    split
    · exact cln_now h hf hM
    · exact h
  · show (if 1 < a.2.1 then 0 else a.1) ≤ a.1
    split <;> omega
theorem yback_sv (p f : PF) (st g : Nat) (o : List Int) : (yback p f st g o).saved = p.saved := by
  unfold yback
  show (if 0 < min (ysmall p.outLen).toNat o.length then ywrite { p with gas := p.gas + g } p.outOff (o.take (min (ysmall p.outLen).toNat o.length)) else { p with gas := p.gas + g }).saved = p.saved
  split <;> rfl
theorem YN.leave {N : Nat} {y : PSt} {rest : List PF} {f : PF} (st : Nat) (L : List Int) (h : PSB N (cln y)) (hr : ∀ g ∈ rest, PWB N (clw g.saved)) (hf : PWB N (clw f.saved)) (hN : N < 99999990) (hg : sz f.gas ≤ 30) : YN (N + 1) (yleave y rest f st L).1 (yleave y rest f st L).2 := by
  obtain ⟨hA, gA⟩ := lvA_n (f := f) (st := st) (L := L) h (by omega)
  obtain ⟨hB, gB⟩ := lvB_n (f := f) hA (hf.mono (Nat.le_succ N)) (by omega)
  have hg2 : sz (ylvB f (ylvA y f st L)).1 ≤ 40 := Nat.le_trans (sz_mono (Nat.le_trans gB gA)) (by omega)
  unfold yleave
  split
  · exact ⟨{ hB with sz3 := hg2 }, fun g hg => absurd hg (by simp)⟩
  · rename_i p hp
    refine ⟨{ hB with }, fun g hg => ?_⟩
    rcases List.mem_or_eq_of_mem_set hg with h9 | h9
    · exact (hr g h9).mono (Nat.le_succ N)
    · subst h9
      rw [yback_sv]; exact (hr p (List.mem_of_getElem? hp)).mono (Nat.le_succ N)
theorem YN.enter {N : Nat} {y : PSt} {fs : List PF} (h : YN N y fs) (hN : N < 99999900) (c : PF) : YN (N + 4) (yenter y fs c).1 (yenter y fs c).2 := by
  refine ⟨?_, fun g hg => ?_⟩
  · have h1 : PSB (N + 2) (cln (yentA y c)) := by
      have := h.b.entA (by omega) c
      unfold yentA at this ⊢
      split at this
      · rename_i hc; rw [if_pos hc]; exact this
      · rename_i hc; rw [if_neg hc]; exact this
    show PSB (N + 4) (cln (yentB (yentA y c) c))
    unfold yentB
    split
    · exact PSB.move (y := cln (yentA y c)) h1 (by omega) _ _ _
    · exact h1.mono (by omega)
  · rcases List.mem_append.1 hg with h9 | h9
    · exact (h.sv g h9).mono (by omega)
    · rw [List.mem_singleton] at h9; subst h9; exact h.b.now.mono (by omega)
theorem YN.rest {N M : Nat} {y : PSt} {rest : List PF} {f g : PF} (h : YN N y (rest ++ [f])) (hm : N ≤ M) (hg : g.saved = f.saved) : ∀ x ∈ rest ++ [g], PWB M (clw x.saved) := by
  intro x hx
  rcases List.mem_append.1 hx with h9 | h9
  · exact (h.sv x (List.mem_append_left _ h9)).mono hm
  · rw [List.mem_singleton] at h9; subst h9; rw [hg]; exact (h.sv f (by simp)).mono hm
theorem YN.call {N : Nat} {y : PSt} {rest : List PF} {f : PF} (o : Int) (h : YN N y (rest ++ [f])) (hN : N < 99999800) : YN (N + 5) (yenterCall y rest f o).1 (yenterCall y rest f o).2 := by
  have h1 : PSB (N + 1) (cln (ycall1 y f)) := PSB.warmA (y := cln y) h.b _
  unfold yenterCall
  split
  · exact YN.mono ⟨h1, h.rest (Nat.le_succ N) rfl⟩ (by omega)
  · exact YN.mono (N := N + 1 + 4) (YN.enter (N := N + 1) (y := ycall1 y f) (fs := rest ++ [ywait (ycallf f) (ytakes o).toNat (yarg f (yck o + 2)) (yarg f (yck o + 3))]) ⟨h1, h.rest (Nat.le_succ N) rfl⟩ (by omega) _) (by omega)
theorem YN.create {N : Nat} {y : PSt} {rest : List PF} {f : PF} (ks : List Int → List Int) (o : Int) (h : YN N y (rest ++ [f])) (hN : N < 99999800) : YN (N + 6) (yenterCreate ks y rest f o).1 (yenterCreate ks y rest f o).2 := by
  have h0 : PSB (N + 1) (cln (ycre1 y f)) := PSB.setNonce (y := cln y) h.b (by omega) _ _
  have h1 : PSB (N + 2) (cln (ycre2 ks y f o)) := PSB.warmA (y := cln (ycre1 y f)) h0 _
  unfold yenterCreate
  split
  · exact YN.mono ⟨h.b, h.rest (Nat.le_refl N) rfl⟩ (by omega)
  · split
    · exact YN.mono ⟨h1, h.rest (M := N + 2) (by omega) rfl⟩ (by omega)
    · exact YN.mono (N := N + 2 + 4) (YN.enter (N := N + 2) (y := ycre2 ks y f o) (fs := rest ++ [ywait (ycref f) (ytakes o).toNat 0 0]) ⟨h1, h.rest (M := N + 2) (by omega) rfl⟩ (by omega) _) (by omega)
theorem yeff_sv (y : PSt) (f : PF) (o : Int) (l : List Nat) : (yeff y f o l).2.saved = f.saved := by
  unfold yeff
  repeat' split
  all_goals first | rfl | (unfold ycopied; split <;> rfl)
theorem yeff_n {N : Nat} {y : PSt} {f : PF} {o : Int} {l : List Nat} (h : PSB N (cln y)) (hN : N < 99999900) : PSB (N + 2) (cln (yeff y f o l).1) := by
  have h2 : PSB (N + 2) (cln y) := h.mono (by omega)
  unfold yeff
  split
  · exact h2
  split
  · exact h2
  split
  · exact h2
  split
  · exact h2
  split
  · exact (PSB.warmA (y := cln y) h _).mono (Nat.le_succ _)
  split
  · exact h2
  split
  · exact h2
  split
  · exact PSB.store (y := ysWarmS (cln y) (ymk y.now.warmS f.self (l.getD 0 0))) (PSB.warmS (y := cln y) h _ _) (by omega) _ _ _
  split
  · exact (PSB.temps (y := cln y) h _ _ _).mono (Nat.le_succ _)
  split
  · exact h2
  · exact h2
theorem YN.plain {N : Nat} {y : PSt} {rest : List PF} {f : PF} (ks : List Int → List Int) (o : Int) (h : YN N y (rest ++ [f])) (hN : N < 99999900) : YN (N + 2) (yplain ks y rest f o).1 (yplain ks y rest f o).2 := by
  unfold yplain
  split
  · refine ⟨PSB.mono (N := N) ?_ (by omega), fun g hg => absurd hg (by simp)⟩
    have hsv : PWB N (clw ((rest ++ [f]).getD 0 f).saved) := by
      refine h.sv _ ?_
      cases rest with
      | nil => simp
      | cons a r => simp
    exact { cln_now h.b hsv (by omega) with sz3 := by show sz 0 ≤ 40; exact Nat.le_trans (sz_le (n := 0) (k := 0) (by decide)) (by omega) }
  · refine ⟨?_, h.rest (M := N + 2) (by omega) ?_⟩
    · show PSB (N + 2) (cln (ypst y f o (ytakes o).toNat))
      unfold ypst
      split
      · exact h.b.mono (by omega)
      · split
        · unfold yvst
          split
          · exact (PSB.warmA (y := cln y) h.b _).mono (Nat.le_succ _)
          · split
            · exact (PSB.warmS (y := cln y) h.b _ _).mono (Nat.le_succ _)
            · exact h.b.mono (by omega)
        · exact yeff_n h.b hN
    · show (ypfr y f o (ytakes o).toNat).saved = f.saved
      unfold ypfr
      split
      · rfl
      · exact yeff_sv _ _ _ _
theorem ystepG_sv (y : PSt) (f : PF) : (ystepG y f).saved = f.saved ∧ (ystepG y f).gas ≤ f.gas := by
  unfold ystepG ygrow
  split
  · exact ⟨rfl, Nat.sub_le _ _⟩
  · exact ⟨rfl, Nat.sub_le _ _⟩
theorem YN.step {N : Nat} {y : PSt} {rest : List PF} {f : PF} (ks : List Int → List Int) (h : YN N y (rest ++ [f])) (hN : N < 99999000) (hg : sz f.gas ≤ 30) : YN (N + 8) (ystep ks y rest f).1 (ystep ks y rest f).2 := by
  obtain ⟨hs, hl⟩ := ystepG_sv y f
  have hr : ∀ g ∈ rest, PWB N (clw g.saved) := fun g hg => h.sv g (List.mem_append_left _ hg)
  have hf : PWB N (clw f.saved) := h.sv f (by simp)
  have hG : PWB N (clw (ystepG y f).saved) := by rw [hs]; exact hf
  have hgG : sz (ystepG y f).gas ≤ 30 := Nat.le_trans (sz_mono hl) hg
  have hY : YN N y (rest ++ [ystepG y f]) := ⟨h.b, h.rest (Nat.le_refl N) hs⟩
  have hY0 : YN N { y with ret := [] } (rest ++ [ystepG y f]) := ⟨{ h.b with }, h.rest (Nat.le_refl N) hs⟩
  unfold ystep
  split
  · unfold ynative_
    split
    · exact (YN.leave _ _ h.b hr hf (by omega) hg).mono (by omega)
    · exact (YN.leave _ _ h.b hr (f := { f with gas := f.gas - (ynatc f.nat f.inputY).1 }) hf (by omega) (Nat.le_trans (sz_mono (Nat.sub_le _ _)) hg)).mono (by omega)
  split
  · exact (YN.leave _ _ h.b hr hf (by omega) hg).mono (by omega)
  split
  · exact (YN.leave _ _ h.b hr hG (by omega) hgG).mono (by omega)
  split
  · exact (YN.leave _ _ h.b hr hG (by omega) hgG).mono (by omega)
  split
  · exact (YN.leave _ _ h.b hr hG (by omega) hgG).mono (by omega)
  split
  · unfold ydestroys
    have h4 : PSB (N + 4) (cln (ydes3 y (ystepG y f))) := by
      have := PSB.des3 (y := cln y) h.b (by omega) (ystepG y f)
      unfold ydes3 ydes2 at this ⊢
      by_cases c1 : (ystepG y f).self ∈ y.now.made
      · rw [if_pos c1]
        rw [if_pos (show (ystepG y f).self ∈ (cln y).now.made from c1)] at this
        by_cases c2 : yaddr (yarg (ystepG y f) 0) ≠ (ystepG y f).self
        · rw [if_pos c2] at this ⊢; exact this
        · rw [if_neg c2] at this ⊢; exact this
      · rw [if_neg c1]
        rw [if_neg (show ¬ (ystepG y f).self ∈ (cln y).now.made from c1)] at this
        by_cases c2 : yaddr (yarg (ystepG y f) 0) ≠ (ystepG y f).self
        · rw [if_pos c2] at this ⊢; exact this
        · rw [if_neg c2] at this ⊢; exact this
    exact (YN.leave (N := N + 4) _ _ h4 (fun g hg => (hr g hg).mono (by omega)) (hG.mono (by omega)) (by omega) hgG).mono (by omega)
  split
  · unfold yenters
    split
    · exact (YN.create ks _ hY0 (by omega)).mono (by omega)
    · exact (YN.call _ hY0 (by omega)).mono (by omega)
  · exact (YN.plain ks _ hY (by omega)).mono (by omega)
/-! a transaction begins -/
theorem axK_len (A : List Int) : ∀ (r : List (List Int)) (l : List (List Int × Nat)), (yaxK l A r).length ≤ l.length + r.length
  | [], l => by simp [yaxK]
  | k :: r, l => by
    have h1 := axK_len A r (ymk l A (bvY k))
    have h2 := ymk_len l A (bvY k)
    unfold yaxK
    simp only [List.length_cons]
    omega
theorem axs_n : ∀ {l : List Ax} {N : Nat} {y : PSt}, PSB N (cln y) → (∀ a ∈ l, a.kl.length ≤ 64) → PSB (N + 64 * l.length) (cln (yaxs y l))
  | [], N, y, h, _ => h
  | a :: r, N, y, h, hk => by
    have h1 := (PSB.warmA (y := cln y) h a.addr).mono (M := N + 64) (by omega)
    have hws : (yaxK y.now.warmS a.addr a.kl).length ≤ N + 64 := by
      have h3 := axK_len a.addr a.kl y.now.warmS
      have h4 : y.now.warmS.length ≤ N := h.now.ws
      have h5 := hk a (by simp)
      omega
    have h2 : PSB (N + 64) (cln (ysWarmS (ysWarmA y (ywith y.now.warmA a.addr)) (yaxK y.now.warmS a.addr a.kl))) := { h1 with now := { h1.now with ws := hws } }
    have h3 := axs_n (l := r) h2 (fun b hb => hk b (by simp [hb]))
    unfold yaxs
    rw [List.length_cons, show N + 64 * (r.length + 1) = N + 64 + 64 * r.length by omega]
    exact h3
theorem LOK.kl {t : Tx} (h : LOK t) : ∀ a ∈ t.al, a.kl.length ≤ 64 := by
  intro a ha
  obtain ⟨i, hi, e⟩ := List.getElem_of_mem ha
  have h1 := h.k (i + 1) (by omega)
  unfold ksum at h1
  rw [List.getD_eq_getElem?_getD, List.getElem?_eq_getElem hi, e] at h1
  simp at h1
  omega
theorem YN.begin {N : Nat} {y : PSt} {t : Tx} (ks : List Int → List Int) (h : YN N y []) (hv : Ver0 y t) (hst : (ystart y.now.accts).length ≤ N) (hN : N < 99990000) : YN (N + 1100) (ybegin ks y t).1 (ybegin ks y t).2 := by
  have hga : sz t.gas.toNat ≤ 40 := by
    have h1 := sz_mono hv.ga
    have h2 : sz 1048576 ≤ 40 := Nat.le_trans (sz_le (n := 1048576) (k := 3) (by decide)) (by omega)
    omega
  have h1 : PSB N (cln (yb1 ks y t)) := { h.b with sz1 := hga, sz2 := Nat.le_trans (sz_mono (Nat.sub_le _ _)) hga }
  have h2 : PSB N (cln (yb2 ks y t)) := { h1 with st := hst }
  have h3 : PSB (N + 2) (cln (yb3 ks y t)) := by
    have k1 := PSB.setNonce (y := cln (yb2 ks y t)) h2 (by omega) t.fr ((yacct y.now.accts t.fr).nonce + 1)
    refine PSB.put (N := N + 1) (y := ysAccts (cln (yb2 ks y t)) (ysetNonce y.now.accts t.fr ((yacct y.now.accts t.fr).nonce + 1))) k1 (by omega) (a := { yacct (ysetNonce y.now.accts t.fr ((yacct y.now.accts t.fr).nonce + 1)) t.fr with bal := (yacct y.now.accts t.fr).bal - t.gas.toNat * yprice (bvY y.env.bfee) t }) (k1.now.cd.acct t.fr) (Nat.le_trans (k1.now.slots t.fr) (Nat.le_succ _))
  have h4 : PSB (N + 7) (cln (yb4 ks y t)) := by
    have k1 := PSB.warmA (y := cln (yb3 ks y t)) h3 t.fr
    have k2 := PSB.warmA k1 y.env.cb
    have k3 := PSB.warmA k2 (ybTo ks y t)
    have k4 := PSB.warmA k3 (yad 4)
    exact PSB.warmA k4 (yad 5)
  have h5 : PSB (N + 7 + 64 * t.al.length) (cln (yaxs (yb4 ks y t) t.al)) := axs_n h4 hv.lk.kl
  have hal := hv.lk.a
  have h6 : PSB (N + 1031) (cln (yb5 ks y t)) := PSB.mono (N := N + 7 + 64 * t.al.length) { h5 with } (by omega)
  unfold ybegin
  split
  · exact ⟨{ h6.mono (by omega) with sz3 := by show sz 0 ≤ 40; exact Nat.le_trans (sz_le (n := 0) (k := 0) (by decide)) (by omega) }, fun g hg => absurd hg (by simp)⟩
  · exact YN.mono (N := N + 1031 + 4) (YN.enter (N := N + 1031) (y := { yb5 ks y t with phase := 1 }) (fs := []) ⟨{ h6 with }, fun g hg => absurd hg (by simp)⟩ (by omega) _) (by omega)
end Go.Proofs.YgvacwGreat
