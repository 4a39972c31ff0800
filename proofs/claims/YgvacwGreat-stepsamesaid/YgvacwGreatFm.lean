import Derived.Test.YgvacwGreatFl
import Derived.Test.YgvacwGreatXd
import Derived.Test.YgvacwGreatIj
namespace Go.Proofs.YgvacwGreat
set_option linter.unusedSimpArgs false
set_option linter.unusedVariables false
/-! the order of the inputs -/
theorem bl_irr : ∀ a : List UInt8, Op.bytesLess a a = false
  | [] => rfl
  | x :: a => by
    unfold Op.bytesLess
    rw [bl_irr a]
    simp
theorem bl_trans : ∀ a b c : List UInt8, Op.bytesLess a b = true → Op.bytesLess b c = true → Op.bytesLess a c = true
  | [], [], c, h, _ => by simp [Op.bytesLess] at h
  | [], _ :: _, [], _, h2 => by simp [Op.bytesLess] at h2
  | [], _ :: _, _ :: _, _, _ => by simp [Op.bytesLess]
  | _ :: _, [], _, h, _ => by simp [Op.bytesLess] at h
  | _ :: _, _ :: _, [], _, h2 => by simp [Op.bytesLess] at h2
  | x :: a, y :: b, z :: c, h, h2 => by
    simp only [Op.bytesLess, Bool.or_eq_true, al_ete, Bool.and_eq_true, al_be, al_bb, al_bz, al_bu] at h h2 ⊢
    rcases h with h | ⟨h, h'⟩
    · rcases h2 with h2 | ⟨h2, _⟩
      · exact Or.inl (UInt8.lt_trans h h2)
      · exact Or.inl (h2 ▸ h)
    · rcases h2 with h2 | ⟨h2, h2'⟩
      · exact Or.inl (h ▸ h2)
      · exact Or.inr ⟨h.trans h2, bl_trans a b c h' h2'⟩
theorem chain_lt {f : Nat → List Int} {n : Nat} (h : ∀ j, 0 < j → j < n → strGe (f (j - 1)) (f j) = false) : ∀ k i, i + k + 1 < n → f i ≠ f (i + k + 1) := by
  have hl : ∀ k i, i + k + 1 < n → Op.bytesLess (strB (f i)).toList (strB (f (i + k + 1))).toList = true := by
    intro k
    induction k with
    | zero =>
      intro i hi
      have := h (i + 1) (by omega) (by omega)
      simpa [strGe] using this
    | succ k ih =>
      intro i hi
      have h1 := ih i (by omega)
      have h2 := h (i + k + 1 + 1) (by omega) (by omega)
      have h3 : Op.bytesLess (strB (f (i + k + 1))).toList (strB (f (i + (k + 1) + 1))).toList = true := by rw [show i + (k + 1) + 1 = i + k + 1 + 1 by omega]; simpa [strGe] using h2
      exact bl_trans _ _ _ h1 h3
  intro k i hi e
  have := hl k i hi
  rw [← e, bl_irr] at this
  cases this
theorem wok_addr {l : List Ac} (h : wok l = true) {i j : Nat} {x y : Ac} (hx : l[i]? = some x) (hy : l[j]? = some y) (hij : i < j) : x.addr ≠ y.addr := by
  have hj := lt_of_getElem? hy
  have := chain_lt (f := fun k => (l.getD k acD).addr) (n := l.length) (fun k h0 hk => by
    have hb := wok_bad h hk
    unfold acBad at hb
    simp only [Bool.or_eq_false_iff, Bool.and_eq_false_iff, al_dfn] at hb
    rcases hb.1 with hb | hb
    · omega
    · exact hb) (j - i - 1) i (by omega)
  rw [show i + (j - i - 1) + 1 = j by omega] at this
  rw [← getD_some (d := acD) hx, ← getD_some (d := acD) hy]
  exact this
theorem wok_key {l : List Ac} (h : wok l = true) {i a b : Nat} {x : Ac} {s t : Sl} (hx : l[i]? = some x) (hs : x.sl[a]? = some s) (ht : x.sl[b]? = some t) (hab : a < b) : s.key ≠ t.key := by
  have hb := lt_of_getElem? ht
  have hbad := wok_bad h (lt_of_getElem? hx)
  unfold acBad at hbad
  rw [getD_some hx] at hbad
  simp only [Bool.or_eq_false_iff, Bool.not_eq_false'] at hbad
  have hok := hbad.2.1
  unfold accOK at hok
  rw [Bool.and_eq_true] at hok
  have hall := all_range.1 hok.2
  have := chain_lt (f := fun k => (x.sl.getD k ⟨[], []⟩).key) (n := x.sl.length) (fun k h0 hk => by
    have hb := hall k hk
    unfold slBad at hb
    simp only [Bool.not_eq_true', Bool.or_eq_false_iff, Bool.and_eq_false_iff, al_dfn] at hb
    rcases hb.2 with hb | hb
    · omega
    · exact hb) (b - a - 1) a (by omega)
  rw [show a + (b - a - 1) + 1 = b by omega] at this
  rw [← getD_some (d := ⟨[], []⟩) hs, ← getD_some (d := ⟨[], []⟩) ht]
  exact this
theorem bv_inj {A B : List Int} (hA : By A 32) (hB : By B 32) (h : bvY A = bvY B) : A = B := by
  rw [← be_bv hA.2 hA.1, ← be_bv hB.2 hB.1, h]
/-! what a filled vault holds -/
structure FX (rd : SV → List Int) (v : V) (l : List PA) : Prop where
  bal : ∀ A, wn (lkA v.accts A).bal = (yacct l A).bal
  nonce : ∀ A, (lkA v.accts A).nonce = ((yacct l A).nonce : Int)
  code : ∀ A, rd (lkA v.accts A).code = (yacct l A).code
  sval : ∀ A K, Wd K → wn (lkS v.accts v.slots A K).1 = yload l A (wn K)
theorem FX.ext {rd : SV → List Int} {v v' : V} {l : List PA} (h : FX rd v l) (hE : SxE v.sx v'.sx) (hr : Rng v.sx) : FX rd v' l := by
  have hA : ∀ A, lkA v'.accts A = lkA v.accts A := fun A => by obtain ⟨L, h1, h2⟩ := hE.a; have h1' : v'.accts = v.accts ++ L := h1; rw [h1']; exact lkA_ext h2 A
  have hS : ∀ A K, lkS v'.accts v'.slots A K = lkS v.accts v.slots A K := fun A K => lkS_ext hE hr A K
  exact ⟨fun A => by rw [hA]; exact h.bal A, fun A => by rw [hA]; exact h.nonce A, fun A => by rw [hA]; exact h.code A, fun A K hK => by rw [hS]; exact h.sval A K hK⟩
theorem FX.rd {rd rd' : SV → List Int} {v : V} {l : List PA} (h : FX rd v l) (hc : ∀ x ∈ v.accts, rd' x.code = rd x.code) (h0 : rd' (none, 0, 0) = rd (none, 0, 0)) : FX rd' v l :=
  { h with code := fun A => (lkA_code hc h0 A).trans (h.code A) }
theorem FX.vs [Om] {w w' : World} {C : Nat} {c : Array Value} {v : V} {B : VB} {β : Option Nat} {l : List PA} (h : FX (rdB w) v l) (hv : VS w C c v B β) (hk : KT 5 w w') : FX (rdB w') v l :=
  h.rd (fun x hx => ((hv.codes x hx).rd.kt hk).rd) (by rw [rdB_nil, rdB_nil])
theorem VStep.k5 [Om] {w w' : World} {C : Nat} {c c' : Array Value} {v : V} {B B' : VB} {β : Option Nat} (hv : VS w C c v B β) (hS : VStep w w' C c c' B B') : KT 5 w w' := fun b r fz hb => hS.hb hv hb (by decide)
theorem yacct_snoc {L : List PA} {pa : PA} (hn : ∀ q ∈ L, q.addr ≠ pa.addr) (X : List Int) : yacct (L ++ [pa]) X = if X = pa.addr then pa else yacct L X := by
  unfold yacct
  rw [List.find?_append]
  by_cases hX : X = pa.addr
  · rw [if_pos hX]
    have h1 : L.find? (fun x => decide (x.addr = X)) = none := by
      rw [List.find?_eq_none]; intro q hq; simp only [al_ete]; rw [hX]; exact hn q hq
    rw [h1]
    simp [hX]
  · rw [if_neg hX]
    have h1 : [pa].find? (fun x => decide (x.addr = X)) = none := by
      rw [List.find?_eq_none]; intro q hq; rw [List.mem_singleton.1 hq]; simp only [al_ete]; exact fun e => hX e.symm
    rw [h1, Option.or_none]
theorem yacct_none {L : List PA} {A : List Int} (hn : ∀ q ∈ L, q.addr ≠ A) : yacct L A = ⟨A, 0, 0, [], []⟩ := by
  unfold yacct
  have h1 : L.find? (fun x => decide (x.addr = A)) = none := by
    rw [List.find?_eq_none]; intro q hq; simp only [al_ete]; exact hn q hq
  rw [h1]
theorem FX.blank {rd : SV → List Int} {v : V} {L : List PA} {A : List Int} (h : FX rd v L) (hn : ∀ q ∈ L, q.addr ≠ A) : FX rd v (L ++ [⟨A, 0, 0, [], []⟩]) := by
  have e : ∀ X, yacct (L ++ [⟨A, 0, 0, [], []⟩]) X = yacct L X := fun X => by
    rw [yacct_snoc (pa := ⟨A, 0, 0, [], []⟩) hn]
    by_cases hX : X = A
    · rw [if_pos hX, hX, yacct_none hn]
    · rw [if_neg hX]
  exact ⟨fun X => by rw [e]; exact h.bal X, fun X => by rw [e]; exact h.nonce X, fun X => by rw [e]; exact h.code X, fun X K hK => by unfold yload; rw [e]; exact h.sval X K hK⟩
theorem FX.updA {rd : SV → List Int} {v : V} {L : List PA} {pa pa' : PA} (h : FX rd v (L ++ [pa])) (hv : VInv v) (hn : ∀ q ∈ L, q.addr ≠ pa.addr) {i : Nat} {y : Acct} (hy : v.accts[i]? = some y) (hya : y.addr = pa.addr) (g : Acct → Acct) (hg : ∀ x, (g x).addr = x.addr) (ha : pa'.addr = pa.addr) (hs : pa'.slots = pa.slots)
    (hb : wn y.bal = pa.bal → wn (g y).bal = pa'.bal) (hno : y.nonce = (pa.nonce : Int) → (g y).nonce = (pa'.nonce : Int)) (hc : rd y.code = pa.code → rd (g y).code = pa'.code) : FX rd { v with accts := v.accts.set i (g y) } (L ++ [pa']) := by
  have hlk : lkA v.accts pa.addr = y := by rw [← hya]; exact lkA_hit hv.sx hy
  have hyy : yacct (L ++ [pa]) pa.addr = pa := by rw [yacct_snoc hn, if_pos rfl]
  have e1 := h.bal pa.addr
  have e2 := h.nonce pa.addr
  have e3 := h.code pa.addr
  rw [hlk, hyy] at e1 e2 e3
  have hset : v.accts.set i (g y) = v.accts.modify i g := set_mod g hy
  have hA : ∀ X, lkA (v.accts.set i (g y)) X = if X = pa.addr then g y else lkA v.accts X := fun X => by rw [hset, ← hya]; exact lkA_mod hv.sx hy hg X
  have hY : ∀ X, yacct (L ++ [pa']) X = if X = pa.addr then pa' else yacct L X := fun X => by rw [yacct_snoc (by rw [ha]; exact hn), ha]
  have hY0 : ∀ X, X ≠ pa.addr → yacct (L ++ [pa]) X = yacct L X := fun X hX => by rw [yacct_snoc hn, if_neg hX]
  have hS : ∀ X K, lkS (v.accts.set i (g y)) v.slots X K = lkS v.accts v.slots X K := fun X K => by
    unfold lkS
    rw [lkG_congr (key := keyS v.accts) (key' := keyS (v.accts.set i (g y)))]
    intro r _
    unfold keyS
    rw [hset, adrOf_mod hg]
  refine ⟨fun X => ?_, fun X => ?_, fun X => ?_, fun X K hK => ?_⟩
  · show wn (lkA (v.accts.set i (g y)) X).bal = _
    rw [hA, hY]
    by_cases hX : X = pa.addr
    · rw [if_pos hX, if_pos hX]; exact hb e1
    · rw [if_neg hX, if_neg hX, ← hY0 X hX]; exact h.bal X
  · show (lkA (v.accts.set i (g y)) X).nonce = _
    rw [hA, hY]
    by_cases hX : X = pa.addr
    · rw [if_pos hX, if_pos hX]; exact hno e2
    · rw [if_neg hX, if_neg hX, ← hY0 X hX]; exact h.nonce X
  · show rd (lkA (v.accts.set i (g y)) X).code = _
    rw [hA, hY]
    by_cases hX : X = pa.addr
    · rw [if_pos hX, if_pos hX]; exact hc e3
    · rw [if_neg hX, if_neg hX, ← hY0 X hX]; exact h.code X
  · show wn (lkS (v.accts.set i (g y)) v.slots X K).1 = _
    rw [hS, h.sval X K hK]
    unfold yload
    rw [hY]
    by_cases hX : X = pa.addr
    · rw [if_pos hX, hX, hyy, hs]
    · rw [if_neg hX, hY0 X hX]
theorem yslot_snoc {l : List (Nat × Nat)} {k n : Nat} (hn : ∀ s ∈ l, s.1 ≠ k) (j : Nat) : yslot (l ++ [(k, n)]) j = if j = k then n else yslot l j := by
  unfold yslot
  rw [List.find?_append]
  by_cases hj : j = k
  · rw [if_pos hj]
    have h1 : l.find? (fun x => decide (x.1 = j)) = none := by
      rw [List.find?_eq_none]; intro q hq; simp only [al_ete]; rw [hj]; exact hn q hq
    rw [h1]
    simp [hj]
  · rw [if_neg hj]
    have h1 : [(k, n)].find? (fun x => decide (x.1 = j)) = none := by
      rw [List.find?_eq_none]; intro q hq; rw [List.mem_singleton.1 hq]; simp only [al_ete]; exact fun e => hj e.symm
    rw [h1, Option.or_none]
theorem FX.slot {rd : SV → List Int} {v : V} {L : List PA} {pa : PA} (h : FX rd v (L ++ [pa])) (hv : VInv v) (hn : ∀ q ∈ L, q.addr ≠ pa.addr) {ia is : Nat} {y : Acct} {z : Slot} {K n : List Int} {k n' : Nat} (hy : v.accts[ia]? = some y) (hya : y.addr = pa.addr) (hz : v.slots[is]? = some z) (hza : z.acct = (ia : Int)) (hzk : z.key = K) (hK : Wd K) (hk : wn K = k) (hn' : wn n = n') (hfr : ∀ s ∈ pa.slots, s.1 ≠ k) :
    FX rd { v with slots := v.slots.set is { z with val := n, orig := n } } (L ++ [{ pa with slots := pa.slots ++ [(k, n')] }]) := by
  have hyy : yacct (L ++ [pa]) pa.addr = pa := by rw [yacct_snoc hn, if_pos rfl]
  have hY : ∀ X, yacct (L ++ [{ pa with slots := pa.slots ++ [(k, n')] }]) X = if X = pa.addr then { pa with slots := pa.slots ++ [(k, n')] } else yacct L X := fun X => yacct_snoc (pa := { pa with slots := pa.slots ++ [(k, n')] }) hn X
  have hY0 : ∀ X, X ≠ pa.addr → yacct (L ++ [pa]) X = yacct L X := fun X hX => by rw [yacct_snoc hn, if_neg hX]
  have hset : v.slots.set is { z with val := n, orig := n } = v.slots.modify is (fun x => { x with val := n, orig := n }) := set_mod (fun x : Slot => { x with val := n, orig := n }) hz
  have hkz : keyS v.accts z = (some pa.addr, K) := by
    unfold keyS adrOf
    rw [hzk, hza, Int.toNat_natCast, hy, ← hya]; rfl
  have hS : ∀ X J, lkS v.accts (v.slots.set is { z with val := n, orig := n }) X J = if X = pa.addr ∧ J = K then slT { z with val := n, orig := n } else lkS v.accts v.slots X J := fun X J => by
    unfold lkS
    rw [hset, lkG_mod (key := keyS v.accts) (l := v.slots) (g := fun x : Slot => { x with val := n, orig := n }) hv.sx.uqS hz (fun r => rfl), hkz]
    by_cases hh : X = pa.addr ∧ J = K
    · rw [if_pos (by rw [hh.1, hh.2]), if_pos hh]; rfl
    · rw [if_neg (by intro e; simp only [Prod.mk.injEq, Option.some.injEq] at e; exact hh e), if_neg hh]
  have hf : ∀ X, (yacct (L ++ [{ pa with slots := pa.slots ++ [(k, n')] }]) X).bal = (yacct (L ++ [pa]) X).bal ∧ (yacct (L ++ [{ pa with slots := pa.slots ++ [(k, n')] }]) X).nonce = (yacct (L ++ [pa]) X).nonce ∧ (yacct (L ++ [{ pa with slots := pa.slots ++ [(k, n')] }]) X).code = (yacct (L ++ [pa]) X).code := fun X => by
    rw [hY]
    by_cases hX : X = pa.addr
    · rw [if_pos hX, hX, hyy]; exact ⟨rfl, rfl, rfl⟩
    · rw [if_neg hX, hY0 X hX]; exact ⟨rfl, rfl, rfl⟩
  refine ⟨fun X => by rw [(hf X).1]; exact h.bal X, fun X => by rw [(hf X).2.1]; exact h.nonce X, fun X => by rw [(hf X).2.2]; exact h.code X, fun X J hJ => ?_⟩
  show wn (lkS v.accts (v.slots.set is { z with val := n, orig := n }) X J).1 = _
  rw [hS]
  unfold yload
  rw [hY]
  by_cases hX : X = pa.addr
  · rw [if_pos hX]
    show _ = yslot (pa.slots ++ [(k, n')]) (wn J)
    rw [yslot_snoc hfr]
    by_cases hJK : J = K
    · rw [if_pos ⟨hX, hJK⟩, if_pos (by rw [hJK, hk])]; exact hn'
    · rw [if_neg (fun e => hJK e.2), if_neg (fun e => hJK (wn_inj hJ hK (by rw [e, hk]))), h.sval X J hJ]
      unfold yload
      rw [hX, hyy]
  · rw [if_neg (fun e => hX e.1), if_neg hX, h.sval X J hJ]
    unfold yload
    rw [hY0 X hX]
theorem FX.nil {rd : SV → List Int} {v : V} (ha : v.accts = []) (hs : v.slots = []) (h0 : rd (none, 0, 0) = []) : FX rd v [] := by
  refine ⟨fun A => ?_, fun A => ?_, fun A => ?_, fun A K hK => ?_⟩
  · rw [ha]; rfl
  · rw [ha]; rfl
  · rw [ha]; exact h0
  · rw [ha, hs]; rfl
/-- a slot is sought or added -/
theorem FilV.slotX {v : V} {na ns : Nat} {S : Int} (h : FilV v na ns S) (hns : ns < 2560) {a : Int} (ha : 0 ≤ a ∧ a < v.accts.length) (K : List Int) : FilV (v.slot a K).2 na (ns + 1) S ∧ ∃ i : Nat, ∃ x, (v.slot a K).1 = ((i : Int), true) ∧ (v.slot a K).2.slots[i]? = some x ∧ x.warm = false ∧ (v.slot a K).2.accts = v.accts ∧ x.acct = a ∧ x.key = K ∧ SxE v.sx (v.slot a K).2.sx := by
  have hls := h.ls
  unfold V.slot
  by_cases h1 : 0 ≤ (v.findS a K).1
  · rw [if_pos h1]
    obtain ⟨x, hx, hx1, hx2⟩ := findS_some h1
    obtain ⟨i, hi⟩ : ∃ i : Nat, (v.findS a K).1 = (i : Int) := ⟨(v.findS a K).1.toNat, by omega⟩
    rw [hi, Int.toNat_natCast] at hx
    exact ⟨h.mono (Nat.le_refl _) (by omega) (Int.le_refl _), i, x, by rw [hi], hx, (h.sl _ (List.mem_of_getElem? hx)).1, rfl, hx1, hx2, SxE.refl _⟩
  · rw [if_neg h1]
    obtain ⟨h2, h3⟩ := h.vi.addS (K := K) ha (by omega) (by omega : v.slots.length < 2560)
    rw [if_neg (by omega)]
    refine ⟨{ vi := h3, la := h.la, ls := ?_, jl := h.jl, lg := h.lg, rf := h.rf, tp := h.tp, nm := h.nm, acY := h.acY, sl := ?_, sm := h.sm }, v.slots.length, newS a K, rfl, ?_, rfl, rfl, rfl, rfl, ⟨⟨[], by simp [V.sx], by simp⟩, ⟨[newS a K], rfl, ?_⟩, ⟨[], by simp [V.sx], by simp⟩, rfl, rfl⟩⟩
    · simp; omega
    · intro y hy
      rcases List.mem_append.1 hy with hy | hy
      · exact h.sl y hy
      · rw [List.mem_singleton.1 hy]; exact ⟨rfl, rfl⟩
    · simp
    · intro y hy; rw [List.mem_singleton.1 hy]; rfl
theorem FilV.acctX {v : V} {na ns : Nat} {S : Int} (h : FilV v na ns S) (hna : na < 2560) (A : List Int) : FilV (v.acct A).2 (na + 1) ns S ∧ ∃ i : Nat, ∃ x, (v.acct A).1 = ((i : Int), true) ∧ (v.acct A).2.accts[i]? = some x ∧ (v.acct A).2.slots = v.slots ∧ x.addr = A ∧ SxE v.sx (v.acct A).2.sx := by
  obtain ⟨h1, i, x, h2, h3, h4⟩ := h.acct hna A
  obtain ⟨j, a, g⟩ := acct_go h.vi (A := A) (Or.inr (by have := h.la; omega))
  have hij : i = j := by
    have e := g.ok
    rw [h2] at e
    have := (Prod.mk.inj e).1
    omega
  subst hij
  have hat := g.at_
  rw [h3] at hat
  have e := Option.some.inj hat
  exact ⟨h1, i, x, h2, h3, h4, by rw [e]; exact ac_addr h.vi, acct_x g⟩
/-- a filled vault on both sides -/
theorem FilV.vr {rd : SV → List Int} {v : V} {na ns : Nat} {S : Int} {l : List PA} (h : FilV v na ns S) (hx : FX rd v l) : VR rd v.sx { pw0 with accts := l } ∧ ∀ A K, Wd K → wn (lkS v.accts v.slots A K).2.1 = yload l A (wn K) := by
  have hw : ∀ A, (lkA v.accts A).warm = false ∧ (lkA v.accts A).made = false ∧ (lkA v.accts A).gone = false := fun A => by
    unfold lkA
    cases hg : lkG (fun x : Acct => x.addr) v.accts A with
    | none => exact ⟨rfl, rfl, rfl⟩
    | some x => exact h.acY x (lkG_some hg).1
  have hs : ∀ A K, (lkS v.accts v.slots A K).2.2 = false ∧ (lkS v.accts v.slots A K).2.1 = (lkS v.accts v.slots A K).1 := fun A K => by
    unfold lkS
    cases hg : lkG (keyS v.accts) v.slots (some A, K) with
    | none => exact ⟨rfl, rfl⟩
    | some x => exact h.sl x (lkG_some hg).1
  refine ⟨⟨hx.bal, hx.nonce, hx.code, fun A => ?_, fun A => ?_, fun A => ?_, hx.sval, fun A K hK => ?_, fun A K hK => ?_, ?_, ?_⟩, fun A K hK => by rw [(hs A K).2]; exact hx.sval A K hK⟩
  · show (lkA v.accts A).warm = _; rw [(hw A).1]; simp [pw0]
  · show (lkA v.accts A).made = _; rw [(hw A).2.1]; simp [pw0]
  · show (lkA v.accts A).gone = _; rw [(hw A).2.2]; simp [pw0]
  · show (lkS v.accts v.slots A K).2.2 = _; rw [(hs A K).1]; simp [pw0]
  · show wn (lkT v.accts v.temps A K) = _
    rw [h.tp]; rfl
  · show v.ref = _; rw [h.rf]; rfl
  · show v.logs.length = _; rw [h.lg]; rfl

end Go.Proofs.YgvacwGreat
