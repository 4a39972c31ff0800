import Derived.Test.YgvadwGreatOo
namespace Go.Proofs.YgvadwGreat
set_option linter.unusedSimpArgs false
set_option linter.unusedVariables false
/-- the gas of the live frames, of the ended transaction, or none -/
def gOf (m : Mc) (n : Nat) : Int := if m.phase = 1 then gasTo m.frames n else if m.phase = 2 then gasOf m.frames 0 else 0
/-- no transaction is begun -/
structure IdleV (v : V) (m : Mc) : Prop where
  jl : v.journal = []
  lg : v.logs = []
  rf : v.ref = 0
  tp : v.temps = []
  nm : v.nmarks = 0
  la : v.accts.length ≤ 8
  ls : v.slots.length ≤ 128
  acY : ∀ x ∈ v.accts, x.warm = false ∧ x.made = false ∧ x.gone = false
  sl : ∀ x ∈ v.slots, x.warm = false ∧ x.orig = x.val
  lm : m.limit = 0
  tx : m.txgas = 0
  hd : m.held = [0, 0, 0, 0]
  pr : m.price = [0, 0, 0, 0]
  rt : m.ret.1 = none
  og : m.origin = List.replicate 20 0
  md : m.made = List.replicate 20 0
  sm : sumW v.sc.bals < 115792089237316195423570985008687907853269984665640564039457584007913129639936
/-- what the machine's check asks, but for the idle machine's own clause; n frames live -/
structure Ck (v : V) (m : Mc) (n : Nat) (S : Int) : Prop where
  vi : VInv v
  top : m.top = (n : Int) - 1
  n7 : n ≤ 7
  mtY : m.mtop = n
  ph : (m.phase = 1 ∧ 0 < n) ∨ (n = 0 ∧ (m.phase = 0 ∨ m.phase = 2))
  ap : m.applied ≤ 1
  apn : m.phase ≠ 0 → m.applied = 1
  st : m.status ≤ 12 ∧ (m.phase ≠ 2 → m.status = 0)
  fr : ∀ i f, i < n → m.frames[i]? = some f → FOK scanW v i f
  wt : ∀ i f g, i + 1 < n → m.frames[i]? = some f → m.frames[i + 1]? = some g → WFK m i f g
  sn : ∀ i f, i < n → m.frames[i]? = some f → 0 ≤ f.snap ∧ f.snap < v.nmarks
  sm : ∀ i f g, i + 1 < n → m.frames[i]? = some f → m.frames[i + 1]? = some g → f.snap < g.snap
  s0 : m.phase ≠ 0 → ∀ f, m.frames[0]? = some f → f.snap = 0
  nm : 0 ≤ v.nmarks
  rt : m.ret.2.1 ≤ 717280
  eo : m.phase ≠ 0 → v.entered m.origin ∧ v.entered m.ecb
  b0 : m.base[0]? = some 0
  bs : ∀ i, i < n → 0 ≤ szOf m.base i ∧ szOf m.base i % 32 = 0 ∧ szOf m.base i ≤ 717280
  bt : 0 < n → baseOf m.base n ≤ m.buf.2.1
  bl : m.buf.2.1 ≤ 5020960
  g0 : 0 ≤ gOf m n
  gs : gOf m n ≤ m.txgas
  lm : m.limit ≤ 1048576
  tx : m.txgas ≤ m.limit
  ln : m.phase ≠ 0 → 21000 ≤ m.limit ∧ m.txgas ≤ m.limit - 21000 ∧ wv m.held = m.limit * wv m.price ∧ wv (fromB m.ebfee) ≤ wv m.price
  mc : costTo m.frames m.base n ≤ 1048576
  id0 : m.phase = 0 → IdleV v m
  rw_ : m.phase ≠ 0 → RW v m S (m.txgas - gOf m n) ∧ m.a0 ≤ 8 ∧ m.s0 ≤ 128 ∧ S + wv m.held < 115792089237316195423570985008687907853269984665640564039457584007913129639936
theorem RI.ck {v : V} {m : Mc} {t : Nat} {S : Int} (h : RI scanW v m t 0 S) (hty : MTy m) : Ck v m (t + 1) S := by
  have hg : gOf m (t + 1) = gasTo m.frames (t + 1) := by unfold gOf; rw [if_pos h.ph]
  have hgs := h.gs
  have hlm := h.ti.lm
  have htx := h.ti.tx
  obtain ⟨f0, hf0⟩ := frames_lt hty (i := 0) (by decide)
  have hs0 := h.sn 0 f0 (by omega) hf0
  have ht6 := h.t6
  exact { vi := h.ti.vi, top := by rw [h.top]; omega, n7 := by omega, mtY := by rw [h.mtY]; omega, ph := Or.inl ⟨h.ph, by omega⟩, ap := (by rw [h.ti.ap]; decide), apn := fun _ => h.ti.ap, st := ⟨(by rw [h.st]; decide), fun _ => h.st⟩, fr := fun i f hi hf => h.fr i f (by omega) hf, wt := fun i f g hi hf hg => h.wt i f g (by omega) hf hg, sn := fun i f hi hf => h.sn i f (by omega) hf, sm := fun i f g hi hf hg => h.sm i f g (by omega) hf hg, s0 := fun _ => h.s0, nm := by omega, rt := h.ti.rt.1, eo := fun _ => ⟨h.ti.eo, h.ti.ec⟩, b0 := h.ti.b0, bs := fun i hi => h.bs i (by omega), bt := fun _ => h.bt, bl := h.ti.bl, g0 := by rw [hg]; exact (gas_bd h hty (t + 1) (Nat.le_refl _)).1, gs := by rw [hg]; omega, lm := hlm.2, tx := by omega, ln := fun _ => ⟨hlm.1, htx, h.ti.hd, h.ti.bf⟩, mc := h.mc, id0 := (fun hh => by rw [h.ph] at hh; cases hh), rw_ := fun _ => ⟨by rw [hg]; have := h.rw_; rwa [Int.sub_zero] at this, h.ti.a0, h.ti.s0, h.ti.hS⟩ }
theorem EI.ck {v : V} {m : Mc} {S : Int} (h : EI v m S) (hty : MTy m) : Ck v m 0 S := by
  have hn := h.ti.vi.nm.1
  have hp : ¬ m.phase = 1 := by rw [h.ph]; decide
  have hg : gOf m 0 = gasOf m.frames 0 := by unfold gOf; rw [if_neg hp, if_pos h.ph]
  have hlm := h.ti.lm
  have htx := h.ti.tx
  obtain ⟨f0, hf0⟩ := frames_lt hty (i := 0) (by decide)
  have hgf := gasOf_some hf0
  have hg0 := (hty.frames.2 f0 (List.mem_of_getElem? hf0)).gas
  exact { vi := h.ti.vi, top := (by rw [h.top]; rfl), n7 := by omega, mtY := h.mtY, ph := Or.inr ⟨rfl, Or.inr h.ph⟩, ap := (by rw [h.ti.ap]; decide), apn := fun _ => h.ti.ap, st := ⟨(by have := h.st.2; omega), fun hh => absurd h.ph hh⟩, fr := fun i f hi => absurd hi (by omega), wt := fun i f g hi => absurd hi (by omega), sn := fun i f hi => absurd hi (by omega), sm := fun i f g hi => absurd hi (by omega), s0 := fun _ => h.sn, nm := hn, rt := h.ti.rt.1, eo := fun _ => ⟨h.ti.eo, h.ti.ec⟩, b0 := h.ti.b0, bs := fun i hi => absurd hi (by omega), bt := fun hi => absurd hi (by omega), bl := h.ti.bl, g0 := by rw [hg, hgf]; exact hg0.1, gs := by rw [hg]; exact h.gs, lm := hlm.2, tx := by omega, ln := fun _ => ⟨hlm.1, htx, h.ti.hd, h.ti.bf⟩, mc := (by show (0 : Int) ≤ 1048576; decide), id0 := (fun hh => by rw [h.ph] at hh; cases hh), rw_ := fun _ => ⟨by rw [hg]; exact h.rw_, h.ti.a0, h.ti.s0, h.ti.hS⟩ }
end Go.Proofs.YgvadwGreat
