import Derived.Test.YgvadwGreatMa
import Derived.Test.YgvadwGreatVr
namespace Go.Proofs.YgvadwGreat
set_option linter.unusedSimpArgs false
set_option linter.unusedVariables false
/-- the block of the memory's buffer -/
def bb (m : Mc) : Option Nat := match m.buf.1 with | some a => some a.block | none => none
/-- A slice of these bytes, in a block of its own kind that is not the buffer. -/
def BX (w : World) (β : Option Nat) (s : SV) (L : List Int) : Prop :=
  (s.1 = none ∧ s.2.1 = 0 ∧ L = []) ∨ ∃ b r fz, s.1 = some ⟨b, 0, none⟩ ∧ β ≠ some b ∧ Hb w b (.cells r 5 fz) ∧ s.2.1 ≤ r.size ∧ L.length = s.2.1 ∧ (∀ x ∈ L, 0 ≤ x ∧ x ≤ 255) ∧ ∀ i, i < s.2.1 → r[i]? = (L[i]?).map (Value.int .u8)
theorem BX.keep {w w' : World} {β : Option Nat} {s : SV} {L : List Int} (h : BX w β s L) (hw : ∀ b r fz, β ≠ some b → Hb w b (.cells r 5 fz) → Hb w' b (.cells r 5 fz)) : BX w' β s L := by
  rcases h with h | ⟨b, r, fz, h1, h2, h3, h4⟩
  · exact Or.inl h
  · exact Or.inr ⟨b, r, fz, h1, h2, hw b r fz h2 h3, h4⟩
theorem BX.kt {w w' : World} {β : Option Nat} {s : SV} {L : List Int} (h : BX w β s L) (hk : KT 5 w w') : BX w' β s L := h.keep fun b r fz _ hb => hk b r fz hb
theorem BX.ext {w w' : World} {β : Option Nat} {s : SV} {L : List Int} (h : BX w β s L) (he : Ext w w') : BX w' β s L := h.kt (KT.ext he)
theorem BS.ext {w w' : World} {β : Option Nat} {s : SV} (h : BS w β s) (he : Ext w w') : BS w' β s := h.kt (KT.ext he)
theorem BX.len {w : World} {β : Option Nat} {s : SV} {L : List Int} (h : BX w β s L) : L.length = s.2.1 := by
  rcases h with ⟨_, h1, h2⟩ | ⟨b, r, fz, h1, h2, h3, h4, h5, _⟩
  · rw [h1, h2]; rfl
  · exact h5
theorem BX.by_ {w : World} {β : Option Nat} {s : SV} {L : List Int} (h : BX w β s L) : ∀ x ∈ L, 0 ≤ x ∧ x ≤ 255 := by
  rcases h with ⟨_, h1, h2⟩ | ⟨b, r, fz, h1, h2, h3, h4, h5, h6, _⟩
  · rw [h2]; intro x hx; cases hx
  · exact h6
theorem BX.bs {w : World} {β : Option Nat} {s : SV} {L : List Int} (h : BX w β s L) : BS w β s := by
  rcases h with ⟨h1, h2, h3⟩ | ⟨b, r, fz, h1, h2, h3, h4, h5, h6, h7⟩
  · exact Or.inl ⟨h1, h2⟩
  · refine Or.inr ⟨b, r, fz, h1, h2, h3, h4, fun i hi => ?_⟩
    have hl : i < L.length := by omega
    exact ⟨L[i], h6 _ (List.getElem_mem hl), by rw [h7 i hi, List.getElem?_eq_getElem hl]; rfl⟩
theorem BS.bx {w : World} {β : Option Nat} {s : SV} (h : BS w β s) : ∃ L, BX w β s L := by
  rcases h with ⟨h1, h2⟩ | ⟨b, r, fz, h1, h2, h3, h4, h5⟩
  · exact ⟨[], Or.inl ⟨h1, h2, rfl⟩⟩
  · obtain ⟨L, hl, hb, hr⟩ := bytes_list s.2.1 r h5
    exact ⟨L, Or.inr ⟨b, r, fz, h1, h2, h3, h4, hl, hb, hr⟩⟩
theorem BX.sc {w : World} {β : Option Nat} {s : SV} {L : List Int} (h : BX w β s L) : SC w .u8 1 s L := by
  refine ⟨by rw [h.len, Nat.mul_one], ?_⟩
  rcases h with ⟨h1, h2, h3⟩ | ⟨b, r, fz, h1, h2, h3, h4, h5, h6, h7⟩
  · exact Or.inl ⟨h1, h2⟩
  · refine Or.inr ⟨b, 0, r, 5, fz, h1, h3, by omega, ⟨Array.ext_getElem? fun i => ?_⟩⟩
    rw [Array.getElem?_extract]
    split
    · rw [Nat.zero_add, h7 i (by omega)]; simp [ic]
    · rw [Array.getElem?_eq_none (by rw [size_ic]; omega)]
theorem NewB.bx {w w' : World} {s : SV} {L : List Int} {β : Option Nat} (h : NewB w w' s L) (hβ : ∀ b, β = some b → b < w.heap.size) (hL : ∀ x ∈ L, 0 ≤ x ∧ x ≤ 255) : BX w' β s L := by
  rcases h with ⟨rfl, rfl⟩ | ⟨_, b, rfl, h1, h2⟩
  · exact Or.inl ⟨rfl, rfl, rfl⟩
  · exact Or.inr ⟨b, _, _, rfl, fun e => by have := hβ b e; omega, h2, by rw [size_ic]; exact Nat.le_refl _, rfl, hL, fun i hi => by simp [ic]⟩
/-- the memory's buffer -/
def BufS (w : World) (s : SV) : Prop := s = (none, 0, 0) ∨ ∃ b L, s = (some ⟨b, 0, none⟩, s.2.1, L.length) ∧ Hb w b (.cells (ic .u8 L) 5 (0, 0)) ∧ (∀ x ∈ L, 0 ≤ x ∧ x ≤ 255) ∧ s.2.1 ≤ L.length
theorem BufS.keep {w w' : World} {s : SV} (h : BufS w s) (hk : KT 5 w w') : BufS w' s := by
  rcases h with h | ⟨b, L, h1, h2, h3⟩
  · exact Or.inl h
  · exact Or.inr ⟨b, L, h1, hk _ _ _ h2, h3⟩
/-- the block hashes -/
def HS (w : World) (s : SV) : Prop := (s.1 = none ∧ s.2.1 = 0) ∨ ∃ b L fz, s.1 = some ⟨b, 0, none⟩ ∧ Hb w b (.cells (ic .u8 L) 28 fz) ∧ (∀ x ∈ L, 0 ≤ x ∧ x ≤ 255) ∧ s.2.1 * 32 ≤ L.length
theorem HS.keep {w w' : World} {s : SV} (h : HS w s) (hk : KT 28 w w') : HS w' s := by
  rcases h with h | ⟨b, L, fz, h1, h2, h3⟩
  · exact Or.inl h
  · exact Or.inr ⟨b, L, fz, h1, hk _ _ _ h2, h3⟩
/-- The machine as it lies. -/
structure MS (w : World) (C : Nat) (c : Array Value) (v : V) (B : VB) (m : Mc) : Prop where
  vs : VS w C c v B (bb m)
  rep : MRep C c m
  ty : MTy m
  buf : BufS w m.buf
  code : ∀ f ∈ m.frames, BX w (bb m) f.code f.cb ∧ BS w (bb m) f.inputY
  ret : BS w (bb m) m.ret
  hash : HS w m.ehash
def MOwn (C : Nat) (B : VB) (m : Mc) (b : Nat) : Prop := VOwn C B b ∨ bb m = some b
structure MStep (w w' : World) (C : Nat) (B : VB) (m : Mc) (B' : VB) (m' : Mc) : Prop where
  keep : KeepO (MOwn C B m) w w'
  own : ∀ b, MOwn C B' m' b → MOwn C B m b ∨ w.heap.size ≤ b
theorem MStep.ext {w w' : World} {C : Nat} {B : VB} {m : Mc} (h : Ext w w') : MStep w w' C B m B m := ⟨h.keepO _, fun _ hb => Or.inl hb⟩
theorem MStep.trans {w w1 w2 : World} {C : Nat} {B B1 B2 : VB} {m m1 m2 : Mc} (h : MStep w w1 C B m B1 m1) (h' : MStep w1 w2 C B1 m1 B2 m2) : MStep w w2 C B m B2 m2 :=
  ⟨h.keep.trans h'.keep fun x hx hx' => (h.own x hx').resolve_right (by omega), fun b hb => by
    rcases h'.own b hb with hb | hb
    · exact h.own b hb
    · exact Or.inr (Nat.le_trans h.keep.sz hb)⟩
def MRet (w : World) (C : Nat) (B : VB) (m : Mc) (w' : World) (v' : V) (m' : Mc) : Prop := ∃ c' B', MS w' C c' v' B' m' ∧ MStep w w' C B m B' m'
theorem MS.kt {w w' : World} {C : Nat} {c : Array Value} {v : V} {B : VB} {m : Mc} (h : MS w C c v B m) {c' : Array Value} {v' : V} {B' : VB} (hv : VS w' C c' v' B' (bb m)) (hr : MRep C c' m) (h5 : KT 5 w w') (h28 : KT 28 w w') : MS w' C c' v' B' m :=
  ⟨hv, hr, h.ty, h.buf.keep h5, fun f hf => ⟨(h.code f hf).1.kt h5, (h.code f hf).2.kt h5⟩, h.ret.kt h5, h.hash.keep h28⟩
theorem MS.ext {w w' : World} {C : Nat} {c : Array Value} {v : V} {B : VB} {m : Mc} (h : MS w C c v B m) (he : Ext w w') : MS w' C c v B m := h.kt (h.vs.ext he) h.rep (KT.ext he) (KT.ext he)
theorem MS.mret {w : World} {C : Nat} {c : Array Value} {v : V} {B : VB} {m : Mc} (h : MS w C c v B m) : MRet w C B m w v m := ⟨c, B, h, MStep.ext (Ext.refl w)⟩
theorem MRet.trans {w w1 w2 : World} {C : Nat} {B B1 : VB} {m m1 m2 : Mc} {v2 : V} (h : MStep w w1 C B m B1 m1) (h' : MRet w1 C B1 m1 w2 v2 m2) : MRet w C B m w2 v2 m2 := by
  obtain ⟨c', B', h1, h2⟩ := h'; exact ⟨c', B', h1, h.trans h2⟩
theorem MRet.same {w w1 w2 : World} {C : Nat} {B : VB} {m m1 : Mc} {v1 : V} (h : MRet w C B m w1 v1 m1) (he : Ext w1 w2) : MRet w C B m w2 v1 m1 := by
  obtain ⟨c', B', h1, h2⟩ := h; exact ⟨c', B', h1.ext he, h2.trans (MStep.ext he)⟩
/-- A step of the vault leaves the machine as it was. -/
theorem MS.vret {w w' : World} {C : Nat} {c : Array Value} {v v' : V} {B : VB} {m : Mc} (h : MS w C c v B m) (hr : VRet w C c B (bb m) w' v') : MRet w C B m w' v' m := by
  obtain ⟨c', B', h1, h2⟩ := hr
  refine ⟨c', B', h.kt h1 (h.rep.out h.ty (h1.rep.size.trans h.vs.rep.size.symm) h2.out) (fun b r fz hb => h2.hb h.vs hb (by decide)) (fun b r fz hb => h2.hb h.vs hb (by decide)), ?_, ?_⟩
  · exact ⟨h2.keep.sz, fun b hb hn => h2.keep.old b hb (fun e => hn (Or.inl e)), h2.keep.en⟩
  · rintro b (hb | hb)
    · rcases h2.own b hb with hb | hb
      · exact Or.inl (Or.inl hb)
      · exact Or.inr hb
    · exact Or.inl (Or.inr hb)
/-- Cells of the machine are written. -/
theorem MS.putG {w : World} {C : Nat} {c : Array Value} {v : V} {B : VB} {m m' : Mc} (h : MS w C c v B m) {i : Nat} {vs : List Value} (hs : i + vs.length ≤ 2435) (hrep : MRep C (splice c i vs) m') (hty : MTy m') (hb : m'.buf = m.buf) (hh : m'.ehash = m.ehash)
    (hcode : ∀ f ∈ m'.frames, BX w (bb m) f.code f.cb ∧ BS w (bb m) f.inputY) (hret : BS w (bb m) m'.ret) :
    MS (setB w C (.cells (splice c i vs) 86 (0, 0))) C (splice c i vs) v B m' ∧ MStep w (setB w C (.cells (splice c i vs) 86 (0, 0))) C B m B m' := by
  have hbb : bb m' = bb m := by unfold bb; rw [hb]
  have h5 : KT 5 w (setB w C (.cells (splice c i vs) 86 (0, 0))) := KT.setB h.vs.blk (by decide)
  have h28 : KT 28 w (setB w C (.cells (splice c i vs) 86 (0, 0))) := KT.setB h.vs.blk (by decide)
  refine ⟨⟨?_, hrep, hty, ?_, fun f hf => ?_, ?_, ?_⟩, ?_, ?_⟩
  · rw [hbb]; exact h.vs.splice hs
  · rw [hb]; exact h.buf.keep h5
  · rw [hbb]; exact ⟨(hcode f hf).1.kt h5, (hcode f hf).2.kt h5⟩
  · rw [hbb]; exact hret.kt h5
  · rw [hh]; exact h.hash.keep h28
  · exact (KeepO.refl _ w).setB (fun _ => Or.inl (Or.inl rfl)) _
  · rintro b (hb' | hb')
    · exact Or.inl (Or.inl hb')
    · rw [hbb] at hb'; exact Or.inl (Or.inr hb')
theorem MS.sz {w : World} {C : Nat} {c : Array Value} {v : V} {B : VB} {m : Mc} (h : MS w C c v B m) : c.size = 27024 := h.vs.rep.size
theorem MS.put_mtop {w : World} {C : Nat} {c : Array Value} {v : V} {B : VB} {m : Mc} (h : MS w C c v B m) (x : Int) (hx : 0 ≤ x ∧ x ≤ 255) :
    MS (setB w C (.cells (c.setIfInBounds 10 (.int .u8 x)) 86 (0, 0))) C (c.setIfInBounds 10 (.int .u8 x)) v B { m with mtop := x } ∧ MStep w (setB w C (.cells (c.setIfInBounds 10 (.int .u8 x)) 86 (0, 0))) C B m B { m with mtop := x } :=
  h.putG (i := 10) (vs := [.int .u8 x]) (by simp) (h.rep.set_mtop h.ty h.sz x) { h.ty with mtop := hx } rfl rfl h.code h.ret
theorem MS.put_top {w : World} {C : Nat} {c : Array Value} {v : V} {B : VB} {m : Mc} (h : MS w C c v B m) (x : Int) (hx : -128 ≤ x ∧ x ≤ 127) :
    MS (setB w C (.cells (c.setIfInBounds 2258 (.int .i8 x)) 86 (0, 0))) C (c.setIfInBounds 2258 (.int .i8 x)) v B { m with top := x } ∧ MStep w (setB w C (.cells (c.setIfInBounds 2258 (.int .i8 x)) 86 (0, 0))) C B m B { m with top := x } :=
  h.putG (i := 2258) (vs := [.int .i8 x]) (by simp) (h.rep.set_top h.ty h.sz x) { h.ty with top := hx } rfl rfl h.code h.ret
theorem MS.put_phase {w : World} {C : Nat} {c : Array Value} {v : V} {B : VB} {m : Mc} (h : MS w C c v B m) (x : Int) (hx : 0 ≤ x ∧ x ≤ 255) :
    MS (setB w C (.cells (c.setIfInBounds 2404 (.int .u8 x)) 86 (0, 0))) C (c.setIfInBounds 2404 (.int .u8 x)) v B { m with phase := x } ∧ MStep w (setB w C (.cells (c.setIfInBounds 2404 (.int .u8 x)) 86 (0, 0))) C B m B { m with phase := x } :=
  h.putG (i := 2404) (vs := [.int .u8 x]) (by simp) (h.rep.set_phase h.ty h.sz x) { h.ty with phase := hx } rfl rfl h.code h.ret
theorem MS.put_status {w : World} {C : Nat} {c : Array Value} {v : V} {B : VB} {m : Mc} (h : MS w C c v B m) (x : Int) (hx : 0 ≤ x ∧ x ≤ 255) :
    MS (setB w C (.cells (c.setIfInBounds 2405 (.int .u8 x)) 86 (0, 0))) C (c.setIfInBounds 2405 (.int .u8 x)) v B { m with status := x } ∧ MStep w (setB w C (.cells (c.setIfInBounds 2405 (.int .u8 x)) 86 (0, 0))) C B m B { m with status := x } :=
  h.putG (i := 2405) (vs := [.int .u8 x]) (by simp) (h.rep.set_status h.ty h.sz x) { h.ty with status := hx } rfl rfl h.code h.ret
theorem MS.put_applied {w : World} {C : Nat} {c : Array Value} {v : V} {B : VB} {m : Mc} (h : MS w C c v B m) (x : Int) (hx : 0 ≤ x ∧ x ≤ 255) :
    MS (setB w C (.cells (c.setIfInBounds 2406 (.int .u8 x)) 86 (0, 0))) C (c.setIfInBounds 2406 (.int .u8 x)) v B { m with applied := x } ∧ MStep w (setB w C (.cells (c.setIfInBounds 2406 (.int .u8 x)) 86 (0, 0))) C B m B { m with applied := x } :=
  h.putG (i := 2406) (vs := [.int .u8 x]) (by simp) (h.rep.set_applied h.ty h.sz x) { h.ty with applied := hx } rfl rfl h.code h.ret
theorem MS.put_limit {w : World} {C : Nat} {c : Array Value} {v : V} {B : VB} {m : Mc} (h : MS w C c v B m) (x : Int) (hx : 0 ≤ x ∧ x ≤ 18446744073709551615) :
    MS (setB w C (.cells (c.setIfInBounds 2407 (.int .u64 x)) 86 (0, 0))) C (c.setIfInBounds 2407 (.int .u64 x)) v B { m with limit := x } ∧ MStep w (setB w C (.cells (c.setIfInBounds 2407 (.int .u64 x)) 86 (0, 0))) C B m B { m with limit := x } :=
  h.putG (i := 2407) (vs := [.int .u64 x]) (by simp) (h.rep.set_limit h.ty h.sz x) { h.ty with limit := hx } rfl rfl h.code h.ret
theorem MS.put_txgas {w : World} {C : Nat} {c : Array Value} {v : V} {B : VB} {m : Mc} (h : MS w C c v B m) (x : Int) (hx : 0 ≤ x ∧ x ≤ 18446744073709551615) :
    MS (setB w C (.cells (c.setIfInBounds 2408 (.int .u64 x)) 86 (0, 0))) C (c.setIfInBounds 2408 (.int .u64 x)) v B { m with txgas := x } ∧ MStep w (setB w C (.cells (c.setIfInBounds 2408 (.int .u64 x)) 86 (0, 0))) C B m B { m with txgas := x } :=
  h.putG (i := 2408) (vs := [.int .u64 x]) (by simp) (h.rep.set_txgas h.ty h.sz x) { h.ty with txgas := hx } rfl rfl h.code h.ret
theorem MS.put_a0 {w : World} {C : Nat} {c : Array Value} {v : V} {B : VB} {m : Mc} (h : MS w C c v B m) (x : Int) (hx : I32 x) :
    MS (setB w C (.cells (c.setIfInBounds 2413 (.int .i32 x)) 86 (0, 0))) C (c.setIfInBounds 2413 (.int .i32 x)) v B { m with a0 := x } ∧ MStep w (setB w C (.cells (c.setIfInBounds 2413 (.int .i32 x)) 86 (0, 0))) C B m B { m with a0 := x } :=
  h.putG (i := 2413) (vs := [.int .i32 x]) (by simp) (h.rep.set_a0 h.ty h.sz x) { h.ty with a0 := hx } rfl rfl h.code h.ret
theorem MS.put_s0 {w : World} {C : Nat} {c : Array Value} {v : V} {B : VB} {m : Mc} (h : MS w C c v B m) (x : Int) (hx : I32 x) :
    MS (setB w C (.cells (c.setIfInBounds 2414 (.int .i32 x)) 86 (0, 0))) C (c.setIfInBounds 2414 (.int .i32 x)) v B { m with s0 := x } ∧ MStep w (setB w C (.cells (c.setIfInBounds 2414 (.int .i32 x)) 86 (0, 0))) C B m B { m with s0 := x } :=
  h.putG (i := 2414) (vs := [.int .i32 x]) (by simp) (h.rep.set_s0 h.ty h.sz x) { h.ty with s0 := hx } rfl rfl h.code h.ret
theorem MS.put_ret {w : World} {C : Nat} {c : Array Value} {v : V} {B : VB} {m : Mc} (h : MS w C c v B m) (x : SV) (hx : BS w (bb m) x) :
    MS (setB w C (.cells (c.setIfInBounds 2259 (.slice x.1 x.2.1 x.2.2)) 86 (0, 0))) C (c.setIfInBounds 2259 (.slice x.1 x.2.1 x.2.2)) v B { m with ret := x } ∧ MStep w (setB w C (.cells (c.setIfInBounds 2259 (.slice x.1 x.2.1 x.2.2)) 86 (0, 0))) C B m B { m with ret := x } :=
  h.putG (i := 2259) (vs := [.slice x.1 x.2.1 x.2.2]) (by simp) (h.rep.set_ret h.ty h.sz x) { h.ty with } rfl rfl h.code hx
theorem MS.put_origin {w : World} {C : Nat} {c : Array Value} {v : V} {B : VB} {m : Mc} (h : MS w C c v B m) (x : List Int) (hx : By x 20) :
    MS (setB w C (.cells (splice c 2380 (Value.agg (ic .u8 x)).cells.toList) 86 (0, 0))) C (splice c 2380 (Value.agg (ic .u8 x)).cells.toList) v B { m with origin := x } ∧ MStep w (setB w C (.cells (splice c 2380 (Value.agg (ic .u8 x)).cells.toList) 86 (0, 0))) C B m B { m with origin := x } :=
  h.putG (i := 2380) (vs := x.map (Value.int .u8)) (by simp [hx.1]) (h.rep.set_origin h.ty h.sz x hx.1) { h.ty with origin := hx } rfl rfl h.code h.ret
theorem MS.put_price {w : World} {C : Nat} {c : Array Value} {v : V} {B : VB} {m : Mc} (h : MS w C c v B m) (x : List Int) (hx : Wd x) :
    MS (setB w C (.cells (splice c 2400 (Value.agg (ic .u64 x)).cells.toList) 86 (0, 0))) C (splice c 2400 (Value.agg (ic .u64 x)).cells.toList) v B { m with price := x } ∧ MStep w (setB w C (.cells (splice c 2400 (Value.agg (ic .u64 x)).cells.toList) 86 (0, 0))) C B m B { m with price := x } :=
  h.putG (i := 2400) (vs := x.map (Value.int .u64)) (by simp [hx.1]) (h.rep.set_price h.ty h.sz x hx.1) { h.ty with price := hx } rfl rfl h.code h.ret
theorem MS.put_held {w : World} {C : Nat} {c : Array Value} {v : V} {B : VB} {m : Mc} (h : MS w C c v B m) (x : List Int) (hx : Wd x) :
    MS (setB w C (.cells (splice c 2409 (Value.agg (ic .u64 x)).cells.toList) 86 (0, 0))) C (splice c 2409 (Value.agg (ic .u64 x)).cells.toList) v B { m with held := x } ∧ MStep w (setB w C (.cells (splice c 2409 (Value.agg (ic .u64 x)).cells.toList) 86 (0, 0))) C B m B { m with held := x } :=
  h.putG (i := 2409) (vs := x.map (Value.int .u64)) (by simp [hx.1]) (h.rep.set_held h.ty h.sz x hx.1) { h.ty with held := hx } rfl rfl h.code h.ret
theorem MS.put_made {w : World} {C : Nat} {c : Array Value} {v : V} {B : VB} {m : Mc} (h : MS w C c v B m) (x : List Int) (hx : By x 20) :
    MS (setB w C (.cells (splice c 2415 (Value.agg (ic .u8 x)).cells.toList) 86 (0, 0))) C (splice c 2415 (Value.agg (ic .u8 x)).cells.toList) v B { m with made := x } ∧ MStep w (setB w C (.cells (splice c 2415 (Value.agg (ic .u8 x)).cells.toList) 86 (0, 0))) C B m B { m with made := x } :=
  h.putG (i := 2415) (vs := x.map (Value.int .u8)) (by simp [hx.1]) (h.rep.set_made h.ty h.sz x hx.1) { h.ty with made := hx } rfl rfl h.code h.ret
theorem mem_set {α : Type} {P : α → Prop} {l : List α} {i : Nat} {x : α} (hl : ∀ y ∈ l, P y) (hx : P x) : ∀ y ∈ l.set i x, P y := by
  intro y hy
  rcases List.mem_or_eq_of_mem_set hy with hy | hy
  · exact hl y hy
  · subst hy; exact hx
theorem MS.put_base {w : World} {C : Nat} {c : Array Value} {v : V} {B : VB} {m : Mc} (h : MS w C c v B m) {i : Nat} {x0 : Int} (hi : m.base[i]? = some x0) (x : Int) (hx : 0 ≤ x ∧ x ≤ 4294967295) :
    MS (setB w C (.cells (c.setIfInBounds (2 + i * 1) (.int .u32 x)) 86 (0, 0))) C (c.setIfInBounds (2 + i * 1) (.int .u32 x)) v B { m with base := m.base.set i x } ∧ MStep w (setB w C (.cells (c.setIfInBounds (2 + i * 1) (.int .u32 x)) 86 (0, 0))) C B m B { m with base := m.base.set i x } := by
  have hil : i < 8 := by have := lt_of_getElem? hi; rw [h.ty.base.1] at this; exact this
  exact h.putG (i := 2 + i * 1 + 0) (vs := [.int .u32 x]) (by simp; omega) (h.rep.set_base h.ty h.sz (k := 0) (vs := [.int .u32 x]) hi (by simp) (fun j hj => by cases Nat.lt_one_iff.1 hj; simp [encU32])) { h.ty with base := ⟨by simp [h.ty.base.1], mem_set h.ty.base.2 hx⟩ } rfl rfl h.code h.ret
theorem MS.put_stack {w : World} {C : Nat} {c : Array Value} {v : V} {B : VB} {m : Mc} (h : MS w C c v B m) {i : Nat} {x0 : List Int} (hi : m.stack[i]? = some x0) (x : List Int) (hx : Wd x) :
    MS (setB w C (.cells (splice c (11 + i * 4) (Value.agg (ic .u64 x)).cells.toList) 86 (0, 0))) C (splice c (11 + i * 4) (Value.agg (ic .u64 x)).cells.toList) v B { m with stack := m.stack.set i x } ∧ MStep w (setB w C (.cells (splice c (11 + i * 4) (Value.agg (ic .u64 x)).cells.toList) 86 (0, 0))) C B m B { m with stack := m.stack.set i x } := by
  have hil : i < 448 := by have := lt_of_getElem? hi; rw [h.ty.stack.1] at this; exact this
  have hx0 := (h.ty.stack.2 x0 (List.mem_of_getElem? hi)).1
  exact h.putG (i := 11 + i * 4 + 0) (vs := x.map (Value.int .u64)) (by simp [hx.1]; omega) (h.rep.set_stack h.ty h.sz (k := 0) (vs := x.map (Value.int .u64)) hi (by simp [hx.1]) (fun j hj => by rw [if_pos (by simp [hx.1]; omega)]; rfl)) { h.ty with stack := ⟨by simp [h.ty.stack.1], mem_set h.ty.stack.2 hx⟩ } rfl rfl h.code h.ret
structure OpenF (c : Array Value) (o : Nat) (f : Fm) : Prop where
  kind : Ce c (o + 0) (.int .u8 f.kind)
  depth : Ce c (o + 1) (.int .u8 f.depth)
  ntv : Ce c (o + 2) (.int .u8 f.ntv)
  static : Ce c (o + 3) (.bool f.static)
  pc : Ce c (o + 4) (.int .u16 f.pc)
  sbase : Ce c (o + 5) (.int .u16 f.sbase)
  sp : Ce c (o + 6) (.int .u16 f.sp)
  gas : Ce c (o + 7) (.int .u64 f.gas)
  snap : Ce c (o + 8) (.int .i32 f.snap)
  self : Xt c (o + 9) (o + 9 + 20) (ic .u8 f.self)
  caller : Xt c (o + 29) (o + 29 + 20) (ic .u8 f.caller)
  value : Xt c (o + 49) (o + 49 + 4) (ic .u64 f.value)
  code : Ce c (o + 53) (.slice f.code.1 f.code.2.1 f.code.2.2)
  inputY : Ce c (o + 54) (.slice f.inputY.1 f.inputY.2.1 f.inputY.2.2)
  dests : Xt c (o + 55) (o + 55 + 8) (ic .u64 f.dests)
  outOff : Ce c (o + 63) (.int .u32 f.outOff)
  outLen : Ce c (o + 64) (.int .u32 f.outLen)
  bd : o + 65 ≤ c.size
theorem MS.openF {w : World} {C : Nat} {c : Array Value} {v : V} {B : VB} {m : Mc} (h : MS w C c v B m) {t : Nat} {f : Fm} (hf : m.frames[t]? = some f) : t < 7 ∧ FmTy f ∧ OpenF c (1803 + t * 65) f := by
  have hty := h.ty.frames.2 f (List.mem_of_getElem? hf)
  have hlen := encF_len hty
  have hrow := h.rep.frames
  have h1 := hty.self.1
  have h2 := hty.caller.1
  have h3 := hty.value.1
  have h4 := hty.dests.1
  refine ⟨by have := lt_of_getElem? hf; rw [h.ty.frames.1] at this; exact this, hty, ⟨hrow.get hf (k := 0) (by decide) (by simp [encF, h1, h2, h3, h4, List.getElem?_append, sv]), hrow.get hf (k := 1) (by decide) (by simp [encF, h1, h2, h3, h4, List.getElem?_append, sv]), hrow.get hf (k := 2) (by decide) (by simp [encF, h1, h2, h3, h4, List.getElem?_append, sv]), hrow.get hf (k := 3) (by decide) (by simp [encF, h1, h2, h3, h4, List.getElem?_append, sv]), hrow.get hf (k := 4) (by decide) (by simp [encF, h1, h2, h3, h4, List.getElem?_append, sv]), hrow.get hf (k := 5) (by decide) (by simp [encF, h1, h2, h3, h4, List.getElem?_append, sv]), hrow.get hf (k := 6) (by decide) (by simp [encF, h1, h2, h3, h4, List.getElem?_append, sv]), hrow.get hf (k := 7) (by decide) (by simp [encF, h1, h2, h3, h4, List.getElem?_append, sv]), hrow.get hf (k := 8) (by decide) (by simp [encF, h1, h2, h3, h4, List.getElem?_append, sv]), hrow.ext hf (k := 9) (n := 20) (by decide) (vs := f.self.map (Value.int .u8)) (by simp [encF, h1, h2, h3, h4, List.drop_append, List.take_append, List.drop_eq_nil_of_le, List.take_of_length_le]) hlen, hrow.ext hf (k := 29) (n := 20) (by decide) (vs := f.caller.map (Value.int .u8)) (by simp [encF, h1, h2, h3, h4, List.drop_append, List.take_append, List.drop_eq_nil_of_le, List.take_of_length_le]) hlen, hrow.ext hf (k := 49) (n := 4) (by decide) (vs := f.value.map (Value.int .u64)) (by simp [encF, h1, h2, h3, h4, List.drop_append, List.take_append, List.drop_eq_nil_of_le, List.take_of_length_le]) hlen, hrow.get hf (k := 53) (by decide) (by simp [encF, h1, h2, h3, h4, List.getElem?_append, sv]), hrow.get hf (k := 54) (by decide) (by simp [encF, h1, h2, h3, h4, List.getElem?_append, sv]), hrow.ext hf (k := 55) (n := 8) (by decide) (vs := f.dests.map (Value.int .u64)) (by simp [encF, h1, h2, h3, h4, List.drop_append, List.take_append, List.drop_eq_nil_of_le, List.take_of_length_le]) hlen, hrow.get hf (k := 63) (by decide) (by simp [encF, h1, h2, h3, h4, List.getElem?_append, sv]), hrow.get hf (k := 64) (by decide) (by simp [encF, h1, h2, h3, h4, List.getElem?_append, sv]), hrow.bd hf⟩⟩
theorem MS.putF_pc {w : World} {C : Nat} {c : Array Value} {v : V} {B : VB} {m : Mc} (h : MS w C c v B m) {t : Nat} {f : Fm} (hf : m.frames[t]? = some f) (x : Int) (hx : 0 ≤ x ∧ x ≤ 65535) :
    MS (setB w C (.cells (c.setIfInBounds (1803 + t * 65 + 4) (.int .u16 x)) 86 (0, 0))) C (c.setIfInBounds (1803 + t * 65 + 4) (.int .u16 x)) v B { m with frames := m.frames.set t { f with pc := x } } ∧ MStep w (setB w C (.cells (c.setIfInBounds (1803 + t * 65 + 4) (.int .u16 x)) 86 (0, 0))) C B m B { m with frames := m.frames.set t { f with pc := x } } := by
  obtain ⟨htl, hty, _⟩ := h.openF hf
  have hc := h.code f (List.mem_of_getElem? hf)
  have h1 := hty.self.1
  have h2 := hty.caller.1
  have h3 := hty.value.1
  have h4 := hty.dests.1
  refine h.putG (i := 1803 + t * 65 + 4) (vs := [.int .u16 x]) (by simp; omega) (h.rep.set_frames h.ty h.sz (k := 4) (vs := [.int .u16 x]) hf (by simp) ?_) { h.ty with frames := ⟨by simp [h.ty.frames.1], mem_set h.ty.frames.2 { hty with pc := hx }⟩ } rfl rfl (mem_set h.code hc) h.ret
  exact put_mid (P := (encF f).take 4) (M := [.int .u16 f.pc]) (M' := [.int .u16 x]) (S := (encF f).drop 5) (by simp [encF, h1, h2, h3, h4, List.take_append, List.drop_append, List.take_of_length_le, List.drop_eq_nil_of_le]) (by simp [encF, h1, h2, h3, h4, List.take_append, List.drop_append, List.take_of_length_le, List.drop_eq_nil_of_le]) (by simp [encF, h1, h2, h3, h4]) (by simp) _
theorem MS.putF_sp {w : World} {C : Nat} {c : Array Value} {v : V} {B : VB} {m : Mc} (h : MS w C c v B m) {t : Nat} {f : Fm} (hf : m.frames[t]? = some f) (x : Int) (hx : 0 ≤ x ∧ x ≤ 65535) :
    MS (setB w C (.cells (c.setIfInBounds (1803 + t * 65 + 6) (.int .u16 x)) 86 (0, 0))) C (c.setIfInBounds (1803 + t * 65 + 6) (.int .u16 x)) v B { m with frames := m.frames.set t { f with sp := x } } ∧ MStep w (setB w C (.cells (c.setIfInBounds (1803 + t * 65 + 6) (.int .u16 x)) 86 (0, 0))) C B m B { m with frames := m.frames.set t { f with sp := x } } := by
  obtain ⟨htl, hty, _⟩ := h.openF hf
  have hc := h.code f (List.mem_of_getElem? hf)
  have h1 := hty.self.1
  have h2 := hty.caller.1
  have h3 := hty.value.1
  have h4 := hty.dests.1
  refine h.putG (i := 1803 + t * 65 + 6) (vs := [.int .u16 x]) (by simp; omega) (h.rep.set_frames h.ty h.sz (k := 6) (vs := [.int .u16 x]) hf (by simp) ?_) { h.ty with frames := ⟨by simp [h.ty.frames.1], mem_set h.ty.frames.2 { hty with sp := hx }⟩ } rfl rfl (mem_set h.code hc) h.ret
  exact put_mid (P := (encF f).take 6) (M := [.int .u16 f.sp]) (M' := [.int .u16 x]) (S := (encF f).drop 7) (by simp [encF, h1, h2, h3, h4, List.take_append, List.drop_append, List.take_of_length_le, List.drop_eq_nil_of_le]) (by simp [encF, h1, h2, h3, h4, List.take_append, List.drop_append, List.take_of_length_le, List.drop_eq_nil_of_le]) (by simp [encF, h1, h2, h3, h4]) (by simp) _
theorem MS.putF_gas {w : World} {C : Nat} {c : Array Value} {v : V} {B : VB} {m : Mc} (h : MS w C c v B m) {t : Nat} {f : Fm} (hf : m.frames[t]? = some f) (x : Int) (hx : 0 ≤ x ∧ x ≤ 18446744073709551615) :
    MS (setB w C (.cells (c.setIfInBounds (1803 + t * 65 + 7) (.int .u64 x)) 86 (0, 0))) C (c.setIfInBounds (1803 + t * 65 + 7) (.int .u64 x)) v B { m with frames := m.frames.set t { f with gas := x } } ∧ MStep w (setB w C (.cells (c.setIfInBounds (1803 + t * 65 + 7) (.int .u64 x)) 86 (0, 0))) C B m B { m with frames := m.frames.set t { f with gas := x } } := by
  obtain ⟨htl, hty, _⟩ := h.openF hf
  have hc := h.code f (List.mem_of_getElem? hf)
  have h1 := hty.self.1
  have h2 := hty.caller.1
  have h3 := hty.value.1
  have h4 := hty.dests.1
  refine h.putG (i := 1803 + t * 65 + 7) (vs := [.int .u64 x]) (by simp; omega) (h.rep.set_frames h.ty h.sz (k := 7) (vs := [.int .u64 x]) hf (by simp) ?_) { h.ty with frames := ⟨by simp [h.ty.frames.1], mem_set h.ty.frames.2 { hty with gas := hx }⟩ } rfl rfl (mem_set h.code hc) h.ret
  exact put_mid (P := (encF f).take 7) (M := [.int .u64 f.gas]) (M' := [.int .u64 x]) (S := (encF f).drop 8) (by simp [encF, h1, h2, h3, h4, List.take_append, List.drop_append, List.take_of_length_le, List.drop_eq_nil_of_le]) (by simp [encF, h1, h2, h3, h4, List.take_append, List.drop_append, List.take_of_length_le, List.drop_eq_nil_of_le]) (by simp [encF, h1, h2, h3, h4]) (by simp) _
theorem MS.putF_snap {w : World} {C : Nat} {c : Array Value} {v : V} {B : VB} {m : Mc} (h : MS w C c v B m) {t : Nat} {f : Fm} (hf : m.frames[t]? = some f) (x : Int) (hx : I32 x) :
    MS (setB w C (.cells (c.setIfInBounds (1803 + t * 65 + 8) (.int .i32 x)) 86 (0, 0))) C (c.setIfInBounds (1803 + t * 65 + 8) (.int .i32 x)) v B { m with frames := m.frames.set t { f with snap := x } } ∧ MStep w (setB w C (.cells (c.setIfInBounds (1803 + t * 65 + 8) (.int .i32 x)) 86 (0, 0))) C B m B { m with frames := m.frames.set t { f with snap := x } } := by
  obtain ⟨htl, hty, _⟩ := h.openF hf
  have hc := h.code f (List.mem_of_getElem? hf)
  have h1 := hty.self.1
  have h2 := hty.caller.1
  have h3 := hty.value.1
  have h4 := hty.dests.1
  refine h.putG (i := 1803 + t * 65 + 8) (vs := [.int .i32 x]) (by simp; omega) (h.rep.set_frames h.ty h.sz (k := 8) (vs := [.int .i32 x]) hf (by simp) ?_) { h.ty with frames := ⟨by simp [h.ty.frames.1], mem_set h.ty.frames.2 { hty with snap := hx }⟩ } rfl rfl (mem_set h.code hc) h.ret
  exact put_mid (P := (encF f).take 8) (M := [.int .i32 f.snap]) (M' := [.int .i32 x]) (S := (encF f).drop 9) (by simp [encF, h1, h2, h3, h4, List.take_append, List.drop_append, List.take_of_length_le, List.drop_eq_nil_of_le]) (by simp [encF, h1, h2, h3, h4, List.take_append, List.drop_append, List.take_of_length_le, List.drop_eq_nil_of_le]) (by simp [encF, h1, h2, h3, h4]) (by simp) _
theorem MS.putF_outOff {w : World} {C : Nat} {c : Array Value} {v : V} {B : VB} {m : Mc} (h : MS w C c v B m) {t : Nat} {f : Fm} (hf : m.frames[t]? = some f) (x : Int) (hx : 0 ≤ x ∧ x ≤ 4294967295) :
    MS (setB w C (.cells (c.setIfInBounds (1803 + t * 65 + 63) (.int .u32 x)) 86 (0, 0))) C (c.setIfInBounds (1803 + t * 65 + 63) (.int .u32 x)) v B { m with frames := m.frames.set t { f with outOff := x } } ∧ MStep w (setB w C (.cells (c.setIfInBounds (1803 + t * 65 + 63) (.int .u32 x)) 86 (0, 0))) C B m B { m with frames := m.frames.set t { f with outOff := x } } := by
  obtain ⟨htl, hty, _⟩ := h.openF hf
  have hc := h.code f (List.mem_of_getElem? hf)
  have h1 := hty.self.1
  have h2 := hty.caller.1
  have h3 := hty.value.1
  have h4 := hty.dests.1
  refine h.putG (i := 1803 + t * 65 + 63) (vs := [.int .u32 x]) (by simp; omega) (h.rep.set_frames h.ty h.sz (k := 63) (vs := [.int .u32 x]) hf (by simp) ?_) { h.ty with frames := ⟨by simp [h.ty.frames.1], mem_set h.ty.frames.2 { hty with outOff := hx }⟩ } rfl rfl (mem_set h.code hc) h.ret
  exact put_mid (P := (encF f).take 63) (M := [.int .u32 f.outOff]) (M' := [.int .u32 x]) (S := (encF f).drop 64) (by simp [encF, h1, h2, h3, h4, List.take_append, List.drop_append, List.take_of_length_le, List.drop_eq_nil_of_le]) (by simp [encF, h1, h2, h3, h4, List.take_append, List.drop_append, List.take_of_length_le, List.drop_eq_nil_of_le]) (by simp [encF, h1, h2, h3, h4]) (by simp) _
theorem MS.putF_outLen {w : World} {C : Nat} {c : Array Value} {v : V} {B : VB} {m : Mc} (h : MS w C c v B m) {t : Nat} {f : Fm} (hf : m.frames[t]? = some f) (x : Int) (hx : 0 ≤ x ∧ x ≤ 4294967295) :
    MS (setB w C (.cells (c.setIfInBounds (1803 + t * 65 + 64) (.int .u32 x)) 86 (0, 0))) C (c.setIfInBounds (1803 + t * 65 + 64) (.int .u32 x)) v B { m with frames := m.frames.set t { f with outLen := x } } ∧ MStep w (setB w C (.cells (c.setIfInBounds (1803 + t * 65 + 64) (.int .u32 x)) 86 (0, 0))) C B m B { m with frames := m.frames.set t { f with outLen := x } } := by
  obtain ⟨htl, hty, _⟩ := h.openF hf
  have hc := h.code f (List.mem_of_getElem? hf)
  have h1 := hty.self.1
  have h2 := hty.caller.1
  have h3 := hty.value.1
  have h4 := hty.dests.1
  refine h.putG (i := 1803 + t * 65 + 64) (vs := [.int .u32 x]) (by simp; omega) (h.rep.set_frames h.ty h.sz (k := 64) (vs := [.int .u32 x]) hf (by simp) ?_) { h.ty with frames := ⟨by simp [h.ty.frames.1], mem_set h.ty.frames.2 { hty with outLen := hx }⟩ } rfl rfl (mem_set h.code hc) h.ret
  exact put_mid (P := (encF f).take 64) (M := [.int .u32 f.outLen]) (M' := [.int .u32 x]) (S := (encF f).drop 65) (by simp [encF, h1, h2, h3, h4, List.take_append, List.drop_append, List.take_of_length_le, List.drop_eq_nil_of_le]) (by simp [encF, h1, h2, h3, h4, List.take_append, List.drop_append, List.take_of_length_le, List.drop_eq_nil_of_le]) (by simp [encF, h1, h2, h3, h4]) (by simp) _
theorem MS.put_frame {w : World} {C : Nat} {c : Array Value} {v : V} {B : VB} {m : Mc} (h : MS w C c v B m) {t : Nat} {f : Fm} (hf : m.frames[t]? = some f) (x : Fm) (hx : FmTy x) (hc : BX w (bb m) x.code x.cb ∧ BS w (bb m) x.inputY) :
    MS (setB w C (.cells (splice c (1803 + t * 65) (Value.agg (encF x).toArray).cells.toList) 86 (0, 0))) C (splice c (1803 + t * 65) (Value.agg (encF x).toArray).cells.toList) v B { m with frames := m.frames.set t x } ∧ MStep w (setB w C (.cells (splice c (1803 + t * 65) (Value.agg (encF x).toArray).cells.toList) 86 (0, 0))) C B m B { m with frames := m.frames.set t x } := by
  obtain ⟨htl, hty, _⟩ := h.openF hf
  have hl := encF_len hx
  refine h.putG (i := 1803 + t * 65 + 0) (vs := encF x) (by rw [hl]; omega) (h.rep.set_frames h.ty h.sz (k := 0) (vs := encF x) hf (by rw [hl]; omega) (fun j hj => by rw [if_pos (by rw [hl]; omega)]; rfl)) { h.ty with frames := ⟨by simp [h.ty.frames.1], mem_set h.ty.frames.2 hx⟩ } rfl rfl (mem_set h.code hc) h.ret
theorem MS.openW {w : World} {C : Nat} {c : Array Value} {v : V} {B : VB} {m : Mc} (h : MS w C c v B m) {i : Nat} {x : List Int} (hi : m.stack[i]? = some x) : Xt c (11 + i * 4) (11 + i * 4 + 4) (ic .u64 x) ∧ Wd x ∧ i < 448 := by
  have hty := h.ty.stack.2 x (List.mem_of_getElem? hi)
  exact ⟨h.rep.stack.ext hi (k := 0) (n := 4) (by decide) (vs := x.map (Value.int .u64)) (by rw [List.drop_zero, encW, List.take_of_length_le (by simp [hty.1])]) (by simp [encW, hty.1]), hty, by have := lt_of_getElem? hi; rw [h.ty.stack.1] at this; exact this⟩
theorem MS.openB {w : World} {C : Nat} {c : Array Value} {v : V} {B : VB} {m : Mc} (h : MS w C c v B m) {i : Nat} {x : Int} (hi : m.base[i]? = some x) : Ce c (2 + i * 1) (.int .u32 x) ∧ (0 ≤ x ∧ x ≤ 4294967295) :=
  ⟨h.rep.base.get hi (k := 0) (by decide) rfl, h.ty.base.2 x (List.mem_of_getElem? hi)⟩
end Go.Proofs.YgvadwGreat
