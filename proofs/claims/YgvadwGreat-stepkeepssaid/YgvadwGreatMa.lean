import Derived.Test.YgvadwGreatWf
import Derived.Test.YgvadwGreatVf
namespace Go.Proofs.YgvadwGreat
set_option linter.unusedSimpArgs false
set_option linter.unusedVariables false
/-! the machine's content -/
structure Fm where
  kind : Int
  depth : Int
  ntv : Int
  static : Bool
  pc : Int
  sbase : Int
  sp : Int
  gas : Int
  snap : Int
  self : List Int
  caller : List Int
  value : List Int
  code : SV
  inputY : SV
  dests : List Int
  outOff : Int
  outLen : Int
  cb : List Int
def encF (f : Fm) : List Value :=
  .int .u8 f.kind :: .int .u8 f.depth :: .int .u8 f.ntv :: .bool f.static :: .int .u16 f.pc :: .int .u16 f.sbase :: .int .u16 f.sp :: .int .u64 f.gas :: .int .i32 f.snap ::
    (f.self.map (Value.int .u8) ++ (f.caller.map (Value.int .u8) ++ (f.value.map (Value.int .u64) ++ (sv f.code :: sv f.inputY :: (f.dests.map (Value.int .u64) ++ [.int .u32 f.outOff, .int .u32 f.outLen])))))
def encU32 (x : Int) : List Value := [.int .u32 x]
def encW (x : List Int) : List Value := x.map (Value.int .u64)
structure FmTy (f : Fm) : Prop where
  kind : 0 ≤ f.kind ∧ f.kind ≤ 255
  depth : 0 ≤ f.depth ∧ f.depth ≤ 255
  ntv : 0 ≤ f.ntv ∧ f.ntv ≤ 255
  pc : 0 ≤ f.pc ∧ f.pc ≤ 65535
  sbase : 0 ≤ f.sbase ∧ f.sbase ≤ 65535
  sp : 0 ≤ f.sp ∧ f.sp ≤ 65535
  gas : 0 ≤ f.gas ∧ f.gas ≤ 18446744073709551615
  snap : I32 f.snap
  self : By f.self 20
  caller : By f.caller 20
  value : Wd f.value
  dests : f.dests.length = 8 ∧ ∀ x ∈ f.dests, 0 ≤ x ∧ x ≤ 18446744073709551615
  outOff : 0 ≤ f.outOff ∧ f.outOff ≤ 4294967295
  outLen : 0 ≤ f.outLen ∧ f.outLen ≤ 4294967295
theorem encF_len {f : Fm} (h : FmTy f) : (encF f).length = 65 := by simp [encF, h.self.1, h.caller.1, h.value.1, h.dests.1]
structure Mc where
  buf : SV
  base : List Int
  mtop : Int
  stack : List (List Int)
  frames : List Fm
  top : Int
  ret : SV
  ecb : List Int
  enum : Int
  etime : Int
  eglim : Int
  erand : List Int
  ecid : List Int
  ebfee : List Int
  ehash : SV
  origin : List Int
  price : List Int
  phase : Int
  status : Int
  applied : Int
  limit : Int
  txgas : Int
  held : List Int
  a0 : Int
  s0 : Int
  made : List Int
structure MTy (m : Mc) : Prop where
  base : m.base.length = 8 ∧ ∀ x ∈ m.base, 0 ≤ x ∧ x ≤ 4294967295
  mtop : 0 ≤ m.mtop ∧ m.mtop ≤ 255
  stack : m.stack.length = 448 ∧ ∀ x ∈ m.stack, Wd x
  frames : m.frames.length = 7 ∧ ∀ f ∈ m.frames, FmTy f
  top : -128 ≤ m.top ∧ m.top ≤ 127
  ecb : By m.ecb 20
  enum : 0 ≤ m.enum ∧ m.enum ≤ 18446744073709551615
  etime : 0 ≤ m.etime ∧ m.etime ≤ 18446744073709551615
  eglim : 0 ≤ m.eglim ∧ m.eglim ≤ 18446744073709551615
  erand : By m.erand 32
  ecid : By m.ecid 32
  ebfee : By m.ebfee 32
  origin : By m.origin 20
  price : Wd m.price
  phase : 0 ≤ m.phase ∧ m.phase ≤ 255
  status : 0 ≤ m.status ∧ m.status ≤ 255
  applied : 0 ≤ m.applied ∧ m.applied ≤ 255
  limit : 0 ≤ m.limit ∧ m.limit ≤ 18446744073709551615
  txgas : 0 ≤ m.txgas ∧ m.txgas ≤ 18446744073709551615
  held : Wd m.held
  a0 : I32 m.a0
  s0 : I32 m.s0
  made : By m.made 20
/-- the tree's cells while it is not built -/
def treeZero : List Value := [.slice none 0 0, .int .i32 0, .int .i32 0, .slice none 0 0, .bool false]
theorem ext_same {c c' : Array Value} {i j : Nat} (hs : c'.size = c.size) (h : ∀ k, i ≤ k → k < j → c'[k]? = c[k]?) : c'.extract i j = c.extract i j := by
  refine Array.ext_getElem? fun x => ?_
  rw [Array.getElem?_extract, Array.getElem?_extract, hs]
  split
  · exact h _ (by omega) (by omega)
  · rfl
/-- The machine's cells within the chain's block. -/
structure MRep (C : Nat) (c : Array Value) (m : Mc) : Prop where
  s : Ce c 0 (.pointer (some ⟨C, 2435, none⟩))
  buf : Ce c 1 (.slice m.buf.1 m.buf.2.1 m.buf.2.2)
  base : RowL encU32 1 2 c m.base
  mtop : Ce c 10 (.int .u8 m.mtop)
  stack : RowL encW 4 11 c m.stack
  frames : RowL encF 65 1803 c m.frames
  top : Ce c 2258 (.int .i8 m.top)
  ret : Ce c 2259 (.slice m.ret.1 m.ret.2.1 m.ret.2.2)
  ecb : Xt c 2260 (2260 + 20) (ic .u8 m.ecb)
  enum : Ce c 2280 (.int .u64 m.enum)
  etime : Ce c 2281 (.int .u64 m.etime)
  eglim : Ce c 2282 (.int .u64 m.eglim)
  erand : Xt c 2283 (2283 + 32) (ic .u8 m.erand)
  ecid : Xt c 2315 (2315 + 32) (ic .u8 m.ecid)
  ebfee : Xt c 2347 (2347 + 32) (ic .u8 m.ebfee)
  ehash : Ce c 2379 (.slice m.ehash.1 m.ehash.2.1 m.ehash.2.2)
  origin : Xt c 2380 (2380 + 20) (ic .u8 m.origin)
  price : Xt c 2400 (2400 + 4) (ic .u64 m.price)
  phase : Ce c 2404 (.int .u8 m.phase)
  status : Ce c 2405 (.int .u8 m.status)
  applied : Ce c 2406 (.int .u8 m.applied)
  limit : Ce c 2407 (.int .u64 m.limit)
  txgas : Ce c 2408 (.int .u64 m.txgas)
  held : Xt c 2409 (2409 + 4) (ic .u64 m.held)
  a0 : Ce c 2413 (.int .i32 m.a0)
  s0 : Ce c 2414 (.int .i32 m.s0)
  made : Xt c 2415 (2415 + 20) (ic .u8 m.made)
  tree : ∀ i, 27019 ≤ i → i < 27024 → c[i]? = (treeZero[i - 27019]?)
theorem Ce.splice_ne {c : Array Value} {i j : Nat} {vs : List Value} {u : Value} (h : Ce c j u) (hs : i + vs.length ≤ c.size) (hne : j < i ∨ i + vs.length ≤ j) : Ce (splice c i vs) j u := ⟨by rw [splice_get _ _ _ _ hs, if_neg (by omega)]; exact h.h⟩
theorem Ce.splice_one {c : Array Value} {i : Nat} {u : Value} (hs : i < c.size) : Ce (splice c i [u]) i u := ⟨by rw [splice_get _ _ _ _ (by simp; omega), if_pos ⟨Nat.le_refl _, by simp⟩]; simp⟩
theorem Xt.splice_ne {c : Array Value} {i j k : Nat} {vs : List Value} {u : Array Value} (h : Xt c j (j + k) u) (hs : i + vs.length ≤ c.size) (hne : j + k ≤ i ∨ i + vs.length ≤ j) : Xt (splice c i vs) j (j + k) u := ⟨by
  rw [← h.h]
  refine Array.ext_getElem? fun x => ?_
  rw [Array.getElem?_extract, Array.getElem?_extract, size_splice]
  split
  · rw [splice_get _ _ _ _ hs, if_neg (by omega)]
  · rfl⟩
theorem Xt.splice_same {c : Array Value} {i : Nat} {vs : List Value} (hs : i + vs.length ≤ c.size) : Xt (splice c i vs) i (i + vs.length) vs.toArray := ⟨by
  refine Array.ext_getElem? fun x => ?_
  rw [Array.getElem?_extract, size_splice]
  split
  · rw [splice_get _ _ _ _ hs, if_pos (by omega)]; simp
  · rw [Array.getElem?_eq_none (by simp; omega)]⟩
theorem RowL.splice_ne {α : Type} {enc : α → List Value} {sz o i n : Nat} {c : Array Value} {l : List α} {vs : List Value} (h : RowL enc sz o c l) (hl : l.length = n) (hs : i + vs.length ≤ c.size) (hne : o + sz * n ≤ i ∨ i + vs.length ≤ o) : RowL enc sz o (splice c i vs) l :=
  h.off (size_splice _ _ _) (fun j h1 h2 => by rw [hl] at h2; rw [splice_get _ _ _ _ hs, if_neg (by omega)])
theorem VRep.splice {c : Array Value} {v : V} {B : VB} (h : VRep c v B) {i : Nat} {vs : List Value} (hs : i + vs.length ≤ 2435) : VRep (splice c i vs) v B := by
  have hz := h.size
  have hs' : i + vs.length ≤ c.size := by omega
  exact ⟨by rw [size_splice]; exact hz, h.accts.splice_ne hs' (by omega), h.slots.splice_ne hs' (by omega), fun k hk => (h.atab k hk).splice_ne hs' (by omega), fun k hk => (h.stab k hk).splice_ne hs' (by omega), h.journal.splice_ne hs' (by omega), fun k hk => (h.marks k hk).splice_ne hs' (by omega), h.nmarks.splice_ne hs' (by omega), h.ref.splice_ne hs' (by omega), h.logs.splice_ne hs' (by omega), h.temps.splice_ne hs' (by omega), h.ttab.splice_ne hs' (by omega)⟩
theorem VS.splice {w : World} {C : Nat} {c : Array Value} {v : V} {B : VB} {β : Option Nat} (hv : VS w C c v B β) {i : Nat} {vs : List Value} (hs : i + vs.length ≤ 2435) : VS (setB w C (.cells (splice c i vs) 86 (0, 0))) C (splice c i vs) v B β :=
  ⟨Hb.setSame hv.blk, hv.rep.splice hs, { accts := hv.rows.accts.kt (KT.setB hv.blk (by decide)), slots := hv.rows.slots.kt (KT.setB hv.blk (by decide)), journal := hv.rows.journal.kt (KT.setB hv.blk (by decide)), logs := hv.rows.logs.kt (KT.setB hv.blk (by decide)), temps := hv.rows.temps.kt (KT.setB hv.blk (by decide)), ttab := hv.rows.ttab.kt (KT.setB hv.blk (by decide)) }, hv.ty, fun x hx => (hv.codes x hx).kt (KT.setB hv.blk (by decide)), fun x hx => (hv.olds x hx).kt (KT.setB hv.blk (by decide))⟩
/-- Cells outside the machine may turn. -/
theorem MRep.out {C : Nat} {c c' : Array Value} {m : Mc} (h : MRep C c m) (ht : MTy m) (hs : c'.size = c.size) (ho : ∀ i, i < 2435 ∨ 27019 ≤ i → c'[i]? = c[i]?) : MRep C c' m where
  s := ⟨(ho _ (by omega)).trans h.s.h⟩
  buf := ⟨(ho _ (by omega)).trans h.buf.h⟩
  base := h.base.off hs (fun j h1 h2 => ho j (by rw [ht.base.1] at h2; omega))
  mtop := ⟨(ho _ (by omega)).trans h.mtop.h⟩
  stack := h.stack.off hs (fun j h1 h2 => ho j (by rw [ht.stack.1] at h2; omega))
  frames := h.frames.off hs (fun j h1 h2 => ho j (by rw [ht.frames.1] at h2; omega))
  top := ⟨(ho _ (by omega)).trans h.top.h⟩
  ret := ⟨(ho _ (by omega)).trans h.ret.h⟩
  ecb := ⟨by rw [← h.ecb.h]; exact ext_same hs (fun i h1 h2 => ho i (by omega))⟩
  enum := ⟨(ho _ (by omega)).trans h.enum.h⟩
  etime := ⟨(ho _ (by omega)).trans h.etime.h⟩
  eglim := ⟨(ho _ (by omega)).trans h.eglim.h⟩
  erand := ⟨by rw [← h.erand.h]; exact ext_same hs (fun i h1 h2 => ho i (by omega))⟩
  ecid := ⟨by rw [← h.ecid.h]; exact ext_same hs (fun i h1 h2 => ho i (by omega))⟩
  ebfee := ⟨by rw [← h.ebfee.h]; exact ext_same hs (fun i h1 h2 => ho i (by omega))⟩
  ehash := ⟨(ho _ (by omega)).trans h.ehash.h⟩
  origin := ⟨by rw [← h.origin.h]; exact ext_same hs (fun i h1 h2 => ho i (by omega))⟩
  price := ⟨by rw [← h.price.h]; exact ext_same hs (fun i h1 h2 => ho i (by omega))⟩
  phase := ⟨(ho _ (by omega)).trans h.phase.h⟩
  status := ⟨(ho _ (by omega)).trans h.status.h⟩
  applied := ⟨(ho _ (by omega)).trans h.applied.h⟩
  limit := ⟨(ho _ (by omega)).trans h.limit.h⟩
  txgas := ⟨(ho _ (by omega)).trans h.txgas.h⟩
  held := ⟨by rw [← h.held.h]; exact ext_same hs (fun i h1 h2 => ho i (by omega))⟩
  a0 := ⟨(ho _ (by omega)).trans h.a0.h⟩
  s0 := ⟨(ho _ (by omega)).trans h.s0.h⟩
  made := ⟨by rw [← h.made.h]; exact ext_same hs (fun i h1 h2 => ho i (by omega))⟩
  tree := fun i h1 h2 => (ho i (by omega)).trans (h.tree i h1 h2)
theorem MRep.set_buf {C : Nat} {c : Array Value} {m : Mc} (h : MRep C c m) (ht : MTy m) (hz : c.size = 27024) (x : SV) : MRep C (splice c 1 [(.slice x.1 x.2.1 x.2.2)]) { m with buf := x } where
  s := h.s.splice_ne (by simp; omega) (by first | exact Or.inl (by omega) | exact Or.inr (by simp))
  buf := Ce.splice_one (by omega)
  base := h.base.splice_ne ht.base.1 (by simp; omega) (by first | exact Or.inl (by omega) | exact Or.inr (by simp))
  mtop := h.mtop.splice_ne (by simp; omega) (by first | exact Or.inl (by omega) | exact Or.inr (by simp))
  stack := h.stack.splice_ne ht.stack.1 (by simp; omega) (by first | exact Or.inl (by omega) | exact Or.inr (by simp))
  frames := h.frames.splice_ne ht.frames.1 (by simp; omega) (by first | exact Or.inl (by omega) | exact Or.inr (by simp))
  top := h.top.splice_ne (by simp; omega) (by first | exact Or.inl (by omega) | exact Or.inr (by simp))
  ret := h.ret.splice_ne (by simp; omega) (by first | exact Or.inl (by omega) | exact Or.inr (by simp))
  ecb := h.ecb.splice_ne (by simp; omega) (by first | exact Or.inl (by omega) | exact Or.inr (by simp))
  enum := h.enum.splice_ne (by simp; omega) (by first | exact Or.inl (by omega) | exact Or.inr (by simp))
  etime := h.etime.splice_ne (by simp; omega) (by first | exact Or.inl (by omega) | exact Or.inr (by simp))
  eglim := h.eglim.splice_ne (by simp; omega) (by first | exact Or.inl (by omega) | exact Or.inr (by simp))
  erand := h.erand.splice_ne (by simp; omega) (by first | exact Or.inl (by omega) | exact Or.inr (by simp))
  ecid := h.ecid.splice_ne (by simp; omega) (by first | exact Or.inl (by omega) | exact Or.inr (by simp))
  ebfee := h.ebfee.splice_ne (by simp; omega) (by first | exact Or.inl (by omega) | exact Or.inr (by simp))
  ehash := h.ehash.splice_ne (by simp; omega) (by first | exact Or.inl (by omega) | exact Or.inr (by simp))
  origin := h.origin.splice_ne (by simp; omega) (by first | exact Or.inl (by omega) | exact Or.inr (by simp))
  price := h.price.splice_ne (by simp; omega) (by first | exact Or.inl (by omega) | exact Or.inr (by simp))
  phase := h.phase.splice_ne (by simp; omega) (by first | exact Or.inl (by omega) | exact Or.inr (by simp))
  status := h.status.splice_ne (by simp; omega) (by first | exact Or.inl (by omega) | exact Or.inr (by simp))
  applied := h.applied.splice_ne (by simp; omega) (by first | exact Or.inl (by omega) | exact Or.inr (by simp))
  limit := h.limit.splice_ne (by simp; omega) (by first | exact Or.inl (by omega) | exact Or.inr (by simp))
  txgas := h.txgas.splice_ne (by simp; omega) (by first | exact Or.inl (by omega) | exact Or.inr (by simp))
  held := h.held.splice_ne (by simp; omega) (by first | exact Or.inl (by omega) | exact Or.inr (by simp))
  a0 := h.a0.splice_ne (by simp; omega) (by first | exact Or.inl (by omega) | exact Or.inr (by simp))
  s0 := h.s0.splice_ne (by simp; omega) (by first | exact Or.inl (by omega) | exact Or.inr (by simp))
  made := h.made.splice_ne (by simp; omega) (by first | exact Or.inl (by omega) | exact Or.inr (by simp))
  tree := fun i h1 h2 => by rw [splice_get _ _ _ _ (by simp; omega), if_neg (by simp; omega)]; exact h.tree i h1 h2
theorem MRep.set_mtop {C : Nat} {c : Array Value} {m : Mc} (h : MRep C c m) (ht : MTy m) (hz : c.size = 27024) (x : Int) : MRep C (splice c 10 [(.int .u8 x)]) { m with mtop := x } where
  s := h.s.splice_ne (by simp; omega) (by first | exact Or.inl (by omega) | exact Or.inr (by simp))
  buf := h.buf.splice_ne (by simp; omega) (by first | exact Or.inl (by omega) | exact Or.inr (by simp))
  base := h.base.splice_ne ht.base.1 (by simp; omega) (by first | exact Or.inl (by omega) | exact Or.inr (by simp))
  mtop := Ce.splice_one (by omega)
  stack := h.stack.splice_ne ht.stack.1 (by simp; omega) (by first | exact Or.inl (by omega) | exact Or.inr (by simp))
  frames := h.frames.splice_ne ht.frames.1 (by simp; omega) (by first | exact Or.inl (by omega) | exact Or.inr (by simp))
  top := h.top.splice_ne (by simp; omega) (by first | exact Or.inl (by omega) | exact Or.inr (by simp))
  ret := h.ret.splice_ne (by simp; omega) (by first | exact Or.inl (by omega) | exact Or.inr (by simp))
  ecb := h.ecb.splice_ne (by simp; omega) (by first | exact Or.inl (by omega) | exact Or.inr (by simp))
  enum := h.enum.splice_ne (by simp; omega) (by first | exact Or.inl (by omega) | exact Or.inr (by simp))
  etime := h.etime.splice_ne (by simp; omega) (by first | exact Or.inl (by omega) | exact Or.inr (by simp))
  eglim := h.eglim.splice_ne (by simp; omega) (by first | exact Or.inl (by omega) | exact Or.inr (by simp))
  erand := h.erand.splice_ne (by simp; omega) (by first | exact Or.inl (by omega) | exact Or.inr (by simp))
  ecid := h.ecid.splice_ne (by simp; omega) (by first | exact Or.inl (by omega) | exact Or.inr (by simp))
  ebfee := h.ebfee.splice_ne (by simp; omega) (by first | exact Or.inl (by omega) | exact Or.inr (by simp))
  ehash := h.ehash.splice_ne (by simp; omega) (by first | exact Or.inl (by omega) | exact Or.inr (by simp))
  origin := h.origin.splice_ne (by simp; omega) (by first | exact Or.inl (by omega) | exact Or.inr (by simp))
  price := h.price.splice_ne (by simp; omega) (by first | exact Or.inl (by omega) | exact Or.inr (by simp))
  phase := h.phase.splice_ne (by simp; omega) (by first | exact Or.inl (by omega) | exact Or.inr (by simp))
  status := h.status.splice_ne (by simp; omega) (by first | exact Or.inl (by omega) | exact Or.inr (by simp))
  applied := h.applied.splice_ne (by simp; omega) (by first | exact Or.inl (by omega) | exact Or.inr (by simp))
  limit := h.limit.splice_ne (by simp; omega) (by first | exact Or.inl (by omega) | exact Or.inr (by simp))
  txgas := h.txgas.splice_ne (by simp; omega) (by first | exact Or.inl (by omega) | exact Or.inr (by simp))
  held := h.held.splice_ne (by simp; omega) (by first | exact Or.inl (by omega) | exact Or.inr (by simp))
  a0 := h.a0.splice_ne (by simp; omega) (by first | exact Or.inl (by omega) | exact Or.inr (by simp))
  s0 := h.s0.splice_ne (by simp; omega) (by first | exact Or.inl (by omega) | exact Or.inr (by simp))
  made := h.made.splice_ne (by simp; omega) (by first | exact Or.inl (by omega) | exact Or.inr (by simp))
  tree := fun i h1 h2 => by rw [splice_get _ _ _ _ (by simp; omega), if_neg (by simp; omega)]; exact h.tree i h1 h2
theorem MRep.set_top {C : Nat} {c : Array Value} {m : Mc} (h : MRep C c m) (ht : MTy m) (hz : c.size = 27024) (x : Int) : MRep C (splice c 2258 [(.int .i8 x)]) { m with top := x } where
  s := h.s.splice_ne (by simp; omega) (by first | exact Or.inl (by omega) | exact Or.inr (by simp))
  buf := h.buf.splice_ne (by simp; omega) (by first | exact Or.inl (by omega) | exact Or.inr (by simp))
  base := h.base.splice_ne ht.base.1 (by simp; omega) (by first | exact Or.inl (by omega) | exact Or.inr (by simp))
  mtop := h.mtop.splice_ne (by simp; omega) (by first | exact Or.inl (by omega) | exact Or.inr (by simp))
  stack := h.stack.splice_ne ht.stack.1 (by simp; omega) (by first | exact Or.inl (by omega) | exact Or.inr (by simp))
  frames := h.frames.splice_ne ht.frames.1 (by simp; omega) (by first | exact Or.inl (by omega) | exact Or.inr (by simp))
  top := Ce.splice_one (by omega)
  ret := h.ret.splice_ne (by simp; omega) (by first | exact Or.inl (by omega) | exact Or.inr (by simp))
  ecb := h.ecb.splice_ne (by simp; omega) (by first | exact Or.inl (by omega) | exact Or.inr (by simp))
  enum := h.enum.splice_ne (by simp; omega) (by first | exact Or.inl (by omega) | exact Or.inr (by simp))
  etime := h.etime.splice_ne (by simp; omega) (by first | exact Or.inl (by omega) | exact Or.inr (by simp))
  eglim := h.eglim.splice_ne (by simp; omega) (by first | exact Or.inl (by omega) | exact Or.inr (by simp))
  erand := h.erand.splice_ne (by simp; omega) (by first | exact Or.inl (by omega) | exact Or.inr (by simp))
  ecid := h.ecid.splice_ne (by simp; omega) (by first | exact Or.inl (by omega) | exact Or.inr (by simp))
  ebfee := h.ebfee.splice_ne (by simp; omega) (by first | exact Or.inl (by omega) | exact Or.inr (by simp))
  ehash := h.ehash.splice_ne (by simp; omega) (by first | exact Or.inl (by omega) | exact Or.inr (by simp))
  origin := h.origin.splice_ne (by simp; omega) (by first | exact Or.inl (by omega) | exact Or.inr (by simp))
  price := h.price.splice_ne (by simp; omega) (by first | exact Or.inl (by omega) | exact Or.inr (by simp))
  phase := h.phase.splice_ne (by simp; omega) (by first | exact Or.inl (by omega) | exact Or.inr (by simp))
  status := h.status.splice_ne (by simp; omega) (by first | exact Or.inl (by omega) | exact Or.inr (by simp))
  applied := h.applied.splice_ne (by simp; omega) (by first | exact Or.inl (by omega) | exact Or.inr (by simp))
  limit := h.limit.splice_ne (by simp; omega) (by first | exact Or.inl (by omega) | exact Or.inr (by simp))
  txgas := h.txgas.splice_ne (by simp; omega) (by first | exact Or.inl (by omega) | exact Or.inr (by simp))
  held := h.held.splice_ne (by simp; omega) (by first | exact Or.inl (by omega) | exact Or.inr (by simp))
  a0 := h.a0.splice_ne (by simp; omega) (by first | exact Or.inl (by omega) | exact Or.inr (by simp))
  s0 := h.s0.splice_ne (by simp; omega) (by first | exact Or.inl (by omega) | exact Or.inr (by simp))
  made := h.made.splice_ne (by simp; omega) (by first | exact Or.inl (by omega) | exact Or.inr (by simp))
  tree := fun i h1 h2 => by rw [splice_get _ _ _ _ (by simp; omega), if_neg (by simp; omega)]; exact h.tree i h1 h2
theorem MRep.set_ret {C : Nat} {c : Array Value} {m : Mc} (h : MRep C c m) (ht : MTy m) (hz : c.size = 27024) (x : SV) : MRep C (splice c 2259 [(.slice x.1 x.2.1 x.2.2)]) { m with ret := x } where
  s := h.s.splice_ne (by simp; omega) (by first | exact Or.inl (by omega) | exact Or.inr (by simp))
  buf := h.buf.splice_ne (by simp; omega) (by first | exact Or.inl (by omega) | exact Or.inr (by simp))
  base := h.base.splice_ne ht.base.1 (by simp; omega) (by first | exact Or.inl (by omega) | exact Or.inr (by simp))
  mtop := h.mtop.splice_ne (by simp; omega) (by first | exact Or.inl (by omega) | exact Or.inr (by simp))
  stack := h.stack.splice_ne ht.stack.1 (by simp; omega) (by first | exact Or.inl (by omega) | exact Or.inr (by simp))
  frames := h.frames.splice_ne ht.frames.1 (by simp; omega) (by first | exact Or.inl (by omega) | exact Or.inr (by simp))
  top := h.top.splice_ne (by simp; omega) (by first | exact Or.inl (by omega) | exact Or.inr (by simp))
  ret := Ce.splice_one (by omega)
  ecb := h.ecb.splice_ne (by simp; omega) (by first | exact Or.inl (by omega) | exact Or.inr (by simp))
  enum := h.enum.splice_ne (by simp; omega) (by first | exact Or.inl (by omega) | exact Or.inr (by simp))
  etime := h.etime.splice_ne (by simp; omega) (by first | exact Or.inl (by omega) | exact Or.inr (by simp))
  eglim := h.eglim.splice_ne (by simp; omega) (by first | exact Or.inl (by omega) | exact Or.inr (by simp))
  erand := h.erand.splice_ne (by simp; omega) (by first | exact Or.inl (by omega) | exact Or.inr (by simp))
  ecid := h.ecid.splice_ne (by simp; omega) (by first | exact Or.inl (by omega) | exact Or.inr (by simp))
  ebfee := h.ebfee.splice_ne (by simp; omega) (by first | exact Or.inl (by omega) | exact Or.inr (by simp))
  ehash := h.ehash.splice_ne (by simp; omega) (by first | exact Or.inl (by omega) | exact Or.inr (by simp))
  origin := h.origin.splice_ne (by simp; omega) (by first | exact Or.inl (by omega) | exact Or.inr (by simp))
  price := h.price.splice_ne (by simp; omega) (by first | exact Or.inl (by omega) | exact Or.inr (by simp))
  phase := h.phase.splice_ne (by simp; omega) (by first | exact Or.inl (by omega) | exact Or.inr (by simp))
  status := h.status.splice_ne (by simp; omega) (by first | exact Or.inl (by omega) | exact Or.inr (by simp))
  applied := h.applied.splice_ne (by simp; omega) (by first | exact Or.inl (by omega) | exact Or.inr (by simp))
  limit := h.limit.splice_ne (by simp; omega) (by first | exact Or.inl (by omega) | exact Or.inr (by simp))
  txgas := h.txgas.splice_ne (by simp; omega) (by first | exact Or.inl (by omega) | exact Or.inr (by simp))
  held := h.held.splice_ne (by simp; omega) (by first | exact Or.inl (by omega) | exact Or.inr (by simp))
  a0 := h.a0.splice_ne (by simp; omega) (by first | exact Or.inl (by omega) | exact Or.inr (by simp))
  s0 := h.s0.splice_ne (by simp; omega) (by first | exact Or.inl (by omega) | exact Or.inr (by simp))
  made := h.made.splice_ne (by simp; omega) (by first | exact Or.inl (by omega) | exact Or.inr (by simp))
  tree := fun i h1 h2 => by rw [splice_get _ _ _ _ (by simp; omega), if_neg (by simp; omega)]; exact h.tree i h1 h2
theorem MRep.set_origin {C : Nat} {c : Array Value} {m : Mc} (h : MRep C c m) (ht : MTy m) (hz : c.size = 27024) (x : List Int) (hx : x.length = 20) : MRep C (splice c 2380 (x.map (Value.int .u8))) { m with origin := x } where
  s := h.s.splice_ne (by simp [hx]; omega) (by first | exact Or.inl (by omega) | exact Or.inr (by simp [hx]))
  buf := h.buf.splice_ne (by simp [hx]; omega) (by first | exact Or.inl (by omega) | exact Or.inr (by simp [hx]))
  base := h.base.splice_ne ht.base.1 (by simp [hx]; omega) (by first | exact Or.inl (by omega) | exact Or.inr (by simp [hx]))
  mtop := h.mtop.splice_ne (by simp [hx]; omega) (by first | exact Or.inl (by omega) | exact Or.inr (by simp [hx]))
  stack := h.stack.splice_ne ht.stack.1 (by simp [hx]; omega) (by first | exact Or.inl (by omega) | exact Or.inr (by simp [hx]))
  frames := h.frames.splice_ne ht.frames.1 (by simp [hx]; omega) (by first | exact Or.inl (by omega) | exact Or.inr (by simp [hx]))
  top := h.top.splice_ne (by simp [hx]; omega) (by first | exact Or.inl (by omega) | exact Or.inr (by simp [hx]))
  ret := h.ret.splice_ne (by simp [hx]; omega) (by first | exact Or.inl (by omega) | exact Or.inr (by simp [hx]))
  ecb := h.ecb.splice_ne (by simp [hx]; omega) (by first | exact Or.inl (by omega) | exact Or.inr (by simp [hx]))
  enum := h.enum.splice_ne (by simp [hx]; omega) (by first | exact Or.inl (by omega) | exact Or.inr (by simp [hx]))
  etime := h.etime.splice_ne (by simp [hx]; omega) (by first | exact Or.inl (by omega) | exact Or.inr (by simp [hx]))
  eglim := h.eglim.splice_ne (by simp [hx]; omega) (by first | exact Or.inl (by omega) | exact Or.inr (by simp [hx]))
  erand := h.erand.splice_ne (by simp [hx]; omega) (by first | exact Or.inl (by omega) | exact Or.inr (by simp [hx]))
  ecid := h.ecid.splice_ne (by simp [hx]; omega) (by first | exact Or.inl (by omega) | exact Or.inr (by simp [hx]))
  ebfee := h.ebfee.splice_ne (by simp [hx]; omega) (by first | exact Or.inl (by omega) | exact Or.inr (by simp [hx]))
  ehash := h.ehash.splice_ne (by simp [hx]; omega) (by first | exact Or.inl (by omega) | exact Or.inr (by simp [hx]))
  origin := by have := Xt.splice_same (c := c) (i := 2380) (vs := x.map (Value.int .u8)) (by simp [hx]; omega); simpa [hx, ic] using this
  price := h.price.splice_ne (by simp [hx]; omega) (by first | exact Or.inl (by omega) | exact Or.inr (by simp [hx]))
  phase := h.phase.splice_ne (by simp [hx]; omega) (by first | exact Or.inl (by omega) | exact Or.inr (by simp [hx]))
  status := h.status.splice_ne (by simp [hx]; omega) (by first | exact Or.inl (by omega) | exact Or.inr (by simp [hx]))
  applied := h.applied.splice_ne (by simp [hx]; omega) (by first | exact Or.inl (by omega) | exact Or.inr (by simp [hx]))
  limit := h.limit.splice_ne (by simp [hx]; omega) (by first | exact Or.inl (by omega) | exact Or.inr (by simp [hx]))
  txgas := h.txgas.splice_ne (by simp [hx]; omega) (by first | exact Or.inl (by omega) | exact Or.inr (by simp [hx]))
  held := h.held.splice_ne (by simp [hx]; omega) (by first | exact Or.inl (by omega) | exact Or.inr (by simp [hx]))
  a0 := h.a0.splice_ne (by simp [hx]; omega) (by first | exact Or.inl (by omega) | exact Or.inr (by simp [hx]))
  s0 := h.s0.splice_ne (by simp [hx]; omega) (by first | exact Or.inl (by omega) | exact Or.inr (by simp [hx]))
  made := h.made.splice_ne (by simp [hx]; omega) (by first | exact Or.inl (by omega) | exact Or.inr (by simp [hx]))
  tree := fun i h1 h2 => by rw [splice_get _ _ _ _ (by simp [hx]; omega), if_neg (by simp [hx]; omega)]; exact h.tree i h1 h2
theorem MRep.set_price {C : Nat} {c : Array Value} {m : Mc} (h : MRep C c m) (ht : MTy m) (hz : c.size = 27024) (x : List Int) (hx : x.length = 4) : MRep C (splice c 2400 (x.map (Value.int .u64))) { m with price := x } where
  s := h.s.splice_ne (by simp [hx]; omega) (by first | exact Or.inl (by omega) | exact Or.inr (by simp [hx]))
  buf := h.buf.splice_ne (by simp [hx]; omega) (by first | exact Or.inl (by omega) | exact Or.inr (by simp [hx]))
  base := h.base.splice_ne ht.base.1 (by simp [hx]; omega) (by first | exact Or.inl (by omega) | exact Or.inr (by simp [hx]))
  mtop := h.mtop.splice_ne (by simp [hx]; omega) (by first | exact Or.inl (by omega) | exact Or.inr (by simp [hx]))
  stack := h.stack.splice_ne ht.stack.1 (by simp [hx]; omega) (by first | exact Or.inl (by omega) | exact Or.inr (by simp [hx]))
  frames := h.frames.splice_ne ht.frames.1 (by simp [hx]; omega) (by first | exact Or.inl (by omega) | exact Or.inr (by simp [hx]))
  top := h.top.splice_ne (by simp [hx]; omega) (by first | exact Or.inl (by omega) | exact Or.inr (by simp [hx]))
  ret := h.ret.splice_ne (by simp [hx]; omega) (by first | exact Or.inl (by omega) | exact Or.inr (by simp [hx]))
  ecb := h.ecb.splice_ne (by simp [hx]; omega) (by first | exact Or.inl (by omega) | exact Or.inr (by simp [hx]))
  enum := h.enum.splice_ne (by simp [hx]; omega) (by first | exact Or.inl (by omega) | exact Or.inr (by simp [hx]))
  etime := h.etime.splice_ne (by simp [hx]; omega) (by first | exact Or.inl (by omega) | exact Or.inr (by simp [hx]))
  eglim := h.eglim.splice_ne (by simp [hx]; omega) (by first | exact Or.inl (by omega) | exact Or.inr (by simp [hx]))
  erand := h.erand.splice_ne (by simp [hx]; omega) (by first | exact Or.inl (by omega) | exact Or.inr (by simp [hx]))
  ecid := h.ecid.splice_ne (by simp [hx]; omega) (by first | exact Or.inl (by omega) | exact Or.inr (by simp [hx]))
  ebfee := h.ebfee.splice_ne (by simp [hx]; omega) (by first | exact Or.inl (by omega) | exact Or.inr (by simp [hx]))
  ehash := h.ehash.splice_ne (by simp [hx]; omega) (by first | exact Or.inl (by omega) | exact Or.inr (by simp [hx]))
  origin := h.origin.splice_ne (by simp [hx]; omega) (by first | exact Or.inl (by omega) | exact Or.inr (by simp [hx]))
  price := by have := Xt.splice_same (c := c) (i := 2400) (vs := x.map (Value.int .u64)) (by simp [hx]; omega); simpa [hx, ic] using this
  phase := h.phase.splice_ne (by simp [hx]; omega) (by first | exact Or.inl (by omega) | exact Or.inr (by simp [hx]))
  status := h.status.splice_ne (by simp [hx]; omega) (by first | exact Or.inl (by omega) | exact Or.inr (by simp [hx]))
  applied := h.applied.splice_ne (by simp [hx]; omega) (by first | exact Or.inl (by omega) | exact Or.inr (by simp [hx]))
  limit := h.limit.splice_ne (by simp [hx]; omega) (by first | exact Or.inl (by omega) | exact Or.inr (by simp [hx]))
  txgas := h.txgas.splice_ne (by simp [hx]; omega) (by first | exact Or.inl (by omega) | exact Or.inr (by simp [hx]))
  held := h.held.splice_ne (by simp [hx]; omega) (by first | exact Or.inl (by omega) | exact Or.inr (by simp [hx]))
  a0 := h.a0.splice_ne (by simp [hx]; omega) (by first | exact Or.inl (by omega) | exact Or.inr (by simp [hx]))
  s0 := h.s0.splice_ne (by simp [hx]; omega) (by first | exact Or.inl (by omega) | exact Or.inr (by simp [hx]))
  made := h.made.splice_ne (by simp [hx]; omega) (by first | exact Or.inl (by omega) | exact Or.inr (by simp [hx]))
  tree := fun i h1 h2 => by rw [splice_get _ _ _ _ (by simp [hx]; omega), if_neg (by simp [hx]; omega)]; exact h.tree i h1 h2
theorem MRep.set_phase {C : Nat} {c : Array Value} {m : Mc} (h : MRep C c m) (ht : MTy m) (hz : c.size = 27024) (x : Int) : MRep C (splice c 2404 [(.int .u8 x)]) { m with phase := x } where
  s := h.s.splice_ne (by simp; omega) (by first | exact Or.inl (by omega) | exact Or.inr (by simp))
  buf := h.buf.splice_ne (by simp; omega) (by first | exact Or.inl (by omega) | exact Or.inr (by simp))
  base := h.base.splice_ne ht.base.1 (by simp; omega) (by first | exact Or.inl (by omega) | exact Or.inr (by simp))
  mtop := h.mtop.splice_ne (by simp; omega) (by first | exact Or.inl (by omega) | exact Or.inr (by simp))
  stack := h.stack.splice_ne ht.stack.1 (by simp; omega) (by first | exact Or.inl (by omega) | exact Or.inr (by simp))
  frames := h.frames.splice_ne ht.frames.1 (by simp; omega) (by first | exact Or.inl (by omega) | exact Or.inr (by simp))
  top := h.top.splice_ne (by simp; omega) (by first | exact Or.inl (by omega) | exact Or.inr (by simp))
  ret := h.ret.splice_ne (by simp; omega) (by first | exact Or.inl (by omega) | exact Or.inr (by simp))
  ecb := h.ecb.splice_ne (by simp; omega) (by first | exact Or.inl (by omega) | exact Or.inr (by simp))
  enum := h.enum.splice_ne (by simp; omega) (by first | exact Or.inl (by omega) | exact Or.inr (by simp))
  etime := h.etime.splice_ne (by simp; omega) (by first | exact Or.inl (by omega) | exact Or.inr (by simp))
  eglim := h.eglim.splice_ne (by simp; omega) (by first | exact Or.inl (by omega) | exact Or.inr (by simp))
  erand := h.erand.splice_ne (by simp; omega) (by first | exact Or.inl (by omega) | exact Or.inr (by simp))
  ecid := h.ecid.splice_ne (by simp; omega) (by first | exact Or.inl (by omega) | exact Or.inr (by simp))
  ebfee := h.ebfee.splice_ne (by simp; omega) (by first | exact Or.inl (by omega) | exact Or.inr (by simp))
  ehash := h.ehash.splice_ne (by simp; omega) (by first | exact Or.inl (by omega) | exact Or.inr (by simp))
  origin := h.origin.splice_ne (by simp; omega) (by first | exact Or.inl (by omega) | exact Or.inr (by simp))
  price := h.price.splice_ne (by simp; omega) (by first | exact Or.inl (by omega) | exact Or.inr (by simp))
  phase := Ce.splice_one (by omega)
  status := h.status.splice_ne (by simp; omega) (by first | exact Or.inl (by omega) | exact Or.inr (by simp))
  applied := h.applied.splice_ne (by simp; omega) (by first | exact Or.inl (by omega) | exact Or.inr (by simp))
  limit := h.limit.splice_ne (by simp; omega) (by first | exact Or.inl (by omega) | exact Or.inr (by simp))
  txgas := h.txgas.splice_ne (by simp; omega) (by first | exact Or.inl (by omega) | exact Or.inr (by simp))
  held := h.held.splice_ne (by simp; omega) (by first | exact Or.inl (by omega) | exact Or.inr (by simp))
  a0 := h.a0.splice_ne (by simp; omega) (by first | exact Or.inl (by omega) | exact Or.inr (by simp))
  s0 := h.s0.splice_ne (by simp; omega) (by first | exact Or.inl (by omega) | exact Or.inr (by simp))
  made := h.made.splice_ne (by simp; omega) (by first | exact Or.inl (by omega) | exact Or.inr (by simp))
  tree := fun i h1 h2 => by rw [splice_get _ _ _ _ (by simp; omega), if_neg (by simp; omega)]; exact h.tree i h1 h2
theorem MRep.set_status {C : Nat} {c : Array Value} {m : Mc} (h : MRep C c m) (ht : MTy m) (hz : c.size = 27024) (x : Int) : MRep C (splice c 2405 [(.int .u8 x)]) { m with status := x } where
  s := h.s.splice_ne (by simp; omega) (by first | exact Or.inl (by omega) | exact Or.inr (by simp))
  buf := h.buf.splice_ne (by simp; omega) (by first | exact Or.inl (by omega) | exact Or.inr (by simp))
  base := h.base.splice_ne ht.base.1 (by simp; omega) (by first | exact Or.inl (by omega) | exact Or.inr (by simp))
  mtop := h.mtop.splice_ne (by simp; omega) (by first | exact Or.inl (by omega) | exact Or.inr (by simp))
  stack := h.stack.splice_ne ht.stack.1 (by simp; omega) (by first | exact Or.inl (by omega) | exact Or.inr (by simp))
  frames := h.frames.splice_ne ht.frames.1 (by simp; omega) (by first | exact Or.inl (by omega) | exact Or.inr (by simp))
  top := h.top.splice_ne (by simp; omega) (by first | exact Or.inl (by omega) | exact Or.inr (by simp))
  ret := h.ret.splice_ne (by simp; omega) (by first | exact Or.inl (by omega) | exact Or.inr (by simp))
  ecb := h.ecb.splice_ne (by simp; omega) (by first | exact Or.inl (by omega) | exact Or.inr (by simp))
  enum := h.enum.splice_ne (by simp; omega) (by first | exact Or.inl (by omega) | exact Or.inr (by simp))
  etime := h.etime.splice_ne (by simp; omega) (by first | exact Or.inl (by omega) | exact Or.inr (by simp))
  eglim := h.eglim.splice_ne (by simp; omega) (by first | exact Or.inl (by omega) | exact Or.inr (by simp))
  erand := h.erand.splice_ne (by simp; omega) (by first | exact Or.inl (by omega) | exact Or.inr (by simp))
  ecid := h.ecid.splice_ne (by simp; omega) (by first | exact Or.inl (by omega) | exact Or.inr (by simp))
  ebfee := h.ebfee.splice_ne (by simp; omega) (by first | exact Or.inl (by omega) | exact Or.inr (by simp))
  ehash := h.ehash.splice_ne (by simp; omega) (by first | exact Or.inl (by omega) | exact Or.inr (by simp))
  origin := h.origin.splice_ne (by simp; omega) (by first | exact Or.inl (by omega) | exact Or.inr (by simp))
  price := h.price.splice_ne (by simp; omega) (by first | exact Or.inl (by omega) | exact Or.inr (by simp))
  phase := h.phase.splice_ne (by simp; omega) (by first | exact Or.inl (by omega) | exact Or.inr (by simp))
  status := Ce.splice_one (by omega)
  applied := h.applied.splice_ne (by simp; omega) (by first | exact Or.inl (by omega) | exact Or.inr (by simp))
  limit := h.limit.splice_ne (by simp; omega) (by first | exact Or.inl (by omega) | exact Or.inr (by simp))
  txgas := h.txgas.splice_ne (by simp; omega) (by first | exact Or.inl (by omega) | exact Or.inr (by simp))
  held := h.held.splice_ne (by simp; omega) (by first | exact Or.inl (by omega) | exact Or.inr (by simp))
  a0 := h.a0.splice_ne (by simp; omega) (by first | exact Or.inl (by omega) | exact Or.inr (by simp))
  s0 := h.s0.splice_ne (by simp; omega) (by first | exact Or.inl (by omega) | exact Or.inr (by simp))
  made := h.made.splice_ne (by simp; omega) (by first | exact Or.inl (by omega) | exact Or.inr (by simp))
  tree := fun i h1 h2 => by rw [splice_get _ _ _ _ (by simp; omega), if_neg (by simp; omega)]; exact h.tree i h1 h2
theorem MRep.set_applied {C : Nat} {c : Array Value} {m : Mc} (h : MRep C c m) (ht : MTy m) (hz : c.size = 27024) (x : Int) : MRep C (splice c 2406 [(.int .u8 x)]) { m with applied := x } where
  s := h.s.splice_ne (by simp; omega) (by first | exact Or.inl (by omega) | exact Or.inr (by simp))
  buf := h.buf.splice_ne (by simp; omega) (by first | exact Or.inl (by omega) | exact Or.inr (by simp))
  base := h.base.splice_ne ht.base.1 (by simp; omega) (by first | exact Or.inl (by omega) | exact Or.inr (by simp))
  mtop := h.mtop.splice_ne (by simp; omega) (by first | exact Or.inl (by omega) | exact Or.inr (by simp))
  stack := h.stack.splice_ne ht.stack.1 (by simp; omega) (by first | exact Or.inl (by omega) | exact Or.inr (by simp))
  frames := h.frames.splice_ne ht.frames.1 (by simp; omega) (by first | exact Or.inl (by omega) | exact Or.inr (by simp))
  top := h.top.splice_ne (by simp; omega) (by first | exact Or.inl (by omega) | exact Or.inr (by simp))
  ret := h.ret.splice_ne (by simp; omega) (by first | exact Or.inl (by omega) | exact Or.inr (by simp))
  ecb := h.ecb.splice_ne (by simp; omega) (by first | exact Or.inl (by omega) | exact Or.inr (by simp))
  enum := h.enum.splice_ne (by simp; omega) (by first | exact Or.inl (by omega) | exact Or.inr (by simp))
  etime := h.etime.splice_ne (by simp; omega) (by first | exact Or.inl (by omega) | exact Or.inr (by simp))
  eglim := h.eglim.splice_ne (by simp; omega) (by first | exact Or.inl (by omega) | exact Or.inr (by simp))
  erand := h.erand.splice_ne (by simp; omega) (by first | exact Or.inl (by omega) | exact Or.inr (by simp))
  ecid := h.ecid.splice_ne (by simp; omega) (by first | exact Or.inl (by omega) | exact Or.inr (by simp))
  ebfee := h.ebfee.splice_ne (by simp; omega) (by first | exact Or.inl (by omega) | exact Or.inr (by simp))
  ehash := h.ehash.splice_ne (by simp; omega) (by first | exact Or.inl (by omega) | exact Or.inr (by simp))
  origin := h.origin.splice_ne (by simp; omega) (by first | exact Or.inl (by omega) | exact Or.inr (by simp))
  price := h.price.splice_ne (by simp; omega) (by first | exact Or.inl (by omega) | exact Or.inr (by simp))
  phase := h.phase.splice_ne (by simp; omega) (by first | exact Or.inl (by omega) | exact Or.inr (by simp))
  status := h.status.splice_ne (by simp; omega) (by first | exact Or.inl (by omega) | exact Or.inr (by simp))
  applied := Ce.splice_one (by omega)
  limit := h.limit.splice_ne (by simp; omega) (by first | exact Or.inl (by omega) | exact Or.inr (by simp))
  txgas := h.txgas.splice_ne (by simp; omega) (by first | exact Or.inl (by omega) | exact Or.inr (by simp))
  held := h.held.splice_ne (by simp; omega) (by first | exact Or.inl (by omega) | exact Or.inr (by simp))
  a0 := h.a0.splice_ne (by simp; omega) (by first | exact Or.inl (by omega) | exact Or.inr (by simp))
  s0 := h.s0.splice_ne (by simp; omega) (by first | exact Or.inl (by omega) | exact Or.inr (by simp))
  made := h.made.splice_ne (by simp; omega) (by first | exact Or.inl (by omega) | exact Or.inr (by simp))
  tree := fun i h1 h2 => by rw [splice_get _ _ _ _ (by simp; omega), if_neg (by simp; omega)]; exact h.tree i h1 h2
theorem MRep.set_limit {C : Nat} {c : Array Value} {m : Mc} (h : MRep C c m) (ht : MTy m) (hz : c.size = 27024) (x : Int) : MRep C (splice c 2407 [(.int .u64 x)]) { m with limit := x } where
  s := h.s.splice_ne (by simp; omega) (by first | exact Or.inl (by omega) | exact Or.inr (by simp))
  buf := h.buf.splice_ne (by simp; omega) (by first | exact Or.inl (by omega) | exact Or.inr (by simp))
  base := h.base.splice_ne ht.base.1 (by simp; omega) (by first | exact Or.inl (by omega) | exact Or.inr (by simp))
  mtop := h.mtop.splice_ne (by simp; omega) (by first | exact Or.inl (by omega) | exact Or.inr (by simp))
  stack := h.stack.splice_ne ht.stack.1 (by simp; omega) (by first | exact Or.inl (by omega) | exact Or.inr (by simp))
  frames := h.frames.splice_ne ht.frames.1 (by simp; omega) (by first | exact Or.inl (by omega) | exact Or.inr (by simp))
  top := h.top.splice_ne (by simp; omega) (by first | exact Or.inl (by omega) | exact Or.inr (by simp))
  ret := h.ret.splice_ne (by simp; omega) (by first | exact Or.inl (by omega) | exact Or.inr (by simp))
  ecb := h.ecb.splice_ne (by simp; omega) (by first | exact Or.inl (by omega) | exact Or.inr (by simp))
  enum := h.enum.splice_ne (by simp; omega) (by first | exact Or.inl (by omega) | exact Or.inr (by simp))
  etime := h.etime.splice_ne (by simp; omega) (by first | exact Or.inl (by omega) | exact Or.inr (by simp))
  eglim := h.eglim.splice_ne (by simp; omega) (by first | exact Or.inl (by omega) | exact Or.inr (by simp))
  erand := h.erand.splice_ne (by simp; omega) (by first | exact Or.inl (by omega) | exact Or.inr (by simp))
  ecid := h.ecid.splice_ne (by simp; omega) (by first | exact Or.inl (by omega) | exact Or.inr (by simp))
  ebfee := h.ebfee.splice_ne (by simp; omega) (by first | exact Or.inl (by omega) | exact Or.inr (by simp))
  ehash := h.ehash.splice_ne (by simp; omega) (by first | exact Or.inl (by omega) | exact Or.inr (by simp))
  origin := h.origin.splice_ne (by simp; omega) (by first | exact Or.inl (by omega) | exact Or.inr (by simp))
  price := h.price.splice_ne (by simp; omega) (by first | exact Or.inl (by omega) | exact Or.inr (by simp))
  phase := h.phase.splice_ne (by simp; omega) (by first | exact Or.inl (by omega) | exact Or.inr (by simp))
  status := h.status.splice_ne (by simp; omega) (by first | exact Or.inl (by omega) | exact Or.inr (by simp))
  applied := h.applied.splice_ne (by simp; omega) (by first | exact Or.inl (by omega) | exact Or.inr (by simp))
  limit := Ce.splice_one (by omega)
  txgas := h.txgas.splice_ne (by simp; omega) (by first | exact Or.inl (by omega) | exact Or.inr (by simp))
  held := h.held.splice_ne (by simp; omega) (by first | exact Or.inl (by omega) | exact Or.inr (by simp))
  a0 := h.a0.splice_ne (by simp; omega) (by first | exact Or.inl (by omega) | exact Or.inr (by simp))
  s0 := h.s0.splice_ne (by simp; omega) (by first | exact Or.inl (by omega) | exact Or.inr (by simp))
  made := h.made.splice_ne (by simp; omega) (by first | exact Or.inl (by omega) | exact Or.inr (by simp))
  tree := fun i h1 h2 => by rw [splice_get _ _ _ _ (by simp; omega), if_neg (by simp; omega)]; exact h.tree i h1 h2
theorem MRep.set_txgas {C : Nat} {c : Array Value} {m : Mc} (h : MRep C c m) (ht : MTy m) (hz : c.size = 27024) (x : Int) : MRep C (splice c 2408 [(.int .u64 x)]) { m with txgas := x } where
  s := h.s.splice_ne (by simp; omega) (by first | exact Or.inl (by omega) | exact Or.inr (by simp))
  buf := h.buf.splice_ne (by simp; omega) (by first | exact Or.inl (by omega) | exact Or.inr (by simp))
  base := h.base.splice_ne ht.base.1 (by simp; omega) (by first | exact Or.inl (by omega) | exact Or.inr (by simp))
  mtop := h.mtop.splice_ne (by simp; omega) (by first | exact Or.inl (by omega) | exact Or.inr (by simp))
  stack := h.stack.splice_ne ht.stack.1 (by simp; omega) (by first | exact Or.inl (by omega) | exact Or.inr (by simp))
  frames := h.frames.splice_ne ht.frames.1 (by simp; omega) (by first | exact Or.inl (by omega) | exact Or.inr (by simp))
  top := h.top.splice_ne (by simp; omega) (by first | exact Or.inl (by omega) | exact Or.inr (by simp))
  ret := h.ret.splice_ne (by simp; omega) (by first | exact Or.inl (by omega) | exact Or.inr (by simp))
  ecb := h.ecb.splice_ne (by simp; omega) (by first | exact Or.inl (by omega) | exact Or.inr (by simp))
  enum := h.enum.splice_ne (by simp; omega) (by first | exact Or.inl (by omega) | exact Or.inr (by simp))
  etime := h.etime.splice_ne (by simp; omega) (by first | exact Or.inl (by omega) | exact Or.inr (by simp))
  eglim := h.eglim.splice_ne (by simp; omega) (by first | exact Or.inl (by omega) | exact Or.inr (by simp))
  erand := h.erand.splice_ne (by simp; omega) (by first | exact Or.inl (by omega) | exact Or.inr (by simp))
  ecid := h.ecid.splice_ne (by simp; omega) (by first | exact Or.inl (by omega) | exact Or.inr (by simp))
  ebfee := h.ebfee.splice_ne (by simp; omega) (by first | exact Or.inl (by omega) | exact Or.inr (by simp))
  ehash := h.ehash.splice_ne (by simp; omega) (by first | exact Or.inl (by omega) | exact Or.inr (by simp))
  origin := h.origin.splice_ne (by simp; omega) (by first | exact Or.inl (by omega) | exact Or.inr (by simp))
  price := h.price.splice_ne (by simp; omega) (by first | exact Or.inl (by omega) | exact Or.inr (by simp))
  phase := h.phase.splice_ne (by simp; omega) (by first | exact Or.inl (by omega) | exact Or.inr (by simp))
  status := h.status.splice_ne (by simp; omega) (by first | exact Or.inl (by omega) | exact Or.inr (by simp))
  applied := h.applied.splice_ne (by simp; omega) (by first | exact Or.inl (by omega) | exact Or.inr (by simp))
  limit := h.limit.splice_ne (by simp; omega) (by first | exact Or.inl (by omega) | exact Or.inr (by simp))
  txgas := Ce.splice_one (by omega)
  held := h.held.splice_ne (by simp; omega) (by first | exact Or.inl (by omega) | exact Or.inr (by simp))
  a0 := h.a0.splice_ne (by simp; omega) (by first | exact Or.inl (by omega) | exact Or.inr (by simp))
  s0 := h.s0.splice_ne (by simp; omega) (by first | exact Or.inl (by omega) | exact Or.inr (by simp))
  made := h.made.splice_ne (by simp; omega) (by first | exact Or.inl (by omega) | exact Or.inr (by simp))
  tree := fun i h1 h2 => by rw [splice_get _ _ _ _ (by simp; omega), if_neg (by simp; omega)]; exact h.tree i h1 h2
theorem MRep.set_held {C : Nat} {c : Array Value} {m : Mc} (h : MRep C c m) (ht : MTy m) (hz : c.size = 27024) (x : List Int) (hx : x.length = 4) : MRep C (splice c 2409 (x.map (Value.int .u64))) { m with held := x } where
  s := h.s.splice_ne (by simp [hx]; omega) (by first | exact Or.inl (by omega) | exact Or.inr (by simp [hx]))
  buf := h.buf.splice_ne (by simp [hx]; omega) (by first | exact Or.inl (by omega) | exact Or.inr (by simp [hx]))
  base := h.base.splice_ne ht.base.1 (by simp [hx]; omega) (by first | exact Or.inl (by omega) | exact Or.inr (by simp [hx]))
  mtop := h.mtop.splice_ne (by simp [hx]; omega) (by first | exact Or.inl (by omega) | exact Or.inr (by simp [hx]))
  stack := h.stack.splice_ne ht.stack.1 (by simp [hx]; omega) (by first | exact Or.inl (by omega) | exact Or.inr (by simp [hx]))
  frames := h.frames.splice_ne ht.frames.1 (by simp [hx]; omega) (by first | exact Or.inl (by omega) | exact Or.inr (by simp [hx]))
  top := h.top.splice_ne (by simp [hx]; omega) (by first | exact Or.inl (by omega) | exact Or.inr (by simp [hx]))
  ret := h.ret.splice_ne (by simp [hx]; omega) (by first | exact Or.inl (by omega) | exact Or.inr (by simp [hx]))
  ecb := h.ecb.splice_ne (by simp [hx]; omega) (by first | exact Or.inl (by omega) | exact Or.inr (by simp [hx]))
  enum := h.enum.splice_ne (by simp [hx]; omega) (by first | exact Or.inl (by omega) | exact Or.inr (by simp [hx]))
  etime := h.etime.splice_ne (by simp [hx]; omega) (by first | exact Or.inl (by omega) | exact Or.inr (by simp [hx]))
  eglim := h.eglim.splice_ne (by simp [hx]; omega) (by first | exact Or.inl (by omega) | exact Or.inr (by simp [hx]))
  erand := h.erand.splice_ne (by simp [hx]; omega) (by first | exact Or.inl (by omega) | exact Or.inr (by simp [hx]))
  ecid := h.ecid.splice_ne (by simp [hx]; omega) (by first | exact Or.inl (by omega) | exact Or.inr (by simp [hx]))
  ebfee := h.ebfee.splice_ne (by simp [hx]; omega) (by first | exact Or.inl (by omega) | exact Or.inr (by simp [hx]))
  ehash := h.ehash.splice_ne (by simp [hx]; omega) (by first | exact Or.inl (by omega) | exact Or.inr (by simp [hx]))
  origin := h.origin.splice_ne (by simp [hx]; omega) (by first | exact Or.inl (by omega) | exact Or.inr (by simp [hx]))
  price := h.price.splice_ne (by simp [hx]; omega) (by first | exact Or.inl (by omega) | exact Or.inr (by simp [hx]))
  phase := h.phase.splice_ne (by simp [hx]; omega) (by first | exact Or.inl (by omega) | exact Or.inr (by simp [hx]))
  status := h.status.splice_ne (by simp [hx]; omega) (by first | exact Or.inl (by omega) | exact Or.inr (by simp [hx]))
  applied := h.applied.splice_ne (by simp [hx]; omega) (by first | exact Or.inl (by omega) | exact Or.inr (by simp [hx]))
  limit := h.limit.splice_ne (by simp [hx]; omega) (by first | exact Or.inl (by omega) | exact Or.inr (by simp [hx]))
  txgas := h.txgas.splice_ne (by simp [hx]; omega) (by first | exact Or.inl (by omega) | exact Or.inr (by simp [hx]))
  held := by have := Xt.splice_same (c := c) (i := 2409) (vs := x.map (Value.int .u64)) (by simp [hx]; omega); simpa [hx, ic] using this
  a0 := h.a0.splice_ne (by simp [hx]; omega) (by first | exact Or.inl (by omega) | exact Or.inr (by simp [hx]))
  s0 := h.s0.splice_ne (by simp [hx]; omega) (by first | exact Or.inl (by omega) | exact Or.inr (by simp [hx]))
  made := h.made.splice_ne (by simp [hx]; omega) (by first | exact Or.inl (by omega) | exact Or.inr (by simp [hx]))
  tree := fun i h1 h2 => by rw [splice_get _ _ _ _ (by simp [hx]; omega), if_neg (by simp [hx]; omega)]; exact h.tree i h1 h2
theorem MRep.set_a0 {C : Nat} {c : Array Value} {m : Mc} (h : MRep C c m) (ht : MTy m) (hz : c.size = 27024) (x : Int) : MRep C (splice c 2413 [(.int .i32 x)]) { m with a0 := x } where
  s := h.s.splice_ne (by simp; omega) (by first | exact Or.inl (by omega) | exact Or.inr (by simp))
  buf := h.buf.splice_ne (by simp; omega) (by first | exact Or.inl (by omega) | exact Or.inr (by simp))
  base := h.base.splice_ne ht.base.1 (by simp; omega) (by first | exact Or.inl (by omega) | exact Or.inr (by simp))
  mtop := h.mtop.splice_ne (by simp; omega) (by first | exact Or.inl (by omega) | exact Or.inr (by simp))
  stack := h.stack.splice_ne ht.stack.1 (by simp; omega) (by first | exact Or.inl (by omega) | exact Or.inr (by simp))
  frames := h.frames.splice_ne ht.frames.1 (by simp; omega) (by first | exact Or.inl (by omega) | exact Or.inr (by simp))
  top := h.top.splice_ne (by simp; omega) (by first | exact Or.inl (by omega) | exact Or.inr (by simp))
  ret := h.ret.splice_ne (by simp; omega) (by first | exact Or.inl (by omega) | exact Or.inr (by simp))
  ecb := h.ecb.splice_ne (by simp; omega) (by first | exact Or.inl (by omega) | exact Or.inr (by simp))
  enum := h.enum.splice_ne (by simp; omega) (by first | exact Or.inl (by omega) | exact Or.inr (by simp))
  etime := h.etime.splice_ne (by simp; omega) (by first | exact Or.inl (by omega) | exact Or.inr (by simp))
  eglim := h.eglim.splice_ne (by simp; omega) (by first | exact Or.inl (by omega) | exact Or.inr (by simp))
  erand := h.erand.splice_ne (by simp; omega) (by first | exact Or.inl (by omega) | exact Or.inr (by simp))
  ecid := h.ecid.splice_ne (by simp; omega) (by first | exact Or.inl (by omega) | exact Or.inr (by simp))
  ebfee := h.ebfee.splice_ne (by simp; omega) (by first | exact Or.inl (by omega) | exact Or.inr (by simp))
  ehash := h.ehash.splice_ne (by simp; omega) (by first | exact Or.inl (by omega) | exact Or.inr (by simp))
  origin := h.origin.splice_ne (by simp; omega) (by first | exact Or.inl (by omega) | exact Or.inr (by simp))
  price := h.price.splice_ne (by simp; omega) (by first | exact Or.inl (by omega) | exact Or.inr (by simp))
  phase := h.phase.splice_ne (by simp; omega) (by first | exact Or.inl (by omega) | exact Or.inr (by simp))
  status := h.status.splice_ne (by simp; omega) (by first | exact Or.inl (by omega) | exact Or.inr (by simp))
  applied := h.applied.splice_ne (by simp; omega) (by first | exact Or.inl (by omega) | exact Or.inr (by simp))
  limit := h.limit.splice_ne (by simp; omega) (by first | exact Or.inl (by omega) | exact Or.inr (by simp))
  txgas := h.txgas.splice_ne (by simp; omega) (by first | exact Or.inl (by omega) | exact Or.inr (by simp))
  held := h.held.splice_ne (by simp; omega) (by first | exact Or.inl (by omega) | exact Or.inr (by simp))
  a0 := Ce.splice_one (by omega)
  s0 := h.s0.splice_ne (by simp; omega) (by first | exact Or.inl (by omega) | exact Or.inr (by simp))
  made := h.made.splice_ne (by simp; omega) (by first | exact Or.inl (by omega) | exact Or.inr (by simp))
  tree := fun i h1 h2 => by rw [splice_get _ _ _ _ (by simp; omega), if_neg (by simp; omega)]; exact h.tree i h1 h2
theorem MRep.set_s0 {C : Nat} {c : Array Value} {m : Mc} (h : MRep C c m) (ht : MTy m) (hz : c.size = 27024) (x : Int) : MRep C (splice c 2414 [(.int .i32 x)]) { m with s0 := x } where
  s := h.s.splice_ne (by simp; omega) (by first | exact Or.inl (by omega) | exact Or.inr (by simp))
  buf := h.buf.splice_ne (by simp; omega) (by first | exact Or.inl (by omega) | exact Or.inr (by simp))
  base := h.base.splice_ne ht.base.1 (by simp; omega) (by first | exact Or.inl (by omega) | exact Or.inr (by simp))
  mtop := h.mtop.splice_ne (by simp; omega) (by first | exact Or.inl (by omega) | exact Or.inr (by simp))
  stack := h.stack.splice_ne ht.stack.1 (by simp; omega) (by first | exact Or.inl (by omega) | exact Or.inr (by simp))
  frames := h.frames.splice_ne ht.frames.1 (by simp; omega) (by first | exact Or.inl (by omega) | exact Or.inr (by simp))
  top := h.top.splice_ne (by simp; omega) (by first | exact Or.inl (by omega) | exact Or.inr (by simp))
  ret := h.ret.splice_ne (by simp; omega) (by first | exact Or.inl (by omega) | exact Or.inr (by simp))
  ecb := h.ecb.splice_ne (by simp; omega) (by first | exact Or.inl (by omega) | exact Or.inr (by simp))
  enum := h.enum.splice_ne (by simp; omega) (by first | exact Or.inl (by omega) | exact Or.inr (by simp))
  etime := h.etime.splice_ne (by simp; omega) (by first | exact Or.inl (by omega) | exact Or.inr (by simp))
  eglim := h.eglim.splice_ne (by simp; omega) (by first | exact Or.inl (by omega) | exact Or.inr (by simp))
  erand := h.erand.splice_ne (by simp; omega) (by first | exact Or.inl (by omega) | exact Or.inr (by simp))
  ecid := h.ecid.splice_ne (by simp; omega) (by first | exact Or.inl (by omega) | exact Or.inr (by simp))
  ebfee := h.ebfee.splice_ne (by simp; omega) (by first | exact Or.inl (by omega) | exact Or.inr (by simp))
  ehash := h.ehash.splice_ne (by simp; omega) (by first | exact Or.inl (by omega) | exact Or.inr (by simp))
  origin := h.origin.splice_ne (by simp; omega) (by first | exact Or.inl (by omega) | exact Or.inr (by simp))
  price := h.price.splice_ne (by simp; omega) (by first | exact Or.inl (by omega) | exact Or.inr (by simp))
  phase := h.phase.splice_ne (by simp; omega) (by first | exact Or.inl (by omega) | exact Or.inr (by simp))
  status := h.status.splice_ne (by simp; omega) (by first | exact Or.inl (by omega) | exact Or.inr (by simp))
  applied := h.applied.splice_ne (by simp; omega) (by first | exact Or.inl (by omega) | exact Or.inr (by simp))
  limit := h.limit.splice_ne (by simp; omega) (by first | exact Or.inl (by omega) | exact Or.inr (by simp))
  txgas := h.txgas.splice_ne (by simp; omega) (by first | exact Or.inl (by omega) | exact Or.inr (by simp))
  held := h.held.splice_ne (by simp; omega) (by first | exact Or.inl (by omega) | exact Or.inr (by simp))
  a0 := h.a0.splice_ne (by simp; omega) (by first | exact Or.inl (by omega) | exact Or.inr (by simp))
  s0 := Ce.splice_one (by omega)
  made := h.made.splice_ne (by simp; omega) (by first | exact Or.inl (by omega) | exact Or.inr (by simp))
  tree := fun i h1 h2 => by rw [splice_get _ _ _ _ (by simp; omega), if_neg (by simp; omega)]; exact h.tree i h1 h2
theorem MRep.set_made {C : Nat} {c : Array Value} {m : Mc} (h : MRep C c m) (ht : MTy m) (hz : c.size = 27024) (x : List Int) (hx : x.length = 20) : MRep C (splice c 2415 (x.map (Value.int .u8))) { m with made := x } where
  s := h.s.splice_ne (by simp [hx]; omega) (by first | exact Or.inl (by omega) | exact Or.inr (by simp [hx]))
  buf := h.buf.splice_ne (by simp [hx]; omega) (by first | exact Or.inl (by omega) | exact Or.inr (by simp [hx]))
  base := h.base.splice_ne ht.base.1 (by simp [hx]; omega) (by first | exact Or.inl (by omega) | exact Or.inr (by simp [hx]))
  mtop := h.mtop.splice_ne (by simp [hx]; omega) (by first | exact Or.inl (by omega) | exact Or.inr (by simp [hx]))
  stack := h.stack.splice_ne ht.stack.1 (by simp [hx]; omega) (by first | exact Or.inl (by omega) | exact Or.inr (by simp [hx]))
  frames := h.frames.splice_ne ht.frames.1 (by simp [hx]; omega) (by first | exact Or.inl (by omega) | exact Or.inr (by simp [hx]))
  top := h.top.splice_ne (by simp [hx]; omega) (by first | exact Or.inl (by omega) | exact Or.inr (by simp [hx]))
  ret := h.ret.splice_ne (by simp [hx]; omega) (by first | exact Or.inl (by omega) | exact Or.inr (by simp [hx]))
  ecb := h.ecb.splice_ne (by simp [hx]; omega) (by first | exact Or.inl (by omega) | exact Or.inr (by simp [hx]))
  enum := h.enum.splice_ne (by simp [hx]; omega) (by first | exact Or.inl (by omega) | exact Or.inr (by simp [hx]))
  etime := h.etime.splice_ne (by simp [hx]; omega) (by first | exact Or.inl (by omega) | exact Or.inr (by simp [hx]))
  eglim := h.eglim.splice_ne (by simp [hx]; omega) (by first | exact Or.inl (by omega) | exact Or.inr (by simp [hx]))
  erand := h.erand.splice_ne (by simp [hx]; omega) (by first | exact Or.inl (by omega) | exact Or.inr (by simp [hx]))
  ecid := h.ecid.splice_ne (by simp [hx]; omega) (by first | exact Or.inl (by omega) | exact Or.inr (by simp [hx]))
  ebfee := h.ebfee.splice_ne (by simp [hx]; omega) (by first | exact Or.inl (by omega) | exact Or.inr (by simp [hx]))
  ehash := h.ehash.splice_ne (by simp [hx]; omega) (by first | exact Or.inl (by omega) | exact Or.inr (by simp [hx]))
  origin := h.origin.splice_ne (by simp [hx]; omega) (by first | exact Or.inl (by omega) | exact Or.inr (by simp [hx]))
  price := h.price.splice_ne (by simp [hx]; omega) (by first | exact Or.inl (by omega) | exact Or.inr (by simp [hx]))
  phase := h.phase.splice_ne (by simp [hx]; omega) (by first | exact Or.inl (by omega) | exact Or.inr (by simp [hx]))
  status := h.status.splice_ne (by simp [hx]; omega) (by first | exact Or.inl (by omega) | exact Or.inr (by simp [hx]))
  applied := h.applied.splice_ne (by simp [hx]; omega) (by first | exact Or.inl (by omega) | exact Or.inr (by simp [hx]))
  limit := h.limit.splice_ne (by simp [hx]; omega) (by first | exact Or.inl (by omega) | exact Or.inr (by simp [hx]))
  txgas := h.txgas.splice_ne (by simp [hx]; omega) (by first | exact Or.inl (by omega) | exact Or.inr (by simp [hx]))
  held := h.held.splice_ne (by simp [hx]; omega) (by first | exact Or.inl (by omega) | exact Or.inr (by simp [hx]))
  a0 := h.a0.splice_ne (by simp [hx]; omega) (by first | exact Or.inl (by omega) | exact Or.inr (by simp [hx]))
  s0 := h.s0.splice_ne (by simp [hx]; omega) (by first | exact Or.inl (by omega) | exact Or.inr (by simp [hx]))
  made := by have := Xt.splice_same (c := c) (i := 2415) (vs := x.map (Value.int .u8)) (by simp [hx]; omega); simpa [hx, ic] using this
  tree := fun i h1 h2 => by rw [splice_get _ _ _ _ (by simp [hx]; omega), if_neg (by simp [hx]; omega)]; exact h.tree i h1 h2
theorem MRep.set_base {C : Nat} {c : Array Value} {m : Mc} (h : MRep C c m) (ht : MTy m) (hz : c.size = 27024) {i k : Nat} {x x' : Int} {vs : List Value} (hi : m.base[i]? = some x) (hk : k + vs.length ≤ 1) (hx : ∀ j, j < 1 → (encU32 x')[j]? = if k ≤ j ∧ j < k + vs.length then vs[j - k]? else (encU32 x)[j]?) : MRep C (splice c (2 + i * 1 + k) vs) { m with base := m.base.set i x' } := by
  have hil : i < 8 := by have := lt_of_getElem? hi; rw [ht.base.1] at this; exact this
  have hs : 2 + i * 1 + k + vs.length ≤ c.size := by omega
  exact {
    s := h.s.splice_ne hs (by omega)
    buf := h.buf.splice_ne hs (by omega)
    base := h.base.put hi hk hx
    mtop := h.mtop.splice_ne hs (by omega)
    stack := h.stack.splice_ne ht.stack.1 hs (by omega)
    frames := h.frames.splice_ne ht.frames.1 hs (by omega)
    top := h.top.splice_ne hs (by omega)
    ret := h.ret.splice_ne hs (by omega)
    ecb := h.ecb.splice_ne hs (by omega)
    enum := h.enum.splice_ne hs (by omega)
    etime := h.etime.splice_ne hs (by omega)
    eglim := h.eglim.splice_ne hs (by omega)
    erand := h.erand.splice_ne hs (by omega)
    ecid := h.ecid.splice_ne hs (by omega)
    ebfee := h.ebfee.splice_ne hs (by omega)
    ehash := h.ehash.splice_ne hs (by omega)
    origin := h.origin.splice_ne hs (by omega)
    price := h.price.splice_ne hs (by omega)
    phase := h.phase.splice_ne hs (by omega)
    status := h.status.splice_ne hs (by omega)
    applied := h.applied.splice_ne hs (by omega)
    limit := h.limit.splice_ne hs (by omega)
    txgas := h.txgas.splice_ne hs (by omega)
    held := h.held.splice_ne hs (by omega)
    a0 := h.a0.splice_ne hs (by omega)
    s0 := h.s0.splice_ne hs (by omega)
    made := h.made.splice_ne hs (by omega)
    tree := fun j h1 h2 => by rw [splice_get _ _ _ _ hs, if_neg (by omega)]; exact h.tree j h1 h2 }
theorem MRep.set_stack {C : Nat} {c : Array Value} {m : Mc} (h : MRep C c m) (ht : MTy m) (hz : c.size = 27024) {i k : Nat} {x x' : List Int} {vs : List Value} (hi : m.stack[i]? = some x) (hk : k + vs.length ≤ 4) (hx : ∀ j, j < 4 → (encW x')[j]? = if k ≤ j ∧ j < k + vs.length then vs[j - k]? else (encW x)[j]?) : MRep C (splice c (11 + i * 4 + k) vs) { m with stack := m.stack.set i x' } := by
  have hil : i < 448 := by have := lt_of_getElem? hi; rw [ht.stack.1] at this; exact this
  have hs : 11 + i * 4 + k + vs.length ≤ c.size := by omega
  exact {
    s := h.s.splice_ne hs (by omega)
    buf := h.buf.splice_ne hs (by omega)
    base := h.base.splice_ne ht.base.1 hs (by omega)
    mtop := h.mtop.splice_ne hs (by omega)
    stack := h.stack.put hi hk hx
    frames := h.frames.splice_ne ht.frames.1 hs (by omega)
    top := h.top.splice_ne hs (by omega)
    ret := h.ret.splice_ne hs (by omega)
    ecb := h.ecb.splice_ne hs (by omega)
    enum := h.enum.splice_ne hs (by omega)
    etime := h.etime.splice_ne hs (by omega)
    eglim := h.eglim.splice_ne hs (by omega)
    erand := h.erand.splice_ne hs (by omega)
    ecid := h.ecid.splice_ne hs (by omega)
    ebfee := h.ebfee.splice_ne hs (by omega)
    ehash := h.ehash.splice_ne hs (by omega)
    origin := h.origin.splice_ne hs (by omega)
    price := h.price.splice_ne hs (by omega)
    phase := h.phase.splice_ne hs (by omega)
    status := h.status.splice_ne hs (by omega)
    applied := h.applied.splice_ne hs (by omega)
    limit := h.limit.splice_ne hs (by omega)
    txgas := h.txgas.splice_ne hs (by omega)
    held := h.held.splice_ne hs (by omega)
    a0 := h.a0.splice_ne hs (by omega)
    s0 := h.s0.splice_ne hs (by omega)
    made := h.made.splice_ne hs (by omega)
    tree := fun j h1 h2 => by rw [splice_get _ _ _ _ hs, if_neg (by omega)]; exact h.tree j h1 h2 }
theorem MRep.set_frames {C : Nat} {c : Array Value} {m : Mc} (h : MRep C c m) (ht : MTy m) (hz : c.size = 27024) {i k : Nat} {x x' : Fm} {vs : List Value} (hi : m.frames[i]? = some x) (hk : k + vs.length ≤ 65) (hx : ∀ j, j < 65 → (encF x')[j]? = if k ≤ j ∧ j < k + vs.length then vs[j - k]? else (encF x)[j]?) : MRep C (splice c (1803 + i * 65 + k) vs) { m with frames := m.frames.set i x' } := by
  have hil : i < 7 := by have := lt_of_getElem? hi; rw [ht.frames.1] at this; exact this
  have hs : 1803 + i * 65 + k + vs.length ≤ c.size := by omega
  exact {
    s := h.s.splice_ne hs (by omega)
    buf := h.buf.splice_ne hs (by omega)
    base := h.base.splice_ne ht.base.1 hs (by omega)
    mtop := h.mtop.splice_ne hs (by omega)
    stack := h.stack.splice_ne ht.stack.1 hs (by omega)
    frames := h.frames.put hi hk hx
    top := h.top.splice_ne hs (by omega)
    ret := h.ret.splice_ne hs (by omega)
    ecb := h.ecb.splice_ne hs (by omega)
    enum := h.enum.splice_ne hs (by omega)
    etime := h.etime.splice_ne hs (by omega)
    eglim := h.eglim.splice_ne hs (by omega)
    erand := h.erand.splice_ne hs (by omega)
    ecid := h.ecid.splice_ne hs (by omega)
    ebfee := h.ebfee.splice_ne hs (by omega)
    ehash := h.ehash.splice_ne hs (by omega)
    origin := h.origin.splice_ne hs (by omega)
    price := h.price.splice_ne hs (by omega)
    phase := h.phase.splice_ne hs (by omega)
    status := h.status.splice_ne hs (by omega)
    applied := h.applied.splice_ne hs (by omega)
    limit := h.limit.splice_ne hs (by omega)
    txgas := h.txgas.splice_ne hs (by omega)
    held := h.held.splice_ne hs (by omega)
    a0 := h.a0.splice_ne hs (by omega)
    s0 := h.s0.splice_ne hs (by omega)
    made := h.made.splice_ne hs (by omega)
    tree := fun j h1 h2 => by rw [splice_get _ _ _ _ hs, if_neg (by omega)]; exact h.tree j h1 h2 }
end Go.Proofs.YgvadwGreat
