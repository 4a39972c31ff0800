import Derived.Test.YgvadwGreatXe
import Derived.Test.YgvadwGreatFwP
namespace Go.Proofs.YgvadwGreat
set_option linter.unusedSimpArgs false
set_option linter.unusedVariables false
/-! a literal is laid part by part -/
theorem foldl_splice : ∀ (l : List Value) (off k : Nat) (cs : Array Value), (l.zipIdx k).foldl (fun cs (p : Value × Nat) => cs.setIfInBounds (off + p.2) p.1) cs = splice cs (off + k) l
  | [], _, _, _ => rfl
  | v :: l, off, k, cs => by
    rw [List.zipIdx_cons, List.foldl_cons, foldl_splice l off (k + 1)]
    rfl
theorem fill_one {place : Nat → Option (Nat × Nat)} {z : Array Value} {i off n : Nat} {v : Value} {l : List (Nat × Value)} (hp : place i = some (off, n)) (hs : v.cells.size = n) (hb : off + n ≤ z.size) :
    Instr.fill place z ((i, v) :: l) = Instr.fill place (splice z off v.cells.toList) l := by
  have h1 : (decide (v.cells.size ≠ n) || decide (off + v.cells.size > z.size)) = false := by simp; omega
  have h2 : Array.foldl (fun cs (p : Value × Nat) => cs.setIfInBounds (off + p.2) p.1) z v.cells.zipIdx = splice z off v.cells.toList := by
    rw [← Array.foldl_toList, Array.toList_zipIdx, foldl_splice]; rfl
  simp only [Instr.fill, hp]
  rw [if_neg (by simpa using h1)]
  rw [← h2]
/-! the block's environment -/
structure Ev where
  cb : List Int
  num : Int
  timeY : Int
  glim : Int
  rand : List Int
  cid : List Int
  bfee : List Int
  hash : SV
  hl : List Int
def encEv (x : Ev) : List Value := x.cb.map (Value.int .u8) ++ (.int .u64 x.num :: .int .u64 x.timeY :: .int .u64 x.glim :: (x.rand.map (Value.int .u8) ++ (x.cid.map (Value.int .u8) ++ (x.bfee.map (Value.int .u8) ++ [sv x.hash]))))
/-- a slice of bytes, u cells an element -/
structure InFlat (u : Nat) (w : World) (s : SV) (L : List Int) : Prop where
  len : L.length = s.2.1 * u
  row : 0 < s.2.1 → ∃ b o r T fz, s.1 = some ⟨b, o, none⟩ ∧ Hb w b (.cells r T fz) ∧ o + s.2.1 * u ≤ r.size ∧ Xt r o (o + s.2.1 * u) (ic .u8 L)
  by_ : ∀ x ∈ L, 0 ≤ x ∧ x ≤ 255
theorem InFlat.ext {u : Nat} {w w' : World} {s : SV} {L : List Int} (h : InFlat u w s L) (he : Ext w w') : InFlat u w' s L :=
  { h with row := fun h0 => by obtain ⟨b, o, r, T, fz, h1, h2, h3⟩ := h.row h0; exact ⟨b, o, r, T, fz, h1, h2.ext he, h3⟩ }
structure EvOK (w : World) (x : Ev) : Prop where
  cb : By x.cb 20
  num : 0 ≤ x.num ∧ x.num ≤ 18446744073709551615
  timeY : 0 ≤ x.timeY ∧ x.timeY ≤ 18446744073709551615
  glim : 0 ≤ x.glim ∧ x.glim ≤ 18446744073709551615
  rand : By x.rand 32
  cid : By x.cid 32
  bfee : By x.bfee 32
  ha : InFlat 32 w x.hash x.hl
theorem EvOK.ext {w w' : World} {x : Ev} (h : EvOK w x) (he : Ext w w') : EvOK w' x := { h with ha := h.ha.ext he }
theorem encEv_len {w : World} {x : Ev} (h : EvOK w x) : (encEv x).length = 120 := by simp [encEv, h.cb.1, h.rand.1, h.cid.1, h.bfee.1]
theorem encEv_hash {w : World} {x : Ev} (h : EvOK w x) : Ce (encEv x).toArray (0 + 119) (.slice x.hash.1 x.hash.2.1 x.hash.2.2) := ⟨by
  simp [encEv, h.cb.1, h.rand.1, h.cid.1, h.bfee.1, List.getElem?_append, sv]⟩
theorem one_encEv (x : Ev) : ∀ u ∈ (encEv x).toArray.toList, u.oneCell' = true := by
  intro u hu
  simp only [encEv, List.mem_append, List.mem_map, List.mem_cons, List.not_mem_nil, al_of] at hu
  rcases hu with ⟨a, _, rfl⟩ | rfl | rfl | rfl | ⟨a, _, rfl⟩ | ⟨a, _, rfl⟩ | ⟨a, _, rfl⟩ | rfl <;> rfl
/-! the vault of a newY chain -/
def V0 : V := ⟨[], [], fun _ => 0, fun _ => 0, [], fun _ => 0, 0, 0, [], [], []⟩
def VB0 : VB := ⟨none, none, none, none, none, none⟩
theorem ce_z86 {i : Nat} {v : Value} (h : Hvad.zeroCells86.toList[i]? = some v) : Ce Hvad.zeroCells86 i v := ⟨by rw [← Array.getElem?_toList]; exact h⟩
theorem i32_0 : I32 0 := by unfold I32; omega
theorem vs_zero {w : World} {C : Nat} (h : Hb w C (.cells Hvad.zeroCells86 86 (0, 0))) : VS w C Hvad.zeroCells86 V0 VB0 none where
  blk := h
  rep := { size := z86_size
           accts := ce_z86 (part_get z86_head (k := 0) (by decide))
           slots := ce_z86 (part_get z86_head (k := 1) (by decide))
           atab := fun i hi => ce_z86 (by rw [Nat.mul_one]; exact rep_get z86_atab hi)
           stab := fun i hi => ce_z86 (by rw [Nat.mul_one]; exact rep_get z86_stab hi)
           journal := ce_z86 (part_get z86_j (k := 0) (by decide))
           marks := fun i hi => ce_z86 (by rw [Nat.mul_one]; exact rep_get z86_marks hi)
           nmarks := ce_z86 (part_get z86_tail (k := 0) (by decide))
           ref := ce_z86 (part_get z86_tail (k := 1) (by decide))
           logs := ce_z86 (part_get z86_tail (k := 2) (by decide))
           temps := ce_z86 (part_get z86_tail (k := 3) (by decide))
           ttab := ce_z86 (part_get z86_tail (k := 4) (by decide)) }
  rows := ⟨rfl, rfl, rfl, rfl, rfl, rfl⟩
  ty := { accts := (by intro x hx; cases hx), slots := (by intro x hx; cases hx), journal := (by intro x hx; cases hx), temps := (by intro x hx; cases hx), logs := (by intro x hx; cases hx)
          atab := fun _ => i32_0, stab := fun _ => i32_0, ttab := (by intro x hx; cases hx), marks := fun _ => i32_0, nmarks := i32_0, ref := ⟨Int.le_refl _, by show (0 : Int) ≤ _; decide⟩
          la := Nat.zero_le _, ls := Nat.zero_le _, lj := Nat.zero_le _, ll := Nat.zero_le _, lt := Nat.zero_le _, ltt := Nat.zero_le _ }
  codes := by intro x hx; cases hx
  olds := by intro x hx; cases hx
theorem zv_zero : ZV V0 0 := ⟨rfl, rfl, rfl, rfl, rfl, rfl, rfl, rfl, fun k hk => absurd hk (by omega)⟩
theorem z86_tree {i : Nat} (h0 : 27019 ≤ i) (h1 : i < 27024) : Hvad.zeroCells86[i]? = treeZero[i - 27019]? := by
  have h := part_get z86_tail (k := i - 27014) (by omega)
  rw [show 27014 + (i - 27014) = i by omega, List.getElem?_append_right (by simp only [List.length_cons, List.length_nil]; omega)] at h
  rw [← Array.getElem?_toList, h]
  simp only [List.length_cons, List.length_nil]
  rw [show i - 27014 - (0 + 1 + 1 + 1 + 1 + 1) = i - 27019 by omega]
/-! the machine of a newY chain -/
theorem one_set {c : Array Value} {o : Nat} {v : Value} (hc : ∀ u ∈ c.toList, u.oneCell' = true) (hv : v.oneCell' = true) : ∀ u ∈ (c.setIfInBounds o v).toList, u.oneCell' = true := by
  intro u hu
  rw [Array.toList_setIfInBounds] at hu
  rcases List.mem_or_eq_of_mem_set hu with hu | rfl
  · exact hc u hu
  · exact hv
structure MZ (mc : Array Value) (C : Nat) (e : Ev) (hs : SV) : Prop where
  sz : mc.size = 2435
  p0 : mc[0]? = some (.pointer (some ⟨C, 2435, none⟩))
  top : mc[2258]? = some (.int .i8 (-1))
  env : ∀ i, i < 120 → mc[2260 + i]? = (encEv { e with hash := hs })[i]?
  rest : ∀ i, i ≠ 0 → i ≠ 2258 → i < 2260 ∨ 2380 ≤ i → mc[i]? = Hvad.zeroCells69[i]?
  one : ∀ u ∈ mc.toList, u.oneCell' = true
theorem one_splice : ∀ (vs : List Value) (c : Array Value) (o : Nat), (∀ u ∈ c.toList, u.oneCell' = true) → (∀ u ∈ vs, u.oneCell' = true) → ∀ u ∈ (splice c o vs).toList, u.oneCell' = true
  | [], c, o, hc, hv => hc
  | v :: vs, c, o, hc, hv => by
    refine one_splice vs _ _ ?_ (fun u hu => hv u (List.mem_cons_of_mem _ hu))
    exact one_set hc (hv v List.mem_cons_self)
theorem z69_one : Hvad.zeroCells69.toList.all (fun u => u.oneCell') = true := by kernel_rfl
def mz0 (Z : Array Value) (C : Nat) (e : Ev) : Array Value := splice (splice (splice Z 0 [.pointer (some ⟨C, 2435, none⟩)]) 2258 [.int .i8 (-1)]) 2260 (encEv e)
theorem mz0_ok {w : World} {C : Nat} {e : Ev} (h : EvOK w e) : MZ (mz0 Hvad.zeroCells69 C e) C e e.hash := by
  have hl := encEv_len h
  have s0 := z69_size
  have s1 : (splice Hvad.zeroCells69 0 [.pointer (some ⟨C, 2435, none⟩)]).size = 2435 := by rw [size_splice, s0]
  have s2 : (splice (splice Hvad.zeroCells69 0 [.pointer (some ⟨C, 2435, none⟩)]) 2258 [.int .i8 (-1)]).size = 2435 := by rw [size_splice, s1]
  have g : ∀ i, (mz0 Hvad.zeroCells69 C e)[i]? = if 2260 ≤ i ∧ i < 2260 + 120 then (encEv e)[i - 2260]? else if 2258 ≤ i ∧ i < 2258 + 1 then ([.int .i8 (-1)] : List Value)[i - 2258]? else if 0 ≤ i ∧ i < 0 + 1 then ([.pointer (some ⟨C, 2435, none⟩)] : List Value)[i - 0]? else Hvad.zeroCells69[i]? := by
    intro i
    unfold mz0
    rw [splice_get _ _ _ _ (by rw [s2, hl]; omega), splice_get _ _ _ _ (by rw [s1]; simp), splice_get _ _ _ _ (by rw [s0]; simp), hl]
    rfl
  refine ⟨by unfold mz0; rw [size_splice, s2], by rw [g]; rfl, by rw [g]; rfl, fun i hi => ?_, fun i h0 h1 h2 => ?_, ?_⟩
  · rw [g, if_pos (by omega), Nat.add_sub_cancel_left]
  · rw [g, if_neg (by omega), if_neg (by omega), if_neg (by omega)]
  · refine one_splice _ _ _ (one_splice _ _ _ (one_splice _ _ _ (List.all_eq_true.1 z69_one) ?_) ?_) (by simpa using one_encEv e)
    · intro u hu; rw [List.mem_singleton.1 hu]; rfl
    · intro u hu; rw [List.mem_singleton.1 hu]; rfl
def evPre (e : Ev) : List Value := e.cb.map (Value.int .u8) ++ (.int .u64 e.num :: .int .u64 e.timeY :: .int .u64 e.glim :: (e.rand.map (Value.int .u8) ++ (e.cid.map (Value.int .u8) ++ e.bfee.map (Value.int .u8))))
theorem evPre_eq (e : Ev) (q : SV) : encEv { e with hash := q } = evPre e ++ [sv q] := by simp [encEv, evPre]
theorem evPre_len {w : World} {e : Ev} (h : EvOK w e) : (evPre e).length = 119 := by simp [evPre, h.cb.1, h.rand.1, h.cid.1, h.bfee.1]
theorem encEv_set {w : World} {e : Ev} (h : EvOK w e) (hs hs' : SV) (i : Nat) : (encEv { e with hash := hs' })[i]? = if i = 119 then some (sv hs') else (encEv { e with hash := hs })[i]? := by
  by_cases hi : i = 119
  · subst hi
    simp [encEv, h.cb.1, h.rand.1, h.cid.1, h.bfee.1, List.getElem?_append]
  · rw [if_neg hi]
    have hl := evPre_len h
    rw [evPre_eq e hs', evPre_eq e hs]
    rcases Nat.lt_or_ge i 119 with h1 | h1
    · rw [List.getElem?_append_left (by omega), List.getElem?_append_left (by omega)]
    · rw [List.getElem?_eq_none (by rw [List.length_append, hl]; simp; omega), List.getElem?_eq_none (by rw [List.length_append, hl]; simp; omega)]
theorem MZ.set {w : World} {mc : Array Value} {C : Nat} {e : Ev} {hs : SV} (h : MZ mc C e hs) (hk : EvOK w e) (hs' : SV) : MZ (mc.setIfInBounds (0 + 2260 + 119) (sv hs')) C e hs' := by
  have g : ∀ i, (mc.setIfInBounds (0 + 2260 + 119) (sv hs'))[i]? = if i = 2379 then some (sv hs') else mc[i]? := by
    intro i
    rw [Array.getElem?_setIfInBounds]
    by_cases hi : i = 2379
    · rw [if_pos hi.symm, if_pos hi, if_pos (by rw [h.sz]; omega)]
    · rw [if_neg (fun e => hi e.symm), if_neg hi]
  refine ⟨by rw [Array.size_setIfInBounds]; exact h.sz, by rw [g]; exact h.p0, by rw [g]; exact h.top, fun i hi => ?_, fun i h0 h1 h2 => ?_, one_set h.one rfl⟩
  · rw [g, encEv_set hk hs hs', h.env i hi]
    by_cases e1 : i = 119
    · rw [if_pos (by omega), if_pos e1]
    · rw [if_neg (by omega), if_neg e1]
  · rw [g, if_neg (by omega)]; exact h.rest i h0 h1 h2
def M0 (e : Ev) (hs : SV) : Mc := { buf := (none, 0, 0), base := List.replicate 8 0, mtop := 0, stack := List.replicate 448 [0, 0, 0, 0], frames := List.replicate 7 ZF65, top := -1, ret := (none, 0, 0), ecb := e.cb, enum := e.num, etime := e.timeY, eglim := e.glim, erand := e.rand, ecid := e.cid, ebfee := e.bfee, ehash := hs, origin := List.replicate 20 0, price := [0, 0, 0, 0], phase := 0, status := 0, applied := 0, limit := 0, txgas := 0, held := [0, 0, 0, 0], a0 := 0, s0 := 0, made := List.replicate 20 0 }
theorem xt_of {c : Array Value} {o n : Nat} {k : IntKind} {L : List Int} (hl : L.length = n) (hs : o + n ≤ c.size) (h : ∀ i, i < n → c[o + i]? = (L.map (Value.int k))[i]?) : Xt c o (o + n) (ic k L) := ⟨by
  refine Array.ext_getElem? fun i => ?_
  rw [Array.getElem?_extract]
  by_cases hi : i < n
  · rw [if_pos (by omega), h i hi]; simp [ic]
  · rw [if_neg (by omega), Array.getElem?_eq_none (by rw [size_ic]; omega)]⟩
theorem zf_ty : FmTy ZF65 := by
  refine ⟨?_, ?_, ?_, ?_, ?_, ?_, ?_, ?_, ⟨rfl, ?_⟩, ⟨rfl, ?_⟩, ⟨rfl, ?_⟩, ⟨rfl, ?_⟩, ?_, ?_⟩ <;> first | decide | exact i32_0
theorem by20_0 : By (List.replicate 20 0) 20 := ⟨rfl, by decide⟩
theorem m0_ty {w : World} {e : Ev} (h : EvOK w e) (hs : SV) : MTy (M0 e hs) := by
  have z8 : (0 : Int) ≤ 0 ∧ (0 : Int) ≤ 255 := by decide
  have z64 : (0 : Int) ≤ 0 ∧ (0 : Int) ≤ 18446744073709551615 := by decide
  refine { base := ⟨List.length_replicate, ?_⟩, mtop := z8, stack := ⟨List.length_replicate, ?_⟩, frames := ⟨List.length_replicate, ?_⟩, top := (by decide : (-128 : Int) ≤ -1 ∧ (-1 : Int) ≤ 127), ecb := h.cb, enum := h.num, etime := h.timeY, eglim := h.glim, erand := h.rand, ecid := h.cid, ebfee := h.bfee, origin := by20_0, price := Wd0, phase := z8, status := z8, applied := z8, limit := z64, txgas := z64, held := Wd0, a0 := i32_0, s0 := i32_0, made := by20_0 }
  · intro x hx; rw [(List.mem_replicate.1 hx).2]; decide
  · intro x hx; rw [(List.mem_replicate.1 hx).2]; exact Wd0
  · intro x hx; rw [(List.mem_replicate.1 hx).2]; exact zf_ty
theorem rep_get2 {α : Type} {n i : Nat} {x y : α} (h : (List.replicate n x)[i]? = some y) : i < n ∧ y = x := by
  rw [List.getElem?_replicate] at h
  split at h
  · rename_i hi; injection h with h; exact ⟨hi, h.symm⟩
  · cases h
theorem app65 {X Y : List Value} (h : X.length = 65) (i k : Nat) : (X ++ Y)[(i + 1) * 65 + k]? = Y[i * 65 + k]? := by
  rw [List.getElem?_append_right (by omega), h]
  congr 1; omega
theorem frs_get (i : Nat) (hi : i < 7) (k : Nat) (hk : k < 65) : (encF ZF65 ++ (encF ZF65 ++ (encF ZF65 ++ (encF ZF65 ++ (encF ZF65 ++ (encF ZF65 ++ encF ZF65))))))[i * 65 + k]? = (encF ZF65)[k]? := by
  have hl : (encF ZF65).length = 65 := encF_len zf_ty
  have h0 : ∀ Y : List Value, (encF ZF65 ++ Y)[0 * 65 + k]? = (encF ZF65)[k]? := fun Y => by
    rw [List.getElem?_append_left (by omega)]; congr 1; omega
  match i, hi with
  | 0, _ => exact h0 _
  | 1, _ => rw [app65 hl]; exact h0 _
  | 2, _ => rw [app65 hl, app65 hl]; exact h0 _
  | 3, _ => rw [app65 hl, app65 hl, app65 hl]; exact h0 _
  | 4, _ => rw [app65 hl, app65 hl, app65 hl, app65 hl]; exact h0 _
  | 5, _ => rw [app65 hl, app65 hl, app65 hl, app65 hl, app65 hl]; exact h0 _
  | 6, _ =>
    rw [app65 hl, app65 hl, app65 hl, app65 hl, app65 hl, app65 hl]
    congr 1; omega
/-- the machine's cells of a newY chain -/
theorem mrep_new {w : World} {C : Nat} {mc c : Array Value} {e : Ev} {hs : SV} (hz : MZ mc C e hs) (hk : EvOK w e) (hc : ∀ i, i < 2435 → c[i]? = mc[i]?) (ht : ∀ i, 27019 ≤ i → i < 27024 → c[i]? = treeZero[i - 27019]?) (hsz : c.size = 27024) : MRep C c (M0 e hs) := by
  have r : ∀ i, i < 2435 → i ≠ 0 → i ≠ 2258 → i < 2260 ∨ 2380 ≤ i → c[i]? = Hvad.zeroCells69.toList[i]? := fun i h1 h2 h3 h4 => by rw [hc i h1, hz.rest i h2 h3 h4, Array.getElem?_toList]
  have hd : ∀ k, k < 10 → c[1 + k]? = (.slice none 0 0 :: (List.replicate 8 (.int .u32 0) ++ [.int .u8 0]) : List Value)[k]? := fun k hk => by rw [r _ (by omega) (by omega) (by omega) (by omega)]; exact part_get z69_head hk
  have tl : ∀ k, k < 55 → c[2380 + k]? = (List.replicate 20 (.int .u8 0) ++ (List.replicate 4 (.int .u64 0) ++ ([.int .u8 0, .int .u8 0, .int .u8 0, .int .u64 0, .int .u64 0] ++ (List.replicate 4 (.int .u64 0) ++ ([.int .i32 0, .int .i32 0] ++ List.replicate 20 (.int .u8 0))))) : List Value)[k]? := fun k hk => by rw [r _ (by omega) (by omega) (by omega) (by omega)]; exact part_get z69_tail hk
  have ev : ∀ k, k < 120 → c[2260 + k]? = (encEv { e with hash := hs })[k]? := fun k hk => by rw [hc _ (by omega)]; exact hz.env k hk
  have hl1 := hk.cb.1
  have hl2 := hk.rand.1
  have hl3 := hk.cid.1
  have hl4 := hk.bfee.1
  have evp : ∀ o n (L : List Value), ((encEv { e with hash := hs }).drop o).take n = L → o + n ≤ 120 → ∀ i, i < n → c[2260 + o + i]? = L[i]? := fun o n L h1 h2 i hi => by
    rw [Nat.add_assoc, ev _ (by omega)]; exact part_get h1 hi
  refine { s := ⟨by rw [hc 0 (by decide)]; exact hz.p0⟩, buf := ⟨by have := hd 0 (by decide); exact this⟩, base := ⟨by rw [hsz]; show 2 + 1 * (List.replicate 8 (0 : Int)).length ≤ 27024; rw [List.length_replicate]; decide, ?_⟩, mtop := ⟨by have := hd 9 (by decide); exact this⟩, stack := ⟨by rw [hsz]; show 11 + 4 * (List.replicate 448 ([0, 0, 0, 0] : List Int)).length ≤ 27024; rw [List.length_replicate]; decide, ?_⟩, frames := ⟨by rw [hsz]; show 1803 + 65 * (List.replicate 7 ZF65).length ≤ 27024; rw [List.length_replicate]; decide, ?_⟩, top := ⟨by rw [hc _ (by decide)]; exact hz.top⟩, ret := ⟨by rw [r 2259 (by omega) (by omega) (by omega) (by omega)]; exact part_get z69_ret (k := 0) (by decide)⟩, ecb := xt_of hl1 (by omega) (evp 0 20 _ ?_ (by omega)), enum := ⟨by rw [show 2280 = 2260 + 20 from rfl, ev 20 (by decide)]; show _ = some (Value.int .u64 e.num); simp [encEv, hl1, hl2, hl3, hl4, List.getElem?_append]⟩, etime := ⟨by rw [show 2281 = 2260 + 21 from rfl, ev 21 (by decide)]; show _ = some (Value.int .u64 e.timeY); simp [encEv, hl1, hl2, hl3, hl4, List.getElem?_append]⟩, eglim := ⟨by rw [show 2282 = 2260 + 22 from rfl, ev 22 (by decide)]; show _ = some (Value.int .u64 e.glim); simp [encEv, hl1, hl2, hl3, hl4, List.getElem?_append]⟩, erand := xt_of hl2 (by omega) (evp 23 32 _ ?_ (by omega)), ecid := xt_of hl3 (by omega) (evp 55 32 _ ?_ (by omega)), ebfee := xt_of hl4 (by omega) (evp 87 32 _ ?_ (by omega)), ehash := ⟨by rw [show 2379 = 2260 + 119 from rfl, ev 119 (by decide)]; show _ = some (Value.slice hs.1 hs.2.1 hs.2.2); simp [encEv, hl1, hl2, hl3, hl4, List.getElem?_append, sv]⟩, origin := xt_of List.length_replicate (by omega) (fun i hi => ?_), price := xt_of rfl (by omega) (fun i hi => ?_), phase := ⟨by have := tl 24 (by decide); exact this⟩, status := ⟨by have := tl 25 (by decide); exact this⟩, applied := ⟨by have := tl 26 (by decide); exact this⟩, limit := ⟨by have := tl 27 (by decide); exact this⟩, txgas := ⟨by have := tl 28 (by decide); exact this⟩, held := xt_of rfl (by omega) (fun i hi => ?_), a0 := ⟨by have := tl 33 (by decide); exact this⟩, s0 := ⟨by have := tl 34 (by decide); exact this⟩, made := xt_of List.length_replicate (by omega) (fun i hi => ?_), tree := ht }
  · intro i x hx k hk1
    obtain ⟨hi, rfl⟩ := rep_get2 hx
    obtain rfl : k = 0 := by omega
    have h := hd (1 + i) (by omega)
    rw [show 1 + (1 + i) = 2 + i * 1 + 0 by omega] at h
    rw [h, show 1 + i = i + 1 by omega, List.getElem?_cons_succ, List.getElem?_append_left (by simpa using hi), List.getElem?_replicate, if_pos hi]; rfl
  · intro i x hx k hk1
    obtain ⟨hi, rfl⟩ := rep_get2 hx
    rw [r _ (by omega) (by omega) (by omega) (by omega), show 11 + i * 4 + k = 11 + (i * 4 + k) by omega, rep_get z69_stack (by omega)]
    have : k = 0 ∨ k = 1 ∨ k = 2 ∨ k = 3 := by omega
    rcases this with rfl | rfl | rfl | rfl <;> rfl
  · intro i x hx k hk1
    obtain ⟨hi, rfl⟩ := rep_get2 hx
    rw [r _ (by omega) (by omega) (by omega) (by omega), show 1803 + i * 65 + k = 1803 + (i * 65 + k) by omega, part_get z69_frames (by omega)]
    exact frs_get i hi k hk1
  · show _ = e.cb.map (Value.int .u8)
    simp [encEv, hl1, hl2, hl3, hl4, List.drop_append, List.take_append, List.drop_eq_nil_of_le, List.take_of_length_le]
  · show _ = e.rand.map (Value.int .u8)
    simp [encEv, hl1, hl2, hl3, hl4, List.drop_append, List.take_append, List.drop_eq_nil_of_le, List.take_of_length_le]
  · show _ = e.cid.map (Value.int .u8)
    simp [encEv, hl1, hl2, hl3, hl4, List.drop_append, List.take_append, List.drop_eq_nil_of_le, List.take_of_length_le]
  · show _ = e.bfee.map (Value.int .u8)
    simp [encEv, hl1, hl2, hl3, hl4, List.drop_append, List.take_append, List.drop_eq_nil_of_le, List.take_of_length_le]
  · rw [tl i (by omega), List.getElem?_append_left (by simpa using hi)]; show _ = ((List.replicate 20 (0 : Int)).map (Value.int .u8))[i]?; rw [List.map_replicate]
  · rw [show 2400 + i = 2380 + (20 + i) by omega, tl (20 + i) (by omega)]
    have : i = 0 ∨ i = 1 ∨ i = 2 ∨ i = 3 := by omega
    rcases this with rfl | rfl | rfl | rfl <;> rfl
  · rw [show 2409 + i = 2380 + (29 + i) by omega, tl (29 + i) (by omega)]
    have : i = 0 ∨ i = 1 ∨ i = 2 ∨ i = 3 := by omega
    rcases this with rfl | rfl | rfl | rfl <;> rfl
  · rw [show 2415 + i = 2380 + (35 + i) by omega, tl (35 + i) (by omega)]
    rw [List.getElem?_append_right (by simp; omega), List.getElem?_append_right (by simp; omega), List.getElem?_append_right (by simp; omega), List.getElem?_append_right (by simp; omega), List.getElem?_append_right (by simp; omega)]
    show _ = ((List.replicate 20 (0 : Int)).map (Value.int .u8))[i]?
    rw [List.map_replicate]
    simp only [List.length_replicate, List.length_cons, List.length_nil, List.getElem?_replicate]
    rw [if_pos (by omega), if_pos (by omega)]
end Go.Proofs.YgvadwGreat
