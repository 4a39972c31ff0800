import Derived.Test.YgvacwGreatGa
namespace Go.Proofs.YgvacwGreat
set_option linter.unusedSimpArgs false
set_option linter.unusedVariables false
/-! lists that are being filled -/
structure FL {α : Type} (enc : α → List Value) (u : Nat) (e : TypeId) (w0 : World) (X : List Nat) (w : World) (s : SV) (n : Nat) (K : List α) : Prop where
  len : s.2.1 = n
  cap : s.2.2 = n
  kn : K.length ≤ n
  row : 0 < n → ∃ b r, s.1 = some ⟨b, 0, none⟩ ∧ w0.heap.size ≤ b ∧ b ∉ X ∧ Hb w b (.cells r e (0, 0)) ∧ r.size = n * u ∧ RowL enc u 0 r K
section
variable {α : Type} {enc : α → List Value} {u : Nat} {e : TypeId} {w0 : World} {X Y : List Nat} {w w' : World} {s : SV} {n : Nat} {K : List α}
theorem FL.nil (enc : α → List Value) (u : Nat) (e : TypeId) (w0 : World) (X : List Nat) (w : World) : FL enc u e w0 X w (none, 0, 0) 0 [] := ⟨rfl, rfl, Nat.le_refl _, fun h => absurd h (Nat.lt_irrefl 0)⟩
theorem FL.made {b : Nat} {r : Array Value} (hb : Hb w b (.cells r e (0, 0))) (hr : r.size = n * u) (h0 : w0.heap.size ≤ b) (hX : b ∉ X) : FL enc u e w0 X w (some ⟨b, 0, none⟩, n, n) n [] :=
  ⟨rfl, rfl, Nat.zero_le _, fun _ => ⟨b, r, rfl, h0, hX, hb, hr, by simp, fun i x h => by simp at h⟩⟩
theorem FL.ext (h : FL enc u e w0 X w s n K) (he : Ext w w') : FL enc u e w0 X w' s n K :=
  { h with row := fun h0 => by obtain ⟨b, r, h1, h2, h3, h4, h5⟩ := h.row h0; exact ⟨b, r, h1, h2, h3, h4.ext he, h5⟩ }
theorem FL.cons (h : FL enc u e w0 X w s n K) {b : Nat} (hb : w.heap.size ≤ b) : FL enc u e w0 (b :: X) w s n K :=
  ⟨h.len, h.cap, h.kn, fun h0 => by
    obtain ⟨b', r, h1, h2, h3, h4, h5⟩ := h.row h0
    have := h4.lt
    exact ⟨b', r, h1, h2, by simp only [List.mem_cons, al_no]; exact ⟨by omega, h3⟩, h4, h5⟩⟩
theorem FL.tail (h : FL enc u e w0 X w s n K) (hY : ∀ b ∈ Y, b ∈ X) : FL enc u e w0 Y w s n K :=
  { h with row := fun h0 => by obtain ⟨b', r, h1, h2, h3, h4⟩ := h.row h0; exact ⟨b', r, h1, h2, fun hh => h3 (hY _ hh), h4⟩ }
theorem FL.set (h : FL enc u e w0 X w s n K) {b : Nat} (hb : b ∈ X ∨ b < w0.heap.size) (o : Obj) : FL enc u e w0 X (setB w b o) s n K :=
  ⟨h.len, h.cap, h.kn, fun h0 => by
    obtain ⟨b', r, h1, h2, h3, h4, h5⟩ := h.row h0
    refine ⟨b', r, h1, h2, h3, h4.set (fun e => ?_), h5⟩
    rcases hb with hb | hb
    · exact h3 (e ▸ hb)
    · omega⟩
theorem rowl_snoc {r : Array Value} {x : α} (h : RowL enc u 0 r K) (hs : 0 + K.length * u + u ≤ r.size) (hx : (enc x).length = u) : RowL enc u 0 (splice r (0 + K.length * u) (enc x)) (K ++ [x]) := by
  refine ⟨by rw [size_splice]; simp [Nat.mul_add, Nat.mul_comm]; rw [Nat.mul_comm] at hs; omega, fun i y hy k hk => ?_⟩
  rw [splice_get _ _ _ _ (by rw [hx]; exact hs)]
  rcases Nat.lt_or_ge i K.length with hi | hi
  · rw [List.getElem?_append_left hi] at hy
    have h1 : (i + 1) * u ≤ K.length * u := Nat.mul_le_mul_right u hi
    rw [Nat.add_mul] at h1
    rw [if_neg (by omega)]
    exact h.2 i y hy k hk
  · rw [List.getElem?_append_right hi] at hy
    have h1 := lt_of_getElem? hy
    simp at h1
    have e : i = K.length := by omega
    subst e
    simp at hy
    subst hy
    rw [if_pos (by rw [hx]; omega)]
    congr 1; omega
theorem FL.put {b i : Nat} {r : Array Value} {vs : List Value} {x : α} {c : Nat} (h : FL enc u e w0 X w (some ⟨b, 0, none⟩, n, c) n K) (hi : K.length = i) (hin : i < n) (hr : Hb w b (.cells r e (0, 0))) (hx : (enc x).length = u) (hvs : vs = enc x) :
    FL enc u e w0 X (setB w b (.cells (splice r (0 + i * u) vs) e (0, 0))) (some ⟨b, 0, none⟩, n, c) n (K ++ [x]) := by
  subst hi
  subst hvs
  refine ⟨h.len, h.cap, by simp; omega, fun h0 => ?_⟩
  obtain ⟨b', r', h1, h2, h3, h4, h5, h6⟩ := h.row h0
  injection h1 with h1
  injection h1 with h1
  subst h1
  have e1 := hr.h.symm.trans h4.h
  injection e1 with e1
  injection e1 with e1
  subst e1
  have h7 : 0 + K.length * u + u ≤ r.size := by rw [h5]; have := Nat.mul_le_mul_right u (show K.length + 1 ≤ n from hin); rw [Nat.add_mul] at this; omega
  exact ⟨b, _, rfl, h2, h3, Hb.setSame hr, by rw [size_splice]; exact h5, rowl_snoc h6 h7 hx⟩
theorem FL.pl [Om] (h : FL enc u e w0 X w s n K) (hO : OmB w0) (hn : K.length = n) : PL enc u e w s K :=
  ⟨by rw [h.len, hn], by rw [h.len, h.cap]; exact Nat.le_refl _, fun h0 => by
    rw [h.len] at h0
    obtain ⟨b', r, h1, h2, h3, h4, h5, h6⟩ := h.row h0
    exact ⟨b', r, (0, 0), h1, hO.fresh h2, h4, h6⟩⟩
end
theorem PB.kt [Om] {w w' : World} {s : SV} {L : List Int} (h : PB w s L) (hk : KT 5 w w') : PB w' s L :=
  { h with row := fun h0 => by obtain ⟨b, r, fz, h1, h2, h3, h4⟩ := h.row h0; exact ⟨b, r, fz, h1, h2, hk _ _ _ h3, h4⟩ }
theorem NN.kt [Om] {w w' : World} {s : SV} {n : Nat} (h : NN w s n) (hk : KT 5 w w') : NN w' s n := PB.kt h hk
theorem PL.kt [Om] {α : Type} {enc : α → List Value} {u : Nat} {T : TypeId} {w w' : World} {s : SV} {l : List α} (h : PL enc u T w s l) (hk : KT T w w') : PL enc u T w' s l :=
  { h with row := fun h0 => by obtain ⟨b, r, fz, h1, h2, h3, h4⟩ := h.row h0; exact ⟨b, r, fz, h1, h2, hk _ _ _ h3, h4⟩ }
theorem LgR.kt [Om] {w w' : World} {x : LogR} (h : LgR w x) (h5 : KT 5 w w') (h28 : KT 28 w w') : LgR w' x := ⟨h.ab, by obtain ⟨L, h1, h2⟩ := h.top; exact ⟨L, h1.kt h28, h2⟩, by obtain ⟨L, h1, h2⟩ := h.data; exact ⟨L, h1.kt h5, h2⟩⟩
theorem SlR.kt [Om] {w w' : World} {x : YSl} {y : Nat × Nat} (h : SlR w x y) (hk : KT 5 w w') : SlR w' x y := { h with key := h.key.kt hk, val := h.val.kt hk }
theorem MkR.kt [Om] {w w' : World} {x : YMk} {y : List Int × Nat} (h : MkR w x y) (hk : KT 5 w w') : MkR w' x y := { h with key := h.key.kt hk }
theorem TpR.kt [Om] {w w' : World} {x : YTp} {y : List Int × Nat × Nat} (h : TpR w x y) (hk : KT 5 w w') : TpR w' x y := { h with key := h.key.kt hk, val := h.val.kt hk }
theorem SlsR.kt [Om] {w w' : World} {s : SV} {l : List (Nat × Nat)} (h : SlsR w s l) (h5 : KT 5 w w') (h1 : KT 111 w w') : SlsR w' s l := by obtain ⟨L, h2, h3⟩ := h; exact ⟨L, h2.kt h1, h3.mono fun _ _ h => h.kt h5⟩
theorem AcR.kt [Om] {w w' : World} {x : YAc} {y : PA} (h : AcR w x y) (h5 : KT 5 w w') (h1 : KT 111 w w') : AcR w' x y := { h with nonce := h.nonce.kt h5, bal := h.bal.kt h5, code := h.code.kt h5, slots := h.slots.kt h5 h1 }
theorem PS_neqslnil2 {P : Program} {ρ : Nat → Value} {x : Operand} {t yt : TypeId} {p : Option Addr} {l c : Nat} {e : TypeId} (hU : P.underlying t = some (.slice e)) (hx : ev ρ x = .slice p l c) : PS P (.binOp .neq t x (.const (.slice none 0 0)) yt) ρ (.bool (!p.isNone)) :=
  PS_neqslnil hU hx
theorem one_L (x : LogR) : ∀ u ∈ encL x, u.oneCell' = true := one_ad (by intro u hu; simp at hu; rcases hu with rfl | rfl <;> rfl)
theorem one_L2 (x : LogR) : ∀ u ∈ (encL x).toArray.toList, u.oneCell' = true := by intro u hu; exact one_L x u (by simpa using hu)
theorem encL_len2 {x : LogR} (h : x.addr.length = 20) : (encL x).length = 22 := by simp [encL, h]
theorem encL_addr2 {x : LogR} (h : x.addr.length = 20) : Xt (encL x).toArray (0 + 0) (0 + 0 + 20) (ic .u8 x.addr) := gx h _
theorem encL_1 {x : LogR} (h : x.addr.length = 20) : Ce (encL x).toArray (0 + 20) (.slice x.topics.1 x.topics.2.1 x.topics.2.2) := ⟨by rw [List.getElem?_toArray]; exact gl h _ 0⟩
theorem encL_2 {x : LogR} (h : x.addr.length = 20) : Ce (encL x).toArray (0 + 21) (.slice x.data.1 x.data.2.1 x.data.2.2) := ⟨by rw [List.getElem?_toArray]; exact gl h _ 1⟩
/-- rows that may be read -/
structure PLA {α : Type} (enc : α → List Value) (u : Nat) (T : TypeId) (w : World) (s : SV) (l : List α) : Prop where
  len : l.length = s.2.1
  cap : s.2.1 ≤ s.2.2
  row : 0 < s.2.1 → ∃ b r fz, s.1 = some ⟨b, 0, none⟩ ∧ Hb w b (.cells r T fz) ∧ RowL enc u 0 r l
theorem PLA.ext {α : Type} {enc : α → List Value} {u : Nat} {T : TypeId} {w w' : World} {s : SV} {l : List α} (h : PLA enc u T w s l) (he : Ext w w') : PLA enc u T w' s l := { h with row := fun h0 => by obtain ⟨b, r, fz, h1, h3, h4⟩ := h.row h0; exact ⟨b, r, fz, h1, h3.ext he, h4⟩ }
theorem PLA.kt {α : Type} {enc : α → List Value} {u : Nat} {T : TypeId} {w w' : World} {s : SV} {l : List α} (h : PLA enc u T w s l) (hk : KT T w w') : PLA enc u T w' s l := { h with row := fun h0 => by obtain ⟨b, r, fz, h1, h3, h4⟩ := h.row h0; exact ⟨b, r, fz, h1, hk _ _ _ h3, h4⟩ }
theorem PL.a [Om] {α : Type} {enc : α → List Value} {u : Nat} {T : TypeId} {w : World} {s : SV} {l : List α} (h : PL enc u T w s l) : PLA enc u T w s l := ⟨h.len, h.cap, fun h0 => by obtain ⟨b, r, fz, h1, _, h3, h4⟩ := h.row h0; exact ⟨b, r, fz, h1, h3, h4⟩⟩
theorem PLA.at_ {α : Type} {enc : α → List Value} {u : Nat} {T : TypeId} {w : World} {p : Option Addr} {n c : Nat} {l : List α} (h : PLA enc u T w (p, n, c) l) (h0 : 0 < n) : ∃ b r fz, p = some ⟨b, 0, none⟩ ∧ Hb w b (.cells r T fz) ∧ RowL enc u 0 r l := h.row h0
theorem pla_at {α : Type} {enc : α → List Value} {u : Nat} {T : TypeId} {w : World} {p : Option Addr} {n c i : Nat} {L : List α} {x : α} (h : PLA enc u T w (p, n, c) L) (hx : L[i]? = some x) (hlen : (enc x).length = u) :
    ∃ b r fz, p = some ⟨b, 0, none⟩ ∧ Hb w b (.cells r T fz) ∧ 0 + i * u + u ≤ r.size ∧ Xt r (0 + i * u) (0 + i * u + u) (enc x).toArray :=
  @pl_at α (⟨fun _ => False⟩ : Om) enc u T w p n c i L x (@PL.mk (⟨fun _ => False⟩ : Om) α enc u T w (p, n, c) L h.len h.cap (fun h0 => by obtain ⟨b, r, fz, h1, h3, h4⟩ := h.row h0; exact ⟨b, r, fz, h1, fun h9 => h9, h3, h4⟩)) hx hlen
/-- logs that may be read -/
def LgsA [Om] (w : World) (s : SV) (n : Nat) : Prop := ∃ L, PLA encL 22 277 w s L ∧ L.length = n ∧ ∀ x ∈ L, LgR w x
theorem LgsA.ext [Om] {w w' : World} {s : SV} {n : Nat} (h : LgsA w s n) (he : Ext w w') : LgsA w' s n := by obtain ⟨L, h1, h2, h3⟩ := h; exact ⟨L, h1.ext he, h2, fun x hx => (h3 x hx).ext he⟩
theorem info277 : Hvac.prog.info? 277 = some Hvac.t277 := by kernel_rfl
theorem PS_b277 {ρ : Nat → Value} {x0 x1 x2 : Operand} {A : List Int} {p1 p2 : Option Addr} {n1 c1 n2 c2 : Nat} (h0 : ev ρ x0 = .agg (ic .u8 A)) (hA : A.length = 20) (h1 : ev ρ x1 = .slice p1 n1 c1) (h2 : ev ρ x2 = .slice p2 n2 c2) :
    PS Hvac.prog (.build 277 #[(0, x0), (1, x1), (2, x2)]) ρ (.agg (encL ⟨A, (p1, n1, c1), (p2, n2, c2)⟩).toArray) := by
  obtain ⟨a0, a1, a2, a3, a4, a5, a6, a7, a8, a9, b0, b1, b2, b3, b4, b5, b6, b7, b8, b9, rfl⟩ := len20 hA
  exact PS_buildS Hvac.zeroValue277 Hvac.runUnderlying277 (places_run (pl := [(0, 20), (20, 1), (21, 1)]) ⟨rfl, Hvac.sizeOf25, rfl, Hvac.sizeOf29, rfl, Hvac.sizeOf32, trivial⟩) (ps := [(0, .agg (ic .u8 [a0, a1, a2, a3, a4, a5, a6, a7, a8, a9, b0, b1, b2, b3, b4, b5, b6, b7, b8, b9])), (1, .slice p1 n1 c1), (2, .slice p2 n2 c2)]) (by simp only [List.map, h0, h1, h2]) (by kernel_rfl)

set_option maxRecDepth 10000 in
set_option maxHeartbeats 4000000 in
theorem yLogsOf_spec [Om] (w : World) (hO : OmB w) (s : SV) (m : Nat) (hl : LgsA w s m) (hm : m ≤ 100000000) : Ret Hvac.prog 165 #[.slice s.1 s.2.1 s.2.2] w fun u w' => Ext w w' ∧ ∃ s' : SV, u = .slice s'.1 s'.2.1 s'.2.2 ∧ LgsR w' s' m := by
  obtain ⟨p, n, cp⟩ := s
  obtain ⟨L, hPL, hLm, hLg⟩ := hl
  have hn := hPL.len
  dsimp only at hn ⊢
  refine Ret_of_W Hvac.func165 rfl rfl ?_
  refine W_seq ?_
  refine W_region rfl ?_
  refine WO_p (PS_assign_slice rfl) ?_
  refine WO_nil ?_
  refine thn_normal ?_
  refine W_seq ?_
  refine W_seq ?_
  refine W_region rfl ?_
  refine WO_p (PS_move_slice rfl) ?_
  refine WO_p (PS_eqlslnil Hvac.underlying76 rfl) ?_
  refine WO_nil ?_
  refine thn_normal ?_
  refine W_if rfl (fun hb2 => ?_) (fun hb2 => ?_)
  · have hb2p := hb2.h; try simp only [al_ete, al_dfn, Bool.not_eq_true', Bool.not_eq_false', al_ne, Bool.not_not, al_nn] at hb2p
    have hp0 : p = none := by simpa using hb2p
    have hn0 : n = 0 := by
      rcases Nat.eq_zero_or_pos n with h0 | h0
      · exact h0
      · obtain ⟨b, r, fz, h1, _⟩ := hPL.at_ h0
        rw [hp0] at h1; cases h1
    refine W_seq ?_
    refine W_region rfl ?_
    refine WO_p (PS_assign_slice rfl) ?_
    refine WO_nil ?_
    refine thn_normal ?_
    refine W_ret ?_
    refine thn_ret ?_
    refine bodyQ_ret1 Hvac.results165 rfl (.slice _ _ _) rfl ?_
    first
    | (refine ⟨(by repeat (first | assumption | exact Ext.refl _ | refine Ext.alloc ?_ _ | refine Ext.drew ?_ | refine Ext.setB ?_ (by first | omega | (simp only [size_alloc, size_setB, size_drew]; omega)) _ | refine Ext.trans ?_ (by assumption))), (none, 0, 0), rfl, ?_⟩
       rw [show m = 0 by omega]; exact LgsR.nil _)
    | exact ⟨(by repeat (first | assumption | exact Ext.refl _ | refine Ext.alloc ?_ _ | refine Ext.drew ?_ | refine Ext.setB ?_ (by first | omega | (simp only [size_alloc, size_setB, size_drew]; omega)) _ | refine Ext.trans ?_ (by assumption))), (pF, n, n), rfl, K, hFL.pl hO (by omega), by omega, hKg, rfl⟩
  · have hb2p := hb2.h; try simp only [al_ete, al_dfn, Bool.not_eq_true', Bool.not_eq_false', al_ne, Bool.not_not, al_nn] at hb2p
    refine W_skip ?_
    refine thn_normal ?_
    refine W_seq ?_
    refine W_region rfl ?_
    refine WO_p (PS_move_slice rfl) ?_
    refine WO_p (PS_lenS Hvac.runUnderlying76 rfl) ?_
    refine WO_make (z := .agg (encL ⟨List.replicate 20 0, (none, 0, 0), (none, 0, 0)⟩).toArray) Hvac.underlying76 info277 rfl rfl rfl (by omega) (by omega) (by show ((72 : Nat) : Int) * _ ≤ _; omega) (by omega) ?_
    rw [show ((n : Int)).toNat = n from Int.toNat_natCast _]
    refine WO_p (PS_assign_slice rfl) ?_
    refine WO_nil ?_
    refine thn_normal ?_
    refine W_seq ?_
    refine W_seq ?_
    refine W_region rfl ?_
    refine WO_p (PS_move_slice rfl) ?_
    refine WO_p (PS_lenS Hvac.runUnderlying76 rfl) ?_
    refine WO_p (PS_move_int rfl) ?_
    refine WO_nil ?_
    refine thn_normal ?_
    refine W_block ?_
    refine W_loopN (fun k ρ w' => ∃ (i : Nat) (pF : Option Addr) (K : List LogR), i + k = n ∧ K.length = i ∧ FL encL 22 277 w [] w' (pF, n, n) n K ∧ (∀ x ∈ K, LgR w' x) ∧ Fr [(3, .slice pF n n), (11, .slice p n cp), (12, .int .i64 n), (13, .int .i64 i)] ρ ∧ Ext w w') n ?_ ?_
    · exact ⟨0, some ⟨_, 0, none⟩, [], by omega, rfl, FL.made (Hb.newY _ _) (size_madeCells _ _) (Nat.le_refl _) (by simp), by simp, ⟨rfl, rfl, rfl, rfl, trivial⟩, (by repeat (first | assumption | exact Ext.refl _ | refine Ext.alloc ?_ _ | refine Ext.drew ?_ | refine Ext.setB ?_ (by first | omega | (simp only [size_alloc, size_setB, size_drew]; omega)) _ | refine Ext.trans ?_ (by assumption)))⟩
    intro k2 ρ2 w2 hI2
    obtain ⟨i, pF, K, hik, hKi, hFL, hKg, hFr2, hE2⟩ := hI2
    refine W_env _ hFr2 ?_
    have hz2 := hE2.1
    refine W_seq ?_
    refine W_region rfl ?_
    refine WO_p (PS_lss rfl rfl) ?_
    refine WO_nil ?_
    refine thn_normal ?_
    refine W_seq ?_
    refine W_if rfl (fun hb4 => ?_) (fun hb4 => ?_)
    · have hb4p := hb4.h; try simp only [al_ete, al_dfn, Bool.not_eq_true', Bool.not_eq_false', al_ne, Bool.not_not, al_nn] at hb4p
      obtain ⟨x2, hx2⟩ : ∃ x2, L[i]? = some x2 := ⟨_, List.getElem?_eq_getElem (by omega)⟩
      have hg2 := (hLg x2 (List.mem_of_getElem? hx2)).ext hE2
      have hxl2 := hg2.ab.1
      have hxE2 := encL_len2 hxl2
      obtain ⟨b, r, fz2, hp, hb, hrs, hXi⟩ := pla_at (hPL.ext hE2) hx2 hxE2
      subst hp
      have hX2 := encL_addr2 hxl2
      have hk1 := encL_1 hxl2
      have hk2 := encL_2 hxl2
      have hone2 := one_L2 x2
      have hsz2 : (encL x2).toArray.size = 22 := by simpa using hxE2
      obtain ⟨LTY, hT, hT4, hTb⟩ := hg2.top
      obtain ⟨LD, hD, hD8⟩ := hg2.data
      have hTn := hT.len
      have hDn := hD.len
      obtain ⟨bF, rF, hsF, hbF0, hbFX, hbF, hrF, hRF⟩ := hFL.row (by omega)
      dsimp only at hsF
      subst hsF
      have hbFl := hbF.lt
      have hFb : 0 + i * 22 + 22 ≤ rF.size := by rw [hrF]; have := Nat.mul_le_mul_right 22 (show i + 1 ≤ n by omega); omega
      refine W_skip ?_
      refine thn_normal ?_
      refine W_seq ?_
      refine W_block ?_
      refine W_seq ?_
      refine W_region rfl ?_
      refine WO_p (PS_move_int rfl) ?_
      refine WO_p (PS_indexS Hvac.runUnderlying76 Hvac.sizeOf277 rfl rfl (by omega) (by omega)) ?_
      refine WO_loadA _ Hvac.isAgg277 Hvac.sizeOf277 rfl (Hb.h (by repeat (first | assumption | exact Hb.newY _ _ | refine Hb.alloc ?_ | refine Hb.drew ?_ | refine Hb.ext (by assumption) ?_ | exact Hb.setSameL (by first | omega | (simp only [size_alloc, size_setB, size_drew]; omega)) | exact Hb.setSame (by assumption) | refine Hb.set (by first | omega | (simp only [size_alloc, size_setB, size_drew]; omega)) ?_ ))) (by first | omega | assumption | rfl | decide | exact Nat.le_refl _ | (simp only [size_ic, Value.cells]; omega) | (simp; omega) | simp) (Xt.h (by first | assumption | exact Xt.whole rfl rfl | exact Xt.whole rfl (by assumption) | exact Xt.whole rfl (by simp only [size_ic, Value.cells]; omega) | exact ⟨rfl⟩)) ?_
      refine WO_allocG Hvac.zeroValue277 ?_
      intro b5 v5 hg5 hE5 hH5 hl5
      try simp only [size_alloc, size_setB, size_drew] at hg5
      have hzz5 := hE5.1
      try simp only [size_alloc, size_setB, size_drew] at hzz5
      replace hH5 : Hb v5 b5 (.cells ((encL ⟨List.replicate 20 0, (none, 0, 0), (none, 0, 0)⟩).toArray) 277 (0, 0)) := hH5
      refine WO_p (PS_assign_int rfl) ?_
      first | refine WO_storeW Hvac.sizeOf277 rfl (v := .agg _) rfl (Hb.h (by repeat (first | assumption | exact Hb.newY _ _ | refine Hb.alloc ?_ | refine Hb.drew ?_ | refine Hb.ext (by assumption) ?_ | exact Hb.setSameL (by first | omega | (simp only [size_alloc, size_setB, size_drew]; omega)) | exact Hb.setSame (by assumption) | refine Hb.set (by first | omega | (simp only [size_alloc, size_setB, size_drew]; omega)) ?_ ))) rfl (by first | omega | assumption | rfl | decide | exact Nat.le_refl _ | (simp only [size_ic, Value.cells]; omega) | (simp; omega) | simp) (by first | omega | assumption | rfl | decide | exact Nat.le_refl _ | (simp only [size_ic, Value.cells]; omega) | (simp; omega) | simp) (by first | exact oneCell_ic | assumption | exact one_Ws2 _ | exact one_YA2 _ | exact one_YSl2 _ | exact one_YM2 _ | exact one_YT2 _ | exact one_L2 _) ?_ | refine WO_store Hvac.sizeOf277 rfl (v := .agg _) rfl (Hb.h (by repeat (first | assumption | exact Hb.newY _ _ | refine Hb.alloc ?_ | refine Hb.drew ?_ | refine Hb.ext (by assumption) ?_ | exact Hb.setSameL (by first | omega | (simp only [size_alloc, size_setB, size_drew]; omega)) | exact Hb.setSame (by assumption) | refine Hb.set (by first | omega | (simp only [size_alloc, size_setB, size_drew]; omega)) ?_ ))) (by first | omega | assumption | rfl | decide | exact Nat.le_refl _ | (simp only [size_ic, Value.cells]; omega) | (simp; omega) | simp) (by first | omega | assumption | rfl | decide | exact Nat.le_refl _ | (simp only [size_ic, Value.cells]; omega) | (simp; omega) | simp) (by first | exact oneCell_ic | assumption | exact one_Ws2 _ | exact one_YA2 _ | exact one_YSl2 _ | exact one_YM2 _ | exact one_YT2 _ | exact one_L2 _) ?_
      refine WO_nil ?_
      refine thn_normal ?_
      refine W_drawE [false, false, false, false, false, false, true, false, false, true, false, false, false] hmix (by kernel_rfl) rfl ?_
      refine WH_p (PS_move_slice rfl) rfl ?_
      refine WH_p (PS_move_int rfl) rfl ?_
      refine WH_p (PS_fieldAddr 0 Hvac.runUnderlying277 rfl Hvac.sizeOf25 rfl rfl) rfl ?_
      refine WH_loadA _ Hvac.isAgg25 Hvac.sizeOf25 rfl (Hb.h (by repeat (first | assumption | exact Hb.newY _ _ | refine Hb.alloc ?_ | refine Hb.drew ?_ | refine Hb.ext (by assumption) ?_ | exact Hb.setSameL (by first | omega | (simp only [size_alloc, size_setB, size_drew]; omega)) | exact Hb.setSame (by assumption) | refine Hb.set (by first | omega | (simp only [size_alloc, size_setB, size_drew]; omega)) ?_ ))) (by first | omega | assumption | rfl | decide | exact Nat.le_refl _ | (simp only [size_ic, Value.cells]; omega) | (simp; omega) | simp) (Xt.h (by first | assumption | exact Xt.whole rfl rfl | exact Xt.whole rfl (by assumption) | exact Xt.whole rfl (by simp only [size_ic, Value.cells]; omega) | exact ⟨rfl⟩)) ?_
      refine WH_p (PS_fieldAddr 20 Hvac.runUnderlying277 rfl Hvac.sizeOf29 rfl rfl) rfl ?_
      refine WH_load (.slice _ _ _) Hvac.isAgg29 rfl (Hb.h (by repeat (first | assumption | exact Hb.newY _ _ | refine Hb.alloc ?_ | refine Hb.drew ?_ | refine Hb.ext (by assumption) ?_ | exact Hb.setSameL (by first | omega | (simp only [size_alloc, size_setB, size_drew]; omega)) | exact Hb.setSame (by assumption) | refine Hb.set (by first | omega | (simp only [size_alloc, size_setB, size_drew]; omega)) ?_ ))) (Ce.h (by first | assumption | exact ⟨rfl⟩)) ?_
      refine WH_call Hvac.call56 (by rfl) (Ret.mono (yWordsOf_spec _ (OmB.ext hO (by repeat (first | assumption | exact Ext.refl _ | refine Ext.alloc ?_ _ | refine Ext.drew ?_ | refine Ext.setB ?_ (by first | omega | (simp only [size_alloc, size_setB, size_drew]; omega)) _ | exact Ext.trans (by assumption) (by assumption) | refine Ext.trans ?_ (by assumption)))) x2.topics.1 x2.topics.2.1 x2.topics.2.2 LTY (PL.ext hT (by repeat (first | assumption | exact Ext.refl _ | refine Ext.alloc ?_ _ | refine Ext.drew ?_ | refine Ext.setB ?_ (by first | omega | (simp only [size_alloc, size_setB, size_drew]; omega)) _ | exact Ext.trans (by assumption) (by assumption) | refine Ext.trans ?_ (by assumption)))) hTb (by omega)) ?_)
      rintro _ wT ⟨hET, sT, rfl, hTT⟩
      refine ⟨fun _ => (by repeat (first | assumption | exact Ext.refl _ | refine Ext.alloc ?_ _ | refine Ext.drew ?_ | refine Ext.setB ?_ (by first | omega | (simp only [size_alloc, size_setB, size_drew]; omega)) _ | exact Ext.trans (by assumption) (by assumption) | refine Ext.trans ?_ (by assumption))), ?_⟩
      have hzT := hET.1
      try simp only [size_alloc, size_setB, size_drew] at hzT
      refine WH_p (PS_fieldAddr 21 Hvac.runUnderlying277 rfl Hvac.sizeOf32 rfl rfl) rfl ?_
      refine WH_load (.slice _ _ _) Hvac.isAgg32 rfl (Hb.h (by repeat (first | assumption | exact Hb.newY _ _ | refine Hb.alloc ?_ | refine Hb.drew ?_ | refine Hb.ext (by assumption) ?_ | exact Hb.setSameL (by first | omega | (simp only [size_alloc, size_setB, size_drew]; omega)) | exact Hb.setSame (by assumption) | refine Hb.set (by first | omega | (simp only [size_alloc, size_setB, size_drew]; omega)) ?_ ))) (Ce.h (by first | assumption | exact ⟨rfl⟩)) ?_
      refine WH_call Hvac.call31 (by rfl) (Ret.mono (yBytesOf_spec _ (OmB.ext hO (by repeat (first | assumption | exact Ext.refl _ | refine Ext.alloc ?_ _ | refine Ext.drew ?_ | refine Ext.setB ?_ (by first | omega | (simp only [size_alloc, size_setB, size_drew]; omega)) _ | exact Ext.trans (by assumption) (by assumption) | refine Ext.trans ?_ (by assumption)))) x2.data.1 x2.data.2.1 x2.data.2.2 LD (AB.ext hD.ab (by repeat (first | assumption | exact Ext.refl _ | refine Ext.alloc ?_ _ | refine Ext.drew ?_ | refine Ext.setB ?_ (by first | omega | (simp only [size_alloc, size_setB, size_drew]; omega)) _ | exact Ext.trans (by assumption) (by assumption) | refine Ext.trans ?_ (by assumption)))) (by omega)) ?_)
      rintro _ wD ⟨hED, sD, rfl, hDD⟩
      refine ⟨fun _ => (by repeat (first | assumption | exact Ext.refl _ | refine Ext.alloc ?_ _ | refine Ext.drew ?_ | refine Ext.setB ?_ (by first | omega | (simp only [size_alloc, size_setB, size_drew]; omega)) _ | exact Ext.trans (by assumption) (by assumption) | refine Ext.trans ?_ (by assumption))), ?_⟩
      have hzD := hED.1
      try simp only [size_alloc, size_setB, size_drew] at hzD
      refine WH_p (PS_b277 (A := x2.addr) rfl hxl2 rfl rfl) rfl ?_
      have honeN := one_L2 ⟨x2.addr, sT, sD⟩
      have hlenN := encL_len2 (x := ⟨x2.addr, sT, sD⟩) hxl2
      have hszN : (encL ⟨x2.addr, sT, sD⟩).toArray.size = 22 := by simpa using hlenN
      have hE2D : Ext w2 wD := (by repeat (first | assumption | exact Ext.refl _ | refine Ext.alloc ?_ _ | refine Ext.drew ?_ | refine Ext.setB ?_ (by first | omega | (simp only [size_alloc, size_setB, size_drew]; omega)) _ | exact Ext.trans (by assumption) (by assumption) | refine Ext.trans ?_ (by assumption)))
      have hETD : Ext wT wD := hED
      have hFLw := hFL.ext hE2D
      have hbFw := hbF.ext hE2D
      have hEwD : Ext w wD := (by repeat (first | assumption | exact Ext.refl _ | refine Ext.alloc ?_ _ | refine Ext.drew ?_ | refine Ext.setB ?_ (by first | omega | (simp only [size_alloc, size_setB, size_drew]; omega)) _ | exact Ext.trans (by assumption) (by assumption) | refine Ext.trans ?_ (by assumption)))
      refine WH_p (PS_indexS Hvac.runUnderlying76 Hvac.sizeOf277 rfl rfl (by omega) (by omega)) rfl ?_
      first | refine WH_storeW Hvac.sizeOf277 rfl (v := .agg _) rfl (Hb.h (by repeat (first | assumption | exact Hb.newY _ _ | refine Hb.alloc ?_ | refine Hb.drew ?_ | refine Hb.ext (by assumption) ?_ | exact Hb.setSameL (by first | omega | (simp only [size_alloc, size_setB, size_drew]; omega)) | exact Hb.setSame (by assumption) | refine Hb.set (by first | omega | (simp only [size_alloc, size_setB, size_drew]; omega)) ?_ ))) rfl (by first | omega | assumption | rfl | decide | exact Nat.le_refl _ | (simp only [size_ic, Value.cells]; omega) | (simp; omega) | simp) (by first | omega | assumption | rfl | decide | exact Nat.le_refl _ | (simp only [size_ic, Value.cells]; omega) | (simp; omega) | simp) (by first | exact oneCell_ic | assumption | exact one_Ws2 _ | exact one_YA2 _ | exact one_YSl2 _ | exact one_YM2 _ | exact one_YT2 _ | exact one_L2 _) (fun h => by cases h) ?_ | refine WH_store Hvac.sizeOf277 rfl (v := .agg _) rfl (Hb.h (by repeat (first | assumption | exact Hb.newY _ _ | refine Hb.alloc ?_ | refine Hb.drew ?_ | refine Hb.ext (by assumption) ?_ | exact Hb.setSameL (by first | omega | (simp only [size_alloc, size_setB, size_drew]; omega)) | exact Hb.setSame (by assumption) | refine Hb.set (by first | omega | (simp only [size_alloc, size_setB, size_drew]; omega)) ?_ ))) (by first | omega | assumption | rfl | decide | exact Nat.le_refl _ | (simp only [size_ic, Value.cells]; omega) | (simp; omega) | simp) (by first | omega | assumption | rfl | decide | exact Nat.le_refl _ | (simp only [size_ic, Value.cells]; omega) | (simp; omega) | simp) (by first | exact oneCell_ic | assumption | exact one_Ws2 _ | exact one_YA2 _ | exact one_YSl2 _ | exact one_YM2 _ | exact one_YT2 _ | exact one_L2 _) (fun h => by cases h) ?_
      refine WH_nil ?_
      refine inBlk_normal ?_
      refine thn_normal ?_
      refine W_region rfl ?_
      refine WO_p (PS_add_i64n rfl rfl (by omega) (by omega)) ?_
      refine WO_p (PS_move_int rfl) ?_
      refine WO_nil ?_
      refine thn_normal ?_
      refine ⟨k2 - 1, by omega, i + 1, some ⟨bF, 0, none⟩, K ++ [⟨x2.addr, sT, sD⟩], by omega, by simp; omega, hFLw.put hKi (by omega) hbFw hlenN (by simp [Value.cells]), ?_, ⟨rfl, rfl, rfl, congrArg (Value.int .i64) (by omega), trivial⟩, Ext.setB hEwD (by omega) _⟩
      intro x hx
      rcases List.mem_append.1 hx with hx | hx
      · exact ((hKg x hx).ext hE2D).kt (KT.setB hbFw (by decide)) (KT.setB hbFw (by decide))
      · simp at hx; subst hx; exact ⟨hg2.ab, ⟨LTY, (hTT.ext hETD).kt (KT.setB hbFw (by decide)), hT4, hTb⟩, ⟨LD, hDD.kt (KT.setB hbFw (by decide)), hD8⟩⟩
    · have hb4p := hb4.h; try simp only [al_ete, al_dfn, Bool.not_eq_true', Bool.not_eq_false', al_ne, Bool.not_not, al_nn] at hb4p
      refine W_exit ?_
      refine thn_exit ?_
      refine thn_exit ?_
      refine inBlk_exit ?_
      refine thn_normal ?_
      refine W_seq ?_
      refine W_region rfl ?_
      refine WO_p (PS_move_slice rfl) ?_
      refine WO_p (PS_assign_slice rfl) ?_
      refine WO_nil ?_
      refine thn_normal ?_
      refine W_ret ?_
      refine bodyQ_ret1 Hvac.results165 rfl (.slice _ _ _) rfl ?_
      first
      | (refine ⟨(by repeat (first | assumption | exact Ext.refl _ | refine Ext.alloc ?_ _ | refine Ext.drew ?_ | refine Ext.setB ?_ (by first | omega | (simp only [size_alloc, size_setB, size_drew]; omega)) _ | refine Ext.trans ?_ (by assumption))), (none, 0, 0), rfl, ?_⟩
         rw [show m = 0 by omega]; exact LgsR.nil _)
      | exact ⟨(by repeat (first | assumption | exact Ext.refl _ | refine Ext.alloc ?_ _ | refine Ext.drew ?_ | refine Ext.setB ?_ (by first | omega | (simp only [size_alloc, size_setB, size_drew]; omega)) _ | refine Ext.trans ?_ (by assumption))), (pF, n, n), rfl, K, hFL.pl hO (by omega), by omega, hKg, rfl⟩

end Go.Proofs.YgvacwGreat
