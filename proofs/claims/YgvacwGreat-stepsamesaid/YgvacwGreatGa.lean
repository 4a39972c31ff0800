import Derived.Test.YgvacwGreatRj
import Derived.Test.YgvacwGreatOg
namespace Go.Proofs.YgvacwGreat
set_option linter.unusedSimpArgs false
set_option linter.unusedVariables false
theorem rowl_made {α : Type} {enc : α → List Value} {u : Nat} {z : Array Value} {x0 : α} (hz : z = (enc x0).toArray) (hu : (enc x0).length = u) (h0 : 0 < u) (n : Nat) : RowL enc u 0 (madeCells z (n * u)) (List.replicate n x0) := by
  refine ⟨by rw [size_madeCells, List.length_replicate, Nat.mul_comm]; omega, fun i x hx k hk => ?_⟩
  have hi : i < n := by have := lt_of_getElem? hx; simpa using this
  have hx0 : x = x0 := by rw [List.getElem?_replicate, if_pos hi] at hx; exact (Option.some.inj hx).symm
  subst hx0
  have hlt : 0 + i * u + k < n * u := by
    have : (i + 1) * u ≤ n * u := Nat.mul_le_mul_right u hi
    rw [Nat.add_mul] at this; omega
  unfold madeCells
  rw [Array.getElem?_map, Array.getElem?_range, if_pos hlt]
  have e : (0 + i * u + k) % z.size = k := by
    rw [hz, List.size_toArray, hu, Nat.zero_add, Nat.mul_comm, Nat.mul_add_mod, Nat.mod_eq_of_lt hk]
  show some z[(0 + i * u + k) % z.size]! = _
  rw [e, hz]
  rw [getElem!_pos _ k (by simp [hu]; exact hk), List.getElem?_eq_getElem (by omega)]
  rfl
theorem rowl_ext {z : Array Value} {α : Type} {enc : α → List Value} {u n : Nat} {r : Array Value} {l : List α} (h : RowL enc u 0 r l) (hl : l.length = n) : RowL enc u 0 (splice (madeCells z (n * u)) 0 (r.extract 0 (0 + n * u)).toList) l := by
  have hb := h.1
  have hs : (r.extract 0 (0 + n * u)).toList.length = n * u := by
    simp; rw [Nat.mul_comm]; rw [hl] at hb; omega
  refine ⟨by rw [size_splice, size_madeCells, hl, Nat.mul_comm]; omega, fun i x hx k hk => ?_⟩
  have hlt := mul_le_of_lt (sz := u) (lt_of_getElem? hx)
  rw [hl] at hlt
  rw [splice_get _ _ _ _ (by rw [hs, size_madeCells]; omega), if_pos (by rw [hs, Nat.mul_comm n u]; omega), ← h.2 i x hx k hk]
  rw [Array.getElem?_toList, Array.getElem?_extract, if_pos (by rw [Nat.mul_comm n u, hl] at *; omega)]
  congr 1; omega
theorem rowl_one {α : Type} {enc : α → List Value} {u n : Nat} {r : Array Value} {l : List α} (h : RowL enc u 0 r l) (hl : l.length = n) (h0 : 0 < u) (hlen : ∀ x ∈ l, (enc x).length = u) (hone : ∀ x, ∀ v ∈ enc x, v.oneCell' = true) : ∀ v ∈ (r.extract 0 (0 + n * u)).toList, v.oneCell' = true := by
  intro v hv
  obtain ⟨j, hj, he⟩ := List.mem_iff_getElem.1 hv
  have hb := h.1
  have hj2 : j < n * u := by simp at hj; omega
  have hi : j / u < l.length := by rw [hl]; exact Nat.div_lt_of_lt_mul (by rw [Nat.mul_comm]; exact hj2)
  have hc := h.2 (j / u) l[j / u] (List.getElem?_eq_getElem hi) (j % u) (Nat.mod_lt _ h0)
  have e : 0 + j / u * u + j % u = j := by rw [Nat.zero_add, Nat.mul_comm]; exact Nat.div_add_mod j u
  rw [e] at hc
  have hv2 : r[j]? = some v := by
    have h2 : (r.extract 0 (0 + n * u)).toList[j]? = some v := by rw [List.getElem?_eq_getElem hj, he]
    rw [Array.getElem?_toList, Array.getElem?_extract] at h2
    split at h2
    · simpa using h2
    · cases h2
  rw [hv2, List.getElem?_eq_getElem (by rw [hlen _ (List.getElem_mem hi)]; exact Nat.mod_lt _ h0)] at hc
  rw [Option.some.inj hc]
  exact hone _ _ (List.getElem_mem _)
theorem one_W32 (x : List Int) : ∀ u ∈ encW32 x, u.oneCell' = true := by intro u hu; obtain ⟨a, _, rfl⟩ := List.mem_map.1 hu; rfl

set_option maxRecDepth 10000 in
set_option maxHeartbeats 4000000 in
theorem yBytesOfZ_spec [Om] (w : World) (hO : OmB w) (p : Option Addr) (cp : Nat) : Ret Hvac.prog 31 #[.slice p 0 cp] w fun u w' => Ext w w' ∧ ∃ s' : SV, u = .slice s'.1 s'.2.1 s'.2.2 ∧ PB w' s' [] := by
  refine Ret_of_W Hvac.func31 rfl rfl ?_
  refine W_seq ?_
  refine W_region rfl ?_
  refine WO_p (PS_assign_slice rfl) ?_
  refine WO_nil ?_
  refine thn_normal ?_
  refine W_seq ?_
  refine W_seq ?_
  refine W_region rfl ?_
  refine WO_p (PS_move_slice rfl) ?_
  refine WO_p (PS_eqlslnil Hvac.underlying32 rfl) ?_
  refine WO_nil ?_
  refine thn_normal ?_
  refine W_if rfl (fun hb2 => ?_) (fun hb2 => ?_)
  · have hb2p := hb2.h; try simp only [al_ete, al_dfn, Bool.not_eq_true', Bool.not_eq_false', al_ne, Bool.not_not, al_nn] at hb2p
    refine W_seq ?_
    refine W_region rfl ?_
    refine WO_p (PS_assign_slice rfl) ?_
    refine WO_nil ?_
    refine thn_normal ?_
    refine W_ret ?_
    refine thn_ret ?_
    refine bodyQ_ret1 Hvac.results31 rfl (.slice _ _ _) rfl ?_
    first
    | exact ⟨(by repeat (first | assumption | exact Ext.refl _ | refine Ext.alloc ?_ _ | refine Ext.drew ?_ | refine Ext.setB ?_ (by first | omega | (simp only [size_alloc, size_setB, size_drew]; omega)) _ | refine Ext.trans ?_ (by assumption))), (none, 0, 0), rfl, PB.nil _⟩
    | exact ⟨(by repeat (first | assumption | exact Ext.refl _ | refine Ext.alloc ?_ _ | refine Ext.drew ?_ | refine Ext.setB ?_ (by first | omega | (simp only [size_alloc, size_setB, size_drew]; omega)) _ | refine Ext.trans ?_ (by assumption))), (some ⟨_, 0, none⟩, 0, 0), rfl, PB.newY (Hb.newY _ _) (hO.fresh (Nat.le_refl _)) (by intro x hx; cases hx) rfl⟩
  · have hb2p := hb2.h; try simp only [al_ete, al_dfn, Bool.not_eq_true', Bool.not_eq_false', al_ne, Bool.not_not, al_nn] at hb2p
    refine W_skip ?_
    refine thn_normal ?_
    refine W_seq ?_
    refine W_region rfl ?_
    refine WO_p (PS_move_slice rfl) ?_
    refine WO_p (PS_lenS Hvac.runUnderlying32 rfl) ?_
    refine WO_make (z := .int .u8 0) Hvac.underlying32 info5 rfl rfl rfl (by omega) (by omega) (by show (1:Int) * _ ≤ _; omega) (by omega) ?_
    rw [show ((0:Nat):Int).toNat = 0 from rfl, show madeCells (Value.int IntKind.u8 0).cells (0 * Hvac.t5.size) = ic .u8 (List.replicate 0 0) from by rw [show Hvac.t5.size = 1 from rfl, Nat.mul_one]; exact made_ic .u8 _]
    refine WO_p (PS_assign_slice rfl) ?_
    refine WO_nil ?_
    refine thn_normal ?_
    refine W_seq ?_
    refine W_region rfl ?_
    refine WO_p (PS_move_slice rfl) ?_
    refine WO_p (PS_move_slice rfl) ?_
    refine WO_copyZ Hvac.runUnderlying32 Hvac.sizeOf5 rfl rfl ?_
    refine WO_nil ?_
    refine thn_normal ?_
    refine W_seq ?_
    refine W_region rfl ?_
    refine WO_p (PS_move_slice rfl) ?_
    refine WO_p (PS_assign_slice rfl) ?_
    refine WO_nil ?_
    refine thn_normal ?_
    refine W_ret ?_
    refine bodyQ_ret1 Hvac.results31 rfl (.slice _ _ _) rfl ?_
    first
    | exact ⟨(by repeat (first | assumption | exact Ext.refl _ | refine Ext.alloc ?_ _ | refine Ext.drew ?_ | refine Ext.setB ?_ (by first | omega | (simp only [size_alloc, size_setB, size_drew]; omega)) _ | refine Ext.trans ?_ (by assumption))), (none, 0, 0), rfl, PB.nil _⟩
    | exact ⟨(by repeat (first | assumption | exact Ext.refl _ | refine Ext.alloc ?_ _ | refine Ext.drew ?_ | refine Ext.setB ?_ (by first | omega | (simp only [size_alloc, size_setB, size_drew]; omega)) _ | refine Ext.trans ?_ (by assumption))), (some ⟨_, 0, none⟩, 0, 0), rfl, PB.newY (Hb.newY _ _) (hO.fresh (Nat.le_refl _)) (by intro x hx; cases hx) rfl⟩

set_option maxRecDepth 10000 in
set_option maxHeartbeats 4000000 in
theorem yBytesOfN_spec [Om] (w : World) (hO : OmB w) (b o n cp : Nat) (r : Array Value) (T : TypeId) (fz : Nat × Nat) (L : List Int) (hb : Hb w b (.cells r T fz)) (hX : Xt r o (o + n) (ic .u8 L)) (hrs : o + n ≤ r.size) (hL : By L n) (h0 : 0 < n) (hm : n ≤ 100000000) : Ret Hvac.prog 31 #[.slice (some ⟨b, o, none⟩) n cp] w fun u w' => Ext w w' ∧ ∃ s' : SV, u = .slice s'.1 s'.2.1 s'.2.2 ∧ PB w' s' L := by
  have hln := hL.1
  refine Ret_of_W Hvac.func31 rfl rfl ?_
  refine W_seq ?_
  refine W_region rfl ?_
  refine WO_p (PS_assign_slice rfl) ?_
  refine WO_nil ?_
  refine thn_normal ?_
  refine W_seq ?_
  refine W_seq ?_
  refine W_region rfl ?_
  refine WO_p (PS_move_slice rfl) ?_
  refine WO_p (PS_eqlslnil Hvac.underlying32 rfl) ?_
  refine WO_nil ?_
  refine thn_normal ?_
  refine W_if rfl (fun hb2 => ?_) (fun hb2 => ?_)
  · have hb2p := hb2.h; try simp only [al_ete, al_dfn, Bool.not_eq_true', Bool.not_eq_false', al_ne, Bool.not_not, al_nn] at hb2p
    simp at hb2p --END
  · have hb2p := hb2.h; try simp only [al_ete, al_dfn, Bool.not_eq_true', Bool.not_eq_false', al_ne, Bool.not_not, al_nn] at hb2p
    refine W_skip ?_
    refine thn_normal ?_
    refine W_seq ?_
    refine W_region rfl ?_
    refine WO_p (PS_move_slice rfl) ?_
    refine WO_p (PS_lenS Hvac.runUnderlying32 rfl) ?_
    refine WO_make (z := .int .u8 0) Hvac.underlying32 info5 rfl rfl rfl (by omega) (by omega) (by show (1:Int) * _ ≤ _; omega) (by omega) ?_
    rw [show ((n:Int)).toNat = n from Int.toNat_natCast _, show madeCells (Value.int IntKind.u8 0).cells (n * Hvac.t5.size) = ic .u8 (List.replicate n 0) from by rw [show Hvac.t5.size = 1 from rfl, Nat.mul_one]; exact made_ic .u8 _]
    refine WO_p (PS_assign_slice rfl) ?_
    refine WO_nil ?_
    refine thn_normal ?_
    refine W_seq ?_
    refine W_region rfl ?_
    refine WO_p (PS_move_slice rfl) ?_
    refine WO_p (PS_move_slice rfl) ?_
    refine WO_copy n (vs := ic .u8 L) Hvac.runUnderlying32 Hvac.sizeOf5 rfl rfl (Hb.h (Hb.newY _ _)) (Hb.h (Hb.alloc hb)) (Nat.min_self _) (by rw [size_ic, List.length_replicate]; omega) (by omega) (by rw [Nat.mul_one]; exact hX.h) oneCell_ic ?_
    rw [splice_whole rfl (by simp [ic]; omega), show (ic .u8 L).toList.toArray = ic .u8 L from Array.toArray_toList]
    refine WO_nil ?_
    refine thn_normal ?_
    refine W_seq ?_
    refine W_region rfl ?_
    refine WO_p (PS_move_slice rfl) ?_
    refine WO_p (PS_assign_slice rfl) ?_
    refine WO_nil ?_
    refine thn_normal ?_
    refine W_ret ?_
    refine bodyQ_ret1 Hvac.results31 rfl (.slice _ _ _) rfl ?_
    exact ⟨(by repeat (first | assumption | exact Ext.refl _ | refine Ext.alloc ?_ _ | refine Ext.drew ?_ | refine Ext.setB ?_ (by first | omega | (simp only [size_alloc, size_setB, size_drew]; omega)) _ | refine Ext.trans ?_ (by assumption))), (some ⟨_, 0, none⟩, n, n), rfl, PB.newY (Hb.setSame (Hb.newY _ _)) (hO.fresh (Nat.le_refl _)) hL.2 hL.1⟩

theorem yBytesOf_spec [Om] (w : World) (hO : OmB w) (p : Option Addr) (n cp : Nat) (L : List Int) (hs : AB w (p, n, cp) L) (hm : n ≤ 100000000) : Ret Hvac.prog 31 #[.slice p n cp] w fun u w' => Ext w w' ∧ ∃ s' : SV, u = .slice s'.1 s'.2.1 s'.2.2 ∧ PB w' s' L := by
  have hl := hs.len
  rcases Nat.eq_zero_or_pos n with h0 | h0
  · subst h0
    have hL0 : L = [] := List.eq_nil_of_length_eq_zero hl
    subst hL0
    exact yBytesOfZ_spec w hO p cp
  · obtain ⟨b, o, r, T, fz, h1, h2, h3, h4⟩ := hs.row h0
    dsimp only at h1 h3 h4
    subst h1
    exact yBytesOfN_spec w hO b o n cp r T fz L h2 h4 h3 ⟨hl, hs.by_⟩ h0 hm
set_option maxRecDepth 10000 in
set_option maxHeartbeats 4000000 in
theorem yNatOf_spec [Om] (w : World) (hO : OmB w) (ap : Option Addr) (an acY a : Nat) (ha : NN w (ap, an, acY) a) (za : sz a ≤ 1000) : Ret Hvac.prog 164 #[.slice ap an acY] w fun u w' => Ext w w' ∧ ∃ s' : SV, u = .slice s'.1 s'.2.1 s'.2.2 ∧ NN w' s' (a) := by
  have han := ha.szl
  refine Ret_of_W Hvac.func164 rfl rfl ?_
  refine W_seq ?_
  refine W_region rfl ?_
  refine WO_p (PS_assign_slice rfl) ?_
  refine WO_nil ?_
  refine thn_normal ?_
  refine W_seq ?_
  refine W_region rfl ?_
  refine WO_p (PS_move_slice rfl) ?_
  refine WO_call Hvac.call31 (by rfl) (Ret.mono (yBytesOf_spec _ (OmB.ext hO (by repeat (first | assumption | exact Ext.refl _ | refine Ext.alloc ?_ _ | refine Ext.drew ?_ | refine Ext.setB ?_ (by first | omega | (simp only [size_alloc, size_setB, size_drew]; omega)) _ | exact Ext.trans (by assumption) (by assumption) | refine Ext.trans ?_ (by assumption)))) _ _ _ (dg a) (PB.ab (PB.ext ha (by repeat (first | assumption | exact Ext.refl _ | refine Ext.alloc ?_ _ | refine Ext.drew ?_ | refine Ext.setB ?_ (by first | omega | (simp only [size_alloc, size_setB, size_drew]; omega)) _ | exact Ext.trans (by assumption) (by assumption) | refine Ext.trans ?_ (by assumption))))) (by omega)) ?_)
  rintro _ w31_0 ⟨hE31_0, s31_0, rfl, hN31_0⟩
  have hz31_0 := hE31_0.1
  try simp only [size_alloc, size_setB, size_drew] at hz31_0
  refine WO_p (PS_assign_slice rfl) ?_
  refine WO_nil ?_
  refine thn_normal ?_
  refine W_ret ?_
  refine bodyQ_ret1 Hvac.results164 rfl (.slice _ _ _) rfl ?_
  exact ⟨(by repeat (first | assumption | exact Ext.refl _ | refine Ext.alloc ?_ _ | refine Ext.drew ?_ | refine Ext.setB ?_ (by first | omega | (simp only [size_alloc, size_setB, size_drew]; omega)) _ | refine Ext.trans ?_ (by assumption))), _, rfl, (by first | exact NN.nil _ | assumption | exact NN.ext (by assumption) (by repeat (first | assumption | exact Ext.refl _ | refine Ext.alloc ?_ _ | refine Ext.drew ?_ | refine Ext.setB ?_ (by first | omega | (simp only [size_alloc, size_setB, size_drew]; omega)) _ | refine Ext.trans ?_ (by assumption))))⟩

set_option maxRecDepth 10000 in
set_option maxHeartbeats 4000000 in
theorem yAddrsOfZ_spec [Om] (w : World) (hO : OmB w) (p : Option Addr) (cp : Nat) : Ret Hvac.prog 166 #[.slice p 0 cp] w fun u w' => Ext w w' ∧ ∃ s' : SV, u = .slice s'.1 s'.2.1 s'.2.2 ∧ PL encYAd 20 25 w' s' [] := by
  refine Ret_of_W Hvac.func166 rfl rfl ?_
  refine W_seq ?_
  refine W_region rfl ?_
  refine WO_p (PS_assign_slice rfl) ?_
  refine WO_nil ?_
  refine thn_normal ?_
  refine W_seq ?_
  refine W_seq ?_
  refine W_region rfl ?_
  refine WO_p (PS_move_slice rfl) ?_
  refine WO_p (PS_eqlslnil Hvac.underlying90 rfl) ?_
  refine WO_nil ?_
  refine thn_normal ?_
  refine W_if rfl (fun hb2 => ?_) (fun hb2 => ?_)
  · have hb2p := hb2.h; try simp only [al_ete, al_dfn, Bool.not_eq_true', Bool.not_eq_false', al_ne, Bool.not_not, al_nn] at hb2p
    refine W_seq ?_
    refine W_region rfl ?_
    refine WO_p (PS_assign_slice rfl) ?_
    refine WO_nil ?_
    refine thn_normal ?_
    refine W_ret ?_
    refine thn_ret ?_
    refine bodyQ_ret1 Hvac.results166 rfl (.slice _ _ _) rfl ?_
    first
    | exact ⟨(by repeat (first | assumption | exact Ext.refl _ | refine Ext.alloc ?_ _ | refine Ext.drew ?_ | refine Ext.setB ?_ (by first | omega | (simp only [size_alloc, size_setB, size_drew]; omega)) _ | refine Ext.trans ?_ (by assumption))), (none, 0, 0), rfl, PL.nil _ _ _ _⟩
    | exact ⟨(by repeat (first | assumption | exact Ext.refl _ | refine Ext.alloc ?_ _ | refine Ext.drew ?_ | refine Ext.setB ?_ (by first | omega | (simp only [size_alloc, size_setB, size_drew]; omega)) _ | refine Ext.trans ?_ (by assumption))), (some ⟨_, 0, none⟩, 0, 0), rfl, ⟨rfl, Nat.le_refl _, fun h => absurd h (Nat.lt_irrefl 0)⟩⟩
  · have hb2p := hb2.h; try simp only [al_ete, al_dfn, Bool.not_eq_true', Bool.not_eq_false', al_ne, Bool.not_not, al_nn] at hb2p
    refine W_skip ?_
    refine thn_normal ?_
    refine W_seq ?_
    refine W_region rfl ?_
    refine WO_p (PS_move_slice rfl) ?_
    refine WO_p (PS_lenS Hvac.runUnderlying90 rfl) ?_
    refine WO_make (z := .agg (ic .u8 (List.replicate 20 0))) Hvac.underlying90 info25 rfl rfl rfl (by omega) (by omega) (by show ((20 : Nat) : Int) * _ ≤ _; omega) (by omega) ?_
    refine WO_p (PS_assign_slice rfl) ?_
    refine WO_nil ?_
    refine thn_normal ?_
    refine W_seq ?_
    refine W_region rfl ?_
    refine WO_p (PS_move_slice rfl) ?_
    refine WO_p (PS_move_slice rfl) ?_
    refine WO_copyZ Hvac.runUnderlying90 Hvac.sizeOf25 rfl rfl ?_
    refine WO_nil ?_
    refine thn_normal ?_
    refine W_seq ?_
    refine W_region rfl ?_
    refine WO_p (PS_move_slice rfl) ?_
    refine WO_p (PS_assign_slice rfl) ?_
    refine WO_nil ?_
    refine thn_normal ?_
    refine W_ret ?_
    refine bodyQ_ret1 Hvac.results166 rfl (.slice _ _ _) rfl ?_
    first
    | exact ⟨(by repeat (first | assumption | exact Ext.refl _ | refine Ext.alloc ?_ _ | refine Ext.drew ?_ | refine Ext.setB ?_ (by first | omega | (simp only [size_alloc, size_setB, size_drew]; omega)) _ | refine Ext.trans ?_ (by assumption))), (none, 0, 0), rfl, PL.nil _ _ _ _⟩
    | exact ⟨(by repeat (first | assumption | exact Ext.refl _ | refine Ext.alloc ?_ _ | refine Ext.drew ?_ | refine Ext.setB ?_ (by first | omega | (simp only [size_alloc, size_setB, size_drew]; omega)) _ | refine Ext.trans ?_ (by assumption))), (some ⟨_, 0, none⟩, 0, 0), rfl, ⟨rfl, Nat.le_refl _, fun h => absurd h (Nat.lt_irrefl 0)⟩⟩

set_option maxRecDepth 10000 in
set_option maxHeartbeats 4000000 in
theorem yAddrsOfN_spec [Om] (w : World) (hO : OmB w) (b n cp : Nat) (r : Array Value) (fz : Nat × Nat) (L : List (List Int)) (hb : Hb w b (.cells r 25 fz)) (hR : RowL encYAd 20 0 r L) (hL : L.length = n) (hLl : ∀ x ∈ L, (encYAd x).length = 20) (h0 : 0 < n) (hm : n ≤ 100000000) : Ret Hvac.prog 166 #[.slice (some ⟨b, 0, none⟩) n cp] w fun u w' => Ext w w' ∧ ∃ s' : SV, u = .slice s'.1 s'.2.1 s'.2.2 ∧ PL encYAd 20 25 w' s' L := by
  have hb1 := hR.1
  refine Ret_of_W Hvac.func166 rfl rfl ?_
  refine W_seq ?_
  refine W_region rfl ?_
  refine WO_p (PS_assign_slice rfl) ?_
  refine WO_nil ?_
  refine thn_normal ?_
  refine W_seq ?_
  refine W_seq ?_
  refine W_region rfl ?_
  refine WO_p (PS_move_slice rfl) ?_
  refine WO_p (PS_eqlslnil Hvac.underlying90 rfl) ?_
  refine WO_nil ?_
  refine thn_normal ?_
  refine W_if rfl (fun hb2 => ?_) (fun hb2 => ?_)
  · have hb2p := hb2.h; try simp only [al_ete, al_dfn, Bool.not_eq_true', Bool.not_eq_false', al_ne, Bool.not_not, al_nn] at hb2p
    simp at hb2p --END
  · have hb2p := hb2.h; try simp only [al_ete, al_dfn, Bool.not_eq_true', Bool.not_eq_false', al_ne, Bool.not_not, al_nn] at hb2p
    refine W_skip ?_
    refine thn_normal ?_
    refine W_seq ?_
    refine W_region rfl ?_
    refine WO_p (PS_move_slice rfl) ?_
    refine WO_p (PS_lenS Hvac.runUnderlying90 rfl) ?_
    refine WO_make (z := .agg (ic .u8 (List.replicate 20 0))) Hvac.underlying90 info25 rfl rfl rfl (by omega) (by omega) (by show ((20 : Nat) : Int) * _ ≤ _; omega) (by omega) ?_
    rw [show ((n : Int)).toNat = n from Int.toNat_natCast _]
    refine WO_p (PS_assign_slice rfl) ?_
    refine WO_nil ?_
    refine thn_normal ?_
    refine W_seq ?_
    refine W_region rfl ?_
    refine WO_p (PS_move_slice rfl) ?_
    refine WO_p (PS_move_slice rfl) ?_
    refine WO_copy n (vs := r.extract 0 (0 + n * 20)) Hvac.runUnderlying90 Hvac.sizeOf25 rfl rfl (Hb.h (Hb.newY _ _)) (Hb.h (Hb.alloc hb)) (Nat.min_self _) (by rw [size_madeCells]; show 0 + n * 20 ≤ n * 20; omega) (by rw [hL] at hb1; omega) rfl (rowl_one hR hL (by decide) hLl one_YAd) ?_
    refine WO_nil ?_
    refine thn_normal ?_
    refine W_seq ?_
    refine W_region rfl ?_
    refine WO_p (PS_move_slice rfl) ?_
    refine WO_p (PS_assign_slice rfl) ?_
    refine WO_nil ?_
    refine thn_normal ?_
    refine W_ret ?_
    refine bodyQ_ret1 Hvac.results166 rfl (.slice _ _ _) rfl ?_
    refine ⟨(by repeat (first | assumption | exact Ext.refl _ | refine Ext.alloc ?_ _ | refine Ext.drew ?_ | refine Ext.setB ?_ (by first | omega | (simp only [size_alloc, size_setB, size_drew]; omega)) _ | refine Ext.trans ?_ (by assumption))), (some ⟨_, 0, none⟩, n, n), rfl, ⟨hL, Nat.le_refl _, fun _ => ⟨_, _, (0, 0), rfl, hO.fresh (Nat.le_refl _), Hb.setSame (Hb.newY _ _), rowl_ext hR hL⟩⟩⟩

set_option maxRecDepth 10000 in
set_option maxHeartbeats 4000000 in
theorem yWordsOfZ_spec [Om] (w : World) (hO : OmB w) (p : Option Addr) (cp : Nat) : Ret Hvac.prog 56 #[.slice p 0 cp] w fun u w' => Ext w w' ∧ ∃ s' : SV, u = .slice s'.1 s'.2.1 s'.2.2 ∧ PL encW32 32 28 w' s' [] := by
  refine Ret_of_W Hvac.func56 rfl rfl ?_
  refine W_seq ?_
  refine W_region rfl ?_
  refine WO_p (PS_assign_slice rfl) ?_
  refine WO_nil ?_
  refine thn_normal ?_
  refine W_seq ?_
  refine W_seq ?_
  refine W_region rfl ?_
  refine WO_p (PS_move_slice rfl) ?_
  refine WO_p (PS_eqlslnil Hvac.underlying29 rfl) ?_
  refine WO_nil ?_
  refine thn_normal ?_
  refine W_if rfl (fun hb2 => ?_) (fun hb2 => ?_)
  · have hb2p := hb2.h; try simp only [al_ete, al_dfn, Bool.not_eq_true', Bool.not_eq_false', al_ne, Bool.not_not, al_nn] at hb2p
    refine W_seq ?_
    refine W_region rfl ?_
    refine WO_p (PS_assign_slice rfl) ?_
    refine WO_nil ?_
    refine thn_normal ?_
    refine W_ret ?_
    refine thn_ret ?_
    refine bodyQ_ret1 Hvac.results56 rfl (.slice _ _ _) rfl ?_
    first
    | exact ⟨(by repeat (first | assumption | exact Ext.refl _ | refine Ext.alloc ?_ _ | refine Ext.drew ?_ | refine Ext.setB ?_ (by first | omega | (simp only [size_alloc, size_setB, size_drew]; omega)) _ | refine Ext.trans ?_ (by assumption))), (none, 0, 0), rfl, PL.nil _ _ _ _⟩
    | exact ⟨(by repeat (first | assumption | exact Ext.refl _ | refine Ext.alloc ?_ _ | refine Ext.drew ?_ | refine Ext.setB ?_ (by first | omega | (simp only [size_alloc, size_setB, size_drew]; omega)) _ | refine Ext.trans ?_ (by assumption))), (some ⟨_, 0, none⟩, 0, 0), rfl, ⟨rfl, Nat.le_refl _, fun h => absurd h (Nat.lt_irrefl 0)⟩⟩
  · have hb2p := hb2.h; try simp only [al_ete, al_dfn, Bool.not_eq_true', Bool.not_eq_false', al_ne, Bool.not_not, al_nn] at hb2p
    refine W_skip ?_
    refine thn_normal ?_
    refine W_seq ?_
    refine W_region rfl ?_
    refine WO_p (PS_move_slice rfl) ?_
    refine WO_p (PS_lenS Hvac.runUnderlying29 rfl) ?_
    refine WO_make (z := .agg (ic .u8 (List.replicate 32 0))) Hvac.underlying29 info28 rfl rfl rfl (by omega) (by omega) (by show ((32 : Nat) : Int) * _ ≤ _; omega) (by omega) ?_
    refine WO_p (PS_assign_slice rfl) ?_
    refine WO_nil ?_
    refine thn_normal ?_
    refine W_seq ?_
    refine W_region rfl ?_
    refine WO_p (PS_move_slice rfl) ?_
    refine WO_p (PS_move_slice rfl) ?_
    refine WO_copyZ Hvac.runUnderlying29 Hvac.sizeOf28 rfl rfl ?_
    refine WO_nil ?_
    refine thn_normal ?_
    refine W_seq ?_
    refine W_region rfl ?_
    refine WO_p (PS_move_slice rfl) ?_
    refine WO_p (PS_assign_slice rfl) ?_
    refine WO_nil ?_
    refine thn_normal ?_
    refine W_ret ?_
    refine bodyQ_ret1 Hvac.results56 rfl (.slice _ _ _) rfl ?_
    first
    | exact ⟨(by repeat (first | assumption | exact Ext.refl _ | refine Ext.alloc ?_ _ | refine Ext.drew ?_ | refine Ext.setB ?_ (by first | omega | (simp only [size_alloc, size_setB, size_drew]; omega)) _ | refine Ext.trans ?_ (by assumption))), (none, 0, 0), rfl, PL.nil _ _ _ _⟩
    | exact ⟨(by repeat (first | assumption | exact Ext.refl _ | refine Ext.alloc ?_ _ | refine Ext.drew ?_ | refine Ext.setB ?_ (by first | omega | (simp only [size_alloc, size_setB, size_drew]; omega)) _ | refine Ext.trans ?_ (by assumption))), (some ⟨_, 0, none⟩, 0, 0), rfl, ⟨rfl, Nat.le_refl _, fun h => absurd h (Nat.lt_irrefl 0)⟩⟩

set_option maxRecDepth 10000 in
set_option maxHeartbeats 4000000 in
theorem yWordsOfN_spec [Om] (w : World) (hO : OmB w) (b n cp : Nat) (r : Array Value) (fz : Nat × Nat) (L : List (List Int)) (hb : Hb w b (.cells r 28 fz)) (hR : RowL encW32 32 0 r L) (hL : L.length = n) (hLl : ∀ x ∈ L, (encW32 x).length = 32) (h0 : 0 < n) (hm : n ≤ 100000000) : Ret Hvac.prog 56 #[.slice (some ⟨b, 0, none⟩) n cp] w fun u w' => Ext w w' ∧ ∃ s' : SV, u = .slice s'.1 s'.2.1 s'.2.2 ∧ PL encW32 32 28 w' s' L := by
  have hb1 := hR.1
  refine Ret_of_W Hvac.func56 rfl rfl ?_
  refine W_seq ?_
  refine W_region rfl ?_
  refine WO_p (PS_assign_slice rfl) ?_
  refine WO_nil ?_
  refine thn_normal ?_
  refine W_seq ?_
  refine W_seq ?_
  refine W_region rfl ?_
  refine WO_p (PS_move_slice rfl) ?_
  refine WO_p (PS_eqlslnil Hvac.underlying29 rfl) ?_
  refine WO_nil ?_
  refine thn_normal ?_
  refine W_if rfl (fun hb2 => ?_) (fun hb2 => ?_)
  · have hb2p := hb2.h; try simp only [al_ete, al_dfn, Bool.not_eq_true', Bool.not_eq_false', al_ne, Bool.not_not, al_nn] at hb2p
    simp at hb2p --END
  · have hb2p := hb2.h; try simp only [al_ete, al_dfn, Bool.not_eq_true', Bool.not_eq_false', al_ne, Bool.not_not, al_nn] at hb2p
    refine W_skip ?_
    refine thn_normal ?_
    refine W_seq ?_
    refine W_region rfl ?_
    refine WO_p (PS_move_slice rfl) ?_
    refine WO_p (PS_lenS Hvac.runUnderlying29 rfl) ?_
    refine WO_make (z := .agg (ic .u8 (List.replicate 32 0))) Hvac.underlying29 info28 rfl rfl rfl (by omega) (by omega) (by show ((32 : Nat) : Int) * _ ≤ _; omega) (by omega) ?_
    rw [show ((n : Int)).toNat = n from Int.toNat_natCast _]
    refine WO_p (PS_assign_slice rfl) ?_
    refine WO_nil ?_
    refine thn_normal ?_
    refine W_seq ?_
    refine W_region rfl ?_
    refine WO_p (PS_move_slice rfl) ?_
    refine WO_p (PS_move_slice rfl) ?_
    refine WO_copy n (vs := r.extract 0 (0 + n * 32)) Hvac.runUnderlying29 Hvac.sizeOf28 rfl rfl (Hb.h (Hb.newY _ _)) (Hb.h (Hb.alloc hb)) (Nat.min_self _) (by rw [size_madeCells]; show 0 + n * 32 ≤ n * 32; omega) (by rw [hL] at hb1; omega) rfl (rowl_one hR hL (by decide) hLl one_W32) ?_
    refine WO_nil ?_
    refine thn_normal ?_
    refine W_seq ?_
    refine W_region rfl ?_
    refine WO_p (PS_move_slice rfl) ?_
    refine WO_p (PS_assign_slice rfl) ?_
    refine WO_nil ?_
    refine thn_normal ?_
    refine W_ret ?_
    refine bodyQ_ret1 Hvac.results56 rfl (.slice _ _ _) rfl ?_
    refine ⟨(by repeat (first | assumption | exact Ext.refl _ | refine Ext.alloc ?_ _ | refine Ext.drew ?_ | refine Ext.setB ?_ (by first | omega | (simp only [size_alloc, size_setB, size_drew]; omega)) _ | refine Ext.trans ?_ (by assumption))), (some ⟨_, 0, none⟩, n, n), rfl, ⟨hL, Nat.le_refl _, fun _ => ⟨_, _, (0, 0), rfl, hO.fresh (Nat.le_refl _), Hb.setSame (Hb.newY _ _), rowl_ext hR hL⟩⟩⟩

theorem yAddrsOf_spec [Om] (w : World) (hO : OmB w) (p : Option Addr) (n cp : Nat) (l : List (List Int)) (hl : AdR w (p, n, cp) l) (hm : n ≤ 100000000) : Ret Hvac.prog 166 #[.slice p n cp] w fun u w' => Ext w w' ∧ ∃ s' : SV, u = .slice s'.1 s'.2.1 s'.2.2 ∧ AdR w' s' l := by
  have hn := hl.1.len
  rcases Nat.eq_zero_or_pos n with h0 | h0
  · subst h0
    have hL0 : l = [] := List.eq_nil_of_length_eq_zero hn
    subst hL0
    exact (yAddrsOfZ_spec w hO p cp).mono (by rintro u w' ⟨h1, s, h2, h3⟩; exact ⟨h1, s, h2, h3, hl.2⟩)
  · obtain ⟨b, r, fz, h1, h2, h3⟩ := hl.1.at_ h0
    subst h1
    exact (yAddrsOfN_spec w hO b n cp r fz l h2 h3 hn (fun x hx => by simp [encYAd, (hl.2 x hx).1]) h0 hm).mono (by rintro u w' ⟨h1, s, h2, h3⟩; exact ⟨h1, s, h2, h3, hl.2⟩)
theorem yWordsOf_spec [Om] (w : World) (hO : OmB w) (p : Option Addr) (n cp : Nat) (l : List (List Int)) (hl : PL encW32 32 28 w (p, n, cp) l) (hb : ∀ x ∈ l, By x 32) (hm : n ≤ 100000000) : Ret Hvac.prog 56 #[.slice p n cp] w fun u w' => Ext w w' ∧ ∃ s' : SV, u = .slice s'.1 s'.2.1 s'.2.2 ∧ PL encW32 32 28 w' s' l := by
  have hn := hl.len
  rcases Nat.eq_zero_or_pos n with h0 | h0
  · subst h0
    have hL0 : l = [] := List.eq_nil_of_length_eq_zero hn
    subst hL0
    exact yWordsOfZ_spec w hO p cp
  · obtain ⟨b, r, fz, h1, h2, h3⟩ := hl.at_ h0
    subst h1
    exact yWordsOfN_spec w hO b n cp r fz l h2 h3 hn (fun x hx => by simp [encW32, (hb x hx).1]) h0 hm
end Go.Proofs.YgvacwGreat
