import Derived.Test.YgvadwGreatZa
import Derived.ProofKit
import Derived.OpenShut
import Derived.Deep.Slices
namespace Go.Proofs.YgvadwGreat
set_option linter.unusedSimpArgs false
set_option linter.unusedVariables false
/-! the inputs, opened -/
section
variable {H : Type} {enc : TypeId × Value → H} {W : World}
abbrev RD (enc : TypeId × Value → H) (W : World) (n : Nat) (t : TypeId) (cs : List Value) (x : DataW H × List MemPlace) : Prop := DataW.trod enc Hvad.prog W 0 (fun _ => true) true n t cs = some x
theorem c5 : Hvad.prog.cellsOf 5 = 1 := by kernel_rfl
theorem c4 : Hvad.prog.cellsOf 4 = 1 := by kernel_rfl
theorem c26 : Hvad.prog.cellsOf 26 = 1 := by kernel_rfl
theorem c25 : Hvad.prog.cellsOf 25 = 20 := by kernel_rfl
theorem c28 : Hvad.prog.cellsOf 28 = 32 := by kernel_rfl
theorem c32 : Hvad.prog.cellsOf 32 = 1 := by kernel_rfl
theorem c29 : Hvad.prog.cellsOf 29 = 1 := by kernel_rfl
theorem c33 : Hvad.prog.cellsOf 33 = 1 := by kernel_rfl
theorem c106 : Hvad.prog.cellsOf 106 = 1 := by kernel_rfl
theorem c116 : Hvad.prog.cellsOf 116 = 64 := by kernel_rfl
theorem c108 : Hvad.prog.cellsOf 108 = 55 := by kernel_rfl
theorem c167 : Hvad.prog.cellsOf 167 = 21 := by kernel_rfl
theorem c31 : Hvad.prog.cellsOf 31 = 120 := by kernel_rfl
theorem c35 : Hvad.prog.cellsOf 35 = 174 := by kernel_rfl
theorem wf_b {v : Int} (h : (Lit.int .u8 v).wf = true) : 0 ≤ v ∧ v ≤ 255 := by
  simp only [Lit.wf, Bool.and_eq_true, al_ete, IntKind.min, IntKind.max, IntKind.signed, IntKind.bits] at h
  simpa using h
theorem wf_64 {v : Int} (h : (Lit.int .u64 v).wf = true) : 0 ≤ v ∧ v ≤ 18446744073709551615 := by
  simp only [Lit.wf, Bool.and_eq_true, al_ete, IntKind.min, IntKind.max, IntKind.signed, IntKind.bits] at h
  simpa using h
theorem rd_u8 {n : Nat} {cs : List Value} {x : DataW H × List MemPlace} (h : RD enc W n 5 cs x) : ∃ v : Int, (0 ≤ v ∧ v ≤ 255) ∧ cs = [.int .u8 v] := by
  obtain ⟨v, rfl, _, hw⟩ := DataW.trod_int Hvad.underlying5 h
  exact ⟨v, wf_b hw, rfl⟩
theorem rd_u64 {n : Nat} {cs : List Value} {x : DataW H × List MemPlace} (h : RD enc W n 26 cs x) : ∃ v : Int, (0 ≤ v ∧ v ≤ 18446744073709551615) ∧ cs = [.int .u64 v] := by
  obtain ⟨v, rfl, _, hw⟩ := DataW.trod_int Hvad.underlying26 h
  exact ⟨v, wf_64 hw, rfl⟩
theorem rd_bool {n : Nat} {cs : List Value} {x : DataW H × List MemPlace} (h : RD enc W n 4 cs x) : ∃ b : Bool, cs = [.bool b] := by
  obtain ⟨b, rfl, _⟩ := DataW.trod_bool Hvad.underlying4 h
  exact ⟨b, rfl⟩
theorem rd_bytes {t N n : Nat} {cs : List Value} {x : DataW H × List MemPlace} (ht : Hvad.prog.underlying t = some (.array N 5)) (hc : Hvad.prog.cellsOf t = N) (h : RD enc W n t cs x) : ∃ L, By L N ∧ cs = L.map (Value.int .u8) := by
  obtain ⟨xs, m, _, _, hl, hxl, hall⟩ := DataW.trod_array ht h
  rw [hc] at hl
  have each : ∀ i, i < N → ∃ v : Int, (0 ≤ v ∧ v ≤ 255) ∧ cs.toArray[i]? = some (.int .u8 v) := by
    intro i hi
    have h1 := hall i hi
    rw [c5, Nat.mul_one, List.getElem?_eq_getElem (by omega)] at h1
    obtain ⟨v, hv, he⟩ := rd_u8 h1
    refine ⟨v, hv, ?_⟩
    have h2 : ((cs.drop i).take 1)[0]? = some (.int .u8 v) := by rw [he]; rfl
    rw [List.getElem?_take, if_pos (by decide), List.getElem?_drop] at h2
    simpa using h2
  obtain ⟨L, hL, hb, hr⟩ := bytes_list N cs.toArray each
  refine ⟨L, ⟨hL, hb⟩, List.ext_getElem? fun i => ?_⟩
  by_cases hi : i < N
  · have := hr i hi
    rw [List.getElem?_map]
    simpa using this
  · rw [List.getElem?_eq_none (by omega), List.getElem?_eq_none (by rw [List.length_map]; omega)]
theorem cell_at {b o i : Nat} {v : Value} {r : Array Value} {T : TypeId} {fz : Nat × Nat} (hb : hp W b = some (.cells r T fz)) : W.cell? ((⟨b, o, none⟩ : Addr).add i) = r[o + i]? := by
  rw [add_mk, cell_hp hb]
/-- a slice, opened -/
theorem rd_slice {α : Type} (en : α → List Value) (Pa : α → Prop) {t e sz n : Nat} {cs : List Value} {x : DataW H × List MemPlace} (ht : Hvad.prog.underlying t = some (.slice e)) (hc : Hvad.prog.cellsOf e = sz) (hsz : 0 < sz) (hen : ∀ a, Pa a → (en a).length = sz)
    (hel : ∀ n cs x, RD enc W n e cs x → ∃ a, Pa a ∧ cs = en a) (h : RD enc W n t cs x) : ∃ (s : SV) (l : List α), cs = [sv s] ∧ InRow en sz W s l ∧ ∀ a ∈ l, Pa a := by
  rcases Deep.open_slice ht h with ⟨rfl, _⟩ | ⟨a, len, cap, m, n', D, Pl, rfl, _, hlc, _, hm, _, hall⟩
  · exact ⟨(none, 0, 0), [], rfl, ⟨rfl, fun h0 => absurd h0 (by simp)⟩, by simp⟩
  · rw [hc] at hall
    have hm' : m = cap := by rw [hm]; simp
    have key : ∀ i, i < len → ∃ a', Pa a' ∧ ∀ k, k < sz → W.cell? ((a.add (i * sz)).add k) = (en a')[k]? := by
      intro i hi
      obtain ⟨cs', h1, h2⟩ := hall i (by omega)
      obtain ⟨a', h3, rfl⟩ := hel _ _ _ h2
      obtain ⟨_, _, h4⟩ := World.cells?_some h1
      exact ⟨a', h3, h4⟩
    have build : ∀ k, k ≤ len → ∃ l : List α, l.length = k ∧ ∀ i a', l[i]? = some a' → Pa a' ∧ ∀ q, q < sz → W.cell? ((a.add (i * sz)).add q) = (en a')[q]? := by
      intro k
      induction k with
      | zero => intro _; exact ⟨[], rfl, fun i a' hh => by simp at hh⟩
      | succ k ih =>
        intro hk
        obtain ⟨l, hl, hp⟩ := ih (by omega)
        obtain ⟨a', h1, h2⟩ := key k (by omega)
        refine ⟨l ++ [a'], by simp [hl], fun i b hb => ?_⟩
        by_cases hi : i < k
        · rw [List.getElem?_append_left (by omega)] at hb; exact hp i b hb
        · rw [List.getElem?_append_right (by omega)] at hb
          have hik : i = k := by
            rcases Nat.lt_or_ge k i with h5 | h5
            · rw [List.getElem?_eq_none (by simp; omega)] at hb; cases hb
            · omega
          subst hik
          rw [hl, Nat.sub_self] at hb
          simp at hb; subst hb
          exact ⟨h1, h2⟩
    obtain ⟨l, hl, hp'⟩ := build len (Nat.le_refl _)
    refine ⟨(some a, len, cap), l, rfl, ⟨hl.symm, fun h0 => ?_⟩, fun b hb => ?_⟩
    · obtain ⟨a0, ha0⟩ : ∃ z, l[0]? = some z := ⟨_, List.getElem?_eq_getElem h0⟩
      obtain ⟨hP0, hc0⟩ := hp' 0 a0 ha0
      have h1 := hc0 0 hsz
      rw [Nat.zero_mul, Deep.add_add, Nat.add_zero, List.getElem?_eq_getElem (by rw [hen a0 hP0]; exact hsz)] at h1
      obtain ⟨b, o, sp⟩ := a
      have h2 : (⟨b, o, sp⟩ : Addr).add 0 = ⟨b, o, sp⟩ := by simp [Addr.add]
      rw [h2] at h1
      unfold World.cell? at h1
      dsimp only at h1
      split at h1
      · rename_i r T fz hh
        have hsp : sp = none := by
          cases sp with
          | none => rfl
          | some z => simp at h1
        subst hsp
        have hbb : hp W b = some (.cells r T fz) := hh
        refine ⟨b, o, r, T, fz, rfl, ⟨hbb⟩, ?_, ?_⟩
        · obtain ⟨z, hz⟩ : ∃ z, l[l.length - 1]? = some z := ⟨_, List.getElem?_eq_getElem (by omega)⟩
          obtain ⟨hPz, hcz⟩ := hp' _ z hz
          have h3 := hcz (sz - 1) (by omega)
          rw [Deep.add_add, add_mk, cell_hp hbb, List.getElem?_eq_getElem (by rw [hen z hPz]; omega)] at h3
          have h4 : o + ((l.length - 1) * sz + (sz - 1)) < r.size := by
            rcases Nat.lt_or_ge (o + ((l.length - 1) * sz + (sz - 1))) r.size with h5 | h5
            · exact h5
            · rw [Array.getElem?_eq_none h5] at h3; cases h3
          have h5 : (l.length - 1) * sz + sz = l.length * sz := by
            obtain ⟨k, hk⟩ : ∃ k, l.length = k + 1 := ⟨l.length - 1, by omega⟩
            rw [hk, Nat.add_sub_cancel, Nat.succ_mul]
          rw [Nat.mul_comm sz l.length]
          omega
        · intro i z hz k hk
          obtain ⟨_, hcz⟩ := hp' i z hz
          have h3 := hcz k hk
          rw [Deep.add_add, add_mk, cell_hp hbb] at h3
          rw [Nat.add_assoc]; exact h3
      · cases h1
    · obtain ⟨i, hi⟩ := List.getElem?_of_mem hb
      exact (hp' i b hi).1
theorem dsplit (cs : List Value) (a n : Nat) : cs.drop a = (cs.drop a).take n ++ cs.drop (a + n) := by
  rw [← List.drop_drop]; exact (List.take_append_drop n (cs.drop a)).symm
theorem rd_code {n : Nat} {cs : List Value} {x : DataW H × List MemPlace} (h : RD enc W n 32 cs x) : ∃ (s : SV) (L : List Int), cs = [sv s] ∧ InRow encB 1 W s L ∧ ∀ y ∈ L, 0 ≤ y ∧ y ≤ 255 :=
  rd_slice encB (fun y => 0 ≤ y ∧ y ≤ 255) Hvad.underlying32 c5 (by decide) (fun _ _ => rfl) (fun n cs x h => by obtain ⟨v, hv, rfl⟩ := rd_u8 h; exact ⟨v, hv, rfl⟩) h
theorem rd_words {n : Nat} {cs : List Value} {x : DataW H × List MemPlace} (h : RD enc W n 29 cs x) : ∃ (s : SV) (L : List (List Int)), cs = [sv s] ∧ InRow encH 32 W s L ∧ ∀ y ∈ L, By y 32 :=
  rd_slice encH (fun y => By y 32) Hvad.underlying29 c28 (by decide) (fun a ha => by simp [encH, ha.1]) (fun n cs x h => by obtain ⟨L, hL, rfl⟩ := rd_bytes Hvad.underlying28 c28 h; exact ⟨L, hL, rfl⟩) h
theorem rd_slot {n : Nat} {cs : List Value} {x : DataW H × List MemPlace} (h : RD enc W n 116 cs x) : ∃ s : Sl, SlOK s ∧ cs = encSl s := by
  obtain ⟨xs, m, _, _, hl, hxl, hall⟩ := DataW.trod_struct Hvad.underlying116 h
  rw [c116] at hl
  have hx2 : xs.length = 2 := hxl
  have f0 : DataW.trod enc Hvad.prog W 0 (fun _ => true) true m 28 ((cs.drop 0).take (Hvad.prog.cellsOf 28)) = xs[0]? := hall 0 _ rfl
  have f1 : DataW.trod enc Hvad.prog W 0 (fun _ => true) true m 28 ((cs.drop 32).take (Hvad.prog.cellsOf 28)) = xs[1]? := hall 1 _ rfl
  rw [c28, List.getElem?_eq_getElem (by omega)] at f0 f1
  obtain ⟨K, hK, e0⟩ := rd_bytes Hvad.underlying28 c28 f0
  obtain ⟨V, hV, e1⟩ := rd_bytes Hvad.underlying28 c28 f1
  refine ⟨⟨K, V⟩, ⟨hK, hV⟩, ?_⟩
  have s0 := dsplit cs 0 32
  have s1 := dsplit cs 32 32
  rw [List.drop_eq_nil_of_le (show cs.length ≤ 32 + 32 by omega), e1, List.append_nil] at s1
  rw [e0, List.drop_zero, Nat.zero_add, s1] at s0
  exact s0
theorem rd_slots {n : Nat} {cs : List Value} {x : DataW H × List MemPlace} (h : RD enc W n 106 cs x) : ∃ (s : SV) (L : List Sl), cs = [sv s] ∧ InRow encSl 64 W s L ∧ ∀ y ∈ L, SlOK y :=
  rd_slice encSl SlOK Hvad.underlying106 c116 (by decide) (fun a ha => encSl_len ha) (fun n cs x h => rd_slot h) h
theorem rd_acct {n : Nat} {cs : List Value} {x : DataW H × List MemPlace} (h : RD enc W n 108 cs x) : ∃ a : Ac, AcOK W a ∧ cs = encAc a := by
  obtain ⟨xs, m, _, _, hl, hxl, hall⟩ := DataW.trod_struct Hvad.underlying108 h
  rw [c108] at hl
  have hx2 : xs.length = 5 := hxl
  have f0 : DataW.trod enc Hvad.prog W 0 (fun _ => true) true m 25 ((cs.drop 0).take (Hvad.prog.cellsOf 25)) = xs[0]? := hall 0 _ rfl
  have f1 : DataW.trod enc Hvad.prog W 0 (fun _ => true) true m 26 ((cs.drop 20).take (Hvad.prog.cellsOf 26)) = xs[1]? := hall 1 _ rfl
  have f2 : DataW.trod enc Hvad.prog W 0 (fun _ => true) true m 28 ((cs.drop 21).take (Hvad.prog.cellsOf 28)) = xs[2]? := hall 2 _ rfl
  have f3 : DataW.trod enc Hvad.prog W 0 (fun _ => true) true m 32 ((cs.drop 53).take (Hvad.prog.cellsOf 32)) = xs[3]? := hall 3 _ rfl
  have f4 : DataW.trod enc Hvad.prog W 0 (fun _ => true) true m 106 ((cs.drop 54).take (Hvad.prog.cellsOf 106)) = xs[4]? := hall 4 _ rfl
  rw [c25, List.getElem?_eq_getElem (by omega)] at f0
  rw [c26, List.getElem?_eq_getElem (by omega)] at f1
  rw [c28, List.getElem?_eq_getElem (by omega)] at f2
  rw [c32, List.getElem?_eq_getElem (by omega)] at f3
  rw [c106, List.getElem?_eq_getElem (by omega)] at f4
  obtain ⟨A, hA, e0⟩ := rd_bytes Hvad.underlying25 c25 f0
  obtain ⟨N, hN, e1⟩ := rd_u64 f1
  obtain ⟨Bl, hB, e2⟩ := rd_bytes Hvad.underlying28 c28 f2
  obtain ⟨sc, Lc, e3, hc1, hc2⟩ := rd_code f3
  obtain ⟨ss, Ls, e4, hs1, hs2⟩ := rd_slots f4
  refine ⟨⟨A, N, Bl, sc, ss, Lc, Ls⟩, ⟨hA, hN, hB, hc1, hc2, hs1, hs2⟩, ?_⟩
  have s0 := dsplit cs 0 20
  have s1 := dsplit cs 20 1
  have s2 := dsplit cs 21 32
  have s3 := dsplit cs 53 1
  have s4 := dsplit cs 54 1
  rw [List.drop_eq_nil_of_le (show cs.length ≤ 54 + 1 by omega), e4, List.append_nil] at s4
  rw [e3, s4] at s3
  rw [e2, s3] at s2
  rw [e1, s2] at s1
  rw [e0, List.drop_zero, Nat.zero_add, s1] at s0
  exact s0
theorem rd_world {n : Nat} {cs : List Value} {x : DataW H × List MemPlace} (h : RD enc W n 23 cs x) : ∃ (s : SV) (l : List Ac), cs = [sv s] ∧ InW W s l := by
  obtain ⟨s, l, h1, h2, h3⟩ := rd_slice encAc (AcOK W) Hvad.underlying23 c108 (by decide) (fun a ha => encAc_len ha) (fun n cs x h => rd_acct h) h
  exact ⟨s, l, h1, h2, h3⟩
/-- rows of words, flat -/
theorem InRow.flat {s : SV} {l : List (List Int)} (h : InRow encH 32 W s l) (hl : ∀ y ∈ l, By y 32) : InFlat 32 W s l.flatten := by
  have hl32 : ∀ y ∈ l, y.length = 32 := fun y hy => (hl y hy).1
  refine ⟨by rw [flat_len hl32, h.len], fun h0 => ?_, fun x hx => ?_⟩
  · obtain ⟨b, o, r, T, fz, h1, h2, h3⟩ := h.row (by have := h.len; omega)
    have hsz := h3.1
    have hln := h.len
    refine ⟨b, o, r, T, fz, h1, h2, by rw [hln, Nat.mul_comm]; exact hsz, ⟨?_⟩⟩
    rw [hln]
    refine Array.ext_getElem? fun j => ?_
    rw [Array.getElem?_extract, ic_get]
    by_cases hj : j < l.length * 32
    · rw [if_pos (by omega)]
      have hi : j / 32 < l.length := by omega
      have hx : l[j / 32]? = some l[j / 32] := List.getElem?_eq_getElem hi
      have e := h3.2 (j / 32) _ hx (j % 32) (by omega)
      rw [show o + j / 32 * 32 + j % 32 = o + j by omega] at e
      have g := flat_get hl32 (j / 32) (j % 32) _ hx (by omega)
      rw [show j / 32 * 32 + j % 32 = j by omega] at g
      rw [e, g]; simp [encH]
    · rw [if_neg (by omega), List.getElem?_eq_none (by rw [flat_len hl32]; omega)]; rfl
  · obtain ⟨y, hy, hxy⟩ := List.mem_flatten.1 hx
    exact (hl y hy).2 x hxy
theorem rd_env {n : Nat} {cs : List Value} {x : DataW H × List MemPlace} (h : RD enc W n 31 cs x) : ∃ e : Ev, EvOK W e ∧ cs = encEv e := by
  obtain ⟨xs, m, _, _, hl, hxl, hall⟩ := DataW.trod_struct Hvad.underlying31 h
  rw [c31] at hl
  have hx2 : xs.length = 8 := hxl
  have f0 : DataW.trod enc Hvad.prog W 0 (fun _ => true) true m 25 ((cs.drop 0).take (Hvad.prog.cellsOf 25)) = xs[0]? := hall 0 _ rfl
  have f1 : DataW.trod enc Hvad.prog W 0 (fun _ => true) true m 26 ((cs.drop 20).take (Hvad.prog.cellsOf 26)) = xs[1]? := hall 1 _ rfl
  have f2 : DataW.trod enc Hvad.prog W 0 (fun _ => true) true m 26 ((cs.drop 21).take (Hvad.prog.cellsOf 26)) = xs[2]? := hall 2 _ rfl
  have f3 : DataW.trod enc Hvad.prog W 0 (fun _ => true) true m 26 ((cs.drop 22).take (Hvad.prog.cellsOf 26)) = xs[3]? := hall 3 _ rfl
  have f4 : DataW.trod enc Hvad.prog W 0 (fun _ => true) true m 28 ((cs.drop 23).take (Hvad.prog.cellsOf 28)) = xs[4]? := hall 4 _ rfl
  have f5 : DataW.trod enc Hvad.prog W 0 (fun _ => true) true m 28 ((cs.drop 55).take (Hvad.prog.cellsOf 28)) = xs[5]? := hall 5 _ rfl
  have f6 : DataW.trod enc Hvad.prog W 0 (fun _ => true) true m 28 ((cs.drop 87).take (Hvad.prog.cellsOf 28)) = xs[6]? := hall 6 _ rfl
  have f7 : DataW.trod enc Hvad.prog W 0 (fun _ => true) true m 29 ((cs.drop 119).take (Hvad.prog.cellsOf 29)) = xs[7]? := hall 7 _ rfl
  rw [c25, List.getElem?_eq_getElem (by omega)] at f0
  rw [c26, List.getElem?_eq_getElem (by omega)] at f1 f2 f3
  rw [c28, List.getElem?_eq_getElem (by omega)] at f4 f5 f6
  rw [c29, List.getElem?_eq_getElem (by omega)] at f7
  obtain ⟨A, hA, e0⟩ := rd_bytes Hvad.underlying25 c25 f0
  obtain ⟨N1, hN1, e1⟩ := rd_u64 f1
  obtain ⟨N2, hN2, e2⟩ := rd_u64 f2
  obtain ⟨N3, hN3, e3⟩ := rd_u64 f3
  obtain ⟨B4, hB4, e4⟩ := rd_bytes Hvad.underlying28 c28 f4
  obtain ⟨B5, hB5, e5⟩ := rd_bytes Hvad.underlying28 c28 f5
  obtain ⟨B6, hB6, e6⟩ := rd_bytes Hvad.underlying28 c28 f6
  obtain ⟨sh, Lh, e7, hh1, hh2⟩ := rd_words f7
  refine ⟨⟨A, N1, N2, N3, B4, B5, B6, sh, Lh.flatten⟩, ⟨hA, hN1, hN2, hN3, hB4, hB5, hB6, hh1.flat hh2⟩, ?_⟩
  have s0 := dsplit cs 0 20
  have s1 := dsplit cs 20 1
  have s2 := dsplit cs 21 1
  have s3 := dsplit cs 22 1
  have s4 := dsplit cs 23 32
  have s5 := dsplit cs 55 32
  have s6 := dsplit cs 87 32
  have s7 := dsplit cs 119 1
  rw [List.drop_eq_nil_of_le (show cs.length ≤ 119 + 1 by omega), e7, List.append_nil] at s7
  rw [e6, s7] at s6
  rw [e5, s6] at s5
  rw [e4, s5] at s4
  rw [e3, s4] at s3
  rw [e2, s3] at s2
  rw [e1, s2] at s1
  rw [e0, List.drop_zero, Nat.zero_add, s1] at s0
  exact s0
theorem rd_access {n : Nat} {cs : List Value} {x : DataW H × List MemPlace} (h : RD enc W n 167 cs x) : ∃ a : Ax, AxOK W a ∧ cs = encAx a := by
  obtain ⟨xs, m, _, _, hl, hxl, hall⟩ := DataW.trod_struct Hvad.underlying167 h
  rw [c167] at hl
  have hx2 : xs.length = 2 := hxl
  have f0 : DataW.trod enc Hvad.prog W 0 (fun _ => true) true m 25 ((cs.drop 0).take (Hvad.prog.cellsOf 25)) = xs[0]? := hall 0 _ rfl
  have f1 : DataW.trod enc Hvad.prog W 0 (fun _ => true) true m 29 ((cs.drop 20).take (Hvad.prog.cellsOf 29)) = xs[1]? := hall 1 _ rfl
  rw [c25, List.getElem?_eq_getElem (by omega)] at f0
  rw [c29, List.getElem?_eq_getElem (by omega)] at f1
  obtain ⟨A, hA, e0⟩ := rd_bytes Hvad.underlying25 c25 f0
  obtain ⟨sh, Lh, e1, hh1, hh2⟩ := rd_words f1
  refine ⟨⟨A, sh, Lh⟩, ⟨hA, hh1, hh2⟩, ?_⟩
  have s0 := dsplit cs 0 20
  have s1 := dsplit cs 20 1
  rw [List.drop_eq_nil_of_le (show cs.length ≤ 20 + 1 by omega), e1, List.append_nil] at s1
  rw [e0, List.drop_zero, Nat.zero_add, s1] at s0
  exact s0
theorem rd_list {n : Nat} {cs : List Value} {x : DataW H × List MemPlace} (h : RD enc W n 33 cs x) : ∃ (s : SV) (L : List Ax), cs = [sv s] ∧ InRow encAx 21 W s L ∧ ∀ y ∈ L, AxOK W y :=
  rd_slice encAx (AxOK W) Hvad.underlying33 c167 (by decide) (fun a ha => encAx_len ha) (fun n cs x h => rd_access h) h
theorem rd_tx {n : Nat} {cs : List Value} {x : DataW H × List MemPlace} (h : RD enc W n 35 cs x) : ∃ t : Tx, TxOK W t ∧ cs = encTx t := by
  obtain ⟨xs, m, _, _, hl, hxl, hall⟩ := DataW.trod_struct Hvad.underlying35 h
  rw [c35] at hl
  have hx2 : xs.length = 12 := hxl
  have f0 : DataW.trod enc Hvad.prog W 0 (fun _ => true) true m 25 ((cs.drop 0).take (Hvad.prog.cellsOf 25)) = xs[0]? := hall 0 _ rfl
  have f1 : DataW.trod enc Hvad.prog W 0 (fun _ => true) true m 25 ((cs.drop 20).take (Hvad.prog.cellsOf 25)) = xs[1]? := hall 1 _ rfl
  have f2 : DataW.trod enc Hvad.prog W 0 (fun _ => true) true m 4 ((cs.drop 40).take (Hvad.prog.cellsOf 4)) = xs[2]? := hall 2 _ rfl
  have f3 : DataW.trod enc Hvad.prog W 0 (fun _ => true) true m 26 ((cs.drop 41).take (Hvad.prog.cellsOf 26)) = xs[3]? := hall 3 _ rfl
  have f4 : DataW.trod enc Hvad.prog W 0 (fun _ => true) true m 26 ((cs.drop 42).take (Hvad.prog.cellsOf 26)) = xs[4]? := hall 4 _ rfl
  have f5 : DataW.trod enc Hvad.prog W 0 (fun _ => true) true m 28 ((cs.drop 43).take (Hvad.prog.cellsOf 28)) = xs[5]? := hall 5 _ rfl
  have f6 : DataW.trod enc Hvad.prog W 0 (fun _ => true) true m 28 ((cs.drop 75).take (Hvad.prog.cellsOf 28)) = xs[6]? := hall 6 _ rfl
  have f7 : DataW.trod enc Hvad.prog W 0 (fun _ => true) true m 32 ((cs.drop 107).take (Hvad.prog.cellsOf 32)) = xs[7]? := hall 7 _ rfl
  have f8 : DataW.trod enc Hvad.prog W 0 (fun _ => true) true m 4 ((cs.drop 108).take (Hvad.prog.cellsOf 4)) = xs[8]? := hall 8 _ rfl
  have f9 : DataW.trod enc Hvad.prog W 0 (fun _ => true) true m 28 ((cs.drop 109).take (Hvad.prog.cellsOf 28)) = xs[9]? := hall 9 _ rfl
  have f10 : DataW.trod enc Hvad.prog W 0 (fun _ => true) true m 28 ((cs.drop 141).take (Hvad.prog.cellsOf 28)) = xs[10]? := hall 10 _ rfl
  have f11 : DataW.trod enc Hvad.prog W 0 (fun _ => true) true m 33 ((cs.drop 173).take (Hvad.prog.cellsOf 33)) = xs[11]? := hall 11 _ rfl
  rw [c25, List.getElem?_eq_getElem (by omega)] at f0 f1
  rw [c4, List.getElem?_eq_getElem (by omega)] at f2 f8
  rw [c26, List.getElem?_eq_getElem (by omega)] at f3 f4
  rw [c28, List.getElem?_eq_getElem (by omega)] at f5 f6 f9 f10
  rw [c32, List.getElem?_eq_getElem (by omega)] at f7
  rw [c33, List.getElem?_eq_getElem (by omega)] at f11
  obtain ⟨A0, hA0, e0⟩ := rd_bytes Hvad.underlying25 c25 f0
  obtain ⟨A1, hA1, e1⟩ := rd_bytes Hvad.underlying25 c25 f1
  obtain ⟨q2, e2⟩ := rd_bool f2
  obtain ⟨N3, hN3, e3⟩ := rd_u64 f3
  obtain ⟨N4, hN4, e4⟩ := rd_u64 f4
  obtain ⟨B5, hB5, e5⟩ := rd_bytes Hvad.underlying28 c28 f5
  obtain ⟨B6, hB6, e6⟩ := rd_bytes Hvad.underlying28 c28 f6
  obtain ⟨sd, Ld, e7, hd1, hd2⟩ := rd_code f7
  obtain ⟨q8, e8⟩ := rd_bool f8
  obtain ⟨B9, hB9, e9⟩ := rd_bytes Hvad.underlying28 c28 f9
  obtain ⟨B10, hB10, e10⟩ := rd_bytes Hvad.underlying28 c28 f10
  obtain ⟨sa, La, e11, ha1, ha2⟩ := rd_list f11
  refine ⟨⟨A0, A1, q2, N3, N4, B5, B6, sd, q8, B9, B10, sa, Ld, La⟩, ⟨hA0, hA1, hN3, hN4, hB5, hB6, hB9, hB10, hd1, hd2, ha1, ha2⟩, ?_⟩
  have s0 := dsplit cs 0 20
  have s1 := dsplit cs 20 20
  have s2 := dsplit cs 40 1
  have s3 := dsplit cs 41 1
  have s4 := dsplit cs 42 1
  have s5 := dsplit cs 43 32
  have s6 := dsplit cs 75 32
  have s7 := dsplit cs 107 1
  have s8 := dsplit cs 108 1
  have s9 := dsplit cs 109 32
  have s10 := dsplit cs 141 32
  have s11 := dsplit cs 173 1
  rw [List.drop_eq_nil_of_le (show cs.length ≤ 173 + 1 by omega), e11, List.append_nil] at s11
  rw [e10, s11] at s10
  rw [e9, s10] at s9
  rw [e8, s9] at s8
  rw [e7, s8] at s7
  rw [e6, s7] at s6
  rw [e5, s6] at s5
  rw [e4, s5] at s4
  rw [e3, s4] at s3
  rw [e2, s3] at s2
  rw [e1, s2] at s1
  rw [e0, List.drop_zero, Nat.zero_add, s1] at s0
  exact s0
end
end Go.Proofs.YgvadwGreat
