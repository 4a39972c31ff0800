import Derived.Test.YgvacwGreatJn
import Derived.Test.YgvacwGreatKb
import Derived.Test.YgvacwGreatJh
namespace Go.Proofs.YgvacwGreat
set_option linter.unusedSimpArgs false
set_option linter.unusedVariables false
/-! keccak on bits and on lanes -/
def koff (x y : Nat) : Nat := ([0, 1, 62, 28, 27, 36, 44, 6, 55, 20, 3, 10, 43, 25, 39, 41, 45, 15, 21, 8, 18, 2, 61, 56, 14] : List Nat).getD (5 * y + x) 0
/-- the place of a bit in the model's state -/
def kat (x y z : Nat) : Nat := (x * 5 + y) * 64 + z
def kc (a : Nat → Bool) (x z : Nat) : Bool := ((((a (kat x 0 z) != a (kat x 1 z)) != a (kat x 2 z)) != a (kat x 3 z)) != a (kat x 4 z))
def kd (a : Nat → Bool) (x z : Nat) : Bool := kc a ((x + 4) % 5) z != kc a ((x + 1) % 5) ((z + 63) % 64)
def kth (a : Nat → Bool) (i : Nat) : Bool := a i != kd a (i / 320) (i % 64)
def krho (a : Nat → Bool) (i : Nat) : Bool := a (i / 64 * 64 + (i % 64 + 64 - koff (i / 320) (i / 64 % 5)) % 64)
def kpi (a : Nat → Bool) (i : Nat) : Bool := a (kat ((i / 320 + 3 * (i / 64 % 5)) % 5) (i / 320) (i % 64))
def kchi (a : Nat → Bool) (i : Nat) : Bool := a i != (a (kat ((i / 320 + 2) % 5) (i / 64 % 5) (i % 64)) && !a (kat ((i / 320 + 1) % 5) (i / 64 % 5) (i % 64)))
def kio (a : Nat → Bool) (c : Nat) (i : Nat) : Bool := if i < 64 then a i != Nat.testBit c i else a i
theorem kat_x {x y z : Nat} (hx : x < 5) (hy : y < 5) (hz : z < 64) : kat x y z / 320 = x ∧ kat x y z / 64 % 5 = y ∧ kat x y z % 64 = z ∧ kat x y z / 64 * 64 = kat x y 0 ∧ kat x y z < 1600 := by unfold kat; omega
/-- on lanes -/
def lC (L : Nat → BitVec 64) (x : Nat) : BitVec 64 := L x ^^^ L (5 + x) ^^^ L (10 + x) ^^^ L (15 + x) ^^^ L (20 + x)
def lD (L : Nat → BitVec 64) (x : Nat) : BitVec 64 := lC L ((x + 4) % 5) ^^^ (lC L ((x + 1) % 5)).rotateLeft 1
def lT (L : Nat → BitVec 64) (x y : Nat) : BitVec 64 := (L (5 * y + x) ^^^ lD L x).rotateLeft (koff x y)
def lP (L : Nat → BitVec 64) (x y : Nat) : BitVec 64 := lT L ((x + 3 * y) % 5) x
def lX (L : Nat → BitVec 64) (x y : Nat) : BitVec 64 := lP L x y ^^^ (~~~ lP L ((x + 1) % 5) y &&& lP L ((x + 2) % 5) y)
def KB (L : Nat → BitVec 64) (a : Nat → Bool) : Prop := ∀ x y z, x < 5 → y < 5 → z < 64 → a (kat x y z) = (L (5 * y + x)).getLsbD z
theorem rot_bit (v : BitVec 64) (k z : Nat) (hk : k < 64) (hz : z < 64) : (v.rotateLeft k).getLsbD z = v.getLsbD ((z + 64 - k) % 64) := by
  rw [BitVec.getLsbD_rotateLeft]
  have : k % 64 = k := Nat.mod_eq_of_lt hk
  rw [this]
  by_cases h : z < k
  · rw [show (z + 64 - k) % 64 = 64 - k + z by omega]; simp [h]
  · rw [show (z + 64 - k) % 64 = z - k by omega]; simp [h, hz]
theorem koff_lt (x y : Nat) : koff x y < 64 := by
  unfold koff
  rw [List.getD_eq_getElem?_getD]
  cases h : ([0, 1, 62, 28, 27, 36, 44, 6, 55, 20, 3, 10, 43, 25, 39, 41, 45, 15, 21, 8, 18, 2, 61, 56, 14] : List Nat)[5 * y + x]? with
  | none => simp
  | some v => have h1 := List.mem_of_getElem? h; simp only [List.mem_cons, List.not_mem_nil, al_of] at h1; simp only [Option.getD_some]; omega
theorem KB.c {L : Nat → BitVec 64} {a : Nat → Bool} (h : KB L a) {x z : Nat} (hx : x < 5) (hz : z < 64) : kc a x z = (lC L x).getLsbD z := by
  unfold kc lC
  rw [h x 0 z hx (by omega) hz, h x 1 z hx (by omega) hz, h x 2 z hx (by omega) hz, h x 3 z hx (by omega) hz, h x 4 z hx (by omega) hz]
  simp [BitVec.getLsbD_xor]
theorem KB.d {L : Nat → BitVec 64} {a : Nat → Bool} (h : KB L a) {x z : Nat} (hx : x < 5) (hz : z < 64) : kd a x z = (lD L x).getLsbD z := by
  unfold kd lD
  rw [h.c (by omega) hz, h.c (by omega) (by omega), BitVec.getLsbD_xor, rot_bit _ _ _ (by omega) hz]
  simp
theorem KB.t {L : Nat → BitVec 64} {a : Nat → Bool} (h : KB L a) {x y z : Nat} (hx : x < 5) (hy : y < 5) (hz : z < 64) : krho (kth a) (kat x y z) = (lT L x y).getLsbD z := by
  obtain ⟨e1, e2, e3, e4, e5⟩ := kat_x hx hy hz
  have hk := koff_lt x y
  have hz' : (z + 64 - koff x y) % 64 < 64 := Nat.mod_lt _ (by omega)
  unfold krho
  rw [e1, e2, e3, e4, show kat x y 0 + (z + 64 - koff x y) % 64 = kat x y ((z + 64 - koff x y) % 64) by unfold kat; omega]
  obtain ⟨f1, f2, f3, f4, f5⟩ := kat_x hx hy hz'
  unfold kth lT
  rw [f1, f3, h.d hx hz', h x y _ hx hy hz', rot_bit _ _ _ hk hz, BitVec.getLsbD_xor]
theorem KB.x {L : Nat → BitVec 64} {a : Nat → Bool} (h : KB L a) {x y z : Nat} (hx : x < 5) (hy : y < 5) (hz : z < 64) : kchi (kpi (krho (kth a))) (kat x y z) = (lX L x y).getLsbD z := by
  have hp : ∀ {x y}, x < 5 → y < 5 → kpi (krho (kth a)) (kat x y z) = (lP L x y).getLsbD z := by
    intro x y hx hy
    obtain ⟨e1, e2, e3, e4, e5⟩ := kat_x hx hy hz
    unfold kpi lP
    rw [e1, e2, e3, h.t (by omega) hx hz]
  obtain ⟨e1, e2, e3, e4, e5⟩ := kat_x hx hy hz
  unfold kchi lX
  rw [e1, e2, e3, hp hx hy, hp (by omega) hy, hp (by omega) hy]
  simp [hz, al_bac]
/-- the lanes of a list of numbers -/
def lan (l : List Int) (j : Nat) : BitVec 64 := BitVec.ofInt 64 (l.getD j 0)
theorem KB.io {L L' : Nat → BitVec 64} {a : Nat → Bool} {c : Nat} (h : KB L a) (h0 : L' 0 = L 0 ^^^ BitVec.ofNat 64 c) (h1 : ∀ j, 0 < j → j < 25 → L' j = L j) : KB L' (kio a c) := by
  intro x y z hx hy hz
  unfold kio
  by_cases h9 : x = 0 ∧ y = 0
  · obtain ⟨rfl, rfl⟩ := h9
    rw [if_pos (by unfold kat; omega)]
    have := h 0 0 z hx hy hz
    rw [this]
    have e : L' (5 * 0 + 0) = L 0 ^^^ BitVec.ofNat 64 c := h0
    rw [e, BitVec.getLsbD_xor, BitVec.getLsbD_ofNat]
    simp [hz, kat]
  · rw [if_neg (by unfold kat; omega), h x y z hx hy hz, h1 _ (by omega) (by omega)]
def turnBV (v : BitVec 64) : BitVec 64 :=
  let x1 := ((v >>> 8) &&& 0x00ff00ff00ff00ff#64) ||| ((v &&& 0x00ff00ff00ff00ff#64) <<< 8)
  let x2 := ((x1 >>> 16) &&& 0x0000ffff0000ffff#64) ||| ((x1 &&& 0x0000ffff0000ffff#64) <<< 16)
  (x2 >>> 32) ||| (x2 <<< 32)
theorem mask1_bit : ∀ i, i < 64 → (0x00ff00ff00ff00ff#64).getLsbD i = decide (i / 8 % 2 = 0) := by decide
theorem mask2_bit : ∀ i, i < 64 → (0x0000ffff0000ffff#64).getLsbD i = decide (i / 16 % 2 = 0) := by decide
theorem turn1 (v : BitVec 64) {i : Nat} (hi : i < 64) : (((v >>> 8) &&& 0x00ff00ff00ff00ff#64) ||| ((v &&& 0x00ff00ff00ff00ff#64) <<< 8)).getLsbD i = v.getLsbD (if i / 8 % 2 = 0 then i + 8 else i - 8) := by
  rw [BitVec.getLsbD_or, BitVec.getLsbD_and, BitVec.getLsbD_ushiftRight, BitVec.getLsbD_shiftLeft, BitVec.getLsbD_and, mask1_bit i hi]
  by_cases h : i / 8 % 2 = 0
  · have h2 : ¬ ((i - 8) / 8 % 2 = 0) ∨ i < 8 := by omega
    rcases h2 with h2 | h2
    · rw [mask1_bit (i - 8) (by omega)]; simp [h, h2, Nat.add_comm]
    · simp [h, h2, Nat.add_comm]
  · have h2 : (i - 8) / 8 % 2 = 0 ∧ ¬ i < 8 := by omega
    rw [mask1_bit (i - 8) (by omega)]; simp [h, h2.1, h2.2, hi]
theorem turn2 (v : BitVec 64) {i : Nat} (hi : i < 64) : (((v >>> 16) &&& 0x0000ffff0000ffff#64) ||| ((v &&& 0x0000ffff0000ffff#64) <<< 16)).getLsbD i = v.getLsbD (if i / 16 % 2 = 0 then i + 16 else i - 16) := by
  rw [BitVec.getLsbD_or, BitVec.getLsbD_and, BitVec.getLsbD_ushiftRight, BitVec.getLsbD_shiftLeft, BitVec.getLsbD_and, mask2_bit i hi]
  by_cases h : i / 16 % 2 = 0
  · have h2 : ¬ ((i - 16) / 16 % 2 = 0) ∨ i < 16 := by omega
    rcases h2 with h2 | h2
    · rw [mask2_bit (i - 16) (by omega)]; simp [h, h2, Nat.add_comm]
    · simp [h, h2, Nat.add_comm]
  · have h2 : (i - 16) / 16 % 2 = 0 ∧ ¬ i < 16 := by omega
    rw [mask2_bit (i - 16) (by omega)]; simp [h, h2.1, h2.2, hi]
theorem turn3 (v : BitVec 64) {i : Nat} (hi : i < 64) : ((v >>> 32) ||| (v <<< 32)).getLsbD i = v.getLsbD (if i < 32 then i + 32 else i - 32) := by
  rw [BitVec.getLsbD_or, BitVec.getLsbD_ushiftRight, BitVec.getLsbD_shiftLeft]
  by_cases h : i < 32
  · simp [h, Nat.add_comm]
  · have : v.getLsbD (32 + i) = false := BitVec.getLsbD_of_ge _ _ (by omega)
    simp [h, hi, this]
theorem turn_bit (v : BitVec 64) {z : Nat} (hz : z < 64) : (turnBV v).getLsbD z = v.getLsbD (8 * (7 - z / 8) + z % 8) := by
  unfold turnBV
  simp only []
  rw [turn3 _ hz, turn2 _ (by split <;> omega), turn1 _ (by split <;> split <;> omega)]
  congr 1
  split <;> split <;> split <;> omega
def krcs : List Nat := [0x0000000000000001, 0x0000000000008082, 0x800000000000808a, 0x8000000080008000, 0x000000000000808b, 0x0000000080000001, 0x8000000080008081, 0x8000000000008009, 0x000000000000008a, 0x0000000000000088, 0x0000000080008009, 0x000000008000000a, 0x000000008000808b, 0x800000000000008b, 0x8000000000008089, 0x8000000000008003, 0x8000000000008002, 0x8000000000000080, 0x000000000000800a, 0x800000008000000a, 0x8000000080008081, 0x8000000000008080, 0x0000000080000001, 0x8000000080008008]
def kround (a : Nat → Bool) (r : Nat) : Nat → Bool := kio (kchi (kpi (krho (kth a)))) (krcs.getD r 0)
def krounds (a : Nat → Bool) : Nat → (Nat → Bool)
  | 0 => a
  | n + 1 => kround (krounds a n) n
def kin (s : Nat → Bool) (i : Nat) : Bool := s (64 * (5 * (i / 64 % 5) + i / 320) + i % 64)
def kout (a : Nat → Bool) (i : Nat) : Bool := a (kat (i / 64 % 5) (i / 320) (i % 64))
def kFn (s : Nat → Bool) : Nat → Bool := kout (krounds (kin s) 24)
def lround (L : Nat → BitVec 64) (r : Nat) (j : Nat) : BitVec 64 := if j = 0 then lX L 0 0 ^^^ BitVec.ofNat 64 (krcs.getD r 0) else lX L (j % 5) (j / 5)
def lrounds (L : Nat → BitVec 64) : Nat → (Nat → BitVec 64)
  | 0 => L
  | n + 1 => lround (lrounds L n) n
def KS (L : Nat → BitVec 64) (s : Nat → Bool) : Prop := ∀ j z, j < 25 → z < 64 → s (64 * j + z) = (L j).getLsbD z
theorem KB.round {L : Nat → BitVec 64} {a : Nat → Bool} (h : KB L a) (r : Nat) : KB (lround L r) (kround a r) := by
  refine KB.io (L := fun j => lX L (j % 5) (j / 5)) ?_ (by unfold lround; rw [if_pos rfl]) (fun j h1 h2 => by unfold lround; rw [if_neg (by omega)])
  intro x y z hx hy hz
  rw [h.x hx hy hz]
  show (lX L x y).getLsbD z = (lX L ((5 * y + x) % 5) ((5 * y + x) / 5)).getLsbD z
  rw [show (5 * y + x) % 5 = x by omega, show (5 * y + x) / 5 = y by omega]
theorem KB.rounds {L : Nat → BitVec 64} {a : Nat → Bool} (h : KB L a) : ∀ n, KB (lrounds L n) (krounds a n)
  | 0 => h
  | n + 1 => (KB.rounds h n).round n
theorem KS.f {L : Nat → BitVec 64} {s : Nat → Bool} (h : KS L s) : KS (lrounds L 24) (kFn s) := by
  have h0 : KB L (kin s) := by
    intro x y z hx hy hz
    obtain ⟨e1, e2, e3, e4, e5⟩ := kat_x hx hy hz
    unfold kin
    rw [e1, e2, e3, h _ _ (by omega) hz]
  intro j z hj hz
  unfold kFn kout
  rw [show (64 * j + z) / 64 % 5 = j % 5 by omega, show (64 * j + z) / 320 = j / 5 by omega, show (64 * j + z) % 64 = z by omega, (h0.rounds 24) _ _ _ (by omega) (by omega) hz, show 5 * (j / 5) + j % 5 = j by omega]
/-- the padded bits -/
def kbit (d : List Int) (i : Nat) : Bool := if i < 8 * d.length then Nat.testBit (d.getD (i / 8) 0).toNat (i % 8) else decide (i = 8 * d.length ∨ i = 1088 * (d.length / 136 + 1) - 1)
def kabs (s : Nat → Bool) (g : Nat → Bool) : Nat → Bool := kFn (fun i => if i < 1088 then s i != g i else s i)
def kst (d : List Int) : Nat → (Nat → Bool)
  | 0 => fun _ => false
  | n + 1 => kabs (kst d n) (fun i => kbit d (1088 * n + i))
def kbyte (s : Nat → Bool) (k : Nat) : Nat := (if s (8 * k) then 1 else 0) + (if s (8 * k + 1) then 2 else 0) + (if s (8 * k + 2) then 4 else 0) + (if s (8 * k + 3) then 8 else 0) + (if s (8 * k + 4) then 16 else 0) + (if s (8 * k + 5) then 32 else 0) + (if s (8 * k + 6) then 64 else 0) + (if s (8 * k + 7) then 128 else 0)
/-- the hash of bytes -/
def khash (d : List Int) : List Int := (List.range 32).map (fun k => (kbyte (kst d (d.length / 136 + 1)) k : Int))
/-- the byte k of the padded block n -/
def kpad (d : List Int) (k : Nat) : Int := if k < d.length then d.getD k 0 else (if k = d.length then 1 else 0) + (if k = 136 * (d.length / 136 + 1) - 1 then 128 else 0)
theorem kpad_bit {d : List Int} (hd : ∀ x ∈ d, 0 ≤ x ∧ x ≤ 255) (i : Nat) (hi : i < 1088 * (d.length / 136 + 1)) : kbit d i = Nat.testBit (kpad d (i / 8)).toNat (i % 8) := by
  unfold kbit kpad
  by_cases h : i < 8 * d.length
  · rw [if_pos h, if_pos (by omega)]
  · rw [if_neg h, if_neg (by omega)]
    have h8 : i % 8 < 8 := Nat.mod_lt _ (by decide)
    have key : ∀ r, r < 8 → ∀ p q : Bool, Nat.testBit ((if p = true then 1 else 0) + (if q = true then 128 else 0)) r = ((p && decide (r = 0)) || (q && decide (r = 7))) := by decide
    have e : ((if i / 8 = d.length then (1:Int) else 0) + (if i / 8 = 136 * (d.length / 136 + 1) - 1 then 128 else 0)).toNat = (if decide (i / 8 = d.length) = true then 1 else 0) + (if decide (i / 8 = 136 * (d.length / 136 + 1) - 1) = true then 128 else 0) := by
      have g : ∀ (p q : Prop) [Decidable p] [Decidable q], ((if p then (1:Int) else 0) + (if q then 128 else 0)).toNat = (if decide p = true then 1 else 0) + (if decide q = true then 128 else 0) := by
        intro p q _ _
        by_cases h1 : p <;> by_cases h2 : q <;> simp only [h1, h2, al_dt, al_df, if_true, al_i0, Bool.false_eq_true] <;> rfl
      exact g _ _
    rw [e, key _ h8]
    rw [al_bi]
    simp only [al_ete, Bool.or_eq_true, Bool.and_eq_true]
    omega
def be8f (p : Nat → Int) : Int := be8 (p 0) (p 1) (p 2) (p 3) (p 4) (p 5) (p 6) (p 7)
theorem be8f_digit {p : Nat → Int} (hp : ∀ k, k < 8 → 0 ≤ p k ∧ p k ≤ 255) : ∀ k, k < 8 → (be8f p).toNat / 2 ^ (8 * (7 - k)) % 2 ^ 8 = (p k).toNat := by
  have h0 := hp 0 (by decide)
  have h1 := hp 1 (by decide)
  have h2 := hp 2 (by decide)
  have h3 := hp 3 (by decide)
  have h4 := hp 4 (by decide)
  have h5 := hp 5 (by decide)
  have h6 := hp 6 (by decide)
  have h7 := hp 7 (by decide)
  unfold be8f be8
  intro k hk
  have hc : k = 0 ∨ k = 1 ∨ k = 2 ∨ k = 3 ∨ k = 4 ∨ k = 5 ∨ k = 6 ∨ k = 7 := by omega
  rcases hc with rfl | rfl | rfl | rfl | rfl | rfl | rfl | rfl <;> simp only [Nat.reduceSub, Nat.reduceMul, Nat.reducePow, Int.reducePow] <;> omega
theorem be8f_bd {p : Nat → Int} (hp : ∀ k, k < 8 → 0 ≤ p k ∧ p k ≤ 255) : 0 ≤ be8f p ∧ be8f p ≤ 18446744073709551615 := by
  have h0 := hp 0 (by decide)
  have h1 := hp 1 (by decide)
  have h2 := hp 2 (by decide)
  have h3 := hp 3 (by decide)
  have h4 := hp 4 (by decide)
  have h5 := hp 5 (by decide)
  have h6 := hp 6 (by decide)
  have h7 := hp 7 (by decide)
  unfold be8f be8
  omega
theorem turn_be8 {p : Nat → Int} (hp : ∀ k, k < 8 → 0 ≤ p k ∧ p k ≤ 255) {z : Nat} (hz : z < 64) : (turnBV (BitVec.ofInt 64 (be8f p))).getLsbD z = Nat.testBit (p (z / 8)).toNat (z % 8) := by
  have hb := be8f_bd hp
  rw [turn_bit _ hz]
  have e : (BitVec.ofInt 64 (be8f p)).toNat = (be8f p).toNat := by
    rw [BitVec.toNat_ofInt]
    have : be8f p % ((2 ^ 64 : Nat) : Int) = be8f p := Int.emod_eq_of_lt hb.1 (by omega)
    rw [this]
  rw [BitVec.getLsbD, e, ← be8f_digit hp (z / 8) (by omega), Nat.testBit_mod_two_pow, Nat.testBit_div_two_pow]
  simp [show z % 8 < 8 by omega, Nat.add_comm]
/-- the lanes after n blocks -/
def labs (L : Nat → BitVec 64) (p : Nat → Int) : Nat → BitVec 64 := lrounds (fun j => if j < 17 then L j ^^^ turnBV (BitVec.ofInt 64 (be8f (fun k => p (8 * j + k)))) else L j) 24
def lst (d : List Int) : Nat → (Nat → BitVec 64)
  | 0 => fun _ => 0#64
  | n + 1 => labs (lst d n) (fun k => kpad d (136 * n + k))
theorem kpad_bd {d : List Int} (hd : ∀ x ∈ d, 0 ≤ x ∧ x ≤ 255) (k : Nat) : 0 ≤ kpad d k ∧ kpad d k ≤ 255 := by
  unfold kpad
  split
  · rw [List.getD_eq_getElem?_getD]
    cases hk : d[k]? with
    | none => simp
    | some x => exact hd x (List.mem_of_getElem? hk)
  · split <;> split <;> omega
theorem KS.abs {L : Nat → BitVec 64} {s : Nat → Bool} (h : KS L s) {p : Nat → Int} {g : Nat → Bool} (hp : ∀ k, k < 136 → 0 ≤ p k ∧ p k ≤ 255) (hg : ∀ i, i < 1088 → g i = Nat.testBit (p (i / 8)).toNat (i % 8)) : KS (labs L p) (kabs s g) := by
  refine KS.f ?_
  intro j z hj hz
  by_cases h17 : j < 17
  · simp only [if_pos h17]
    rw [if_pos (by omega), BitVec.getLsbD_xor, turn_be8 (p := fun k => p (8 * j + k)) (fun k hk => hp (8 * j + k) (by omega)) hz, h j z hj hz, hg _ (by omega), show (64 * j + z) / 8 = 8 * j + z / 8 by omega, show (64 * j + z) % 8 = z % 8 by omega]
  · simp only [if_neg h17]
    rw [if_neg (by omega), h j z hj hz]
theorem KS.st {d : List Int} (hd : ∀ x ∈ d, 0 ≤ x ∧ x ≤ 255) : ∀ n, n ≤ d.length / 136 + 1 → KS (lst d n) (kst d n)
  | 0, _ => fun j z hj hz => by simp [lst, kst]
  | n + 1, hn => by
    refine KS.abs (KS.st hd n (by omega)) (fun k _ => kpad_bd hd _) (fun i hi => ?_)
    rw [kpad_bit hd _ (by omega), show (1088 * n + i) / 8 = 136 * n + i / 8 by omega, show (1088 * n + i) % 8 = i % 8 by omega]
theorem bits_byte : ∀ n : Nat, n < 256 → n = (if Nat.testBit n 0 then 1 else 0) + (if Nat.testBit n 1 then 2 else 0) + (if Nat.testBit n 2 then 4 else 0) + (if Nat.testBit n 3 then 8 else 0) + (if Nat.testBit n 4 then 16 else 0) + (if Nat.testBit n 5 then 32 else 0) + (if Nat.testBit n 6 then 64 else 0) + (if Nat.testBit n 7 then 128 else 0) := by
  intro n hn
  have g : ∀ i k : Nat, (if Nat.testBit n i then k else 0) = k * (n / 2 ^ i % 2) := by
    intro i k
    rw [Nat.testBit_eq_decide_div_mod_eq]
    by_cases h : n / 2 ^ i % 2 = 1
    · simp [h]
    · have : n / 2 ^ i % 2 = 0 := by omega
      simp [this]
  simp only [g]
  simp only [Nat.reducePow]
  omega
/-- a byte of the hash out of the lanes -/
theorem KS.byte {L : Nat → BitVec 64} {s : Nat → Bool} (h : KS L s) {k : Nat} (hk : k < 32) : kbyte s k = (turnBV (L (k / 8))).toNat / 2 ^ (8 * (7 - k % 8)) % 256 := by
  have hb : ∀ r, r < 8 → s (8 * k + r) = Nat.testBit ((turnBV (L (k / 8))).toNat / 2 ^ (8 * (7 - k % 8)) % 2 ^ 8) r := by
    intro r hr
    have h9 : 8 * (7 - k % 8) + r < 64 := by omega
    rw [Nat.testBit_mod_two_pow, Nat.testBit_div_two_pow, Nat.add_comm r, ← BitVec.getLsbD, turn_bit _ h9, ← h _ _ (by omega) (by omega)]
    simp only [hr, al_dt, al_bta]
    congr 1
    omega
  unfold kbyte
  have e := bits_byte ((turnBV (L (k / 8))).toNat / 2 ^ (8 * (7 - k % 8)) % 2 ^ 8) (Nat.mod_lt _ (by decide))
  rw [show (256:Nat) = 2 ^ 8 from rfl, e, ← hb 0 (by decide), ← hb 1 (by decide), ← hb 2 (by decide), ← hb 3 (by decide), ← hb 4 (by decide), ← hb 5 (by decide), ← hb 6 (by decide), ← hb 7 (by decide)]
  rfl

/-! a number's bits -/
def bw (x : Int) : BitVec 64 := BitVec.ofInt 64 x
theorem bw_nat (v : BitVec 64) : bw (v.toNat : Int) = v := by unfold bw; rw [BitVec.ofInt_natCast, BitVec.ofNat_toNat, BitVec.setWidth_eq]
theorem bw_xor (a b : Int) : bw (bXor a b) = bw a ^^^ bw b := bw_nat _
theorem bw_and (a b : Int) : bw (bAnd a b) = bw a &&& bw b := bw_nat _
theorem bw_or (a b : Int) : bw (bOr a b) = bw a ||| bw b := bw_nat _
theorem bw_not (a : Int) : bw (bXor 18446744073709551615 a) = ~~~ bw a := by
  rw [bw_xor]
  have : bw 18446744073709551615 = BitVec.allOnes 64 := by decide
  rw [this, BitVec.allOnes_xor]
theorem bw_toNat {x : Int} (h : 0 ≤ x ∧ x ≤ 18446744073709551615) : (bw x).toNat = x.toNat := ofInt_toNat 64 x h.1 (by omega)
theorem bw_shr {x : Int} (h : 0 ≤ x ∧ x ≤ 18446744073709551615) (k : Nat) : bw (x / 2 ^ k) = bw x >>> k := by
  apply BitVec.eq_of_toNat_eq
  rw [bw_toNat (shr_bd k h), BitVec.toNat_ushiftRight, bw_toNat h, Nat.shiftRight_eq_div_pow]
  have h1 := Int.toNat_of_nonneg h.1
  have h2 : (x / 2 ^ k) = ((x.toNat / 2 ^ k : Nat) : Int) := by rw [Int.natCast_ediv, h1]; simp
  rw [h2, Int.toNat_natCast]
theorem bw_shl {x : Int} (h : 0 ≤ x ∧ x ≤ 18446744073709551615) (k : Nat) : bw (x * 2 ^ k % 18446744073709551616) = bw x <<< k := by
  apply BitVec.eq_of_toNat_eq
  rw [bw_toNat (shl_bd x k), BitVec.toNat_shiftLeft, bw_toNat h, Nat.shiftLeft_eq]
  have h1 := Int.toNat_of_nonneg h.1
  have h2 : x * 2 ^ k % 18446744073709551616 = ((x.toNat * 2 ^ k % 2 ^ 64 : Nat) : Int) := by rw [Int.natCast_emod, Int.natCast_mul, h1]; simp
  rw [h2, Int.toNat_natCast]
theorem lan_bw (l : List Int) (j : Nat) : lan l j = bw (l.getD j 0) := rfl
def FV : List (Nat × BitVec 64) → (Nat → Value) → Prop
  | [], _ => True
  | t :: ts, ρ => (∃ x : Int, ρ t.1 = .int .u64 x ∧ (0 ≤ x ∧ x ≤ 18446744073709551615) ∧ bw x = t.2) ∧ FV ts ρ
def CutV : List (Nat × BitVec 64) → List (Nat × Value) → (List (Nat × Value) → Prop) → Prop
  | [], l, K => K l
  | t :: ts, l, K => ∀ x : Int, (0 ≤ x ∧ x ≤ 18446744073709551615) → bw x = t.2 → CutV ts ((t.1, .int .u64 x) :: l) K
theorem W_cutV {P : Program} {n : Nat} {c : Code} {Q : Post} {w : World} {ρ : Nat → Value} (ts : List (Nat × BitVec 64)) (l : List (Nat × Value)) (h : Fr l ρ) (hu : FV ts ρ) (hw : CutV ts l (fun l' => ∀ ρ', Fr l' ρ' → W P n c Q ρ' w)) : W P n c Q ρ w := by
  induction ts generalizing l with
  | nil => exact hw ρ h
  | cons t ts ih =>
    obtain ⟨⟨x, hx, hb, hv⟩, hu⟩ := hu
    exact ih ((t.1, .int .u64 x) :: l) ⟨hx, h⟩ hu (hw x hb hv)
/-- the first k lanes of a round have been laid -/
structure RowK (L Lk : List Int) (k : Nat) : Prop where
  len : Lk.length = 25
  row : ∀ j, j < k → lan Lk j = lX (lan L) (j % 5) (j / 5)
theorem RowK.step {L Lk L' : List Int} {k : Nat} {v : Int} (h : RowK L Lk k) (hk : k < 25) (e : L' = Lk.set k v) (hv : bw v = lX (lan L) (k % 5) (k / 5)) : RowK L L' (k + 1) := by
  subst e
  refine ⟨by rw [List.length_set]; exact h.len, fun j hj => ?_⟩
  rw [lan_bw, getD_setI]
  have := h.len
  by_cases h9 : k = j
  · subst h9; rw [if_pos ⟨rfl, by omega⟩]; exact hv
  · rw [if_neg (by omega)]; exact h.row j (by omega)
theorem lP_0 (L : Nat → BitVec 64) : lP L 0 0 = L 0 ^^^ lD L 0 := by
  show (L 0 ^^^ lD L 0).rotateLeft 0 = _
  apply BitVec.eq_of_getLsbD_eq
  intro i hi
  rw [rot_bit _ _ _ (by decide) hi, show (i + 64 - 0) % 64 = i by omega]
theorem lP_1 (L : Nat → BitVec 64) : lP L 1 0 = (L 6 ^^^ lD L 1).rotateLeft 44 := rfl
theorem lP_2 (L : Nat → BitVec 64) : lP L 2 0 = (L 12 ^^^ lD L 2).rotateLeft 43 := rfl
theorem lP_3 (L : Nat → BitVec 64) : lP L 3 0 = (L 18 ^^^ lD L 3).rotateLeft 21 := rfl
theorem lP_4 (L : Nat → BitVec 64) : lP L 4 0 = (L 24 ^^^ lD L 4).rotateLeft 14 := rfl
theorem lP_5 (L : Nat → BitVec 64) : lP L 0 1 = (L 3 ^^^ lD L 3).rotateLeft 28 := rfl
theorem lP_6 (L : Nat → BitVec 64) : lP L 1 1 = (L 9 ^^^ lD L 4).rotateLeft 20 := rfl
theorem lP_7 (L : Nat → BitVec 64) : lP L 2 1 = (L 10 ^^^ lD L 0).rotateLeft 3 := rfl
theorem lP_8 (L : Nat → BitVec 64) : lP L 3 1 = (L 16 ^^^ lD L 1).rotateLeft 45 := rfl
theorem lP_9 (L : Nat → BitVec 64) : lP L 4 1 = (L 22 ^^^ lD L 2).rotateLeft 61 := rfl
theorem lP_10 (L : Nat → BitVec 64) : lP L 0 2 = (L 1 ^^^ lD L 1).rotateLeft 1 := rfl
theorem lP_11 (L : Nat → BitVec 64) : lP L 1 2 = (L 7 ^^^ lD L 2).rotateLeft 6 := rfl
theorem lP_12 (L : Nat → BitVec 64) : lP L 2 2 = (L 13 ^^^ lD L 3).rotateLeft 25 := rfl
theorem lP_13 (L : Nat → BitVec 64) : lP L 3 2 = (L 19 ^^^ lD L 4).rotateLeft 8 := rfl
theorem lP_14 (L : Nat → BitVec 64) : lP L 4 2 = (L 20 ^^^ lD L 0).rotateLeft 18 := rfl
theorem lP_15 (L : Nat → BitVec 64) : lP L 0 3 = (L 4 ^^^ lD L 4).rotateLeft 27 := rfl
theorem lP_16 (L : Nat → BitVec 64) : lP L 1 3 = (L 5 ^^^ lD L 0).rotateLeft 36 := rfl
theorem lP_17 (L : Nat → BitVec 64) : lP L 2 3 = (L 11 ^^^ lD L 1).rotateLeft 10 := rfl
theorem lP_18 (L : Nat → BitVec 64) : lP L 3 3 = (L 17 ^^^ lD L 2).rotateLeft 15 := rfl
theorem lP_19 (L : Nat → BitVec 64) : lP L 4 3 = (L 23 ^^^ lD L 3).rotateLeft 56 := rfl
theorem lP_20 (L : Nat → BitVec 64) : lP L 0 4 = (L 2 ^^^ lD L 2).rotateLeft 62 := rfl
theorem lP_21 (L : Nat → BitVec 64) : lP L 1 4 = (L 8 ^^^ lD L 3).rotateLeft 55 := rfl
theorem lP_22 (L : Nat → BitVec 64) : lP L 2 4 = (L 14 ^^^ lD L 4).rotateLeft 39 := rfl
theorem lP_23 (L : Nat → BitVec 64) : lP L 3 4 = (L 15 ^^^ lD L 0).rotateLeft 41 := rfl
theorem lP_24 (L : Nat → BitVec 64) : lP L 4 4 = (L 21 ^^^ lD L 1).rotateLeft 2 := rfl
theorem lX_0 (L : Nat → BitVec 64) : lX L (0 % 5) (0 / 5) = lP L 0 0 ^^^ (~~~ lP L 1 0 &&& lP L 2 0) := rfl
theorem lX_1 (L : Nat → BitVec 64) : lX L (1 % 5) (1 / 5) = lP L 1 0 ^^^ (~~~ lP L 2 0 &&& lP L 3 0) := rfl
theorem lX_2 (L : Nat → BitVec 64) : lX L (2 % 5) (2 / 5) = lP L 2 0 ^^^ (~~~ lP L 3 0 &&& lP L 4 0) := rfl
theorem lX_3 (L : Nat → BitVec 64) : lX L (3 % 5) (3 / 5) = lP L 3 0 ^^^ (~~~ lP L 4 0 &&& lP L 0 0) := rfl
theorem lX_4 (L : Nat → BitVec 64) : lX L (4 % 5) (4 / 5) = lP L 4 0 ^^^ (~~~ lP L 0 0 &&& lP L 1 0) := rfl
theorem lX_5 (L : Nat → BitVec 64) : lX L (5 % 5) (5 / 5) = lP L 0 1 ^^^ (~~~ lP L 1 1 &&& lP L 2 1) := rfl
theorem lX_6 (L : Nat → BitVec 64) : lX L (6 % 5) (6 / 5) = lP L 1 1 ^^^ (~~~ lP L 2 1 &&& lP L 3 1) := rfl
theorem lX_7 (L : Nat → BitVec 64) : lX L (7 % 5) (7 / 5) = lP L 2 1 ^^^ (~~~ lP L 3 1 &&& lP L 4 1) := rfl
theorem lX_8 (L : Nat → BitVec 64) : lX L (8 % 5) (8 / 5) = lP L 3 1 ^^^ (~~~ lP L 4 1 &&& lP L 0 1) := rfl
theorem lX_9 (L : Nat → BitVec 64) : lX L (9 % 5) (9 / 5) = lP L 4 1 ^^^ (~~~ lP L 0 1 &&& lP L 1 1) := rfl
theorem lX_10 (L : Nat → BitVec 64) : lX L (10 % 5) (10 / 5) = lP L 0 2 ^^^ (~~~ lP L 1 2 &&& lP L 2 2) := rfl
theorem lX_11 (L : Nat → BitVec 64) : lX L (11 % 5) (11 / 5) = lP L 1 2 ^^^ (~~~ lP L 2 2 &&& lP L 3 2) := rfl
theorem lX_12 (L : Nat → BitVec 64) : lX L (12 % 5) (12 / 5) = lP L 2 2 ^^^ (~~~ lP L 3 2 &&& lP L 4 2) := rfl
theorem lX_13 (L : Nat → BitVec 64) : lX L (13 % 5) (13 / 5) = lP L 3 2 ^^^ (~~~ lP L 4 2 &&& lP L 0 2) := rfl
theorem lX_14 (L : Nat → BitVec 64) : lX L (14 % 5) (14 / 5) = lP L 4 2 ^^^ (~~~ lP L 0 2 &&& lP L 1 2) := rfl
theorem lX_15 (L : Nat → BitVec 64) : lX L (15 % 5) (15 / 5) = lP L 0 3 ^^^ (~~~ lP L 1 3 &&& lP L 2 3) := rfl
theorem lX_16 (L : Nat → BitVec 64) : lX L (16 % 5) (16 / 5) = lP L 1 3 ^^^ (~~~ lP L 2 3 &&& lP L 3 3) := rfl
theorem lX_17 (L : Nat → BitVec 64) : lX L (17 % 5) (17 / 5) = lP L 2 3 ^^^ (~~~ lP L 3 3 &&& lP L 4 3) := rfl
theorem lX_18 (L : Nat → BitVec 64) : lX L (18 % 5) (18 / 5) = lP L 3 3 ^^^ (~~~ lP L 4 3 &&& lP L 0 3) := rfl
theorem lX_19 (L : Nat → BitVec 64) : lX L (19 % 5) (19 / 5) = lP L 4 3 ^^^ (~~~ lP L 0 3 &&& lP L 1 3) := rfl
theorem lX_20 (L : Nat → BitVec 64) : lX L (20 % 5) (20 / 5) = lP L 0 4 ^^^ (~~~ lP L 1 4 &&& lP L 2 4) := rfl
theorem lX_21 (L : Nat → BitVec 64) : lX L (21 % 5) (21 / 5) = lP L 1 4 ^^^ (~~~ lP L 2 4 &&& lP L 3 4) := rfl
theorem lX_22 (L : Nat → BitVec 64) : lX L (22 % 5) (22 / 5) = lP L 2 4 ^^^ (~~~ lP L 3 4 &&& lP L 4 4) := rfl
theorem lX_23 (L : Nat → BitVec 64) : lX L (23 % 5) (23 / 5) = lP L 3 4 ^^^ (~~~ lP L 4 4 &&& lP L 0 4) := rfl
theorem lX_24 (L : Nat → BitVec 64) : lX L (24 % 5) (24 / 5) = lP L 4 4 ^^^ (~~~ lP L 0 4 &&& lP L 1 4) := rfl
theorem lD_0 (L : Nat → BitVec 64) : lD L 0 = lC L 4 ^^^ (lC L 1).rotateLeft 1 := rfl
theorem lC_0 (L : Nat → BitVec 64) : lC L 0 = L 0 ^^^ L 5 ^^^ L 10 ^^^ L 15 ^^^ L 20 := rfl
theorem lD_1 (L : Nat → BitVec 64) : lD L 1 = lC L 0 ^^^ (lC L 2).rotateLeft 1 := rfl
theorem lC_1 (L : Nat → BitVec 64) : lC L 1 = L 1 ^^^ L 6 ^^^ L 11 ^^^ L 16 ^^^ L 21 := rfl
theorem lD_2 (L : Nat → BitVec 64) : lD L 2 = lC L 1 ^^^ (lC L 3).rotateLeft 1 := rfl
theorem lC_2 (L : Nat → BitVec 64) : lC L 2 = L 2 ^^^ L 7 ^^^ L 12 ^^^ L 17 ^^^ L 22 := rfl
theorem lD_3 (L : Nat → BitVec 64) : lD L 3 = lC L 2 ^^^ (lC L 4).rotateLeft 1 := rfl
theorem lC_3 (L : Nat → BitVec 64) : lC L 3 = L 3 ^^^ L 8 ^^^ L 13 ^^^ L 18 ^^^ L 23 := rfl
theorem lD_4 (L : Nat → BitVec 64) : lD L 4 = lC L 3 ^^^ (lC L 0).rotateLeft 1 := rfl
theorem lC_4 (L : Nat → BitVec 64) : lC L 4 = L 4 ^^^ L 9 ^^^ L 14 ^^^ L 19 ^^^ L 24 := rfl
theorem lX_congr {L L' : Nat → BitVec 64} (h : ∀ j, j < 25 → L j = L' j) {x y : Nat} (hx : x < 5) (hy : y < 5) : lX L x y = lX L' x y := by
  have hc : ∀ x, x < 5 → lC L x = lC L' x := fun x hx => by unfold lC; rw [h _ (by omega), h _ (by omega), h _ (by omega), h _ (by omega), h _ (by omega)]
  have hd : ∀ x, x < 5 → lD L x = lD L' x := fun x hx => by unfold lD; rw [hc _ (by omega), hc _ (by omega)]
  have ht : ∀ x y, x < 5 → y < 5 → lT L x y = lT L' x y := fun x y hx hy => by unfold lT; rw [hd x hx, h _ (by omega)]
  have hp : ∀ x y, x < 5 → y < 5 → lP L x y = lP L' x y := fun x y hx hy => by unfold lP; rw [ht _ _ (by omega) hx]
  unfold lX
  rw [hp x y hx hy, hp _ y (by omega) hy, hp _ y (by omega) hy]

set_option maxRecDepth 10000 in
theorem rotB_ex (x k : Int) (w : World) (hk : 0 < k ∧ k ≤ 63) (hx : 0 ≤ x ∧ x ≤ 18446744073709551615) : Ret Hvac.prog 380 #[.int .u64 x, .int .i64 k] w fun u w' => Ext w w' ∧ ∃ r, u = .int .u64 r ∧ (0 ≤ r ∧ r ≤ 18446744073709551615) ∧ bw r = (bw x).rotateLeft k.toNat := by
  refine Ret_of_W Hvac.func380 rfl rfl ?_
  refine W_seq ?_
  refine W_region rfl ?_
  refine WO_p (PS_assign_int rfl) ?_
  refine WO_nil ?_
  refine thn_normal ?_
  refine W_seq ?_
  refine W_region rfl ?_
  refine WO_p (PS_move_int rfl) ?_
  refine WO_p (PS_conv_u64n Hvac.runUnderlying3 Hvac.runUnderlying177 rfl (by omega) (by omega)) ?_
  refine WO_p (PS_and_u64 rfl rfl) ?_
  refine WO_p (PS_assign_int rfl) ?_
  refine WO_nil ?_
  refine thn_normal ?_
  refine W_seq ?_
  rw [bAnd_63 (by omega) hk.2]
  refine W_region rfl ?_
  refine WO_p (PS_move_int rfl) ?_
  refine WO_p (PS_move_int rfl) ?_
  refine WO_p (PS_shl_u64 _ rfl rfl (by omega) rfl) ?_
  refine WO_p (PS_move_int rfl) ?_
  refine WO_p (PS_move_int rfl) ?_
  refine WO_p (PS_sub_u64n rfl rfl (by omega) (by omega)) ?_
  refine WO_p (PS_shr_u64 _ rfl rfl (by omega) rfl) ?_
  refine WO_p (PS_or_u64 rfl rfl) ?_
  refine WO_p (PS_assign_int rfl) ?_
  refine WO_nil ?_
  refine thn_normal ?_
  refine W_ret ?_
  refine bodyQ_ret1 Hvac.results380 rfl (.int _ _) rfl ?_
  refine ⟨(by repeat (first | assumption | exact Ext.refl _ | refine Ext.alloc ?_ _ | refine Ext.drew ?_ | refine Ext.setB ?_ (by first | omega | (simp only [size_alloc, size_setB, size_drew]; omega)) _ | refine Ext.trans ?_ (by assumption))), _, rfl, bOr_bd _ _, ?_⟩
  rw [bw_or, bw_shl hx, bw_shr hx, show min k.toNat 64 = k.toNat by omega, show min (64 - k).toNat 64 = 64 - k.toNat by omega]
  rw [BitVec.rotateLeft_def, show k.toNat % 64 = k.toNat by omega]

set_option maxRecDepth 10000 in
theorem rot_ex (x k : Int) (w : World) (hk : 0 < k ∧ k ≤ 63) (hx : 0 ≤ x ∧ x ≤ 18446744073709551615) : Ret Hvac.prog 373 #[.int .u64 x, .int .i64 k] w fun u w' => Ext w w' ∧ ∃ r, u = .int .u64 r ∧ (0 ≤ r ∧ r ≤ 18446744073709551615) ∧ bw r = (bw x).rotateLeft k.toNat := by
  refine Ret_of_W Hvac.func373 rfl rfl ?_
  refine W_seq ?_
  refine W_region rfl ?_
  refine WO_p (PS_assign_int rfl) ?_
  refine WO_nil ?_
  refine thn_normal ?_
  refine W_seq ?_
  refine W_region rfl ?_
  refine WO_p (PS_move_int rfl) ?_
  refine WO_p (PS_move_int rfl) ?_
  refine WO_call Hvac.call380 (by rfl) (Ret.mono (rotB_ex _ _ _ hk hx) ?_)
  rintro _ w380_0 ⟨hE380_0, r380_0, rfl, hr0, hr1⟩
  have hz380_0 := hE380_0.1
  try simp only [size_alloc, size_setB, size_drew] at hz380_0
  refine WO_p (PS_assign_int rfl) ?_
  refine WO_nil ?_
  refine thn_normal ?_
  refine W_ret ?_
  refine bodyQ_ret1 Hvac.results373 rfl (.int _ _) rfl ?_
  exact ⟨(by repeat (first | assumption | exact Ext.refl _ | refine Ext.alloc ?_ _ | refine Ext.drew ?_ | refine Ext.setB ?_ (by first | omega | (simp only [size_alloc, size_setB, size_drew]; omega)) _ | refine Ext.trans ?_ (by assumption))), _, rfl, hr0, hr1⟩

set_option maxRecDepth 10000 in
theorem rc_ex (i : Nat) (w : World) (hi : i < 24) : Ret Hvac.prog 358 #[.int .u8 (i : Int)] w fun u w' => Ext w w' ∧ u = .int .u64 ((krcs.getD i 0 : Nat) : Int) := by
  refine Ret_of_W Hvac.func358 rfl rfl ?_
  refine W_seq ?_
  refine W_region rfl ?_
  refine WO_p (PS_assign_int rfl) ?_
  refine WO_nil ?_
  refine thn_normal ?_
  refine W_seq ?_
  refine W_seq ?_
  refine W_region rfl ?_
  refine WO_p (PS_move_int rfl) ?_
  refine WO_p (PS_geq rfl rfl) ?_
  refine WO_nil ?_
  refine thn_normal ?_
  refine W_if rfl (fun hb2 => ?_) (fun hb2 => ?_)
  · have hb2p := hb2.h; try simp only [al_ete, al_dfn, Bool.not_eq_true', Bool.not_eq_false', al_ne, Bool.not_not, al_nn] at hb2p
    exfalso; omega --END
  · have hb2p := hb2.h; try simp only [al_ete, al_dfn, Bool.not_eq_true', Bool.not_eq_false', al_ne, Bool.not_not, al_nn] at hb2p
    refine W_skip ?_
    refine thn_normal ?_
    refine W_seq ?_
    refine W_region rfl ?_
    refine WO_p (PS_buildI (k := .u64) (zs := [0, 0, 0, 0, 0, 0, 0, 0, 0, 0, 0, 0, 0, 0, 0, 0, 0, 0, 0, 0, 0, 0, 0, 0]) (ps := [(0, _), (1, _), (2, _), (3, _), (4, _), (5, _), (6, _), (7, _), (8, _), (9, _), (10, _), (11, _), (12, _), (13, _), (14, _), (15, _), (16, _), (17, _), (18, _), (19, _), (20, _), (21, _), (22, _), (23, _)]) (L := [_, _, _, _, _, _, _, _, _, _, _, _, _, _, _, _, _, _, _, _, _, _, _, _]) Hvac.zeroValue415 Hvac.runUnderlying415 Hvac.sizeOf26 rfl rfl rfl rfl) ?_
    refine WO_p (PS_move_int rfl) ?_
    refine WO_p (PS_indexV Hvac.runUnderlying415 Hvac.sizeOf26 Hvac.isAgg26 rfl rfl (by omega) (by omega) (List.getElem?_eq_getElem (by show (i : Int).toNat < 24; omega))) ?_
    refine WO_p (PS_assign_int rfl) ?_
    refine WO_nil ?_
    refine thn_normal ?_
    refine W_ret ?_
    refine bodyQ_ret1 Hvac.results358 rfl (.int _ _) rfl ?_
    refine ⟨(by repeat (first | assumption | exact Ext.refl _ | refine Ext.alloc ?_ _ | refine Ext.drew ?_ | refine Ext.setB ?_ (by first | omega | (simp only [size_alloc, size_setB, size_drew]; omega)) _ | refine Ext.trans ?_ (by assumption))), ?_⟩
    have h9 : i = 0 ∨ i = 1 ∨ i = 2 ∨ i = 3 ∨ i = 4 ∨ i = 5 ∨ i = 6 ∨ i = 7 ∨ i = 8 ∨ i = 9 ∨ i = 10 ∨ i = 11 ∨ i = 12 ∨ i = 13 ∨ i = 14 ∨ i = 15 ∨ i = 16 ∨ i = 17 ∨ i = 18 ∨ i = 19 ∨ i = 20 ∨ i = 21 ∨ i = 22 ∨ i = 23 := by omega
    rcases h9 with rfl | rfl | rfl | rfl | rfl | rfl | rfl | rfl | rfl | rfl | rfl | rfl | rfl | rfl | rfl | rfl | rfl | rfl | rfl | rfl | rfl | rfl | rfl | rfl <;> rfl

set_option maxRecDepth 10000 in
theorem turned_ex (x : Int) (w : World) (hx : 0 ≤ x ∧ x ≤ 18446744073709551615) : Ret Hvac.prog 214 #[.int .u64 x] w fun u w' => Ext w w' ∧ ∃ r, u = .int .u64 r ∧ (0 ≤ r ∧ r ≤ 18446744073709551615) ∧ bw r = turnBV (bw x) := by
  refine Ret_of_W Hvac.func214 rfl rfl ?_
  refine W_seq ?_
  refine W_region rfl ?_
  refine WO_p (PS_assign_int rfl) ?_
  refine WO_nil ?_
  refine thn_normal ?_
  refine W_seq ?_
  refine W_region rfl ?_
  refine WO_p (PS_move_int rfl) ?_
  refine WO_p (PS_shr_u64 8 rfl rfl (by decide) rfl) ?_
  refine WO_p (PS_and_u64 rfl rfl) ?_
  refine WO_p (PS_move_int rfl) ?_
  refine WO_p (PS_and_u64 rfl rfl) ?_
  refine WO_p (PS_shl_u64 8 rfl rfl (by decide) rfl) ?_
  refine WO_p (PS_or_u64 rfl rfl) ?_
  refine WO_p (PS_assign_int rfl) ?_
  refine WO_nil ?_
  refine thn_normal ?_
  refine W_seq ?_
  refine W_region rfl ?_
  refine WO_p (PS_move_int rfl) ?_
  refine WO_p (PS_shr_u64 16 rfl rfl (by decide) rfl) ?_
  refine WO_p (PS_and_u64 rfl rfl) ?_
  refine WO_p (PS_move_int rfl) ?_
  refine WO_p (PS_and_u64 rfl rfl) ?_
  refine WO_p (PS_shl_u64 16 rfl rfl (by decide) rfl) ?_
  refine WO_p (PS_or_u64 rfl rfl) ?_
  refine WO_p (PS_assign_int rfl) ?_
  refine WO_nil ?_
  refine thn_normal ?_
  refine W_seq ?_
  refine W_region rfl ?_
  refine WO_p (PS_move_int rfl) ?_
  refine WO_p (PS_shr_u64 32 rfl rfl (by decide) rfl) ?_
  refine WO_p (PS_move_int rfl) ?_
  refine WO_p (PS_shl_u64 32 rfl rfl (by decide) rfl) ?_
  refine WO_p (PS_or_u64 rfl rfl) ?_
  refine WO_p (PS_assign_int rfl) ?_
  refine WO_nil ?_
  refine thn_normal ?_
  refine W_ret ?_
  refine bodyQ_ret1 Hvac.results214 rfl (.int _ _) rfl ?_
  refine ⟨(by repeat (first | assumption | exact Ext.refl _ | refine Ext.alloc ?_ _ | refine Ext.drew ?_ | refine Ext.setB ?_ (by first | omega | (simp only [size_alloc, size_setB, size_drew]; omega)) _ | refine Ext.trans ?_ (by assumption))), _, rfl, bOr_bd _ _, ?_⟩
  simp only [bw_or, bw_and, bw_shr (bOr_bd _ _), bw_shl (bAnd_bd _ _), bw_shr hx, bw_shl (bOr_bd _ _)]
  rfl

set_option maxRecDepth 10000 in
set_option maxHeartbeats 1000000 in
theorem round_ex (b : Nat) (T : TypeId) (L : List Int) (w : World) (hb : Hb w b (.cells (ic .u64 L) T (0, 0))) (hl : L.length = 25) : Ret Hvac.prog 357 #[.pointer (some ⟨b, 0, none⟩)] w fun u w' => u = .tuple #[] ∧ ∃ L', UT b T L w w' L' ∧ RowK L L' 25 := by
  have hce0 : Ce (ic .u64 L) (0 + (0 : Int).toNat * 1) (.int .u64 (L.getD 0 0)) := ce_ic (by omega)
  have hce1 : Ce (ic .u64 L) (0 + (1 : Int).toNat * 1) (.int .u64 (L.getD 1 0)) := ce_ic (by omega)
  have hce2 : Ce (ic .u64 L) (0 + (2 : Int).toNat * 1) (.int .u64 (L.getD 2 0)) := ce_ic (by omega)
  have hce3 : Ce (ic .u64 L) (0 + (3 : Int).toNat * 1) (.int .u64 (L.getD 3 0)) := ce_ic (by omega)
  have hce4 : Ce (ic .u64 L) (0 + (4 : Int).toNat * 1) (.int .u64 (L.getD 4 0)) := ce_ic (by omega)
  have hce5 : Ce (ic .u64 L) (0 + (5 : Int).toNat * 1) (.int .u64 (L.getD 5 0)) := ce_ic (by omega)
  have hce6 : Ce (ic .u64 L) (0 + (6 : Int).toNat * 1) (.int .u64 (L.getD 6 0)) := ce_ic (by omega)
  have hce7 : Ce (ic .u64 L) (0 + (7 : Int).toNat * 1) (.int .u64 (L.getD 7 0)) := ce_ic (by omega)
  have hce8 : Ce (ic .u64 L) (0 + (8 : Int).toNat * 1) (.int .u64 (L.getD 8 0)) := ce_ic (by omega)
  have hce9 : Ce (ic .u64 L) (0 + (9 : Int).toNat * 1) (.int .u64 (L.getD 9 0)) := ce_ic (by omega)
  have hce10 : Ce (ic .u64 L) (0 + (10 : Int).toNat * 1) (.int .u64 (L.getD 10 0)) := ce_ic (by omega)
  have hce11 : Ce (ic .u64 L) (0 + (11 : Int).toNat * 1) (.int .u64 (L.getD 11 0)) := ce_ic (by omega)
  have hce12 : Ce (ic .u64 L) (0 + (12 : Int).toNat * 1) (.int .u64 (L.getD 12 0)) := ce_ic (by omega)
  have hce13 : Ce (ic .u64 L) (0 + (13 : Int).toNat * 1) (.int .u64 (L.getD 13 0)) := ce_ic (by omega)
  have hce14 : Ce (ic .u64 L) (0 + (14 : Int).toNat * 1) (.int .u64 (L.getD 14 0)) := ce_ic (by omega)
  have hce15 : Ce (ic .u64 L) (0 + (15 : Int).toNat * 1) (.int .u64 (L.getD 15 0)) := ce_ic (by omega)
  have hce16 : Ce (ic .u64 L) (0 + (16 : Int).toNat * 1) (.int .u64 (L.getD 16 0)) := ce_ic (by omega)
  have hce17 : Ce (ic .u64 L) (0 + (17 : Int).toNat * 1) (.int .u64 (L.getD 17 0)) := ce_ic (by omega)
  have hce18 : Ce (ic .u64 L) (0 + (18 : Int).toNat * 1) (.int .u64 (L.getD 18 0)) := ce_ic (by omega)
  have hce19 : Ce (ic .u64 L) (0 + (19 : Int).toNat * 1) (.int .u64 (L.getD 19 0)) := ce_ic (by omega)
  have hce20 : Ce (ic .u64 L) (0 + (20 : Int).toNat * 1) (.int .u64 (L.getD 20 0)) := ce_ic (by omega)
  have hce21 : Ce (ic .u64 L) (0 + (21 : Int).toNat * 1) (.int .u64 (L.getD 21 0)) := ce_ic (by omega)
  have hce22 : Ce (ic .u64 L) (0 + (22 : Int).toNat * 1) (.int .u64 (L.getD 22 0)) := ce_ic (by omega)
  have hce23 : Ce (ic .u64 L) (0 + (23 : Int).toNat * 1) (.int .u64 (L.getD 23 0)) := ce_ic (by omega)
  have hce24 : Ce (ic .u64 L) (0 + (24 : Int).toNat * 1) (.int .u64 (L.getD 24 0)) := ce_ic (by omega)
  refine Ret_of_W Hvac.func357 rfl rfl ?_
  refine W_seq ?_
  refine W_drawE [false, false, false, false, false, false, false, false, false, false, false, false, false, false, false, false, false, false, false, false, false, false, false, false, false] hmix (by kernel_rfl) rfl ?_
  refine WH_p (PS_move_ptr rfl) rfl ?_
  refine WH_p (PS_nilCheck rfl) rfl ?_
  refine WH_p (PS_indexA Hvac.runUnderlying281 Hvac.sizeOf26 rfl rfl (by omega) (by omega)) rfl ?_
  refine WH_load (.int _ _) Hvac.isAgg26 rfl (Hb.h (by repeat (first | assumption | exact Hb.newY _ _ | refine Hb.alloc ?_ | refine Hb.drew ?_ | refine Hb.ext (by assumption) ?_ | exact Hb.setSameL (by first | omega | (simp only [size_alloc, size_setB, size_drew]; omega)) | exact Hb.setSame (by assumption) | refine Hb.set (by first | omega | (simp only [size_alloc, size_setB, size_drew]; omega)) ?_ ))) (Ce.h (by first | assumption | exact ⟨rfl⟩)) ?_
  refine WH_p (PS_move_ptr rfl) rfl ?_
  refine WH_p (PS_nilCheck rfl) rfl ?_
  refine WH_p (PS_indexA Hvac.runUnderlying281 Hvac.sizeOf26 rfl rfl (by omega) (by omega)) rfl ?_
  refine WH_load (.int _ _) Hvac.isAgg26 rfl (Hb.h (by repeat (first | assumption | exact Hb.newY _ _ | refine Hb.alloc ?_ | refine Hb.drew ?_ | refine Hb.ext (by assumption) ?_ | exact Hb.setSameL (by first | omega | (simp only [size_alloc, size_setB, size_drew]; omega)) | exact Hb.setSame (by assumption) | refine Hb.set (by first | omega | (simp only [size_alloc, size_setB, size_drew]; omega)) ?_ ))) (Ce.h (by first | assumption | exact ⟨rfl⟩)) ?_
  refine WH_p (PS_xor_u64 rfl rfl) rfl ?_
  refine WH_p (PS_move_ptr rfl) rfl ?_
  refine WH_p (PS_nilCheck rfl) rfl ?_
  refine WH_p (PS_indexA Hvac.runUnderlying281 Hvac.sizeOf26 rfl rfl (by omega) (by omega)) rfl ?_
  refine WH_load (.int _ _) Hvac.isAgg26 rfl (Hb.h (by repeat (first | assumption | exact Hb.newY _ _ | refine Hb.alloc ?_ | refine Hb.drew ?_ | refine Hb.ext (by assumption) ?_ | exact Hb.setSameL (by first | omega | (simp only [size_alloc, size_setB, size_drew]; omega)) | exact Hb.setSame (by assumption) | refine Hb.set (by first | omega | (simp only [size_alloc, size_setB, size_drew]; omega)) ?_ ))) (Ce.h (by first | assumption | exact ⟨rfl⟩)) ?_
  refine WH_p (PS_xor_u64 rfl rfl) rfl ?_
  refine WH_p (PS_move_ptr rfl) rfl ?_
  refine WH_p (PS_nilCheck rfl) rfl ?_
  refine WH_p (PS_indexA Hvac.runUnderlying281 Hvac.sizeOf26 rfl rfl (by omega) (by omega)) rfl ?_
  refine WH_load (.int _ _) Hvac.isAgg26 rfl (Hb.h (by repeat (first | assumption | exact Hb.newY _ _ | refine Hb.alloc ?_ | refine Hb.drew ?_ | refine Hb.ext (by assumption) ?_ | exact Hb.setSameL (by first | omega | (simp only [size_alloc, size_setB, size_drew]; omega)) | exact Hb.setSame (by assumption) | refine Hb.set (by first | omega | (simp only [size_alloc, size_setB, size_drew]; omega)) ?_ ))) (Ce.h (by first | assumption | exact ⟨rfl⟩)) ?_
  refine WH_p (PS_xor_u64 rfl rfl) rfl ?_
  refine WH_p (PS_move_ptr rfl) rfl ?_
  refine WH_p (PS_nilCheck rfl) rfl ?_
  refine WH_p (PS_indexA Hvac.runUnderlying281 Hvac.sizeOf26 rfl rfl (by omega) (by omega)) rfl ?_
  refine WH_load (.int _ _) Hvac.isAgg26 rfl (Hb.h (by repeat (first | assumption | exact Hb.newY _ _ | refine Hb.alloc ?_ | refine Hb.drew ?_ | refine Hb.ext (by assumption) ?_ | exact Hb.setSameL (by first | omega | (simp only [size_alloc, size_setB, size_drew]; omega)) | exact Hb.setSame (by assumption) | refine Hb.set (by first | omega | (simp only [size_alloc, size_setB, size_drew]; omega)) ?_ ))) (Ce.h (by first | assumption | exact ⟨rfl⟩)) ?_
  refine WH_p (PS_xor_u64 rfl rfl) rfl ?_
  refine WH_p (PS_assign_int rfl) rfl ?_
  refine WH_nil ?_
  refine thn_normal ?_
  refine W_seq ?_
  refine W_drawE [false, false, false, false, false, false, false, false, false, false, false, false, false, false, false, false, false, false, false, false, false, false, false, false, false] hmix (by kernel_rfl) rfl ?_
  refine WH_p (PS_move_ptr rfl) rfl ?_
  refine WH_p (PS_nilCheck rfl) rfl ?_
  refine WH_p (PS_indexA Hvac.runUnderlying281 Hvac.sizeOf26 rfl rfl (by omega) (by omega)) rfl ?_
  refine WH_load (.int _ _) Hvac.isAgg26 rfl (Hb.h (by repeat (first | assumption | exact Hb.newY _ _ | refine Hb.alloc ?_ | refine Hb.drew ?_ | refine Hb.ext (by assumption) ?_ | exact Hb.setSameL (by first | omega | (simp only [size_alloc, size_setB, size_drew]; omega)) | exact Hb.setSame (by assumption) | refine Hb.set (by first | omega | (simp only [size_alloc, size_setB, size_drew]; omega)) ?_ ))) (Ce.h (by first | assumption | exact ⟨rfl⟩)) ?_
  refine WH_p (PS_move_ptr rfl) rfl ?_
  refine WH_p (PS_nilCheck rfl) rfl ?_
  refine WH_p (PS_indexA Hvac.runUnderlying281 Hvac.sizeOf26 rfl rfl (by omega) (by omega)) rfl ?_
  refine WH_load (.int _ _) Hvac.isAgg26 rfl (Hb.h (by repeat (first | assumption | exact Hb.newY _ _ | refine Hb.alloc ?_ | refine Hb.drew ?_ | refine Hb.ext (by assumption) ?_ | exact Hb.setSameL (by first | omega | (simp only [size_alloc, size_setB, size_drew]; omega)) | exact Hb.setSame (by assumption) | refine Hb.set (by first | omega | (simp only [size_alloc, size_setB, size_drew]; omega)) ?_ ))) (Ce.h (by first | assumption | exact ⟨rfl⟩)) ?_
  refine WH_p (PS_xor_u64 rfl rfl) rfl ?_
  refine WH_p (PS_move_ptr rfl) rfl ?_
  refine WH_p (PS_nilCheck rfl) rfl ?_
  refine WH_p (PS_indexA Hvac.runUnderlying281 Hvac.sizeOf26 rfl rfl (by omega) (by omega)) rfl ?_
  refine WH_load (.int _ _) Hvac.isAgg26 rfl (Hb.h (by repeat (first | assumption | exact Hb.newY _ _ | refine Hb.alloc ?_ | refine Hb.drew ?_ | refine Hb.ext (by assumption) ?_ | exact Hb.setSameL (by first | omega | (simp only [size_alloc, size_setB, size_drew]; omega)) | exact Hb.setSame (by assumption) | refine Hb.set (by first | omega | (simp only [size_alloc, size_setB, size_drew]; omega)) ?_ ))) (Ce.h (by first | assumption | exact ⟨rfl⟩)) ?_
  refine WH_p (PS_xor_u64 rfl rfl) rfl ?_
  refine WH_p (PS_move_ptr rfl) rfl ?_
  refine WH_p (PS_nilCheck rfl) rfl ?_
  refine WH_p (PS_indexA Hvac.runUnderlying281 Hvac.sizeOf26 rfl rfl (by omega) (by omega)) rfl ?_
  refine WH_load (.int _ _) Hvac.isAgg26 rfl (Hb.h (by repeat (first | assumption | exact Hb.newY _ _ | refine Hb.alloc ?_ | refine Hb.drew ?_ | refine Hb.ext (by assumption) ?_ | exact Hb.setSameL (by first | omega | (simp only [size_alloc, size_setB, size_drew]; omega)) | exact Hb.setSame (by assumption) | refine Hb.set (by first | omega | (simp only [size_alloc, size_setB, size_drew]; omega)) ?_ ))) (Ce.h (by first | assumption | exact ⟨rfl⟩)) ?_
  refine WH_p (PS_xor_u64 rfl rfl) rfl ?_
  refine WH_p (PS_move_ptr rfl) rfl ?_
  refine WH_p (PS_nilCheck rfl) rfl ?_
  refine WH_p (PS_indexA Hvac.runUnderlying281 Hvac.sizeOf26 rfl rfl (by omega) (by omega)) rfl ?_
  refine WH_load (.int _ _) Hvac.isAgg26 rfl (Hb.h (by repeat (first | assumption | exact Hb.newY _ _ | refine Hb.alloc ?_ | refine Hb.drew ?_ | refine Hb.ext (by assumption) ?_ | exact Hb.setSameL (by first | omega | (simp only [size_alloc, size_setB, size_drew]; omega)) | exact Hb.setSame (by assumption) | refine Hb.set (by first | omega | (simp only [size_alloc, size_setB, size_drew]; omega)) ?_ ))) (Ce.h (by first | assumption | exact ⟨rfl⟩)) ?_
  refine WH_p (PS_xor_u64 rfl rfl) rfl ?_
  refine WH_p (PS_assign_int rfl) rfl ?_
  refine WH_nil ?_
  refine thn_normal ?_
  refine W_seq ?_
  refine W_drawE [false, false, false, false, false, false, false, false, false, false, false, false, false, false, false, false, false, false, false, false, false, false, false, false, false] hmix (by kernel_rfl) rfl ?_
  refine WH_p (PS_move_ptr rfl) rfl ?_
  refine WH_p (PS_nilCheck rfl) rfl ?_
  refine WH_p (PS_indexA Hvac.runUnderlying281 Hvac.sizeOf26 rfl rfl (by omega) (by omega)) rfl ?_
  refine WH_load (.int _ _) Hvac.isAgg26 rfl (Hb.h (by repeat (first | assumption | exact Hb.newY _ _ | refine Hb.alloc ?_ | refine Hb.drew ?_ | refine Hb.ext (by assumption) ?_ | exact Hb.setSameL (by first | omega | (simp only [size_alloc, size_setB, size_drew]; omega)) | exact Hb.setSame (by assumption) | refine Hb.set (by first | omega | (simp only [size_alloc, size_setB, size_drew]; omega)) ?_ ))) (Ce.h (by first | assumption | exact ⟨rfl⟩)) ?_
  refine WH_p (PS_move_ptr rfl) rfl ?_
  refine WH_p (PS_nilCheck rfl) rfl ?_
  refine WH_p (PS_indexA Hvac.runUnderlying281 Hvac.sizeOf26 rfl rfl (by omega) (by omega)) rfl ?_
  refine WH_load (.int _ _) Hvac.isAgg26 rfl (Hb.h (by repeat (first | assumption | exact Hb.newY _ _ | refine Hb.alloc ?_ | refine Hb.drew ?_ | refine Hb.ext (by assumption) ?_ | exact Hb.setSameL (by first | omega | (simp only [size_alloc, size_setB, size_drew]; omega)) | exact Hb.setSame (by assumption) | refine Hb.set (by first | omega | (simp only [size_alloc, size_setB, size_drew]; omega)) ?_ ))) (Ce.h (by first | assumption | exact ⟨rfl⟩)) ?_
  refine WH_p (PS_xor_u64 rfl rfl) rfl ?_
  refine WH_p (PS_move_ptr rfl) rfl ?_
  refine WH_p (PS_nilCheck rfl) rfl ?_
  refine WH_p (PS_indexA Hvac.runUnderlying281 Hvac.sizeOf26 rfl rfl (by omega) (by omega)) rfl ?_
  refine WH_load (.int _ _) Hvac.isAgg26 rfl (Hb.h (by repeat (first | assumption | exact Hb.newY _ _ | refine Hb.alloc ?_ | refine Hb.drew ?_ | refine Hb.ext (by assumption) ?_ | exact Hb.setSameL (by first | omega | (simp only [size_alloc, size_setB, size_drew]; omega)) | exact Hb.setSame (by assumption) | refine Hb.set (by first | omega | (simp only [size_alloc, size_setB, size_drew]; omega)) ?_ ))) (Ce.h (by first | assumption | exact ⟨rfl⟩)) ?_
  refine WH_p (PS_xor_u64 rfl rfl) rfl ?_
  refine WH_p (PS_move_ptr rfl) rfl ?_
  refine WH_p (PS_nilCheck rfl) rfl ?_
  refine WH_p (PS_indexA Hvac.runUnderlying281 Hvac.sizeOf26 rfl rfl (by omega) (by omega)) rfl ?_
  refine WH_load (.int _ _) Hvac.isAgg26 rfl (Hb.h (by repeat (first | assumption | exact Hb.newY _ _ | refine Hb.alloc ?_ | refine Hb.drew ?_ | refine Hb.ext (by assumption) ?_ | exact Hb.setSameL (by first | omega | (simp only [size_alloc, size_setB, size_drew]; omega)) | exact Hb.setSame (by assumption) | refine Hb.set (by first | omega | (simp only [size_alloc, size_setB, size_drew]; omega)) ?_ ))) (Ce.h (by first | assumption | exact ⟨rfl⟩)) ?_
  refine WH_p (PS_xor_u64 rfl rfl) rfl ?_
  refine WH_p (PS_move_ptr rfl) rfl ?_
  refine WH_p (PS_nilCheck rfl) rfl ?_
  refine WH_p (PS_indexA Hvac.runUnderlying281 Hvac.sizeOf26 rfl rfl (by omega) (by omega)) rfl ?_
  refine WH_load (.int _ _) Hvac.isAgg26 rfl (Hb.h (by repeat (first | assumption | exact Hb.newY _ _ | refine Hb.alloc ?_ | refine Hb.drew ?_ | refine Hb.ext (by assumption) ?_ | exact Hb.setSameL (by first | omega | (simp only [size_alloc, size_setB, size_drew]; omega)) | exact Hb.setSame (by assumption) | refine Hb.set (by first | omega | (simp only [size_alloc, size_setB, size_drew]; omega)) ?_ ))) (Ce.h (by first | assumption | exact ⟨rfl⟩)) ?_
  refine WH_p (PS_xor_u64 rfl rfl) rfl ?_
  refine WH_p (PS_assign_int rfl) rfl ?_
  refine WH_nil ?_
  refine thn_normal ?_
  refine W_seq ?_
  refine W_drawE [false, false, false, false, false, false, false, false, false, false, false, false, false, false, false, false, false, false, false, false, false, false, false, false, false] hmix (by kernel_rfl) rfl ?_
  refine WH_p (PS_move_ptr rfl) rfl ?_
  refine WH_p (PS_nilCheck rfl) rfl ?_
  refine WH_p (PS_indexA Hvac.runUnderlying281 Hvac.sizeOf26 rfl rfl (by omega) (by omega)) rfl ?_
  refine WH_load (.int _ _) Hvac.isAgg26 rfl (Hb.h (by repeat (first | assumption | exact Hb.newY _ _ | refine Hb.alloc ?_ | refine Hb.drew ?_ | refine Hb.ext (by assumption) ?_ | exact Hb.setSameL (by first | omega | (simp only [size_alloc, size_setB, size_drew]; omega)) | exact Hb.setSame (by assumption) | refine Hb.set (by first | omega | (simp only [size_alloc, size_setB, size_drew]; omega)) ?_ ))) (Ce.h (by first | assumption | exact ⟨rfl⟩)) ?_
  refine WH_p (PS_move_ptr rfl) rfl ?_
  refine WH_p (PS_nilCheck rfl) rfl ?_
  refine WH_p (PS_indexA Hvac.runUnderlying281 Hvac.sizeOf26 rfl rfl (by omega) (by omega)) rfl ?_
  refine WH_load (.int _ _) Hvac.isAgg26 rfl (Hb.h (by repeat (first | assumption | exact Hb.newY _ _ | refine Hb.alloc ?_ | refine Hb.drew ?_ | refine Hb.ext (by assumption) ?_ | exact Hb.setSameL (by first | omega | (simp only [size_alloc, size_setB, size_drew]; omega)) | exact Hb.setSame (by assumption) | refine Hb.set (by first | omega | (simp only [size_alloc, size_setB, size_drew]; omega)) ?_ ))) (Ce.h (by first | assumption | exact ⟨rfl⟩)) ?_
  refine WH_p (PS_xor_u64 rfl rfl) rfl ?_
  refine WH_p (PS_move_ptr rfl) rfl ?_
  refine WH_p (PS_nilCheck rfl) rfl ?_
  refine WH_p (PS_indexA Hvac.runUnderlying281 Hvac.sizeOf26 rfl rfl (by omega) (by omega)) rfl ?_
  refine WH_load (.int _ _) Hvac.isAgg26 rfl (Hb.h (by repeat (first | assumption | exact Hb.newY _ _ | refine Hb.alloc ?_ | refine Hb.drew ?_ | refine Hb.ext (by assumption) ?_ | exact Hb.setSameL (by first | omega | (simp only [size_alloc, size_setB, size_drew]; omega)) | exact Hb.setSame (by assumption) | refine Hb.set (by first | omega | (simp only [size_alloc, size_setB, size_drew]; omega)) ?_ ))) (Ce.h (by first | assumption | exact ⟨rfl⟩)) ?_
  refine WH_p (PS_xor_u64 rfl rfl) rfl ?_
  refine WH_p (PS_move_ptr rfl) rfl ?_
  refine WH_p (PS_nilCheck rfl) rfl ?_
  refine WH_p (PS_indexA Hvac.runUnderlying281 Hvac.sizeOf26 rfl rfl (by omega) (by omega)) rfl ?_
  refine WH_load (.int _ _) Hvac.isAgg26 rfl (Hb.h (by repeat (first | assumption | exact Hb.newY _ _ | refine Hb.alloc ?_ | refine Hb.drew ?_ | refine Hb.ext (by assumption) ?_ | exact Hb.setSameL (by first | omega | (simp only [size_alloc, size_setB, size_drew]; omega)) | exact Hb.setSame (by assumption) | refine Hb.set (by first | omega | (simp only [size_alloc, size_setB, size_drew]; omega)) ?_ ))) (Ce.h (by first | assumption | exact ⟨rfl⟩)) ?_
  refine WH_p (PS_xor_u64 rfl rfl) rfl ?_
  refine WH_p (PS_move_ptr rfl) rfl ?_
  refine WH_p (PS_nilCheck rfl) rfl ?_
  refine WH_p (PS_indexA Hvac.runUnderlying281 Hvac.sizeOf26 rfl rfl (by omega) (by omega)) rfl ?_
  refine WH_load (.int _ _) Hvac.isAgg26 rfl (Hb.h (by repeat (first | assumption | exact Hb.newY _ _ | refine Hb.alloc ?_ | refine Hb.drew ?_ | refine Hb.ext (by assumption) ?_ | exact Hb.setSameL (by first | omega | (simp only [size_alloc, size_setB, size_drew]; omega)) | exact Hb.setSame (by assumption) | refine Hb.set (by first | omega | (simp only [size_alloc, size_setB, size_drew]; omega)) ?_ ))) (Ce.h (by first | assumption | exact ⟨rfl⟩)) ?_
  refine WH_p (PS_xor_u64 rfl rfl) rfl ?_
  refine WH_p (PS_assign_int rfl) rfl ?_
  refine WH_nil ?_
  refine thn_normal ?_
  refine W_seq ?_
  refine W_drawE [false, false, false, false, false, false, false, false, false, false, false, false, false, false, false, false, false, false, false, false, false, false, false, false, false] hmix (by kernel_rfl) rfl ?_
  refine WH_p (PS_move_ptr rfl) rfl ?_
  refine WH_p (PS_nilCheck rfl) rfl ?_
  refine WH_p (PS_indexA Hvac.runUnderlying281 Hvac.sizeOf26 rfl rfl (by omega) (by omega)) rfl ?_
  refine WH_load (.int _ _) Hvac.isAgg26 rfl (Hb.h (by repeat (first | assumption | exact Hb.newY _ _ | refine Hb.alloc ?_ | refine Hb.drew ?_ | refine Hb.ext (by assumption) ?_ | exact Hb.setSameL (by first | omega | (simp only [size_alloc, size_setB, size_drew]; omega)) | exact Hb.setSame (by assumption) | refine Hb.set (by first | omega | (simp only [size_alloc, size_setB, size_drew]; omega)) ?_ ))) (Ce.h (by first | assumption | exact ⟨rfl⟩)) ?_
  refine WH_p (PS_move_ptr rfl) rfl ?_
  refine WH_p (PS_nilCheck rfl) rfl ?_
  refine WH_p (PS_indexA Hvac.runUnderlying281 Hvac.sizeOf26 rfl rfl (by omega) (by omega)) rfl ?_
  refine WH_load (.int _ _) Hvac.isAgg26 rfl (Hb.h (by repeat (first | assumption | exact Hb.newY _ _ | refine Hb.alloc ?_ | refine Hb.drew ?_ | refine Hb.ext (by assumption) ?_ | exact Hb.setSameL (by first | omega | (simp only [size_alloc, size_setB, size_drew]; omega)) | exact Hb.setSame (by assumption) | refine Hb.set (by first | omega | (simp only [size_alloc, size_setB, size_drew]; omega)) ?_ ))) (Ce.h (by first | assumption | exact ⟨rfl⟩)) ?_
  refine WH_p (PS_xor_u64 rfl rfl) rfl ?_
  refine WH_p (PS_move_ptr rfl) rfl ?_
  refine WH_p (PS_nilCheck rfl) rfl ?_
  refine WH_p (PS_indexA Hvac.runUnderlying281 Hvac.sizeOf26 rfl rfl (by omega) (by omega)) rfl ?_
  refine WH_load (.int _ _) Hvac.isAgg26 rfl (Hb.h (by repeat (first | assumption | exact Hb.newY _ _ | refine Hb.alloc ?_ | refine Hb.drew ?_ | refine Hb.ext (by assumption) ?_ | exact Hb.setSameL (by first | omega | (simp only [size_alloc, size_setB, size_drew]; omega)) | exact Hb.setSame (by assumption) | refine Hb.set (by first | omega | (simp only [size_alloc, size_setB, size_drew]; omega)) ?_ ))) (Ce.h (by first | assumption | exact ⟨rfl⟩)) ?_
  refine WH_p (PS_xor_u64 rfl rfl) rfl ?_
  refine WH_p (PS_move_ptr rfl) rfl ?_
  refine WH_p (PS_nilCheck rfl) rfl ?_
  refine WH_p (PS_indexA Hvac.runUnderlying281 Hvac.sizeOf26 rfl rfl (by omega) (by omega)) rfl ?_
  refine WH_load (.int _ _) Hvac.isAgg26 rfl (Hb.h (by repeat (first | assumption | exact Hb.newY _ _ | refine Hb.alloc ?_ | refine Hb.drew ?_ | refine Hb.ext (by assumption) ?_ | exact Hb.setSameL (by first | omega | (simp only [size_alloc, size_setB, size_drew]; omega)) | exact Hb.setSame (by assumption) | refine Hb.set (by first | omega | (simp only [size_alloc, size_setB, size_drew]; omega)) ?_ ))) (Ce.h (by first | assumption | exact ⟨rfl⟩)) ?_
  refine WH_p (PS_xor_u64 rfl rfl) rfl ?_
  refine WH_p (PS_move_ptr rfl) rfl ?_
  refine WH_p (PS_nilCheck rfl) rfl ?_
  refine WH_p (PS_indexA Hvac.runUnderlying281 Hvac.sizeOf26 rfl rfl (by omega) (by omega)) rfl ?_
  refine WH_load (.int _ _) Hvac.isAgg26 rfl (Hb.h (by repeat (first | assumption | exact Hb.newY _ _ | refine Hb.alloc ?_ | refine Hb.drew ?_ | refine Hb.ext (by assumption) ?_ | exact Hb.setSameL (by first | omega | (simp only [size_alloc, size_setB, size_drew]; omega)) | exact Hb.setSame (by assumption) | refine Hb.set (by first | omega | (simp only [size_alloc, size_setB, size_drew]; omega)) ?_ ))) (Ce.h (by first | assumption | exact ⟨rfl⟩)) ?_
  refine WH_p (PS_xor_u64 rfl rfl) rfl ?_
  refine WH_p (PS_assign_int rfl) rfl ?_
  refine WH_nil ?_
  refine thn_normal ?_
  refine W_seq ?_
  refine W_cutV [(2, lC (lan L) 0), (3, lC (lan L) 1), (4, lC (lan L) 2), (5, lC (lan L) 3), (6, lC (lan L) 4)] [(0, .pointer (some ⟨b, 0, none⟩))] ⟨rfl, trivial⟩ ⟨⟨_, rfl, by first | assumption | exact bXor_bd _ _, (by rw [bw_xor, bw_xor, bw_xor, bw_xor, lC_0]; rfl)⟩, ⟨_, rfl, by first | assumption | exact bXor_bd _ _, (by rw [bw_xor, bw_xor, bw_xor, bw_xor, lC_1]; rfl)⟩, ⟨_, rfl, by first | assumption | exact bXor_bd _ _, (by rw [bw_xor, bw_xor, bw_xor, bw_xor, lC_2]; rfl)⟩, ⟨_, rfl, by first | assumption | exact bXor_bd _ _, (by rw [bw_xor, bw_xor, bw_xor, bw_xor, lC_3]; rfl)⟩, ⟨_, rfl, by first | assumption | exact bXor_bd _ _, (by rw [bw_xor, bw_xor, bw_xor, bw_xor, lC_4]; rfl)⟩, trivial⟩ ?_
  intro x2 hx2 hv2 x3 hx3 hv3 x4 hx4 hv4 x5 hx5 hv5 x6 hx6 hv6 ρ hFr
  refine W_env _ hFr ?_
  clear hFr
  refine W_region rfl ?_
  refine WO_p (PS_move_int rfl) ?_
  refine WO_p (PS_move_int rfl) ?_
  refine WO_call Hvac.call373 (by rfl) (Ret.mono (rot_ex _ _ _ (by decide) (by first | assumption | exact bXor_bd _ _)) ?_)
  rintro _ w373_0 ⟨hE373_0, r373_0, rfl, hr373_0, hrv373_0⟩
  have hz373_0 := hE373_0.1
  try simp only [size_alloc, size_setB, size_drew] at hz373_0
  refine WO_p (PS_xor_u64 rfl rfl) ?_
  refine WO_p (PS_assign_int rfl) ?_
  refine WO_nil ?_
  refine thn_normal ?_
  refine W_seq ?_
  refine W_region rfl ?_
  refine WO_p (PS_move_int rfl) ?_
  refine WO_p (PS_move_int rfl) ?_
  refine WO_call Hvac.call373 (by rfl) (Ret.mono (rot_ex _ _ _ (by decide) (by first | assumption | exact bXor_bd _ _)) ?_)
  rintro _ w373_1 ⟨hE373_1, r373_1, rfl, hr373_1, hrv373_1⟩
  have hz373_1 := hE373_1.1
  try simp only [size_alloc, size_setB, size_drew] at hz373_1
  refine WO_p (PS_xor_u64 rfl rfl) ?_
  refine WO_p (PS_assign_int rfl) ?_
  refine WO_nil ?_
  refine thn_normal ?_
  refine W_seq ?_
  refine W_region rfl ?_
  refine WO_p (PS_move_int rfl) ?_
  refine WO_p (PS_move_int rfl) ?_
  refine WO_call Hvac.call373 (by rfl) (Ret.mono (rot_ex _ _ _ (by decide) (by first | assumption | exact bXor_bd _ _)) ?_)
  rintro _ w373_2 ⟨hE373_2, r373_2, rfl, hr373_2, hrv373_2⟩
  have hz373_2 := hE373_2.1
  try simp only [size_alloc, size_setB, size_drew] at hz373_2
  refine WO_p (PS_xor_u64 rfl rfl) ?_
  refine WO_p (PS_assign_int rfl) ?_
  refine WO_nil ?_
  refine thn_normal ?_
  refine W_seq ?_
  refine W_region rfl ?_
  refine WO_p (PS_move_int rfl) ?_
  refine WO_p (PS_move_int rfl) ?_
  refine WO_call Hvac.call373 (by rfl) (Ret.mono (rot_ex _ _ _ (by decide) (by first | assumption | exact bXor_bd _ _)) ?_)
  rintro _ w373_3 ⟨hE373_3, r373_3, rfl, hr373_3, hrv373_3⟩
  have hz373_3 := hE373_3.1
  try simp only [size_alloc, size_setB, size_drew] at hz373_3
  refine WO_p (PS_xor_u64 rfl rfl) ?_
  refine WO_p (PS_assign_int rfl) ?_
  refine WO_nil ?_
  refine thn_normal ?_
  refine W_seq ?_
  refine W_region rfl ?_
  refine WO_p (PS_move_int rfl) ?_
  refine WO_p (PS_move_int rfl) ?_
  refine WO_call Hvac.call373 (by rfl) (Ret.mono (rot_ex _ _ _ (by decide) (by first | assumption | exact bXor_bd _ _)) ?_)
  rintro _ w373_4 ⟨hE373_4, r373_4, rfl, hr373_4, hrv373_4⟩
  have hz373_4 := hE373_4.1
  try simp only [size_alloc, size_setB, size_drew] at hz373_4
  refine WO_p (PS_xor_u64 rfl rfl) ?_
  refine WO_p (PS_assign_int rfl) ?_
  refine WO_nil ?_
  refine thn_normal ?_
  refine W_seq ?_
  refine W_cutV [(7, lD (lan L) 0), (8, lD (lan L) 1), (9, lD (lan L) 2), (10, lD (lan L) 3), (11, lD (lan L) 4)] [(0, .pointer (some ⟨b, 0, none⟩))] ⟨rfl, trivial⟩ ⟨⟨_, rfl, by first | assumption | exact bXor_bd _ _, (by rw [bw_xor, hrv373_0, hv6, hv3, lD_0]; rfl)⟩, ⟨_, rfl, by first | assumption | exact bXor_bd _ _, (by rw [bw_xor, hrv373_1, hv2, hv4, lD_1]; rfl)⟩, ⟨_, rfl, by first | assumption | exact bXor_bd _ _, (by rw [bw_xor, hrv373_2, hv3, hv5, lD_2]; rfl)⟩, ⟨_, rfl, by first | assumption | exact bXor_bd _ _, (by rw [bw_xor, hrv373_3, hv4, hv6, lD_3]; rfl)⟩, ⟨_, rfl, by first | assumption | exact bXor_bd _ _, (by rw [bw_xor, hrv373_4, hv5, hv2, lD_4]; rfl)⟩, trivial⟩ ?_
  intro x7 hx7 hv7 x8 hx8 hv8 x9 hx9 hv9 x10 hx10 hv10 x11 hx11 hv11 ρ hFr
  refine W_env _ hFr ?_
  clear hFr
  refine W_region rfl ?_
  refine WO_p (PS_move_ptr rfl) ?_
  refine WO_p (PS_nilCheck rfl) ?_
  refine WO_p (PS_indexA Hvac.runUnderlying281 Hvac.sizeOf26 rfl rfl (by omega) (by omega)) ?_
  refine WO_load (.int _ _) Hvac.isAgg26 rfl (Hb.h (by repeat (first | assumption | exact Hb.newY _ _ | refine Hb.alloc ?_ | refine Hb.drew ?_ | refine Hb.ext (by assumption) ?_ | exact Hb.setSameL (by first | omega | (simp only [size_alloc, size_setB, size_drew]; omega)) | exact Hb.setSame (by assumption) | refine Hb.set (by first | omega | (simp only [size_alloc, size_setB, size_drew]; omega)) ?_ ))) (Ce.h (by first | assumption | exact ⟨rfl⟩)) ?_
  refine WO_p (PS_move_int rfl) ?_
  refine WO_p (PS_xor_u64 rfl rfl) ?_
  refine WO_p (PS_assign_int rfl) ?_
  refine WO_nil ?_
  refine thn_normal ?_
  refine W_seq ?_
  refine W_region rfl ?_
  refine WO_p (PS_move_ptr rfl) ?_
  refine WO_p (PS_nilCheck rfl) ?_
  refine WO_p (PS_indexA Hvac.runUnderlying281 Hvac.sizeOf26 rfl rfl (by omega) (by omega)) ?_
  refine WO_load (.int _ _) Hvac.isAgg26 rfl (Hb.h (by repeat (first | assumption | exact Hb.newY _ _ | refine Hb.alloc ?_ | refine Hb.drew ?_ | refine Hb.ext (by assumption) ?_ | exact Hb.setSameL (by first | omega | (simp only [size_alloc, size_setB, size_drew]; omega)) | exact Hb.setSame (by assumption) | refine Hb.set (by first | omega | (simp only [size_alloc, size_setB, size_drew]; omega)) ?_ ))) (Ce.h (by first | assumption | exact ⟨rfl⟩)) ?_
  refine WO_p (PS_move_int rfl) ?_
  refine WO_p (PS_xor_u64 rfl rfl) ?_
  refine WO_call Hvac.call373 (by rfl) (Ret.mono (rot_ex _ _ _ (by decide) (by first | assumption | exact bXor_bd _ _)) ?_)
  rintro _ w373_5 ⟨hE373_5, r373_5, rfl, hr373_5, hrv373_5⟩
  have hz373_5 := hE373_5.1
  try simp only [size_alloc, size_setB, size_drew] at hz373_5
  refine WO_p (PS_assign_int rfl) ?_
  refine WO_nil ?_
  refine thn_normal ?_
  refine W_seq ?_
  refine W_region rfl ?_
  refine WO_p (PS_move_ptr rfl) ?_
  refine WO_p (PS_nilCheck rfl) ?_
  refine WO_p (PS_indexA Hvac.runUnderlying281 Hvac.sizeOf26 rfl rfl (by omega) (by omega)) ?_
  refine WO_load (.int _ _) Hvac.isAgg26 rfl (Hb.h (by repeat (first | assumption | exact Hb.newY _ _ | refine Hb.alloc ?_ | refine Hb.drew ?_ | refine Hb.ext (by assumption) ?_ | exact Hb.setSameL (by first | omega | (simp only [size_alloc, size_setB, size_drew]; omega)) | exact Hb.setSame (by assumption) | refine Hb.set (by first | omega | (simp only [size_alloc, size_setB, size_drew]; omega)) ?_ ))) (Ce.h (by first | assumption | exact ⟨rfl⟩)) ?_
  refine WO_p (PS_move_int rfl) ?_
  refine WO_p (PS_xor_u64 rfl rfl) ?_
  refine WO_call Hvac.call373 (by rfl) (Ret.mono (rot_ex _ _ _ (by decide) (by first | assumption | exact bXor_bd _ _)) ?_)
  rintro _ w373_6 ⟨hE373_6, r373_6, rfl, hr373_6, hrv373_6⟩
  have hz373_6 := hE373_6.1
  try simp only [size_alloc, size_setB, size_drew] at hz373_6
  refine WO_p (PS_assign_int rfl) ?_
  refine WO_nil ?_
  refine thn_normal ?_
  refine W_seq ?_
  refine W_region rfl ?_
  refine WO_p (PS_move_ptr rfl) ?_
  refine WO_p (PS_nilCheck rfl) ?_
  refine WO_p (PS_indexA Hvac.runUnderlying281 Hvac.sizeOf26 rfl rfl (by omega) (by omega)) ?_
  refine WO_load (.int _ _) Hvac.isAgg26 rfl (Hb.h (by repeat (first | assumption | exact Hb.newY _ _ | refine Hb.alloc ?_ | refine Hb.drew ?_ | refine Hb.ext (by assumption) ?_ | exact Hb.setSameL (by first | omega | (simp only [size_alloc, size_setB, size_drew]; omega)) | exact Hb.setSame (by assumption) | refine Hb.set (by first | omega | (simp only [size_alloc, size_setB, size_drew]; omega)) ?_ ))) (Ce.h (by first | assumption | exact ⟨rfl⟩)) ?_
  refine WO_p (PS_move_int rfl) ?_
  refine WO_p (PS_xor_u64 rfl rfl) ?_
  refine WO_call Hvac.call373 (by rfl) (Ret.mono (rot_ex _ _ _ (by decide) (by first | assumption | exact bXor_bd _ _)) ?_)
  rintro _ w373_7 ⟨hE373_7, r373_7, rfl, hr373_7, hrv373_7⟩
  have hz373_7 := hE373_7.1
  try simp only [size_alloc, size_setB, size_drew] at hz373_7
  refine WO_p (PS_assign_int rfl) ?_
  refine WO_nil ?_
  refine thn_normal ?_
  refine W_seq ?_
  refine W_region rfl ?_
  refine WO_p (PS_move_ptr rfl) ?_
  refine WO_p (PS_nilCheck rfl) ?_
  refine WO_p (PS_indexA Hvac.runUnderlying281 Hvac.sizeOf26 rfl rfl (by omega) (by omega)) ?_
  refine WO_load (.int _ _) Hvac.isAgg26 rfl (Hb.h (by repeat (first | assumption | exact Hb.newY _ _ | refine Hb.alloc ?_ | refine Hb.drew ?_ | refine Hb.ext (by assumption) ?_ | exact Hb.setSameL (by first | omega | (simp only [size_alloc, size_setB, size_drew]; omega)) | exact Hb.setSame (by assumption) | refine Hb.set (by first | omega | (simp only [size_alloc, size_setB, size_drew]; omega)) ?_ ))) (Ce.h (by first | assumption | exact ⟨rfl⟩)) ?_
  refine WO_p (PS_move_int rfl) ?_
  refine WO_p (PS_xor_u64 rfl rfl) ?_
  refine WO_call Hvac.call373 (by rfl) (Ret.mono (rot_ex _ _ _ (by decide) (by first | assumption | exact bXor_bd _ _)) ?_)
  rintro _ w373_8 ⟨hE373_8, r373_8, rfl, hr373_8, hrv373_8⟩
  have hz373_8 := hE373_8.1
  try simp only [size_alloc, size_setB, size_drew] at hz373_8
  refine WO_p (PS_assign_int rfl) ?_
  refine WO_nil ?_
  refine thn_normal ?_
  refine W_seq ?_
  refine W_cutV [(7, lD (lan L) 0), (8, lD (lan L) 1), (9, lD (lan L) 2), (10, lD (lan L) 3), (11, lD (lan L) 4), (12, lP (lan L) 0 0), (13, lP (lan L) 1 0), (14, lP (lan L) 2 0), (15, lP (lan L) 3 0), (16, lP (lan L) 4 0)] [(0, .pointer (some ⟨b, 0, none⟩))] ⟨rfl, trivial⟩ ⟨⟨_, rfl, by first | assumption | exact bXor_bd _ _, hv7⟩, ⟨_, rfl, by first | assumption | exact bXor_bd _ _, hv8⟩, ⟨_, rfl, by first | assumption | exact bXor_bd _ _, hv9⟩, ⟨_, rfl, by first | assumption | exact bXor_bd _ _, hv10⟩, ⟨_, rfl, by first | assumption | exact bXor_bd _ _, hv11⟩, ⟨_, rfl, by first | assumption | exact bXor_bd _ _, (by rw [bw_xor, hv7, lP_0]; rfl)⟩, ⟨_, rfl, by first | assumption | exact bXor_bd _ _, (by rw [hrv373_5, bw_xor, hv8, lP_1]; rfl)⟩, ⟨_, rfl, by first | assumption | exact bXor_bd _ _, (by rw [hrv373_6, bw_xor, hv9, lP_2]; rfl)⟩, ⟨_, rfl, by first | assumption | exact bXor_bd _ _, (by rw [hrv373_7, bw_xor, hv10, lP_3]; rfl)⟩, ⟨_, rfl, by first | assumption | exact bXor_bd _ _, (by rw [hrv373_8, bw_xor, hv11, lP_4]; rfl)⟩, trivial⟩ ?_
  intro x7 hx7 hv7 x8 hx8 hv8 x9 hx9 hv9 x10 hx10 hv10 x11 hx11 hv11 x12 hx12 hv12 x13 hx13 hv13 x14 hx14 hv14 x15 hx15 hv15 x16 hx16 hv16 ρ hFr
  refine W_env _ hFr ?_
  clear hFr
  refine W_region rfl ?_
  refine WO_p (PS_move_ptr rfl) ?_
  refine WO_p (PS_nilCheck rfl) ?_
  refine WO_p (PS_indexA Hvac.runUnderlying281 Hvac.sizeOf26 rfl rfl (by omega) (by omega)) ?_
  refine WO_load (.int _ _) Hvac.isAgg26 rfl (Hb.h (by repeat (first | assumption | exact Hb.newY _ _ | refine Hb.alloc ?_ | refine Hb.drew ?_ | refine Hb.ext (by assumption) ?_ | exact Hb.setSameL (by first | omega | (simp only [size_alloc, size_setB, size_drew]; omega)) | exact Hb.setSame (by assumption) | refine Hb.set (by first | omega | (simp only [size_alloc, size_setB, size_drew]; omega)) ?_ ))) (Ce.h (by first | assumption | exact ⟨rfl⟩)) ?_
  refine WO_p (PS_move_int rfl) ?_
  refine WO_p (PS_xor_u64 rfl rfl) ?_
  refine WO_call Hvac.call373 (by rfl) (Ret.mono (rot_ex _ _ _ (by decide) (by first | assumption | exact bXor_bd _ _)) ?_)
  rintro _ w373_9 ⟨hE373_9, r373_9, rfl, hr373_9, hrv373_9⟩
  have hz373_9 := hE373_9.1
  try simp only [size_alloc, size_setB, size_drew] at hz373_9
  refine WO_p (PS_assign_int rfl) ?_
  refine WO_nil ?_
  refine thn_normal ?_
  refine W_seq ?_
  refine W_region rfl ?_
  refine WO_p (PS_move_ptr rfl) ?_
  refine WO_p (PS_nilCheck rfl) ?_
  refine WO_p (PS_indexA Hvac.runUnderlying281 Hvac.sizeOf26 rfl rfl (by omega) (by omega)) ?_
  refine WO_load (.int _ _) Hvac.isAgg26 rfl (Hb.h (by repeat (first | assumption | exact Hb.newY _ _ | refine Hb.alloc ?_ | refine Hb.drew ?_ | refine Hb.ext (by assumption) ?_ | exact Hb.setSameL (by first | omega | (simp only [size_alloc, size_setB, size_drew]; omega)) | exact Hb.setSame (by assumption) | refine Hb.set (by first | omega | (simp only [size_alloc, size_setB, size_drew]; omega)) ?_ ))) (Ce.h (by first | assumption | exact ⟨rfl⟩)) ?_
  refine WO_p (PS_move_int rfl) ?_
  refine WO_p (PS_xor_u64 rfl rfl) ?_
  refine WO_call Hvac.call373 (by rfl) (Ret.mono (rot_ex _ _ _ (by decide) (by first | assumption | exact bXor_bd _ _)) ?_)
  rintro _ w373_10 ⟨hE373_10, r373_10, rfl, hr373_10, hrv373_10⟩
  have hz373_10 := hE373_10.1
  try simp only [size_alloc, size_setB, size_drew] at hz373_10
  refine WO_p (PS_assign_int rfl) ?_
  refine WO_nil ?_
  refine thn_normal ?_
  refine W_seq ?_
  refine W_region rfl ?_
  refine WO_p (PS_move_ptr rfl) ?_
  refine WO_p (PS_nilCheck rfl) ?_
  refine WO_p (PS_indexA Hvac.runUnderlying281 Hvac.sizeOf26 rfl rfl (by omega) (by omega)) ?_
  refine WO_load (.int _ _) Hvac.isAgg26 rfl (Hb.h (by repeat (first | assumption | exact Hb.newY _ _ | refine Hb.alloc ?_ | refine Hb.drew ?_ | refine Hb.ext (by assumption) ?_ | exact Hb.setSameL (by first | omega | (simp only [size_alloc, size_setB, size_drew]; omega)) | exact Hb.setSame (by assumption) | refine Hb.set (by first | omega | (simp only [size_alloc, size_setB, size_drew]; omega)) ?_ ))) (Ce.h (by first | assumption | exact ⟨rfl⟩)) ?_
  refine WO_p (PS_move_int rfl) ?_
  refine WO_p (PS_xor_u64 rfl rfl) ?_
  refine WO_call Hvac.call373 (by rfl) (Ret.mono (rot_ex _ _ _ (by decide) (by first | assumption | exact bXor_bd _ _)) ?_)
  rintro _ w373_11 ⟨hE373_11, r373_11, rfl, hr373_11, hrv373_11⟩
  have hz373_11 := hE373_11.1
  try simp only [size_alloc, size_setB, size_drew] at hz373_11
  refine WO_p (PS_assign_int rfl) ?_
  refine WO_nil ?_
  refine thn_normal ?_
  refine W_seq ?_
  refine W_region rfl ?_
  refine WO_p (PS_move_ptr rfl) ?_
  refine WO_p (PS_nilCheck rfl) ?_
  refine WO_p (PS_indexA Hvac.runUnderlying281 Hvac.sizeOf26 rfl rfl (by omega) (by omega)) ?_
  refine WO_load (.int _ _) Hvac.isAgg26 rfl (Hb.h (by repeat (first | assumption | exact Hb.newY _ _ | refine Hb.alloc ?_ | refine Hb.drew ?_ | refine Hb.ext (by assumption) ?_ | exact Hb.setSameL (by first | omega | (simp only [size_alloc, size_setB, size_drew]; omega)) | exact Hb.setSame (by assumption) | refine Hb.set (by first | omega | (simp only [size_alloc, size_setB, size_drew]; omega)) ?_ ))) (Ce.h (by first | assumption | exact ⟨rfl⟩)) ?_
  refine WO_p (PS_move_int rfl) ?_
  refine WO_p (PS_xor_u64 rfl rfl) ?_
  refine WO_call Hvac.call373 (by rfl) (Ret.mono (rot_ex _ _ _ (by decide) (by first | assumption | exact bXor_bd _ _)) ?_)
  rintro _ w373_12 ⟨hE373_12, r373_12, rfl, hr373_12, hrv373_12⟩
  have hz373_12 := hE373_12.1
  try simp only [size_alloc, size_setB, size_drew] at hz373_12
  refine WO_p (PS_assign_int rfl) ?_
  refine WO_nil ?_
  refine thn_normal ?_
  refine W_seq ?_
  refine W_region rfl ?_
  refine WO_p (PS_move_ptr rfl) ?_
  refine WO_p (PS_nilCheck rfl) ?_
  refine WO_p (PS_indexA Hvac.runUnderlying281 Hvac.sizeOf26 rfl rfl (by omega) (by omega)) ?_
  refine WO_load (.int _ _) Hvac.isAgg26 rfl (Hb.h (by repeat (first | assumption | exact Hb.newY _ _ | refine Hb.alloc ?_ | refine Hb.drew ?_ | refine Hb.ext (by assumption) ?_ | exact Hb.setSameL (by first | omega | (simp only [size_alloc, size_setB, size_drew]; omega)) | exact Hb.setSame (by assumption) | refine Hb.set (by first | omega | (simp only [size_alloc, size_setB, size_drew]; omega)) ?_ ))) (Ce.h (by first | assumption | exact ⟨rfl⟩)) ?_
  refine WO_p (PS_move_int rfl) ?_
  refine WO_p (PS_xor_u64 rfl rfl) ?_
  refine WO_call Hvac.call373 (by rfl) (Ret.mono (rot_ex _ _ _ (by decide) (by first | assumption | exact bXor_bd _ _)) ?_)
  rintro _ w373_13 ⟨hE373_13, r373_13, rfl, hr373_13, hrv373_13⟩
  have hz373_13 := hE373_13.1
  try simp only [size_alloc, size_setB, size_drew] at hz373_13
  refine WO_p (PS_assign_int rfl) ?_
  refine WO_nil ?_
  refine thn_normal ?_
  refine W_seq ?_
  refine W_cutV [(7, lD (lan L) 0), (8, lD (lan L) 1), (9, lD (lan L) 2), (10, lD (lan L) 3), (11, lD (lan L) 4), (12, lP (lan L) 0 0), (13, lP (lan L) 1 0), (14, lP (lan L) 2 0), (15, lP (lan L) 3 0), (16, lP (lan L) 4 0), (17, lP (lan L) 0 1), (18, lP (lan L) 1 1), (19, lP (lan L) 2 1), (20, lP (lan L) 3 1), (21, lP (lan L) 4 1)] [(0, .pointer (some ⟨b, 0, none⟩))] ⟨rfl, trivial⟩ ⟨⟨_, rfl, by first | assumption | exact bXor_bd _ _, hv7⟩, ⟨_, rfl, by first | assumption | exact bXor_bd _ _, hv8⟩, ⟨_, rfl, by first | assumption | exact bXor_bd _ _, hv9⟩, ⟨_, rfl, by first | assumption | exact bXor_bd _ _, hv10⟩, ⟨_, rfl, by first | assumption | exact bXor_bd _ _, hv11⟩, ⟨_, rfl, by first | assumption | exact bXor_bd _ _, hv12⟩, ⟨_, rfl, by first | assumption | exact bXor_bd _ _, hv13⟩, ⟨_, rfl, by first | assumption | exact bXor_bd _ _, hv14⟩, ⟨_, rfl, by first | assumption | exact bXor_bd _ _, hv15⟩, ⟨_, rfl, by first | assumption | exact bXor_bd _ _, hv16⟩, ⟨_, rfl, by first | assumption | exact bXor_bd _ _, (by rw [hrv373_9, bw_xor, hv10, lP_5]; rfl)⟩, ⟨_, rfl, by first | assumption | exact bXor_bd _ _, (by rw [hrv373_10, bw_xor, hv11, lP_6]; rfl)⟩, ⟨_, rfl, by first | assumption | exact bXor_bd _ _, (by rw [hrv373_11, bw_xor, hv7, lP_7]; rfl)⟩, ⟨_, rfl, by first | assumption | exact bXor_bd _ _, (by rw [hrv373_12, bw_xor, hv8, lP_8]; rfl)⟩, ⟨_, rfl, by first | assumption | exact bXor_bd _ _, (by rw [hrv373_13, bw_xor, hv9, lP_9]; rfl)⟩, trivial⟩ ?_
  intro x7 hx7 hv7 x8 hx8 hv8 x9 hx9 hv9 x10 hx10 hv10 x11 hx11 hv11 x12 hx12 hv12 x13 hx13 hv13 x14 hx14 hv14 x15 hx15 hv15 x16 hx16 hv16 x17 hx17 hv17 x18 hx18 hv18 x19 hx19 hv19 x20 hx20 hv20 x21 hx21 hv21 ρ hFr
  refine W_env _ hFr ?_
  clear hFr
  refine W_region rfl ?_
  refine WO_p (PS_move_ptr rfl) ?_
  refine WO_p (PS_nilCheck rfl) ?_
  refine WO_p (PS_indexA Hvac.runUnderlying281 Hvac.sizeOf26 rfl rfl (by omega) (by omega)) ?_
  refine WO_load (.int _ _) Hvac.isAgg26 rfl (Hb.h (by repeat (first | assumption | exact Hb.newY _ _ | refine Hb.alloc ?_ | refine Hb.drew ?_ | refine Hb.ext (by assumption) ?_ | exact Hb.setSameL (by first | omega | (simp only [size_alloc, size_setB, size_drew]; omega)) | exact Hb.setSame (by assumption) | refine Hb.set (by first | omega | (simp only [size_alloc, size_setB, size_drew]; omega)) ?_ ))) (Ce.h (by first | assumption | exact ⟨rfl⟩)) ?_
  refine WO_p (PS_move_int rfl) ?_
  refine WO_p (PS_xor_u64 rfl rfl) ?_
  refine WO_call Hvac.call373 (by rfl) (Ret.mono (rot_ex _ _ _ (by decide) (by first | assumption | exact bXor_bd _ _)) ?_)
  rintro _ w373_14 ⟨hE373_14, r373_14, rfl, hr373_14, hrv373_14⟩
  have hz373_14 := hE373_14.1
  try simp only [size_alloc, size_setB, size_drew] at hz373_14
  refine WO_p (PS_assign_int rfl) ?_
  refine WO_nil ?_
  refine thn_normal ?_
  refine W_seq ?_
  refine W_region rfl ?_
  refine WO_p (PS_move_ptr rfl) ?_
  refine WO_p (PS_nilCheck rfl) ?_
  refine WO_p (PS_indexA Hvac.runUnderlying281 Hvac.sizeOf26 rfl rfl (by omega) (by omega)) ?_
  refine WO_load (.int _ _) Hvac.isAgg26 rfl (Hb.h (by repeat (first | assumption | exact Hb.newY _ _ | refine Hb.alloc ?_ | refine Hb.drew ?_ | refine Hb.ext (by assumption) ?_ | exact Hb.setSameL (by first | omega | (simp only [size_alloc, size_setB, size_drew]; omega)) | exact Hb.setSame (by assumption) | refine Hb.set (by first | omega | (simp only [size_alloc, size_setB, size_drew]; omega)) ?_ ))) (Ce.h (by first | assumption | exact ⟨rfl⟩)) ?_
  refine WO_p (PS_move_int rfl) ?_
  refine WO_p (PS_xor_u64 rfl rfl) ?_
  refine WO_call Hvac.call373 (by rfl) (Ret.mono (rot_ex _ _ _ (by decide) (by first | assumption | exact bXor_bd _ _)) ?_)
  rintro _ w373_15 ⟨hE373_15, r373_15, rfl, hr373_15, hrv373_15⟩
  have hz373_15 := hE373_15.1
  try simp only [size_alloc, size_setB, size_drew] at hz373_15
  refine WO_p (PS_assign_int rfl) ?_
  refine WO_nil ?_
  refine thn_normal ?_
  refine W_seq ?_
  refine W_region rfl ?_
  refine WO_p (PS_move_ptr rfl) ?_
  refine WO_p (PS_nilCheck rfl) ?_
  refine WO_p (PS_indexA Hvac.runUnderlying281 Hvac.sizeOf26 rfl rfl (by omega) (by omega)) ?_
  refine WO_load (.int _ _) Hvac.isAgg26 rfl (Hb.h (by repeat (first | assumption | exact Hb.newY _ _ | refine Hb.alloc ?_ | refine Hb.drew ?_ | refine Hb.ext (by assumption) ?_ | exact Hb.setSameL (by first | omega | (simp only [size_alloc, size_setB, size_drew]; omega)) | exact Hb.setSame (by assumption) | refine Hb.set (by first | omega | (simp only [size_alloc, size_setB, size_drew]; omega)) ?_ ))) (Ce.h (by first | assumption | exact ⟨rfl⟩)) ?_
  refine WO_p (PS_move_int rfl) ?_
  refine WO_p (PS_xor_u64 rfl rfl) ?_
  refine WO_call Hvac.call373 (by rfl) (Ret.mono (rot_ex _ _ _ (by decide) (by first | assumption | exact bXor_bd _ _)) ?_)
  rintro _ w373_16 ⟨hE373_16, r373_16, rfl, hr373_16, hrv373_16⟩
  have hz373_16 := hE373_16.1
  try simp only [size_alloc, size_setB, size_drew] at hz373_16
  refine WO_p (PS_assign_int rfl) ?_
  refine WO_nil ?_
  refine thn_normal ?_
  refine W_seq ?_
  refine W_region rfl ?_
  refine WO_p (PS_move_ptr rfl) ?_
  refine WO_p (PS_nilCheck rfl) ?_
  refine WO_p (PS_indexA Hvac.runUnderlying281 Hvac.sizeOf26 rfl rfl (by omega) (by omega)) ?_
  refine WO_load (.int _ _) Hvac.isAgg26 rfl (Hb.h (by repeat (first | assumption | exact Hb.newY _ _ | refine Hb.alloc ?_ | refine Hb.drew ?_ | refine Hb.ext (by assumption) ?_ | exact Hb.setSameL (by first | omega | (simp only [size_alloc, size_setB, size_drew]; omega)) | exact Hb.setSame (by assumption) | refine Hb.set (by first | omega | (simp only [size_alloc, size_setB, size_drew]; omega)) ?_ ))) (Ce.h (by first | assumption | exact ⟨rfl⟩)) ?_
  refine WO_p (PS_move_int rfl) ?_
  refine WO_p (PS_xor_u64 rfl rfl) ?_
  refine WO_call Hvac.call373 (by rfl) (Ret.mono (rot_ex _ _ _ (by decide) (by first | assumption | exact bXor_bd _ _)) ?_)
  rintro _ w373_17 ⟨hE373_17, r373_17, rfl, hr373_17, hrv373_17⟩
  have hz373_17 := hE373_17.1
  try simp only [size_alloc, size_setB, size_drew] at hz373_17
  refine WO_p (PS_assign_int rfl) ?_
  refine WO_nil ?_
  refine thn_normal ?_
  refine W_seq ?_
  refine W_region rfl ?_
  refine WO_p (PS_move_ptr rfl) ?_
  refine WO_p (PS_nilCheck rfl) ?_
  refine WO_p (PS_indexA Hvac.runUnderlying281 Hvac.sizeOf26 rfl rfl (by omega) (by omega)) ?_
  refine WO_load (.int _ _) Hvac.isAgg26 rfl (Hb.h (by repeat (first | assumption | exact Hb.newY _ _ | refine Hb.alloc ?_ | refine Hb.drew ?_ | refine Hb.ext (by assumption) ?_ | exact Hb.setSameL (by first | omega | (simp only [size_alloc, size_setB, size_drew]; omega)) | exact Hb.setSame (by assumption) | refine Hb.set (by first | omega | (simp only [size_alloc, size_setB, size_drew]; omega)) ?_ ))) (Ce.h (by first | assumption | exact ⟨rfl⟩)) ?_
  refine WO_p (PS_move_int rfl) ?_
  refine WO_p (PS_xor_u64 rfl rfl) ?_
  refine WO_call Hvac.call373 (by rfl) (Ret.mono (rot_ex _ _ _ (by decide) (by first | assumption | exact bXor_bd _ _)) ?_)
  rintro _ w373_18 ⟨hE373_18, r373_18, rfl, hr373_18, hrv373_18⟩
  have hz373_18 := hE373_18.1
  try simp only [size_alloc, size_setB, size_drew] at hz373_18
  refine WO_p (PS_assign_int rfl) ?_
  refine WO_nil ?_
  refine thn_normal ?_
  refine W_seq ?_
  refine W_cutV [(7, lD (lan L) 0), (8, lD (lan L) 1), (9, lD (lan L) 2), (10, lD (lan L) 3), (11, lD (lan L) 4), (12, lP (lan L) 0 0), (13, lP (lan L) 1 0), (14, lP (lan L) 2 0), (15, lP (lan L) 3 0), (16, lP (lan L) 4 0), (17, lP (lan L) 0 1), (18, lP (lan L) 1 1), (19, lP (lan L) 2 1), (20, lP (lan L) 3 1), (21, lP (lan L) 4 1), (22, lP (lan L) 0 2), (23, lP (lan L) 1 2), (24, lP (lan L) 2 2), (25, lP (lan L) 3 2), (26, lP (lan L) 4 2)] [(0, .pointer (some ⟨b, 0, none⟩))] ⟨rfl, trivial⟩ ⟨⟨_, rfl, by first | assumption | exact bXor_bd _ _, hv7⟩, ⟨_, rfl, by first | assumption | exact bXor_bd _ _, hv8⟩, ⟨_, rfl, by first | assumption | exact bXor_bd _ _, hv9⟩, ⟨_, rfl, by first | assumption | exact bXor_bd _ _, hv10⟩, ⟨_, rfl, by first | assumption | exact bXor_bd _ _, hv11⟩, ⟨_, rfl, by first | assumption | exact bXor_bd _ _, hv12⟩, ⟨_, rfl, by first | assumption | exact bXor_bd _ _, hv13⟩, ⟨_, rfl, by first | assumption | exact bXor_bd _ _, hv14⟩, ⟨_, rfl, by first | assumption | exact bXor_bd _ _, hv15⟩, ⟨_, rfl, by first | assumption | exact bXor_bd _ _, hv16⟩, ⟨_, rfl, by first | assumption | exact bXor_bd _ _, hv17⟩, ⟨_, rfl, by first | assumption | exact bXor_bd _ _, hv18⟩, ⟨_, rfl, by first | assumption | exact bXor_bd _ _, hv19⟩, ⟨_, rfl, by first | assumption | exact bXor_bd _ _, hv20⟩, ⟨_, rfl, by first | assumption | exact bXor_bd _ _, hv21⟩, ⟨_, rfl, by first | assumption | exact bXor_bd _ _, (by rw [hrv373_14, bw_xor, hv8, lP_10]; rfl)⟩, ⟨_, rfl, by first | assumption | exact bXor_bd _ _, (by rw [hrv373_15, bw_xor, hv9, lP_11]; rfl)⟩, ⟨_, rfl, by first | assumption | exact bXor_bd _ _, (by rw [hrv373_16, bw_xor, hv10, lP_12]; rfl)⟩, ⟨_, rfl, by first | assumption | exact bXor_bd _ _, (by rw [hrv373_17, bw_xor, hv11, lP_13]; rfl)⟩, ⟨_, rfl, by first | assumption | exact bXor_bd _ _, (by rw [hrv373_18, bw_xor, hv7, lP_14]; rfl)⟩, trivial⟩ ?_
  intro x7 hx7 hv7 x8 hx8 hv8 x9 hx9 hv9 x10 hx10 hv10 x11 hx11 hv11 x12 hx12 hv12 x13 hx13 hv13 x14 hx14 hv14 x15 hx15 hv15 x16 hx16 hv16 x17 hx17 hv17 x18 hx18 hv18 x19 hx19 hv19 x20 hx20 hv20 x21 hx21 hv21 x22 hx22 hv22 x23 hx23 hv23 x24 hx24 hv24 x25 hx25 hv25 x26 hx26 hv26 ρ hFr
  refine W_env _ hFr ?_
  clear hFr
  refine W_region rfl ?_
  refine WO_p (PS_move_ptr rfl) ?_
  refine WO_p (PS_nilCheck rfl) ?_
  refine WO_p (PS_indexA Hvac.runUnderlying281 Hvac.sizeOf26 rfl rfl (by omega) (by omega)) ?_
  refine WO_load (.int _ _) Hvac.isAgg26 rfl (Hb.h (by repeat (first | assumption | exact Hb.newY _ _ | refine Hb.alloc ?_ | refine Hb.drew ?_ | refine Hb.ext (by assumption) ?_ | exact Hb.setSameL (by first | omega | (simp only [size_alloc, size_setB, size_drew]; omega)) | exact Hb.setSame (by assumption) | refine Hb.set (by first | omega | (simp only [size_alloc, size_setB, size_drew]; omega)) ?_ ))) (Ce.h (by first | assumption | exact ⟨rfl⟩)) ?_
  refine WO_p (PS_move_int rfl) ?_
  refine WO_p (PS_xor_u64 rfl rfl) ?_
  refine WO_call Hvac.call373 (by rfl) (Ret.mono (rot_ex _ _ _ (by decide) (by first | assumption | exact bXor_bd _ _)) ?_)
  rintro _ w373_19 ⟨hE373_19, r373_19, rfl, hr373_19, hrv373_19⟩
  have hz373_19 := hE373_19.1
  try simp only [size_alloc, size_setB, size_drew] at hz373_19
  refine WO_p (PS_assign_int rfl) ?_
  refine WO_nil ?_
  refine thn_normal ?_
  refine W_seq ?_
  refine W_region rfl ?_
  refine WO_p (PS_move_ptr rfl) ?_
  refine WO_p (PS_nilCheck rfl) ?_
  refine WO_p (PS_indexA Hvac.runUnderlying281 Hvac.sizeOf26 rfl rfl (by omega) (by omega)) ?_
  refine WO_load (.int _ _) Hvac.isAgg26 rfl (Hb.h (by repeat (first | assumption | exact Hb.newY _ _ | refine Hb.alloc ?_ | refine Hb.drew ?_ | refine Hb.ext (by assumption) ?_ | exact Hb.setSameL (by first | omega | (simp only [size_alloc, size_setB, size_drew]; omega)) | exact Hb.setSame (by assumption) | refine Hb.set (by first | omega | (simp only [size_alloc, size_setB, size_drew]; omega)) ?_ ))) (Ce.h (by first | assumption | exact ⟨rfl⟩)) ?_
  refine WO_p (PS_move_int rfl) ?_
  refine WO_p (PS_xor_u64 rfl rfl) ?_
  refine WO_call Hvac.call373 (by rfl) (Ret.mono (rot_ex _ _ _ (by decide) (by first | assumption | exact bXor_bd _ _)) ?_)
  rintro _ w373_20 ⟨hE373_20, r373_20, rfl, hr373_20, hrv373_20⟩
  have hz373_20 := hE373_20.1
  try simp only [size_alloc, size_setB, size_drew] at hz373_20
  refine WO_p (PS_assign_int rfl) ?_
  refine WO_nil ?_
  refine thn_normal ?_
  refine W_seq ?_
  refine W_region rfl ?_
  refine WO_p (PS_move_ptr rfl) ?_
  refine WO_p (PS_nilCheck rfl) ?_
  refine WO_p (PS_indexA Hvac.runUnderlying281 Hvac.sizeOf26 rfl rfl (by omega) (by omega)) ?_
  refine WO_load (.int _ _) Hvac.isAgg26 rfl (Hb.h (by repeat (first | assumption | exact Hb.newY _ _ | refine Hb.alloc ?_ | refine Hb.drew ?_ | refine Hb.ext (by assumption) ?_ | exact Hb.setSameL (by first | omega | (simp only [size_alloc, size_setB, size_drew]; omega)) | exact Hb.setSame (by assumption) | refine Hb.set (by first | omega | (simp only [size_alloc, size_setB, size_drew]; omega)) ?_ ))) (Ce.h (by first | assumption | exact ⟨rfl⟩)) ?_
  refine WO_p (PS_move_int rfl) ?_
  refine WO_p (PS_xor_u64 rfl rfl) ?_
  refine WO_call Hvac.call373 (by rfl) (Ret.mono (rot_ex _ _ _ (by decide) (by first | assumption | exact bXor_bd _ _)) ?_)
  rintro _ w373_21 ⟨hE373_21, r373_21, rfl, hr373_21, hrv373_21⟩
  have hz373_21 := hE373_21.1
  try simp only [size_alloc, size_setB, size_drew] at hz373_21
  refine WO_p (PS_assign_int rfl) ?_
  refine WO_nil ?_
  refine thn_normal ?_
  refine W_seq ?_
  refine W_region rfl ?_
  refine WO_p (PS_move_ptr rfl) ?_
  refine WO_p (PS_nilCheck rfl) ?_
  refine WO_p (PS_indexA Hvac.runUnderlying281 Hvac.sizeOf26 rfl rfl (by omega) (by omega)) ?_
  refine WO_load (.int _ _) Hvac.isAgg26 rfl (Hb.h (by repeat (first | assumption | exact Hb.newY _ _ | refine Hb.alloc ?_ | refine Hb.drew ?_ | refine Hb.ext (by assumption) ?_ | exact Hb.setSameL (by first | omega | (simp only [size_alloc, size_setB, size_drew]; omega)) | exact Hb.setSame (by assumption) | refine Hb.set (by first | omega | (simp only [size_alloc, size_setB, size_drew]; omega)) ?_ ))) (Ce.h (by first | assumption | exact ⟨rfl⟩)) ?_
  refine WO_p (PS_move_int rfl) ?_
  refine WO_p (PS_xor_u64 rfl rfl) ?_
  refine WO_call Hvac.call373 (by rfl) (Ret.mono (rot_ex _ _ _ (by decide) (by first | assumption | exact bXor_bd _ _)) ?_)
  rintro _ w373_22 ⟨hE373_22, r373_22, rfl, hr373_22, hrv373_22⟩
  have hz373_22 := hE373_22.1
  try simp only [size_alloc, size_setB, size_drew] at hz373_22
  refine WO_p (PS_assign_int rfl) ?_
  refine WO_nil ?_
  refine thn_normal ?_
  refine W_seq ?_
  refine W_region rfl ?_
  refine WO_p (PS_move_ptr rfl) ?_
  refine WO_p (PS_nilCheck rfl) ?_
  refine WO_p (PS_indexA Hvac.runUnderlying281 Hvac.sizeOf26 rfl rfl (by omega) (by omega)) ?_
  refine WO_load (.int _ _) Hvac.isAgg26 rfl (Hb.h (by repeat (first | assumption | exact Hb.newY _ _ | refine Hb.alloc ?_ | refine Hb.drew ?_ | refine Hb.ext (by assumption) ?_ | exact Hb.setSameL (by first | omega | (simp only [size_alloc, size_setB, size_drew]; omega)) | exact Hb.setSame (by assumption) | refine Hb.set (by first | omega | (simp only [size_alloc, size_setB, size_drew]; omega)) ?_ ))) (Ce.h (by first | assumption | exact ⟨rfl⟩)) ?_
  refine WO_p (PS_move_int rfl) ?_
  refine WO_p (PS_xor_u64 rfl rfl) ?_
  refine WO_call Hvac.call373 (by rfl) (Ret.mono (rot_ex _ _ _ (by decide) (by first | assumption | exact bXor_bd _ _)) ?_)
  rintro _ w373_23 ⟨hE373_23, r373_23, rfl, hr373_23, hrv373_23⟩
  have hz373_23 := hE373_23.1
  try simp only [size_alloc, size_setB, size_drew] at hz373_23
  refine WO_p (PS_assign_int rfl) ?_
  refine WO_nil ?_
  refine thn_normal ?_
  refine W_seq ?_
  refine W_cutV [(7, lD (lan L) 0), (8, lD (lan L) 1), (9, lD (lan L) 2), (10, lD (lan L) 3), (11, lD (lan L) 4), (12, lP (lan L) 0 0), (13, lP (lan L) 1 0), (14, lP (lan L) 2 0), (15, lP (lan L) 3 0), (16, lP (lan L) 4 0), (17, lP (lan L) 0 1), (18, lP (lan L) 1 1), (19, lP (lan L) 2 1), (20, lP (lan L) 3 1), (21, lP (lan L) 4 1), (22, lP (lan L) 0 2), (23, lP (lan L) 1 2), (24, lP (lan L) 2 2), (25, lP (lan L) 3 2), (26, lP (lan L) 4 2), (27, lP (lan L) 0 3), (28, lP (lan L) 1 3), (29, lP (lan L) 2 3), (30, lP (lan L) 3 3), (31, lP (lan L) 4 3)] [(0, .pointer (some ⟨b, 0, none⟩))] ⟨rfl, trivial⟩ ⟨⟨_, rfl, by first | assumption | exact bXor_bd _ _, hv7⟩, ⟨_, rfl, by first | assumption | exact bXor_bd _ _, hv8⟩, ⟨_, rfl, by first | assumption | exact bXor_bd _ _, hv9⟩, ⟨_, rfl, by first | assumption | exact bXor_bd _ _, hv10⟩, ⟨_, rfl, by first | assumption | exact bXor_bd _ _, hv11⟩, ⟨_, rfl, by first | assumption | exact bXor_bd _ _, hv12⟩, ⟨_, rfl, by first | assumption | exact bXor_bd _ _, hv13⟩, ⟨_, rfl, by first | assumption | exact bXor_bd _ _, hv14⟩, ⟨_, rfl, by first | assumption | exact bXor_bd _ _, hv15⟩, ⟨_, rfl, by first | assumption | exact bXor_bd _ _, hv16⟩, ⟨_, rfl, by first | assumption | exact bXor_bd _ _, hv17⟩, ⟨_, rfl, by first | assumption | exact bXor_bd _ _, hv18⟩, ⟨_, rfl, by first | assumption | exact bXor_bd _ _, hv19⟩, ⟨_, rfl, by first | assumption | exact bXor_bd _ _, hv20⟩, ⟨_, rfl, by first | assumption | exact bXor_bd _ _, hv21⟩, ⟨_, rfl, by first | assumption | exact bXor_bd _ _, hv22⟩, ⟨_, rfl, by first | assumption | exact bXor_bd _ _, hv23⟩, ⟨_, rfl, by first | assumption | exact bXor_bd _ _, hv24⟩, ⟨_, rfl, by first | assumption | exact bXor_bd _ _, hv25⟩, ⟨_, rfl, by first | assumption | exact bXor_bd _ _, hv26⟩, ⟨_, rfl, by first | assumption | exact bXor_bd _ _, (by rw [hrv373_19, bw_xor, hv11, lP_15]; rfl)⟩, ⟨_, rfl, by first | assumption | exact bXor_bd _ _, (by rw [hrv373_20, bw_xor, hv7, lP_16]; rfl)⟩, ⟨_, rfl, by first | assumption | exact bXor_bd _ _, (by rw [hrv373_21, bw_xor, hv8, lP_17]; rfl)⟩, ⟨_, rfl, by first | assumption | exact bXor_bd _ _, (by rw [hrv373_22, bw_xor, hv9, lP_18]; rfl)⟩, ⟨_, rfl, by first | assumption | exact bXor_bd _ _, (by rw [hrv373_23, bw_xor, hv10, lP_19]; rfl)⟩, trivial⟩ ?_
  intro x7 hx7 hv7 x8 hx8 hv8 x9 hx9 hv9 x10 hx10 hv10 x11 hx11 hv11 x12 hx12 hv12 x13 hx13 hv13 x14 hx14 hv14 x15 hx15 hv15 x16 hx16 hv16 x17 hx17 hv17 x18 hx18 hv18 x19 hx19 hv19 x20 hx20 hv20 x21 hx21 hv21 x22 hx22 hv22 x23 hx23 hv23 x24 hx24 hv24 x25 hx25 hv25 x26 hx26 hv26 x27 hx27 hv27 x28 hx28 hv28 x29 hx29 hv29 x30 hx30 hv30 x31 hx31 hv31 ρ hFr
  refine W_env _ hFr ?_
  clear hFr
  refine W_region rfl ?_
  refine WO_p (PS_move_ptr rfl) ?_
  refine WO_p (PS_nilCheck rfl) ?_
  refine WO_p (PS_indexA Hvac.runUnderlying281 Hvac.sizeOf26 rfl rfl (by omega) (by omega)) ?_
  refine WO_load (.int _ _) Hvac.isAgg26 rfl (Hb.h (by repeat (first | assumption | exact Hb.newY _ _ | refine Hb.alloc ?_ | refine Hb.drew ?_ | refine Hb.ext (by assumption) ?_ | exact Hb.setSameL (by first | omega | (simp only [size_alloc, size_setB, size_drew]; omega)) | exact Hb.setSame (by assumption) | refine Hb.set (by first | omega | (simp only [size_alloc, size_setB, size_drew]; omega)) ?_ ))) (Ce.h (by first | assumption | exact ⟨rfl⟩)) ?_
  refine WO_p (PS_move_int rfl) ?_
  refine WO_p (PS_xor_u64 rfl rfl) ?_
  refine WO_call Hvac.call373 (by rfl) (Ret.mono (rot_ex _ _ _ (by decide) (by first | assumption | exact bXor_bd _ _)) ?_)
  rintro _ w373_24 ⟨hE373_24, r373_24, rfl, hr373_24, hrv373_24⟩
  have hz373_24 := hE373_24.1
  try simp only [size_alloc, size_setB, size_drew] at hz373_24
  refine WO_p (PS_assign_int rfl) ?_
  refine WO_nil ?_
  refine thn_normal ?_
  refine W_seq ?_
  refine W_region rfl ?_
  refine WO_p (PS_move_ptr rfl) ?_
  refine WO_p (PS_nilCheck rfl) ?_
  refine WO_p (PS_indexA Hvac.runUnderlying281 Hvac.sizeOf26 rfl rfl (by omega) (by omega)) ?_
  refine WO_load (.int _ _) Hvac.isAgg26 rfl (Hb.h (by repeat (first | assumption | exact Hb.newY _ _ | refine Hb.alloc ?_ | refine Hb.drew ?_ | refine Hb.ext (by assumption) ?_ | exact Hb.setSameL (by first | omega | (simp only [size_alloc, size_setB, size_drew]; omega)) | exact Hb.setSame (by assumption) | refine Hb.set (by first | omega | (simp only [size_alloc, size_setB, size_drew]; omega)) ?_ ))) (Ce.h (by first | assumption | exact ⟨rfl⟩)) ?_
  refine WO_p (PS_move_int rfl) ?_
  refine WO_p (PS_xor_u64 rfl rfl) ?_
  refine WO_call Hvac.call373 (by rfl) (Ret.mono (rot_ex _ _ _ (by decide) (by first | assumption | exact bXor_bd _ _)) ?_)
  rintro _ w373_25 ⟨hE373_25, r373_25, rfl, hr373_25, hrv373_25⟩
  have hz373_25 := hE373_25.1
  try simp only [size_alloc, size_setB, size_drew] at hz373_25
  refine WO_p (PS_assign_int rfl) ?_
  refine WO_nil ?_
  refine thn_normal ?_
  refine W_seq ?_
  refine W_region rfl ?_
  refine WO_p (PS_move_ptr rfl) ?_
  refine WO_p (PS_nilCheck rfl) ?_
  refine WO_p (PS_indexA Hvac.runUnderlying281 Hvac.sizeOf26 rfl rfl (by omega) (by omega)) ?_
  refine WO_load (.int _ _) Hvac.isAgg26 rfl (Hb.h (by repeat (first | assumption | exact Hb.newY _ _ | refine Hb.alloc ?_ | refine Hb.drew ?_ | refine Hb.ext (by assumption) ?_ | exact Hb.setSameL (by first | omega | (simp only [size_alloc, size_setB, size_drew]; omega)) | exact Hb.setSame (by assumption) | refine Hb.set (by first | omega | (simp only [size_alloc, size_setB, size_drew]; omega)) ?_ ))) (Ce.h (by first | assumption | exact ⟨rfl⟩)) ?_
  refine WO_p (PS_move_int rfl) ?_
  refine WO_p (PS_xor_u64 rfl rfl) ?_
  refine WO_call Hvac.call373 (by rfl) (Ret.mono (rot_ex _ _ _ (by decide) (by first | assumption | exact bXor_bd _ _)) ?_)
  rintro _ w373_26 ⟨hE373_26, r373_26, rfl, hr373_26, hrv373_26⟩
  have hz373_26 := hE373_26.1
  try simp only [size_alloc, size_setB, size_drew] at hz373_26
  refine WO_p (PS_assign_int rfl) ?_
  refine WO_nil ?_
  refine thn_normal ?_
  refine W_seq ?_
  refine W_region rfl ?_
  refine WO_p (PS_move_ptr rfl) ?_
  refine WO_p (PS_nilCheck rfl) ?_
  refine WO_p (PS_indexA Hvac.runUnderlying281 Hvac.sizeOf26 rfl rfl (by omega) (by omega)) ?_
  refine WO_load (.int _ _) Hvac.isAgg26 rfl (Hb.h (by repeat (first | assumption | exact Hb.newY _ _ | refine Hb.alloc ?_ | refine Hb.drew ?_ | refine Hb.ext (by assumption) ?_ | exact Hb.setSameL (by first | omega | (simp only [size_alloc, size_setB, size_drew]; omega)) | exact Hb.setSame (by assumption) | refine Hb.set (by first | omega | (simp only [size_alloc, size_setB, size_drew]; omega)) ?_ ))) (Ce.h (by first | assumption | exact ⟨rfl⟩)) ?_
  refine WO_p (PS_move_int rfl) ?_
  refine WO_p (PS_xor_u64 rfl rfl) ?_
  refine WO_call Hvac.call373 (by rfl) (Ret.mono (rot_ex _ _ _ (by decide) (by first | assumption | exact bXor_bd _ _)) ?_)
  rintro _ w373_27 ⟨hE373_27, r373_27, rfl, hr373_27, hrv373_27⟩
  have hz373_27 := hE373_27.1
  try simp only [size_alloc, size_setB, size_drew] at hz373_27
  refine WO_p (PS_assign_int rfl) ?_
  refine WO_nil ?_
  refine thn_normal ?_
  refine W_seq ?_
  refine W_region rfl ?_
  refine WO_p (PS_move_ptr rfl) ?_
  refine WO_p (PS_nilCheck rfl) ?_
  refine WO_p (PS_indexA Hvac.runUnderlying281 Hvac.sizeOf26 rfl rfl (by omega) (by omega)) ?_
  refine WO_load (.int _ _) Hvac.isAgg26 rfl (Hb.h (by repeat (first | assumption | exact Hb.newY _ _ | refine Hb.alloc ?_ | refine Hb.drew ?_ | refine Hb.ext (by assumption) ?_ | exact Hb.setSameL (by first | omega | (simp only [size_alloc, size_setB, size_drew]; omega)) | exact Hb.setSame (by assumption) | refine Hb.set (by first | omega | (simp only [size_alloc, size_setB, size_drew]; omega)) ?_ ))) (Ce.h (by first | assumption | exact ⟨rfl⟩)) ?_
  refine WO_p (PS_move_int rfl) ?_
  refine WO_p (PS_xor_u64 rfl rfl) ?_
  refine WO_call Hvac.call373 (by rfl) (Ret.mono (rot_ex _ _ _ (by decide) (by first | assumption | exact bXor_bd _ _)) ?_)
  rintro _ w373_28 ⟨hE373_28, r373_28, rfl, hr373_28, hrv373_28⟩
  have hz373_28 := hE373_28.1
  try simp only [size_alloc, size_setB, size_drew] at hz373_28
  refine WO_p (PS_assign_int rfl) ?_
  refine WO_nil ?_
  refine thn_normal ?_
  refine W_seq ?_
  refine W_cutV [(12, lP (lan L) 0 0), (13, lP (lan L) 1 0), (14, lP (lan L) 2 0), (15, lP (lan L) 3 0), (16, lP (lan L) 4 0), (17, lP (lan L) 0 1), (18, lP (lan L) 1 1), (19, lP (lan L) 2 1), (20, lP (lan L) 3 1), (21, lP (lan L) 4 1), (22, lP (lan L) 0 2), (23, lP (lan L) 1 2), (24, lP (lan L) 2 2), (25, lP (lan L) 3 2), (26, lP (lan L) 4 2), (27, lP (lan L) 0 3), (28, lP (lan L) 1 3), (29, lP (lan L) 2 3), (30, lP (lan L) 3 3), (31, lP (lan L) 4 3), (32, lP (lan L) 0 4), (33, lP (lan L) 1 4), (34, lP (lan L) 2 4), (35, lP (lan L) 3 4), (36, lP (lan L) 4 4)] [(0, .pointer (some ⟨b, 0, none⟩))] ⟨rfl, trivial⟩ ⟨⟨_, rfl, by first | assumption | exact bXor_bd _ _, hv12⟩, ⟨_, rfl, by first | assumption | exact bXor_bd _ _, hv13⟩, ⟨_, rfl, by first | assumption | exact bXor_bd _ _, hv14⟩, ⟨_, rfl, by first | assumption | exact bXor_bd _ _, hv15⟩, ⟨_, rfl, by first | assumption | exact bXor_bd _ _, hv16⟩, ⟨_, rfl, by first | assumption | exact bXor_bd _ _, hv17⟩, ⟨_, rfl, by first | assumption | exact bXor_bd _ _, hv18⟩, ⟨_, rfl, by first | assumption | exact bXor_bd _ _, hv19⟩, ⟨_, rfl, by first | assumption | exact bXor_bd _ _, hv20⟩, ⟨_, rfl, by first | assumption | exact bXor_bd _ _, hv21⟩, ⟨_, rfl, by first | assumption | exact bXor_bd _ _, hv22⟩, ⟨_, rfl, by first | assumption | exact bXor_bd _ _, hv23⟩, ⟨_, rfl, by first | assumption | exact bXor_bd _ _, hv24⟩, ⟨_, rfl, by first | assumption | exact bXor_bd _ _, hv25⟩, ⟨_, rfl, by first | assumption | exact bXor_bd _ _, hv26⟩, ⟨_, rfl, by first | assumption | exact bXor_bd _ _, hv27⟩, ⟨_, rfl, by first | assumption | exact bXor_bd _ _, hv28⟩, ⟨_, rfl, by first | assumption | exact bXor_bd _ _, hv29⟩, ⟨_, rfl, by first | assumption | exact bXor_bd _ _, hv30⟩, ⟨_, rfl, by first | assumption | exact bXor_bd _ _, hv31⟩, ⟨_, rfl, by first | assumption | exact bXor_bd _ _, (by rw [hrv373_24, bw_xor, hv9, lP_20]; rfl)⟩, ⟨_, rfl, by first | assumption | exact bXor_bd _ _, (by rw [hrv373_25, bw_xor, hv10, lP_21]; rfl)⟩, ⟨_, rfl, by first | assumption | exact bXor_bd _ _, (by rw [hrv373_26, bw_xor, hv11, lP_22]; rfl)⟩, ⟨_, rfl, by first | assumption | exact bXor_bd _ _, (by rw [hrv373_27, bw_xor, hv7, lP_23]; rfl)⟩, ⟨_, rfl, by first | assumption | exact bXor_bd _ _, (by rw [hrv373_28, bw_xor, hv8, lP_24]; rfl)⟩, trivial⟩ ?_
  intro x12 hx12 hv12 x13 hx13 hv13 x14 hx14 hv14 x15 hx15 hv15 x16 hx16 hv16 x17 hx17 hv17 x18 hx18 hv18 x19 hx19 hv19 x20 hx20 hv20 x21 hx21 hv21 x22 hx22 hv22 x23 hx23 hv23 x24 hx24 hv24 x25 hx25 hv25 x26 hx26 hv26 x27 hx27 hv27 x28 hx28 hv28 x29 hx29 hv29 x30 hx30 hv30 x31 hx31 hv31 x32 hx32 hv32 x33 hx33 hv33 x34 hx34 hv34 x35 hx35 hv35 x36 hx36 hv36 ρ hFr
  refine W_env _ hFr ?_
  clear hFr
  have hR0 : RowK L L 0 := ⟨hl, fun j hj => by omega⟩
  refine W_region rfl ?_
  refine WO_p (PS_move_ptr rfl) ?_
  refine WO_p (PS_move_int rfl) ?_
  refine WO_p (PS_move_int rfl) ?_
  refine WO_p (PS_com_u64 rfl) ?_
  refine WO_p (PS_move_int rfl) ?_
  refine WO_p (PS_and_u64 rfl rfl) ?_
  refine WO_p (PS_xor_u64 rfl rfl) ?_
  refine WO_p (PS_nilCheck rfl) ?_
  refine WO_p (PS_indexA Hvac.runUnderlying281 Hvac.sizeOf26 rfl rfl (by omega) (by omega)) ?_
  refine WO_storeX Hvac.sizeOf26 rfl rfl (Hb.mk (Hb.h (by repeat (first | assumption | exact Hb.newY _ _ | refine Hb.alloc ?_ | refine Hb.drew ?_ | refine Hb.ext (by assumption) ?_ | exact Hb.setSameL (by first | omega | (simp only [size_alloc, size_setB, size_drew]; omega)) | exact Hb.setSame (by assumption) | refine Hb.set (by first | omega | (simp only [size_alloc, size_setB, size_drew]; omega)) ?_ )))) (by rw [hl]; decide) (bXor_bd _ _) ?_
  intro w0 L0 hU0 hLe0
  have hb0 := hU0.hb
  have hl0 := hU0.len.trans hl
  have hR1 := hR0.step (by decide) hLe0 (by rw [bw_xor, bw_and, bw_not, hv12, hv13, hv14, lX_0])
  refine WO_nil ?_
  refine thn_normal ?_
  refine W_seq ?_
  refine W_region rfl ?_
  refine WO_p (PS_move_ptr rfl) ?_
  refine WO_p (PS_move_int rfl) ?_
  refine WO_p (PS_move_int rfl) ?_
  refine WO_p (PS_com_u64 rfl) ?_
  refine WO_p (PS_move_int rfl) ?_
  refine WO_p (PS_and_u64 rfl rfl) ?_
  refine WO_p (PS_xor_u64 rfl rfl) ?_
  refine WO_p (PS_nilCheck rfl) ?_
  refine WO_p (PS_indexA Hvac.runUnderlying281 Hvac.sizeOf26 rfl rfl (by omega) (by omega)) ?_
  refine WO_storeX Hvac.sizeOf26 rfl rfl hb0 (by rw [hl0]; decide) (bXor_bd _ _) ?_
  intro w1 L1 hU1 hLe1
  have hb1 := hU1.hb
  have hl1 := hU1.len.trans hl0
  have hR2 := hR1.step (by decide) hLe1 (by rw [bw_xor, bw_and, bw_not, hv13, hv14, hv15, lX_1])
  refine WO_nil ?_
  refine thn_normal ?_
  refine W_seq ?_
  refine W_region rfl ?_
  refine WO_p (PS_move_ptr rfl) ?_
  refine WO_p (PS_move_int rfl) ?_
  refine WO_p (PS_move_int rfl) ?_
  refine WO_p (PS_com_u64 rfl) ?_
  refine WO_p (PS_move_int rfl) ?_
  refine WO_p (PS_and_u64 rfl rfl) ?_
  refine WO_p (PS_xor_u64 rfl rfl) ?_
  refine WO_p (PS_nilCheck rfl) ?_
  refine WO_p (PS_indexA Hvac.runUnderlying281 Hvac.sizeOf26 rfl rfl (by omega) (by omega)) ?_
  refine WO_storeX Hvac.sizeOf26 rfl rfl hb1 (by rw [hl1]; decide) (bXor_bd _ _) ?_
  intro w2 L2 hU2 hLe2
  have hb2 := hU2.hb
  have hl2 := hU2.len.trans hl1
  have hR3 := hR2.step (by decide) hLe2 (by rw [bw_xor, bw_and, bw_not, hv14, hv15, hv16, lX_2])
  refine WO_nil ?_
  refine thn_normal ?_
  refine W_seq ?_
  refine W_region rfl ?_
  refine WO_p (PS_move_ptr rfl) ?_
  refine WO_p (PS_move_int rfl) ?_
  refine WO_p (PS_move_int rfl) ?_
  refine WO_p (PS_com_u64 rfl) ?_
  refine WO_p (PS_move_int rfl) ?_
  refine WO_p (PS_and_u64 rfl rfl) ?_
  refine WO_p (PS_xor_u64 rfl rfl) ?_
  refine WO_p (PS_nilCheck rfl) ?_
  refine WO_p (PS_indexA Hvac.runUnderlying281 Hvac.sizeOf26 rfl rfl (by omega) (by omega)) ?_
  refine WO_storeX Hvac.sizeOf26 rfl rfl hb2 (by rw [hl2]; decide) (bXor_bd _ _) ?_
  intro w3 L3 hU3 hLe3
  have hb3 := hU3.hb
  have hl3 := hU3.len.trans hl2
  have hR4 := hR3.step (by decide) hLe3 (by rw [bw_xor, bw_and, bw_not, hv15, hv16, hv12, lX_3])
  refine WO_nil ?_
  refine thn_normal ?_
  refine W_seq ?_
  refine W_region rfl ?_
  refine WO_p (PS_move_ptr rfl) ?_
  refine WO_p (PS_move_int rfl) ?_
  refine WO_p (PS_move_int rfl) ?_
  refine WO_p (PS_com_u64 rfl) ?_
  refine WO_p (PS_move_int rfl) ?_
  refine WO_p (PS_and_u64 rfl rfl) ?_
  refine WO_p (PS_xor_u64 rfl rfl) ?_
  refine WO_p (PS_nilCheck rfl) ?_
  refine WO_p (PS_indexA Hvac.runUnderlying281 Hvac.sizeOf26 rfl rfl (by omega) (by omega)) ?_
  refine WO_storeX Hvac.sizeOf26 rfl rfl hb3 (by rw [hl3]; decide) (bXor_bd _ _) ?_
  intro w4 L4 hU4 hLe4
  have hb4 := hU4.hb
  have hl4 := hU4.len.trans hl3
  have hR5 := hR4.step (by decide) hLe4 (by rw [bw_xor, bw_and, bw_not, hv16, hv12, hv13, lX_4])
  refine WO_nil ?_
  refine thn_normal ?_
  refine W_seq ?_
  refine W_cutV [(12, lP (lan L) 0 0), (13, lP (lan L) 1 0), (14, lP (lan L) 2 0), (15, lP (lan L) 3 0), (16, lP (lan L) 4 0), (17, lP (lan L) 0 1), (18, lP (lan L) 1 1), (19, lP (lan L) 2 1), (20, lP (lan L) 3 1), (21, lP (lan L) 4 1), (22, lP (lan L) 0 2), (23, lP (lan L) 1 2), (24, lP (lan L) 2 2), (25, lP (lan L) 3 2), (26, lP (lan L) 4 2), (27, lP (lan L) 0 3), (28, lP (lan L) 1 3), (29, lP (lan L) 2 3), (30, lP (lan L) 3 3), (31, lP (lan L) 4 3), (32, lP (lan L) 0 4), (33, lP (lan L) 1 4), (34, lP (lan L) 2 4), (35, lP (lan L) 3 4), (36, lP (lan L) 4 4)] [(0, .pointer (some ⟨b, 0, none⟩))] ⟨rfl, trivial⟩ ⟨⟨_, rfl, by first | assumption | exact bXor_bd _ _, hv12⟩, ⟨_, rfl, by first | assumption | exact bXor_bd _ _, hv13⟩, ⟨_, rfl, by first | assumption | exact bXor_bd _ _, hv14⟩, ⟨_, rfl, by first | assumption | exact bXor_bd _ _, hv15⟩, ⟨_, rfl, by first | assumption | exact bXor_bd _ _, hv16⟩, ⟨_, rfl, by first | assumption | exact bXor_bd _ _, hv17⟩, ⟨_, rfl, by first | assumption | exact bXor_bd _ _, hv18⟩, ⟨_, rfl, by first | assumption | exact bXor_bd _ _, hv19⟩, ⟨_, rfl, by first | assumption | exact bXor_bd _ _, hv20⟩, ⟨_, rfl, by first | assumption | exact bXor_bd _ _, hv21⟩, ⟨_, rfl, by first | assumption | exact bXor_bd _ _, hv22⟩, ⟨_, rfl, by first | assumption | exact bXor_bd _ _, hv23⟩, ⟨_, rfl, by first | assumption | exact bXor_bd _ _, hv24⟩, ⟨_, rfl, by first | assumption | exact bXor_bd _ _, hv25⟩, ⟨_, rfl, by first | assumption | exact bXor_bd _ _, hv26⟩, ⟨_, rfl, by first | assumption | exact bXor_bd _ _, hv27⟩, ⟨_, rfl, by first | assumption | exact bXor_bd _ _, hv28⟩, ⟨_, rfl, by first | assumption | exact bXor_bd _ _, hv29⟩, ⟨_, rfl, by first | assumption | exact bXor_bd _ _, hv30⟩, ⟨_, rfl, by first | assumption | exact bXor_bd _ _, hv31⟩, ⟨_, rfl, by first | assumption | exact bXor_bd _ _, hv32⟩, ⟨_, rfl, by first | assumption | exact bXor_bd _ _, hv33⟩, ⟨_, rfl, by first | assumption | exact bXor_bd _ _, hv34⟩, ⟨_, rfl, by first | assumption | exact bXor_bd _ _, hv35⟩, ⟨_, rfl, by first | assumption | exact bXor_bd _ _, hv36⟩, trivial⟩ ?_
  intro x12 hx12 hv12 x13 hx13 hv13 x14 hx14 hv14 x15 hx15 hv15 x16 hx16 hv16 x17 hx17 hv17 x18 hx18 hv18 x19 hx19 hv19 x20 hx20 hv20 x21 hx21 hv21 x22 hx22 hv22 x23 hx23 hv23 x24 hx24 hv24 x25 hx25 hv25 x26 hx26 hv26 x27 hx27 hv27 x28 hx28 hv28 x29 hx29 hv29 x30 hx30 hv30 x31 hx31 hv31 x32 hx32 hv32 x33 hx33 hv33 x34 hx34 hv34 x35 hx35 hv35 x36 hx36 hv36 ρ hFr
  refine W_env _ hFr ?_
  clear hFr
  refine W_region rfl ?_
  refine WO_p (PS_move_ptr rfl) ?_
  refine WO_p (PS_move_int rfl) ?_
  refine WO_p (PS_move_int rfl) ?_
  refine WO_p (PS_com_u64 rfl) ?_
  refine WO_p (PS_move_int rfl) ?_
  refine WO_p (PS_and_u64 rfl rfl) ?_
  refine WO_p (PS_xor_u64 rfl rfl) ?_
  refine WO_p (PS_nilCheck rfl) ?_
  refine WO_p (PS_indexA Hvac.runUnderlying281 Hvac.sizeOf26 rfl rfl (by omega) (by omega)) ?_
  refine WO_storeX Hvac.sizeOf26 rfl rfl hb4 (by rw [hl4]; decide) (bXor_bd _ _) ?_
  intro w5 L5 hU5 hLe5
  have hb5 := hU5.hb
  have hl5 := hU5.len.trans hl4
  have hR6 := hR5.step (by decide) hLe5 (by rw [bw_xor, bw_and, bw_not, hv17, hv18, hv19, lX_5])
  refine WO_nil ?_
  refine thn_normal ?_
  refine W_seq ?_
  refine W_region rfl ?_
  refine WO_p (PS_move_ptr rfl) ?_
  refine WO_p (PS_move_int rfl) ?_
  refine WO_p (PS_move_int rfl) ?_
  refine WO_p (PS_com_u64 rfl) ?_
  refine WO_p (PS_move_int rfl) ?_
  refine WO_p (PS_and_u64 rfl rfl) ?_
  refine WO_p (PS_xor_u64 rfl rfl) ?_
  refine WO_p (PS_nilCheck rfl) ?_
  refine WO_p (PS_indexA Hvac.runUnderlying281 Hvac.sizeOf26 rfl rfl (by omega) (by omega)) ?_
  refine WO_storeX Hvac.sizeOf26 rfl rfl hb5 (by rw [hl5]; decide) (bXor_bd _ _) ?_
  intro w6 L6 hU6 hLe6
  have hb6 := hU6.hb
  have hl6 := hU6.len.trans hl5
  have hR7 := hR6.step (by decide) hLe6 (by rw [bw_xor, bw_and, bw_not, hv18, hv19, hv20, lX_6])
  refine WO_nil ?_
  refine thn_normal ?_
  refine W_seq ?_
  refine W_region rfl ?_
  refine WO_p (PS_move_ptr rfl) ?_
  refine WO_p (PS_move_int rfl) ?_
  refine WO_p (PS_move_int rfl) ?_
  refine WO_p (PS_com_u64 rfl) ?_
  refine WO_p (PS_move_int rfl) ?_
  refine WO_p (PS_and_u64 rfl rfl) ?_
  refine WO_p (PS_xor_u64 rfl rfl) ?_
  refine WO_p (PS_nilCheck rfl) ?_
  refine WO_p (PS_indexA Hvac.runUnderlying281 Hvac.sizeOf26 rfl rfl (by omega) (by omega)) ?_
  refine WO_storeX Hvac.sizeOf26 rfl rfl hb6 (by rw [hl6]; decide) (bXor_bd _ _) ?_
  intro w7 L7 hU7 hLe7
  have hb7 := hU7.hb
  have hl7 := hU7.len.trans hl6
  have hR8 := hR7.step (by decide) hLe7 (by rw [bw_xor, bw_and, bw_not, hv19, hv20, hv21, lX_7])
  refine WO_nil ?_
  refine thn_normal ?_
  refine W_seq ?_
  refine W_region rfl ?_
  refine WO_p (PS_move_ptr rfl) ?_
  refine WO_p (PS_move_int rfl) ?_
  refine WO_p (PS_move_int rfl) ?_
  refine WO_p (PS_com_u64 rfl) ?_
  refine WO_p (PS_move_int rfl) ?_
  refine WO_p (PS_and_u64 rfl rfl) ?_
  refine WO_p (PS_xor_u64 rfl rfl) ?_
  refine WO_p (PS_nilCheck rfl) ?_
  refine WO_p (PS_indexA Hvac.runUnderlying281 Hvac.sizeOf26 rfl rfl (by omega) (by omega)) ?_
  refine WO_storeX Hvac.sizeOf26 rfl rfl hb7 (by rw [hl7]; decide) (bXor_bd _ _) ?_
  intro w8 L8 hU8 hLe8
  have hb8 := hU8.hb
  have hl8 := hU8.len.trans hl7
  have hR9 := hR8.step (by decide) hLe8 (by rw [bw_xor, bw_and, bw_not, hv20, hv21, hv17, lX_8])
  refine WO_nil ?_
  refine thn_normal ?_
  refine W_seq ?_
  refine W_region rfl ?_
  refine WO_p (PS_move_ptr rfl) ?_
  refine WO_p (PS_move_int rfl) ?_
  refine WO_p (PS_move_int rfl) ?_
  refine WO_p (PS_com_u64 rfl) ?_
  refine WO_p (PS_move_int rfl) ?_
  refine WO_p (PS_and_u64 rfl rfl) ?_
  refine WO_p (PS_xor_u64 rfl rfl) ?_
  refine WO_p (PS_nilCheck rfl) ?_
  refine WO_p (PS_indexA Hvac.runUnderlying281 Hvac.sizeOf26 rfl rfl (by omega) (by omega)) ?_
  refine WO_storeX Hvac.sizeOf26 rfl rfl hb8 (by rw [hl8]; decide) (bXor_bd _ _) ?_
  intro w9 L9 hU9 hLe9
  have hb9 := hU9.hb
  have hl9 := hU9.len.trans hl8
  have hR10 := hR9.step (by decide) hLe9 (by rw [bw_xor, bw_and, bw_not, hv21, hv17, hv18, lX_9])
  refine WO_nil ?_
  refine thn_normal ?_
  refine W_seq ?_
  refine W_cutV [(12, lP (lan L) 0 0), (13, lP (lan L) 1 0), (14, lP (lan L) 2 0), (15, lP (lan L) 3 0), (16, lP (lan L) 4 0), (17, lP (lan L) 0 1), (18, lP (lan L) 1 1), (19, lP (lan L) 2 1), (20, lP (lan L) 3 1), (21, lP (lan L) 4 1), (22, lP (lan L) 0 2), (23, lP (lan L) 1 2), (24, lP (lan L) 2 2), (25, lP (lan L) 3 2), (26, lP (lan L) 4 2), (27, lP (lan L) 0 3), (28, lP (lan L) 1 3), (29, lP (lan L) 2 3), (30, lP (lan L) 3 3), (31, lP (lan L) 4 3), (32, lP (lan L) 0 4), (33, lP (lan L) 1 4), (34, lP (lan L) 2 4), (35, lP (lan L) 3 4), (36, lP (lan L) 4 4)] [(0, .pointer (some ⟨b, 0, none⟩))] ⟨rfl, trivial⟩ ⟨⟨_, rfl, by first | assumption | exact bXor_bd _ _, hv12⟩, ⟨_, rfl, by first | assumption | exact bXor_bd _ _, hv13⟩, ⟨_, rfl, by first | assumption | exact bXor_bd _ _, hv14⟩, ⟨_, rfl, by first | assumption | exact bXor_bd _ _, hv15⟩, ⟨_, rfl, by first | assumption | exact bXor_bd _ _, hv16⟩, ⟨_, rfl, by first | assumption | exact bXor_bd _ _, hv17⟩, ⟨_, rfl, by first | assumption | exact bXor_bd _ _, hv18⟩, ⟨_, rfl, by first | assumption | exact bXor_bd _ _, hv19⟩, ⟨_, rfl, by first | assumption | exact bXor_bd _ _, hv20⟩, ⟨_, rfl, by first | assumption | exact bXor_bd _ _, hv21⟩, ⟨_, rfl, by first | assumption | exact bXor_bd _ _, hv22⟩, ⟨_, rfl, by first | assumption | exact bXor_bd _ _, hv23⟩, ⟨_, rfl, by first | assumption | exact bXor_bd _ _, hv24⟩, ⟨_, rfl, by first | assumption | exact bXor_bd _ _, hv25⟩, ⟨_, rfl, by first | assumption | exact bXor_bd _ _, hv26⟩, ⟨_, rfl, by first | assumption | exact bXor_bd _ _, hv27⟩, ⟨_, rfl, by first | assumption | exact bXor_bd _ _, hv28⟩, ⟨_, rfl, by first | assumption | exact bXor_bd _ _, hv29⟩, ⟨_, rfl, by first | assumption | exact bXor_bd _ _, hv30⟩, ⟨_, rfl, by first | assumption | exact bXor_bd _ _, hv31⟩, ⟨_, rfl, by first | assumption | exact bXor_bd _ _, hv32⟩, ⟨_, rfl, by first | assumption | exact bXor_bd _ _, hv33⟩, ⟨_, rfl, by first | assumption | exact bXor_bd _ _, hv34⟩, ⟨_, rfl, by first | assumption | exact bXor_bd _ _, hv35⟩, ⟨_, rfl, by first | assumption | exact bXor_bd _ _, hv36⟩, trivial⟩ ?_
  intro x12 hx12 hv12 x13 hx13 hv13 x14 hx14 hv14 x15 hx15 hv15 x16 hx16 hv16 x17 hx17 hv17 x18 hx18 hv18 x19 hx19 hv19 x20 hx20 hv20 x21 hx21 hv21 x22 hx22 hv22 x23 hx23 hv23 x24 hx24 hv24 x25 hx25 hv25 x26 hx26 hv26 x27 hx27 hv27 x28 hx28 hv28 x29 hx29 hv29 x30 hx30 hv30 x31 hx31 hv31 x32 hx32 hv32 x33 hx33 hv33 x34 hx34 hv34 x35 hx35 hv35 x36 hx36 hv36 ρ hFr
  refine W_env _ hFr ?_
  clear hFr
  refine W_region rfl ?_
  refine WO_p (PS_move_ptr rfl) ?_
  refine WO_p (PS_move_int rfl) ?_
  refine WO_p (PS_move_int rfl) ?_
  refine WO_p (PS_com_u64 rfl) ?_
  refine WO_p (PS_move_int rfl) ?_
  refine WO_p (PS_and_u64 rfl rfl) ?_
  refine WO_p (PS_xor_u64 rfl rfl) ?_
  refine WO_p (PS_nilCheck rfl) ?_
  refine WO_p (PS_indexA Hvac.runUnderlying281 Hvac.sizeOf26 rfl rfl (by omega) (by omega)) ?_
  refine WO_storeX Hvac.sizeOf26 rfl rfl hb9 (by rw [hl9]; decide) (bXor_bd _ _) ?_
  intro w10 L10 hU10 hLe10
  have hb10 := hU10.hb
  have hl10 := hU10.len.trans hl9
  have hR11 := hR10.step (by decide) hLe10 (by rw [bw_xor, bw_and, bw_not, hv22, hv23, hv24, lX_10])
  refine WO_nil ?_
  refine thn_normal ?_
  refine W_seq ?_
  refine W_region rfl ?_
  refine WO_p (PS_move_ptr rfl) ?_
  refine WO_p (PS_move_int rfl) ?_
  refine WO_p (PS_move_int rfl) ?_
  refine WO_p (PS_com_u64 rfl) ?_
  refine WO_p (PS_move_int rfl) ?_
  refine WO_p (PS_and_u64 rfl rfl) ?_
  refine WO_p (PS_xor_u64 rfl rfl) ?_
  refine WO_p (PS_nilCheck rfl) ?_
  refine WO_p (PS_indexA Hvac.runUnderlying281 Hvac.sizeOf26 rfl rfl (by omega) (by omega)) ?_
  refine WO_storeX Hvac.sizeOf26 rfl rfl hb10 (by rw [hl10]; decide) (bXor_bd _ _) ?_
  intro w11 L11 hU11 hLe11
  have hb11 := hU11.hb
  have hl11 := hU11.len.trans hl10
  have hR12 := hR11.step (by decide) hLe11 (by rw [bw_xor, bw_and, bw_not, hv23, hv24, hv25, lX_11])
  refine WO_nil ?_
  refine thn_normal ?_
  refine W_seq ?_
  refine W_region rfl ?_
  refine WO_p (PS_move_ptr rfl) ?_
  refine WO_p (PS_move_int rfl) ?_
  refine WO_p (PS_move_int rfl) ?_
  refine WO_p (PS_com_u64 rfl) ?_
  refine WO_p (PS_move_int rfl) ?_
  refine WO_p (PS_and_u64 rfl rfl) ?_
  refine WO_p (PS_xor_u64 rfl rfl) ?_
  refine WO_p (PS_nilCheck rfl) ?_
  refine WO_p (PS_indexA Hvac.runUnderlying281 Hvac.sizeOf26 rfl rfl (by omega) (by omega)) ?_
  refine WO_storeX Hvac.sizeOf26 rfl rfl hb11 (by rw [hl11]; decide) (bXor_bd _ _) ?_
  intro w12 L12 hU12 hLe12
  have hb12 := hU12.hb
  have hl12 := hU12.len.trans hl11
  have hR13 := hR12.step (by decide) hLe12 (by rw [bw_xor, bw_and, bw_not, hv24, hv25, hv26, lX_12])
  refine WO_nil ?_
  refine thn_normal ?_
  refine W_seq ?_
  refine W_region rfl ?_
  refine WO_p (PS_move_ptr rfl) ?_
  refine WO_p (PS_move_int rfl) ?_
  refine WO_p (PS_move_int rfl) ?_
  refine WO_p (PS_com_u64 rfl) ?_
  refine WO_p (PS_move_int rfl) ?_
  refine WO_p (PS_and_u64 rfl rfl) ?_
  refine WO_p (PS_xor_u64 rfl rfl) ?_
  refine WO_p (PS_nilCheck rfl) ?_
  refine WO_p (PS_indexA Hvac.runUnderlying281 Hvac.sizeOf26 rfl rfl (by omega) (by omega)) ?_
  refine WO_storeX Hvac.sizeOf26 rfl rfl hb12 (by rw [hl12]; decide) (bXor_bd _ _) ?_
  intro w13 L13 hU13 hLe13
  have hb13 := hU13.hb
  have hl13 := hU13.len.trans hl12
  have hR14 := hR13.step (by decide) hLe13 (by rw [bw_xor, bw_and, bw_not, hv25, hv26, hv22, lX_13])
  refine WO_nil ?_
  refine thn_normal ?_
  refine W_seq ?_
  refine W_region rfl ?_
  refine WO_p (PS_move_ptr rfl) ?_
  refine WO_p (PS_move_int rfl) ?_
  refine WO_p (PS_move_int rfl) ?_
  refine WO_p (PS_com_u64 rfl) ?_
  refine WO_p (PS_move_int rfl) ?_
  refine WO_p (PS_and_u64 rfl rfl) ?_
  refine WO_p (PS_xor_u64 rfl rfl) ?_
  refine WO_p (PS_nilCheck rfl) ?_
  refine WO_p (PS_indexA Hvac.runUnderlying281 Hvac.sizeOf26 rfl rfl (by omega) (by omega)) ?_
  refine WO_storeX Hvac.sizeOf26 rfl rfl hb13 (by rw [hl13]; decide) (bXor_bd _ _) ?_
  intro w14 L14 hU14 hLe14
  have hb14 := hU14.hb
  have hl14 := hU14.len.trans hl13
  have hR15 := hR14.step (by decide) hLe14 (by rw [bw_xor, bw_and, bw_not, hv26, hv22, hv23, lX_14])
  refine WO_nil ?_
  refine thn_normal ?_
  refine W_seq ?_
  refine W_cutV [(12, lP (lan L) 0 0), (13, lP (lan L) 1 0), (14, lP (lan L) 2 0), (15, lP (lan L) 3 0), (16, lP (lan L) 4 0), (17, lP (lan L) 0 1), (18, lP (lan L) 1 1), (19, lP (lan L) 2 1), (20, lP (lan L) 3 1), (21, lP (lan L) 4 1), (22, lP (lan L) 0 2), (23, lP (lan L) 1 2), (24, lP (lan L) 2 2), (25, lP (lan L) 3 2), (26, lP (lan L) 4 2), (27, lP (lan L) 0 3), (28, lP (lan L) 1 3), (29, lP (lan L) 2 3), (30, lP (lan L) 3 3), (31, lP (lan L) 4 3), (32, lP (lan L) 0 4), (33, lP (lan L) 1 4), (34, lP (lan L) 2 4), (35, lP (lan L) 3 4), (36, lP (lan L) 4 4)] [(0, .pointer (some ⟨b, 0, none⟩))] ⟨rfl, trivial⟩ ⟨⟨_, rfl, by first | assumption | exact bXor_bd _ _, hv12⟩, ⟨_, rfl, by first | assumption | exact bXor_bd _ _, hv13⟩, ⟨_, rfl, by first | assumption | exact bXor_bd _ _, hv14⟩, ⟨_, rfl, by first | assumption | exact bXor_bd _ _, hv15⟩, ⟨_, rfl, by first | assumption | exact bXor_bd _ _, hv16⟩, ⟨_, rfl, by first | assumption | exact bXor_bd _ _, hv17⟩, ⟨_, rfl, by first | assumption | exact bXor_bd _ _, hv18⟩, ⟨_, rfl, by first | assumption | exact bXor_bd _ _, hv19⟩, ⟨_, rfl, by first | assumption | exact bXor_bd _ _, hv20⟩, ⟨_, rfl, by first | assumption | exact bXor_bd _ _, hv21⟩, ⟨_, rfl, by first | assumption | exact bXor_bd _ _, hv22⟩, ⟨_, rfl, by first | assumption | exact bXor_bd _ _, hv23⟩, ⟨_, rfl, by first | assumption | exact bXor_bd _ _, hv24⟩, ⟨_, rfl, by first | assumption | exact bXor_bd _ _, hv25⟩, ⟨_, rfl, by first | assumption | exact bXor_bd _ _, hv26⟩, ⟨_, rfl, by first | assumption | exact bXor_bd _ _, hv27⟩, ⟨_, rfl, by first | assumption | exact bXor_bd _ _, hv28⟩, ⟨_, rfl, by first | assumption | exact bXor_bd _ _, hv29⟩, ⟨_, rfl, by first | assumption | exact bXor_bd _ _, hv30⟩, ⟨_, rfl, by first | assumption | exact bXor_bd _ _, hv31⟩, ⟨_, rfl, by first | assumption | exact bXor_bd _ _, hv32⟩, ⟨_, rfl, by first | assumption | exact bXor_bd _ _, hv33⟩, ⟨_, rfl, by first | assumption | exact bXor_bd _ _, hv34⟩, ⟨_, rfl, by first | assumption | exact bXor_bd _ _, hv35⟩, ⟨_, rfl, by first | assumption | exact bXor_bd _ _, hv36⟩, trivial⟩ ?_
  intro x12 hx12 hv12 x13 hx13 hv13 x14 hx14 hv14 x15 hx15 hv15 x16 hx16 hv16 x17 hx17 hv17 x18 hx18 hv18 x19 hx19 hv19 x20 hx20 hv20 x21 hx21 hv21 x22 hx22 hv22 x23 hx23 hv23 x24 hx24 hv24 x25 hx25 hv25 x26 hx26 hv26 x27 hx27 hv27 x28 hx28 hv28 x29 hx29 hv29 x30 hx30 hv30 x31 hx31 hv31 x32 hx32 hv32 x33 hx33 hv33 x34 hx34 hv34 x35 hx35 hv35 x36 hx36 hv36 ρ hFr
  refine W_env _ hFr ?_
  clear hFr
  refine W_region rfl ?_
  refine WO_p (PS_move_ptr rfl) ?_
  refine WO_p (PS_move_int rfl) ?_
  refine WO_p (PS_move_int rfl) ?_
  refine WO_p (PS_com_u64 rfl) ?_
  refine WO_p (PS_move_int rfl) ?_
  refine WO_p (PS_and_u64 rfl rfl) ?_
  refine WO_p (PS_xor_u64 rfl rfl) ?_
  refine WO_p (PS_nilCheck rfl) ?_
  refine WO_p (PS_indexA Hvac.runUnderlying281 Hvac.sizeOf26 rfl rfl (by omega) (by omega)) ?_
  refine WO_storeX Hvac.sizeOf26 rfl rfl hb14 (by rw [hl14]; decide) (bXor_bd _ _) ?_
  intro w15 L15 hU15 hLe15
  have hb15 := hU15.hb
  have hl15 := hU15.len.trans hl14
  have hR16 := hR15.step (by decide) hLe15 (by rw [bw_xor, bw_and, bw_not, hv27, hv28, hv29, lX_15])
  refine WO_nil ?_
  refine thn_normal ?_
  refine W_seq ?_
  refine W_region rfl ?_
  refine WO_p (PS_move_ptr rfl) ?_
  refine WO_p (PS_move_int rfl) ?_
  refine WO_p (PS_move_int rfl) ?_
  refine WO_p (PS_com_u64 rfl) ?_
  refine WO_p (PS_move_int rfl) ?_
  refine WO_p (PS_and_u64 rfl rfl) ?_
  refine WO_p (PS_xor_u64 rfl rfl) ?_
  refine WO_p (PS_nilCheck rfl) ?_
  refine WO_p (PS_indexA Hvac.runUnderlying281 Hvac.sizeOf26 rfl rfl (by omega) (by omega)) ?_
  refine WO_storeX Hvac.sizeOf26 rfl rfl hb15 (by rw [hl15]; decide) (bXor_bd _ _) ?_
  intro w16 L16 hU16 hLe16
  have hb16 := hU16.hb
  have hl16 := hU16.len.trans hl15
  have hR17 := hR16.step (by decide) hLe16 (by rw [bw_xor, bw_and, bw_not, hv28, hv29, hv30, lX_16])
  refine WO_nil ?_
  refine thn_normal ?_
  refine W_seq ?_
  refine W_region rfl ?_
  refine WO_p (PS_move_ptr rfl) ?_
  refine WO_p (PS_move_int rfl) ?_
  refine WO_p (PS_move_int rfl) ?_
  refine WO_p (PS_com_u64 rfl) ?_
  refine WO_p (PS_move_int rfl) ?_
  refine WO_p (PS_and_u64 rfl rfl) ?_
  refine WO_p (PS_xor_u64 rfl rfl) ?_
  refine WO_p (PS_nilCheck rfl) ?_
  refine WO_p (PS_indexA Hvac.runUnderlying281 Hvac.sizeOf26 rfl rfl (by omega) (by omega)) ?_
  refine WO_storeX Hvac.sizeOf26 rfl rfl hb16 (by rw [hl16]; decide) (bXor_bd _ _) ?_
  intro w17 L17 hU17 hLe17
  have hb17 := hU17.hb
  have hl17 := hU17.len.trans hl16
  have hR18 := hR17.step (by decide) hLe17 (by rw [bw_xor, bw_and, bw_not, hv29, hv30, hv31, lX_17])
  refine WO_nil ?_
  refine thn_normal ?_
  refine W_seq ?_
  refine W_region rfl ?_
  refine WO_p (PS_move_ptr rfl) ?_
  refine WO_p (PS_move_int rfl) ?_
  refine WO_p (PS_move_int rfl) ?_
  refine WO_p (PS_com_u64 rfl) ?_
  refine WO_p (PS_move_int rfl) ?_
  refine WO_p (PS_and_u64 rfl rfl) ?_
  refine WO_p (PS_xor_u64 rfl rfl) ?_
  refine WO_p (PS_nilCheck rfl) ?_
  refine WO_p (PS_indexA Hvac.runUnderlying281 Hvac.sizeOf26 rfl rfl (by omega) (by omega)) ?_
  refine WO_storeX Hvac.sizeOf26 rfl rfl hb17 (by rw [hl17]; decide) (bXor_bd _ _) ?_
  intro w18 L18 hU18 hLe18
  have hb18 := hU18.hb
  have hl18 := hU18.len.trans hl17
  have hR19 := hR18.step (by decide) hLe18 (by rw [bw_xor, bw_and, bw_not, hv30, hv31, hv27, lX_18])
  refine WO_nil ?_
  refine thn_normal ?_
  refine W_seq ?_
  refine W_region rfl ?_
  refine WO_p (PS_move_ptr rfl) ?_
  refine WO_p (PS_move_int rfl) ?_
  refine WO_p (PS_move_int rfl) ?_
  refine WO_p (PS_com_u64 rfl) ?_
  refine WO_p (PS_move_int rfl) ?_
  refine WO_p (PS_and_u64 rfl rfl) ?_
  refine WO_p (PS_xor_u64 rfl rfl) ?_
  refine WO_p (PS_nilCheck rfl) ?_
  refine WO_p (PS_indexA Hvac.runUnderlying281 Hvac.sizeOf26 rfl rfl (by omega) (by omega)) ?_
  refine WO_storeX Hvac.sizeOf26 rfl rfl hb18 (by rw [hl18]; decide) (bXor_bd _ _) ?_
  intro w19 L19 hU19 hLe19
  have hb19 := hU19.hb
  have hl19 := hU19.len.trans hl18
  have hR20 := hR19.step (by decide) hLe19 (by rw [bw_xor, bw_and, bw_not, hv31, hv27, hv28, lX_19])
  refine WO_nil ?_
  refine thn_normal ?_
  refine W_seq ?_
  refine W_cutV [(12, lP (lan L) 0 0), (13, lP (lan L) 1 0), (14, lP (lan L) 2 0), (15, lP (lan L) 3 0), (16, lP (lan L) 4 0), (17, lP (lan L) 0 1), (18, lP (lan L) 1 1), (19, lP (lan L) 2 1), (20, lP (lan L) 3 1), (21, lP (lan L) 4 1), (22, lP (lan L) 0 2), (23, lP (lan L) 1 2), (24, lP (lan L) 2 2), (25, lP (lan L) 3 2), (26, lP (lan L) 4 2), (27, lP (lan L) 0 3), (28, lP (lan L) 1 3), (29, lP (lan L) 2 3), (30, lP (lan L) 3 3), (31, lP (lan L) 4 3), (32, lP (lan L) 0 4), (33, lP (lan L) 1 4), (34, lP (lan L) 2 4), (35, lP (lan L) 3 4), (36, lP (lan L) 4 4)] [(0, .pointer (some ⟨b, 0, none⟩))] ⟨rfl, trivial⟩ ⟨⟨_, rfl, by first | assumption | exact bXor_bd _ _, hv12⟩, ⟨_, rfl, by first | assumption | exact bXor_bd _ _, hv13⟩, ⟨_, rfl, by first | assumption | exact bXor_bd _ _, hv14⟩, ⟨_, rfl, by first | assumption | exact bXor_bd _ _, hv15⟩, ⟨_, rfl, by first | assumption | exact bXor_bd _ _, hv16⟩, ⟨_, rfl, by first | assumption | exact bXor_bd _ _, hv17⟩, ⟨_, rfl, by first | assumption | exact bXor_bd _ _, hv18⟩, ⟨_, rfl, by first | assumption | exact bXor_bd _ _, hv19⟩, ⟨_, rfl, by first | assumption | exact bXor_bd _ _, hv20⟩, ⟨_, rfl, by first | assumption | exact bXor_bd _ _, hv21⟩, ⟨_, rfl, by first | assumption | exact bXor_bd _ _, hv22⟩, ⟨_, rfl, by first | assumption | exact bXor_bd _ _, hv23⟩, ⟨_, rfl, by first | assumption | exact bXor_bd _ _, hv24⟩, ⟨_, rfl, by first | assumption | exact bXor_bd _ _, hv25⟩, ⟨_, rfl, by first | assumption | exact bXor_bd _ _, hv26⟩, ⟨_, rfl, by first | assumption | exact bXor_bd _ _, hv27⟩, ⟨_, rfl, by first | assumption | exact bXor_bd _ _, hv28⟩, ⟨_, rfl, by first | assumption | exact bXor_bd _ _, hv29⟩, ⟨_, rfl, by first | assumption | exact bXor_bd _ _, hv30⟩, ⟨_, rfl, by first | assumption | exact bXor_bd _ _, hv31⟩, ⟨_, rfl, by first | assumption | exact bXor_bd _ _, hv32⟩, ⟨_, rfl, by first | assumption | exact bXor_bd _ _, hv33⟩, ⟨_, rfl, by first | assumption | exact bXor_bd _ _, hv34⟩, ⟨_, rfl, by first | assumption | exact bXor_bd _ _, hv35⟩, ⟨_, rfl, by first | assumption | exact bXor_bd _ _, hv36⟩, trivial⟩ ?_
  intro x12 hx12 hv12 x13 hx13 hv13 x14 hx14 hv14 x15 hx15 hv15 x16 hx16 hv16 x17 hx17 hv17 x18 hx18 hv18 x19 hx19 hv19 x20 hx20 hv20 x21 hx21 hv21 x22 hx22 hv22 x23 hx23 hv23 x24 hx24 hv24 x25 hx25 hv25 x26 hx26 hv26 x27 hx27 hv27 x28 hx28 hv28 x29 hx29 hv29 x30 hx30 hv30 x31 hx31 hv31 x32 hx32 hv32 x33 hx33 hv33 x34 hx34 hv34 x35 hx35 hv35 x36 hx36 hv36 ρ hFr
  refine W_env _ hFr ?_
  clear hFr
  refine W_region rfl ?_
  refine WO_p (PS_move_ptr rfl) ?_
  refine WO_p (PS_move_int rfl) ?_
  refine WO_p (PS_move_int rfl) ?_
  refine WO_p (PS_com_u64 rfl) ?_
  refine WO_p (PS_move_int rfl) ?_
  refine WO_p (PS_and_u64 rfl rfl) ?_
  refine WO_p (PS_xor_u64 rfl rfl) ?_
  refine WO_p (PS_nilCheck rfl) ?_
  refine WO_p (PS_indexA Hvac.runUnderlying281 Hvac.sizeOf26 rfl rfl (by omega) (by omega)) ?_
  refine WO_storeX Hvac.sizeOf26 rfl rfl hb19 (by rw [hl19]; decide) (bXor_bd _ _) ?_
  intro w20 L20 hU20 hLe20
  have hb20 := hU20.hb
  have hl20 := hU20.len.trans hl19
  have hR21 := hR20.step (by decide) hLe20 (by rw [bw_xor, bw_and, bw_not, hv32, hv33, hv34, lX_20])
  refine WO_nil ?_
  refine thn_normal ?_
  refine W_seq ?_
  refine W_region rfl ?_
  refine WO_p (PS_move_ptr rfl) ?_
  refine WO_p (PS_move_int rfl) ?_
  refine WO_p (PS_move_int rfl) ?_
  refine WO_p (PS_com_u64 rfl) ?_
  refine WO_p (PS_move_int rfl) ?_
  refine WO_p (PS_and_u64 rfl rfl) ?_
  refine WO_p (PS_xor_u64 rfl rfl) ?_
  refine WO_p (PS_nilCheck rfl) ?_
  refine WO_p (PS_indexA Hvac.runUnderlying281 Hvac.sizeOf26 rfl rfl (by omega) (by omega)) ?_
  refine WO_storeX Hvac.sizeOf26 rfl rfl hb20 (by rw [hl20]; decide) (bXor_bd _ _) ?_
  intro w21 L21 hU21 hLe21
  have hb21 := hU21.hb
  have hl21 := hU21.len.trans hl20
  have hR22 := hR21.step (by decide) hLe21 (by rw [bw_xor, bw_and, bw_not, hv33, hv34, hv35, lX_21])
  refine WO_nil ?_
  refine thn_normal ?_
  refine W_seq ?_
  refine W_region rfl ?_
  refine WO_p (PS_move_ptr rfl) ?_
  refine WO_p (PS_move_int rfl) ?_
  refine WO_p (PS_move_int rfl) ?_
  refine WO_p (PS_com_u64 rfl) ?_
  refine WO_p (PS_move_int rfl) ?_
  refine WO_p (PS_and_u64 rfl rfl) ?_
  refine WO_p (PS_xor_u64 rfl rfl) ?_
  refine WO_p (PS_nilCheck rfl) ?_
  refine WO_p (PS_indexA Hvac.runUnderlying281 Hvac.sizeOf26 rfl rfl (by omega) (by omega)) ?_
  refine WO_storeX Hvac.sizeOf26 rfl rfl hb21 (by rw [hl21]; decide) (bXor_bd _ _) ?_
  intro w22 L22 hU22 hLe22
  have hb22 := hU22.hb
  have hl22 := hU22.len.trans hl21
  have hR23 := hR22.step (by decide) hLe22 (by rw [bw_xor, bw_and, bw_not, hv34, hv35, hv36, lX_22])
  refine WO_nil ?_
  refine thn_normal ?_
  refine W_seq ?_
  refine W_region rfl ?_
  refine WO_p (PS_move_ptr rfl) ?_
  refine WO_p (PS_move_int rfl) ?_
  refine WO_p (PS_move_int rfl) ?_
  refine WO_p (PS_com_u64 rfl) ?_
  refine WO_p (PS_move_int rfl) ?_
  refine WO_p (PS_and_u64 rfl rfl) ?_
  refine WO_p (PS_xor_u64 rfl rfl) ?_
  refine WO_p (PS_nilCheck rfl) ?_
  refine WO_p (PS_indexA Hvac.runUnderlying281 Hvac.sizeOf26 rfl rfl (by omega) (by omega)) ?_
  refine WO_storeX Hvac.sizeOf26 rfl rfl hb22 (by rw [hl22]; decide) (bXor_bd _ _) ?_
  intro w23 L23 hU23 hLe23
  have hb23 := hU23.hb
  have hl23 := hU23.len.trans hl22
  have hR24 := hR23.step (by decide) hLe23 (by rw [bw_xor, bw_and, bw_not, hv35, hv36, hv32, lX_23])
  refine WO_nil ?_
  refine thn_normal ?_
  refine W_region rfl ?_
  refine WO_p (PS_move_ptr rfl) ?_
  refine WO_p (PS_move_int rfl) ?_
  refine WO_p (PS_move_int rfl) ?_
  refine WO_p (PS_com_u64 rfl) ?_
  refine WO_p (PS_move_int rfl) ?_
  refine WO_p (PS_and_u64 rfl rfl) ?_
  refine WO_p (PS_xor_u64 rfl rfl) ?_
  refine WO_p (PS_nilCheck rfl) ?_
  refine WO_p (PS_indexA Hvac.runUnderlying281 Hvac.sizeOf26 rfl rfl (by omega) (by omega)) ?_
  refine WO_storeX Hvac.sizeOf26 rfl rfl hb23 (by rw [hl23]; decide) (bXor_bd _ _) ?_
  intro w24 L24 hU24 hLe24
  have hb24 := hU24.hb
  have hl24 := hU24.len.trans hl23
  have hR25 := hR24.step (by decide) hLe24 (by rw [bw_xor, bw_and, bw_not, hv36, hv32, hv33, lX_24])
  refine WO_nil ?_
  first | refine bodyQ_ret0 Hvac.results357 ?_ | refine bodyQ_end0 Hvac.results357 ?_
  exact ⟨rfl, _, UT.pre (by repeat (first | assumption | exact Ext.refl _ | refine Ext.alloc ?_ _ | refine Ext.drew ?_ | refine Ext.setB ?_ (by first | omega | (simp only [size_alloc, size_setB, size_drew]; omega)) _ | refine Ext.trans ?_ (by assumption))) ((((((((((((((((((((((((hU0.trans hU1).trans hU2).trans hU3).trans hU4).trans hU5).trans hU6).trans hU7).trans hU8).trans hU9).trans hU10).trans hU11).trans hU12).trans hU13).trans hU14).trans hU15).trans hU16).trans hU17).trans hU18).trans hU19).trans hU20).trans hU21).trans hU22).trans hU23).trans hU24), hR25⟩

end Go.Proofs.YgvacwGreat
