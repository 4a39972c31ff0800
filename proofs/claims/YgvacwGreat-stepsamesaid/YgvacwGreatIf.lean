import Derived.Test.YgvacwGreatIe
namespace Go.Proofs.YgvacwGreat
set_option linter.unusedSimpArgs false
set_option linter.unusedVariables false
/-! the state's addresses -/
def hdYO (x : YSt) : List Value := sv x.now.accts :: sv x.now.warmA :: sv x.now.warmS :: sv x.now.ref :: sv x.now.logs :: sv x.now.temps :: sv x.now.made :: sv x.now.gone :: sv x.start :: sv x.frames :: sv x.ret :: .int .u8 x.phase :: .int .u8 x.status :: .int .u8 x.applied :: sv x.limit :: sv x.txGas :: sv x.left :: sv x.price :: [sv x.total]
theorem encYS_os {x : YSt} {A : List Int} (h1 : x.origin.length = 20) (hA : A.length = 20) : splice (encYS x).toArray (0 + 19) (Value.agg (ic .u8 A)).cells.toList = (encYS { x with origin := A }).toArray :=
  splice_at (M' := A.map (Value.int .u8)) (P := hdYO x) (M := x.origin.map (Value.int .u8)) (S := x.made.map (Value.int .u8) ++ encEv x.env) (by simp [encYS, hdYO]) rfl (by simp [h1, hA]) (by simp [encYS, hdYO])
theorem encYS_ms {x : YSt} {A : List Int} (h1 : x.origin.length = 20) (h2 : x.made.length = 20) (hA : A.length = 20) : splice (encYS x).toArray (0 + 39) (Value.agg (ic .u8 A)).cells.toList = (encYS { x with made := A }).toArray :=
  splice_at (M' := A.map (Value.int .u8)) (P := hdYO x ++ x.origin.map (Value.int .u8)) (M := x.made.map (Value.int .u8)) (S := encEv x.env) (by simp [encYS, hdYO]) (by simp [hdYO, h1]) (by simp [h2, hA]) (by simp [encYS, hdYO])
/-! what verdict 0 means -/
structure Ver0 (y : PSt) (t : Tx) : Prop where
  ph : y.phase = 0
  ap : y.applied < 4
  ga : t.gas.toNat ≤ 1048576
  db : t.db.length ≤ 1024
  lk : LOK t
  no : t.nonce.toNat = (yacct y.now.accts t.fr).nonce
  nm : (yacct y.now.accts t.fr).nonce ≠ 18446744073709551615
  cd : (yacct y.now.accts t.fr).code = []
  cr : t.create = true → t.db.length ≤ 512
  ig : yintr t ≤ t.gas.toNat
  gl : t.gas.toNat ≤ y.env.glim.toNat
  ba : t.gas.toNat * bvY (feeB t).1 + bvY t.value ≤ (yacct y.now.accts t.fr).bal
  f2 : bvY (feeB t).2 ≤ bvY (feeB t).1
  fb : bvY y.env.bfee ≤ bvY (feeB t).1
theorem ver0 {y : PSt} {t : Tx} (h : yverd y t = 0) : Ver0 y t := by
  unfold yverd at h
  by_cases h1 : y.phase ≠ 0
  · rw [if_pos h1] at h; omega
  rw [if_neg h1] at h
  by_cases h2 : 4 ≤ y.applied
  · rw [if_pos h2] at h; omega
  rw [if_neg h2] at h
  by_cases h3 : 1048576 < t.gas.toNat ∨ 1024 < t.db.length ∨ lokB t = false
  · rw [if_pos h3] at h; omega
  rw [if_neg h3] at h
  by_cases h4 : t.nonce.toNat ≠ (yacct y.now.accts t.fr).nonce
  · rw [if_pos h4] at h; omega
  rw [if_neg h4] at h
  by_cases h5 : (yacct y.now.accts t.fr).nonce = 18446744073709551615
  · rw [if_pos h5] at h; omega
  rw [if_neg h5] at h
  by_cases h6 : 0 < (yacct y.now.accts t.fr).code.length
  · rw [if_pos h6] at h; omega
  rw [if_neg h6] at h
  by_cases h7 : t.create = true ∧ 512 < t.db.length
  · rw [if_pos h7] at h; omega
  rw [if_neg h7] at h
  by_cases h8 : t.gas.toNat < yintr t
  · rw [if_pos h8] at h; omega
  rw [if_neg h8] at h
  by_cases h9 : y.env.glim.toNat < t.gas.toNat
  · rw [if_pos h9] at h; omega
  rw [if_neg h9] at h
  by_cases h10 : (yacct y.now.accts t.fr).bal < t.gas.toNat * bvY (feeB t).1 + bvY t.value
  · rw [if_pos h10] at h; omega
  rw [if_neg h10] at h
  by_cases h11 : bvY (feeB t).1 < bvY (feeB t).2
  · rw [if_pos h11] at h; omega
  rw [if_neg h11] at h
  by_cases h12 : bvY (feeB t).1 < bvY y.env.bfee
  · rw [if_pos h12] at h; omega
  simp only [al_no] at h3
  exact ⟨by omega, by omega, by omega, by omega, (lokB_iff t).1 (by simpa using h3.2.2), al_nn.1 h4, h5, List.eq_nil_of_length_eq_zero (by omega), fun hc => Nat.le_of_not_lt fun h9 => h7 ⟨hc, h9⟩, by omega, by omega, by omega, by omega, by omega⟩
/-! what Begin leaves -/
def ybTo (ks : List Int → List Int) (y : PSt) (t : Tx) : List Int := if t.create = true then ycr1 ks t.fr (yacct y.now.accts t.fr).nonce else t.to_
def ybMd (ks : List Int → List Int) (y : PSt) (t : Tx) : List Int := if t.create = true then ycr1 ks t.fr (yacct y.now.accts t.fr).nonce else List.replicate 20 0
/-- the slots as they stand -/
def ystartS (a : PA) : List (List Int × Nat × Nat) := a.slots.map fun s => (a.addr, s.1, s.2)
def ystart (l : List PA) : List (List Int × Nat × Nat) := l.flatMap ystartS
def yb1 (ks : List Int → List Int) (y : PSt) (t : Tx) : PSt := { y with made := ybMd ks y t, applied := y.applied + 1, limit := t.gas.toNat, txGas := t.gas.toNat - yintr t, price := yprice (bvY y.env.bfee) t, origin := t.fr }
def yb2 (ks : List Int → List Int) (y : PSt) (t : Tx) : PSt := { yb1 ks y t with start := ystart y.now.accts }
def yb3 (ks : List Int → List Int) (y : PSt) (t : Tx) : PSt := ysAccts (yb2 ks y t) (ysetBal (ysetNonce y.now.accts t.fr ((yacct y.now.accts t.fr).nonce + 1)) t.fr ((yacct y.now.accts t.fr).bal - t.gas.toNat * yprice (bvY y.env.bfee) t))
def yad (n : Int) : List Int := List.replicate 19 0 ++ [n]
def yb4w (ks : List Int → List Int) (y : PSt) (t : Tx) : List (List Int) := ywith (ywith (ywith (ywith (ywith y.now.warmA t.fr) y.env.cb) (ybTo ks y t)) (yad 4)) (yad 5)
def yb4 (ks : List Int → List Int) (y : PSt) (t : Tx) : PSt := ysWarmA (yb3 ks y t) (yb4w ks y t)
/-- an address of the list and its keys -/
def yaxK (l : List (List Int × Nat)) (A : List Int) : List (List Int) → List (List Int × Nat)
  | [] => l
  | k :: r => yaxK (ymk l A (bvY k)) A r
def yaxs (y : PSt) : List Ax → PSt
  | [] => y
  | a :: r => yaxs (ysWarmS (ysWarmA y (ywith y.now.warmA a.addr)) (yaxK y.now.warmS a.addr a.kl)) r
def yb5 (ks : List Int → List Int) (y : PSt) (t : Tx) : PSt := { yaxs (yb4 ks y t) t.al with ret := [] }
def ybfr (ks : List Int → List Int) (y : PSt) (t : Tx) : PF := kPF 0 false (t.gas.toNat - yintr t) (bvY t.value) [] (ybTo ks y t) t.fr
def ybf (ks : List Int → List Int) (y : PSt) (t : Tx) : PF :=
  if t.create = true then { ybfr ks y t with kind := 1, code := t.db }
  else { ybfr ks y t with nat := ynative (ybTo ks y t), code := if ynative (ybTo ks y t) = 0 then (yacct (yb5 ks y t).now.accts (ybTo ks y t)).code else [], inputY := t.db }
def ybegin (ks : List Int → List Int) (y : PSt) (t : Tx) : PSt × List PF :=
  if t.create = true ∧ ytaken (yb5 ks y t).now.accts (ybTo ks y t) = true then ({ yb5 ks y t with phase := 2, status := 12, left := 0 }, [])
  else yenter { yb5 ks y t with phase := 1 } [] (ybf ks y t)
theorem yaxK_snoc (A : List Int) (k : List Int) : ∀ (ls : List (List Int)) (l : List (List Int × Nat)), yaxK l A (ls ++ [k]) = ymk (yaxK l A ls) A (bvY k)
  | [], l => rfl
  | a :: r, l => yaxK_snoc A k r _
theorem yaxs_snoc (a : Ax) : ∀ (ls : List Ax) (y : PSt), yaxs y (ls ++ [a]) = ysWarmS (ysWarmA (yaxs y ls) (ywith (yaxs y ls).now.warmA a.addr)) (yaxK (yaxs y ls).now.warmS a.addr a.kl)
  | [], y => rfl
  | b :: r, y => yaxs_snoc a r _
theorem take_sn {α : Type} {l : List α} {i : Nat} {x : α} (h : l[i]? = some x) : l.take (i + 1) = l.take i ++ [x] := by
  rw [List.take_add_one, h]; rfl
theorem ystart_snoc {l : List PA} {i : Nat} {a : PA} (h : l[i]? = some a) : ystart (l.take (i + 1)) = ystart (l.take i) ++ ystartS a := by
  rw [take_sn h]; simp [ystart]
theorem ystartS_snoc {a : PA} {j : Nat} {s : Nat × Nat} (h : a.slots[j]? = some s) : (ystartS a).take (j + 1) = (ystartS a).take j ++ [(a.addr, s.1, s.2)] :=
  take_sn (by unfold ystartS; rw [List.getElem?_map, h]; rfl)
theorem info113 : Hvac.prog.info? 113 = some Hvac.t113 := by kernel_rfl
theorem ap_Y113 : AppI encYT 22 113 96 72 := ⟨Hvac.underlying96, ⟨Hvac.t113, _, info113, rfl, rfl, rfl, rfl⟩, one_YT, by decide⟩
theorem PS_b113 {ρ : Nat → Value} {x0 x1 x2 : Operand} {A : List Int} {p1 p2 : Option Addr} {n1 c1 n2 c2 : Nat} (h0 : ev ρ x0 = .agg (ic .u8 A)) (hA : A.length = 20) (h1 : ev ρ x1 = .slice p1 n1 c1) (h2 : ev ρ x2 = .slice p2 n2 c2) :
    PS Hvac.prog (.build 113 #[(0, x0), (1, x1), (2, x2)]) ρ (.agg (encYT ⟨A, (p1, n1, c1), (p2, n2, c2)⟩).toArray) := by
  obtain ⟨a0, a1, a2, a3, a4, a5, a6, a7, a8, a9, b0, b1, b2, b3, b4, b5, b6, b7, b8, b9, rfl⟩ := len20 hA
  exact PS_buildS Hvac.zeroValue113 Hvac.runUnderlying113 (places_run (pl := [(0, 20), (20, 1), (21, 1)]) ⟨rfl, Hvac.sizeOf25, rfl, Hvac.sizeOf92, rfl, Hvac.sizeOf92, trivial⟩) (ps := [(0, .agg (ic .u8 [a0, a1, a2, a3, a4, a5, a6, a7, a8, a9, b0, b1, b2, b3, b4, b5, b6, b7, b8, b9])), (1, .slice p1 n1 c1), (2, .slice p2 n2 c2)]) (by simp only [List.map, h0, h1, h2]) (by kernel_rfl)
section
variable {ops : Array Oper} {S : World → Prop} {Q : Post} {t ty : TypeId} {pos : String} {af : Array Edge} {os : List Oper} {os' : List TOp} {ρ : Nat → Value} {w : World} {xo yo : Operand} {d : Nat} {bb : Bool} {w0 : World}
theorem run_appK {α : Type} {enc : α → List Value} {u B : Nat} {e : TypeId} {X : List Nat} {so : Option (Nat × Nat)} {K : List α} (x : α) {b1 : Nat} {T1 : TypeId} {fz : Nat × Nat} (ha : AppI enc u e t B) (hB : BL enc u e w0 X w so K) (hz : w0.heap.size ≤ w.heap.size) (hX : ∀ b ∈ X, b < w.heap.size) (hl : K.length ≤ 1000000000)
    (hxl : (enc x).length = u) (hsrc : Hb w b1 (.cells (enc x).toArray T1 fz)) :
    ∃ so' w', (Builtin.append_ #[t, t] ty #[.slice (slp so) K.length (slc so), .slice (some ⟨b1, 0, none⟩) 1 1]).run Hvac.prog w = .ok (.slice (slp so') (K ++ [x]).length (slc so')) w' ∧ BL enc u e w0 X w' so' (K ++ [x]) ∧ KeepO (blkOf so) w w' := by
  obtain ⟨i, z, hi, hzz, hs, hby, hzs⟩ := ha.hi
  have hb8 : (K.length + 1) * B ≤ 140737488355328 := by
    have h1 : (K.length + 1) * B ≤ 1000000001 * 1000 := Nat.mul_le_mul (by omega) ha.hB
    omega
  obtain ⟨s', w', hr, hrow, hk, hb⟩ := run_append_row (rt := ty) ha.ht hi hzz hs hby hzs hB.row hxl (ha.one x) hsrc hb8 (by omega)
  refine ⟨s', w', ?_, ⟨hrow, fun b hbb => ?_⟩, hk⟩
  · rw [List.length_append]; exact hr
  · rcases hb b hbb with h1 | h1
    · exact hB.fr b h1
    · exact ⟨Nat.le_trans hz h1, fun h2 => by have := hX b h2; omega⟩
theorem WH_appK {α : Type} {enc : α → List Value} {u B : Nat} {e : TypeId} {X : List Nat} {so : Option (Nat × Nat)} {K : List α} (x : α) {b1 : Nat} {T1 : TypeId} {fz : Nat × Nat} (ha : AppI enc u e t B) (hB : BL enc u e w0 X w so K) (hz : w0.heap.size ≤ w.heap.size) (hX : ∀ b ∈ X, b < w.heap.size) (hl : K.length ≤ 1000000000)
    (hxl : (enc x).length = u) (hsrc : Hb w b1 (.cells (enc x).toArray T1 fz)) (hx : ev ρ xo = .slice (slp so) K.length (slc so)) (hy : ev ρ yo = .slice (some ⟨b1, 0, none⟩) 1 1)
    (hh : ∀ so' w', BL enc u e w0 X w' so' (K ++ [x]) → KeepO (blkOf so) w w' → (bb = true → S w') ∧ WH Hvac.prog ops S Q os' (upd ρ d (.slice (slp so') (K ++ [x]).length (slc so'))) w') :
    WH Hvac.prog ops S Q ((⟨some d, .call ⟨.builtin .append, #[xo, yo], #[t, t]⟩, ty, pos, af, none⟩, bb) :: os') ρ w := by
  obtain ⟨so', w', hr, h1, h2⟩ := run_appK (ty := ty) x ha hB hz hX hl hxl hsrc
  exact WH_append hx hy hr (hh so' w' h1 h2).1 (hh so' w' h1 h2).2
end

end Go.Proofs.YgvacwGreat
