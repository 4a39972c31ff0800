import Derived.Test.YgvacwGreatPa
import Derived.Test.YgvacwGreatXf
import Derived.Test.YgvacwGreatSa
import Derived.Test.YgvacwGreatFwT
namespace Go.Proofs.YgvacwGreat
set_option linter.unusedSimpArgs false
set_option linter.unusedVariables false
theorem PS_slS_hmA {P : Program} {ρ : Nat → Value} {t e : TypeId} {s n cp : Nat} {km kh : IntKind} {m h : Int} {x xh xm : Operand} {p : Option Addr} (hU : ∀ w, (underlying t).run P w = .ok (.slice e) w) (hS : ∀ w, (Go.sizeOf e).run P w = .ok s w) (hx : ev ρ x = .slice p n cp) (hm : ev ρ xm = .int km m) (hh : ev ρ xh = .int kh h) (hm0 : 0 ≤ m) (hm1 : m ≤ cp) (hh0 : 0 ≤ h) (hh1 : h ≤ m) : PS P (.slice t x none (some xh) (some xm)) ρ (.slice p h.toNat m.toNat) :=
  ⟨fun oo w hop => by
    have bm := fun code => bound_ok (P := P) (k := km) (code := code) w hm0 (show m ≤ ((cp : Nat) : Int) from hm1)
    have bh := fun code => bound_ok (P := P) (k := kh) (code := code) w hh0 (show h ≤ ((m.toNat : Nat) : Int) by omega)
    have hpp : p.map (fun a => a.add (0 * s)) = p := by cases p <;> simp [Addr.add]
    simp [execOp, hop, Instr.sliceAt, hU, hx, Instr.sliceBounds, hS, Instr.slice, hh, hm, bm, bh]
    try (cases p <;> simp [Addr.add])
    done⟩
theorem run_copy_z {P : Program} {w : World} {e ty : TypeId} {dT sT : TypeId} {dl dc sc sz : Nat} {p q : Option Addr} (hU : ∀ w, (underlying dT).run P w = .ok (.slice e) w) (hS : ∀ w, (Go.sizeOf e).run P w = .ok sz w) :
    (Builtin.copy_ #[dT, sT] ty #[.slice p dl dc, .slice q 0 sc]).run P w = .ok (goInt 0) w := by
  have h0 : Nat.min 0 dl = 0 := Nat.zero_min dl
  simp only [Builtin.copy_, Builtin.lenOf, Builtin.firstCells, Sem.run_bind, Sem.run_pure, Result.andThen_ok, hU, hS, h0]
  cases p <;> cases q <;> simp only [List.getElem?_toArray, List.getElem?_cons_zero, List.getElem?_cons_succ, Sem.run_bind, Sem.run_pure, Result.andThen_ok, hU, hS, h0, storeCells, Nat.zero_mul, loadCells, loadCellsFrom] <;> rfl
section
variable {P : Program} {ops : Array Oper} {Q : Post} {ty e : TypeId} {pos : String} {af : Array Edge} {os : List Oper} {ρ : Nat → Value} {w : World} {x y : Operand} {dd : Option Nat} {dT sT : TypeId}
theorem WO_copyZ {dl dc sc sz : Nat} {p q : Option Addr} (hU : ∀ w, (underlying dT).run P w = .ok (.slice e) w) (hS : ∀ w, (Go.sizeOf e).run P w = .ok sz w) (hx : ev ρ x = .slice p dl dc) (hy : ev ρ y = .slice q 0 sc)
    (h : WO P ops Q os (updo ρ dd (Value.int .i64 0)) w) : WO P ops Q (⟨dd, .call ⟨.builtin .copy, #[x, y], #[dT, sT]⟩, ty, pos, af, none⟩ :: os) ρ w := by
  refine WO_cons ?_
  have hrun := run_copy_z (P := P) (w := w) (ty := ty) (sT := sT) (dl := dl) (dc := dc) (sc := sc) (p := p) (q := q) hU hS
  have e1 : Array.map (ev ρ) #[x, y] = #[.slice p dl dc, .slice q 0 sc] := by simp [hx, hy]
  simp only [stepo, execOp, resolve, invoke, builtin, e1, hrun, Sem.run_bind, Sem.run_pure, Result.andThen_ok]; exact h
end
theorem WO_gen4 {P : Program} {ops : Array Oper} {Q : Post} {os : List Oper} {ρ : Nat → Value} {w : World} (h : ∀ w', w' = w → WO P ops Q os ρ w') : WO P ops Q os ρ w := h w rfl
/-- the blocks that may turn are old ones -/
def OmB [Om] (w : World) : Prop := ∀ b, Om.p b → b < w.heap.size
theorem OmB.ext [Om] {w w' : World} (h : OmB w) (he : Ext w w') : OmB w' := fun b hb => Nat.lt_of_lt_of_le (h b hb) he.1
theorem OmB.fresh [Om] {w : World} (h : OmB w) {b : Nat} (hb : w.heap.size ≤ b) : ¬ Om.p b := fun hh => by have := h b hh; omega
/-- any slice of bytes -/
structure AB (w : World) (s : SV) (L : List Int) : Prop where
  len : L.length = s.2.1
  cap : s.2.1 ≤ s.2.2
  by_ : ∀ x ∈ L, 0 ≤ x ∧ x ≤ 255
  row : 0 < s.2.1 → ∃ b o r T fz, s.1 = some ⟨b, o, none⟩ ∧ Hb w b (.cells r T fz) ∧ o + s.2.1 ≤ r.size ∧ Xt r o (o + s.2.1) (ic .u8 L)
theorem AB.ext {w w' : World} {s : SV} {L : List Int} (h : AB w s L) (he : Ext w w') : AB w' s L :=
  { h with row := fun h0 => by obtain ⟨b, o, r, T, fz, h1, h2, h3⟩ := h.row h0; exact ⟨b, o, r, T, fz, h1, h2.ext he, h3⟩ }
/-- a slice of bytes that stays -/
structure PB [Om] (w : World) (s : SV) (L : List Int) : Prop where
  len : L.length = s.2.1
  cap : s.2.1 ≤ s.2.2
  by_ : ∀ x ∈ L, 0 ≤ x ∧ x ≤ 255
  row : 0 < s.2.1 → ∃ b r fz, s.1 = some ⟨b, 0, none⟩ ∧ ¬ Om.p b ∧ Hb w b (.cells r 5 fz) ∧ 0 + s.2.1 ≤ r.size ∧ Xt r 0 (0 + s.2.1) (ic .u8 L)
theorem PB.ext [Om] {w w' : World} {s : SV} {L : List Int} (h : PB w s L) (he : Ext w w') : PB w' s L :=
  { h with row := fun h0 => by obtain ⟨b, r, fz, h1, h2, h3, h4⟩ := h.row h0; exact ⟨b, r, fz, h1, h2, h3.ext he, h4⟩ }
theorem PB.keep [Om] {w w' : World} {s : SV} {L : List Int} (h : PB w s L) (he : KeepO Om.p w w') : PB w' s L :=
  { h with row := fun h0 => by obtain ⟨b, r, fz, h1, h2, h3, h4⟩ := h.row h0; exact ⟨b, r, fz, h1, h2, h3.keepO he h2, h4⟩ }
theorem PB.ab [Om] {w : World} {s : SV} {L : List Int} (h : PB w s L) : AB w s L :=
  ⟨h.len, h.cap, h.by_, fun h0 => by obtain ⟨b, r, fz, h1, _, h3, h4⟩ := h.row h0; exact ⟨b, 0, r, 5, fz, h1, h3, h4⟩⟩
theorem PB.nil [Om] (w : World) : PB w (none, 0, 0) [] := ⟨rfl, Nat.le_refl _, (by intro x hx; cases hx), fun h => absurd h (Nat.lt_irrefl 0)⟩
theorem PB.newY [Om] {w : World} {b n : Nat} {L : List Int} {fz : Nat × Nat} (hb : Hb w b (.cells (ic .u8 L) 5 fz)) (ho : ¬ Om.p b) (hL : ∀ x ∈ L, 0 ≤ x ∧ x ≤ 255) (hn : L.length = n) : PB w (some ⟨b, 0, none⟩, n, n) L :=
  ⟨hn, Nat.le_refl _, hL, fun _ => ⟨b, _, fz, rfl, ho, hb, by show 0 + n ≤ _; rw [size_ic]; omega, by show Xt _ 0 (0 + n) _; exact Xt.whole rfl (by rw [size_ic]; exact hn)⟩⟩
/-- a natural of the specification -/
def NN [Om] (w : World) (s : SV) (n : Nat) : Prop := PB w s (dg n)
theorem NN.ext [Om] {w w' : World} {s : SV} {n : Nat} (h : NN w s n) (he : Ext w w') : NN w' s n := PB.ext h he
theorem NN.keep [Om] {w w' : World} {s : SV} {n : Nat} (h : NN w s n) (he : KeepO Om.p w w') : NN w' s n := PB.keep h he
theorem NN.nil [Om] (w : World) : NN w (none, 0, 0) 0 := by unfold NN; rw [dg_zero]; exact PB.nil w
theorem NN.len [Om] {w : World} {s : SV} {n : Nat} (h : NN w s n) : s.2.1 = sz n := (PB.len h).symm
/-- a natural whose digits lie anywhere -/
structure ND (w : World) (s : SV) (n : Nat) : Prop where
  dig : ∃ L, AB w s L ∧ dv L = n
theorem NN.nd [Om] {w : World} {s : SV} {n : Nat} (h : NN w s n) : ND w s n := ⟨dg n, PB.ab h, dv_dg n⟩
theorem xt_take {r : Array Value} {o n k : Nat} {L : List Int} (h : Xt r o (o + n) (ic .u8 L)) (hn : L.length = n) (hk : k ≤ n) : Xt r o (o + k) (ic .u8 (L.take k)) := ⟨by
  have := h.h
  refine Array.ext_getElem? fun i => ?_
  have e : (r.extract o (o + n))[i]? = (ic .u8 L)[i]? := by rw [this]
  simp only [ic, List.getElem?_toArray, List.getElem?_map, Array.getElem?_extract] at e ⊢
  by_cases hi : i < k
  · rw [List.getElem?_take_of_lt hi, ← e]
    have : i < min (o + k) r.size - o ↔ i < min (o + n) r.size - o := by omega
    simp only [this]
  · rw [List.getElem?_eq_none (by simp; omega), if_neg (by omega)]; rfl⟩
theorem AB.trim {w : World} {s : SV} {L : List Int} (h : AB w s L) : AB w (s.1, sz (dv L), sz (dv L)) (dg (dv L)) ∧ sz (dv L) ≤ s.2.1 := by
  have hle : sz (dv L) ≤ s.2.1 := by rw [← h.len]; exact sz_le (dv_lt h.by_)
  have ht : L.take (sz (dv L)) = dg (dv L) := by
    have hk : sz (dv L) ≤ L.length := by rw [h.len]; exact hle
    have e2 := dv_take L _ hk
    have hd : dv (L.drop (sz (dv L))) = 0 := by
      have h1 := lt_sz (dv L)
      rcases Nat.eq_zero_or_pos (dv (L.drop (sz (dv L)))) with h0 | h0
      · exact h0
      · have := Nat.le_mul_of_pos_right (256 ^ sz (dv L)) h0
        omega
    rw [hd, Nat.mul_zero, Nat.add_zero] at e2
    have hby : ∀ x ∈ L.take (sz (dv L)), 0 ≤ x ∧ x ≤ 255 := fun x hx => h.by_ x (List.mem_of_mem_take hx)
    have hlen : (L.take (sz (dv L))).length = sz (dv L) := by rw [List.length_take]; omega
    by_cases h0 : sz (dv L) = 0
    · rw [h0, List.take_zero]; rw [sz_eq_zero h0, dg_zero]
    · have htop : (L.take (sz (dv L))).getD ((L.take (sz (dv L))).length - 1) 0 ≠ 0 := by
        intro hz
        have e3 := dv_take (L.take (sz (dv L))) (sz (dv L) - 1) (by omega)
        have e4 : (L.take (sz (dv L))).drop (sz (dv L) - 1) = [(L.take (sz (dv L))).getD (sz (dv L) - 1) 0] := by
          rw [List.drop_eq_getElem_cons (by omega), List.drop_eq_nil_of_le (by omega)]
          rw [List.getD_eq_getElem?_getD, List.getElem?_eq_getElem (by omega)]; rfl
        rw [hlen] at hz
        rw [e4, hz] at e3
        simp only [dv, Int.toNat_zero, Nat.mul_zero, Nat.add_zero] at e3
        have h5 : dv ((L.take (sz (dv L))).take (sz (dv L) - 1)) < 256 ^ (sz (dv L) - 1) := by
          have := dv_lt (L := (L.take (sz (dv L))).take (sz (dv L) - 1)) (fun x hx => hby x (List.mem_of_mem_take hx))
          rw [List.length_take, hlen, Nat.min_eq_left (by omega)] at this
          exact this
        have h6 := sz_le (Nat.lt_of_le_of_lt (Nat.le_of_eq (e2.trans e3)) h5)
        omega
      have := dg_dv hby (Or.inr htop)
      rw [← this, ← e2]
  refine ⟨⟨rfl, Nat.le_refl _, dg_by _, fun h0 => ?_⟩, hle⟩
  dsimp only at h0
  obtain ⟨b, o, r, T, fz, h1, h2, h3, h4⟩ := h.row (by omega)
  refine ⟨b, o, r, T, fz, h1, h2, by dsimp only; omega, ?_⟩
  have := xt_take h4 h.len hle
  rw [ht] at this
  exact this

set_option maxRecDepth 10000 in
set_option maxHeartbeats 4000000 in
theorem trimX_spec (s : SV) (L : List Int) (w : World) (hs : AB w s L) (hm : s.2.1 ≤ 100000000) : Ret Hvac.prog 86 #[.slice s.1 s.2.1 s.2.2] w fun u w' => Ext w w' ∧ u = .slice s.1 (sz (dv L)) (sz (dv L)) := by
  obtain ⟨p, n, cp⟩ := s
  have hlc := hs.cap
  have hln := hs.len
  have hby := hs.by_
  dsimp only at hlc hln hm ⊢
  refine Ret_of_W Hvac.func86 rfl rfl ?_
  refine W_seq ?_
  refine W_region rfl ?_
  refine WO_p (PS_assign_slice rfl) ?_
  refine WO_nil ?_
  refine thn_normal ?_
  refine W_seq ?_
  refine W_region rfl ?_
  refine WO_p (PS_move_slice rfl) ?_
  refine WO_p (PS_lenS Hvac.runUnderlying92 rfl) ?_
  refine WO_p (PS_assign_int rfl) ?_
  refine WO_nil ?_
  refine thn_normal ?_
  refine W_seq ?_
  refine W_block ?_
  refine W_loopN (fun k ρ w' => ∃ (i : Nat), i = k ∧ i ≤ n ∧ (∀ j, i ≤ j → j < n → L.getD j 0 = 0) ∧ Fr [(0, .slice p n cp), (3, .int .i64 i)] ρ ∧ Ext w w') n ?_ ?_
  · exact ⟨n, rfl, by omega, fun j h1 h2 => by omega, ⟨rfl, rfl, trivial⟩, (by repeat (first | assumption | exact Ext.refl _ | refine Ext.alloc ?_ _ | refine Ext.drew ?_ | refine Ext.setB ?_ (by first | omega | (simp only [size_alloc, size_setB, size_drew]; omega)) _ | refine Ext.trans ?_ (by assumption)))⟩
  intro k ρ w2 hI2
  obtain ⟨i, hik, hin, hzz, hFr, hE2⟩ := hI2
  refine W_env _ hFr ?_
  have hz2 := hE2.1
  refine W_seq ?_
  refine W_seq ?_
  refine W_region rfl ?_
  refine WO_p (PS_move_int rfl) ?_
  refine WO_p (PS_gtr rfl rfl) ?_
  refine WO_p (PS_move_bool rfl) ?_
  refine WO_if (t := 8) rfl (fun hb2 => ?_) (fun hb2 => ?_)
  · have hb2p := hb2.h; try simp only [al_ete, al_dfn, Bool.not_eq_true', Bool.not_eq_false', al_ne, Bool.not_not, al_nn] at hb2p
    obtain ⟨b, o, r, T, fz, hp, hb, hrs, hX⟩ := hs.row (by show 0 < n; omega)
    dsimp only at hp hX hrs
    subst hp
    have hj1 : ((i : Int) - 1).toNat = i - 1 := by omega
    have hce : Ce r (o + ((i : Int) - 1).toNat * 1) (.int .u8 (L.getD (i - 1) 0)) := by rw [hj1]; exact xt_ce1 hX hln (by omega)
    have hbb := Hb.ext hE2 hb
    refine WO_guardT rfl rfl hb2.h ?_
    refine WO_p (PS_move_slice rfl) ?_
    refine WO_guardT rfl rfl hb2.h ?_
    refine WO_p (PS_move_int rfl) ?_
    refine WO_guardT rfl rfl hb2.h ?_
    refine WO_p (PS_sub_i64n rfl rfl (by omega) (by omega)) ?_
    refine WO_guardT rfl rfl hb2.h ?_
    refine WO_p (PS_indexS Hvac.runUnderlying92 Hvac.sizeOf5 rfl rfl (by omega) (by omega)) ?_
    refine WO_guardT rfl rfl hb2.h ?_
    refine WO_load (.int _ _) Hvac.isAgg5 rfl (Hb.h (by repeat (first | assumption | exact Hb.newY _ _ | refine Hb.alloc ?_ | refine Hb.drew ?_ | refine Hb.ext (by assumption) ?_ | exact Hb.setSameL (by first | omega | (simp only [size_alloc, size_setB, size_drew]; omega)) | exact Hb.setSame (by assumption) | refine Hb.set (by first | omega | (simp only [size_alloc, size_setB, size_drew]; omega)) ?_ ))) (Ce.h (by first | assumption | exact ⟨rfl⟩)) ?_
    refine WO_guardT rfl rfl hb2.h ?_
    refine WO_p (PS_eql rfl rfl) ?_
    refine WO_p (PS_pickT rfl hb2.h rfl) ?_
    refine WO_nil ?_
    refine thn_normal ?_
    refine W_if rfl (fun hb4 => ?_) (fun hb4 => ?_)
    · have hb4p := hb4.h; try simp only [al_ete, al_dfn, Bool.not_eq_true', Bool.not_eq_false', al_ne, Bool.not_not, al_nn] at hb4p
      have htt := hb4p
      refine W_skip ?_
      refine thn_normal ?_
      refine W_block ?_
      refine W_region rfl ?_
      refine WO_p (PS_move_int rfl) ?_
      refine WO_p (PS_sub_i64n rfl rfl (by omega) (by omega)) ?_
      refine WO_p (PS_assign_int rfl) ?_
      refine WO_nil ?_
      refine inBlk_normal ?_
      refine thn_normal ?_
      exact ⟨k - 1, by omega, i - 1, by omega, by omega, fun j h1 h2 => by
        rcases Nat.lt_or_ge j i with h3 | h3
        · rw [show j = i - 1 by omega]; exact htt
        · exact hzz j h3 h2, ⟨rfl, congrArg (Value.int .i64) (by omega), trivial⟩, (by repeat (first | assumption | exact Ext.refl _ | refine Ext.alloc ?_ _ | refine Ext.drew ?_ | refine Ext.setB ?_ (by first | omega | (simp only [size_alloc, size_setB, size_drew]; omega)) _ | refine Ext.trans ?_ (by assumption)))⟩
    · have hb4p := hb4.h; try simp only [al_ete, al_dfn, Bool.not_eq_true', Bool.not_eq_false', al_ne, Bool.not_not, al_nn] at hb4p
      have htt := hb4p
      refine W_exit ?_
      refine thn_exit ?_
      refine thn_exit ?_
      refine inBlk_exit ?_
      refine thn_normal ?_
      refine W_seq ?_
      refine W_region rfl ?_
      refine WO_p (PS_move_slice rfl) ?_
      refine WO_p (PS_move_int rfl) ?_
      refine WO_p (PS_move_int rfl) ?_
      refine WO_p (PS_slS_hmA Hvac.runUnderlying92 Hvac.sizeOf5 rfl rfl rfl (by omega) (by omega) (by omega) (by omega)) ?_
      refine WO_p (PS_assign_slice rfl) ?_
      refine WO_nil ?_
      refine thn_normal ?_
      refine W_ret ?_
      refine bodyQ_ret1 Hvac.results86 rfl (.slice _ _ _) rfl ?_
      have hk := dg_trim hby (k := i) (by omega) (by rw [hln]; exact hzz) (by first | (left; omega) | (right; exact htt))
      have hk2 : sz (dv L) = i := by rw [← dg_len, ← hk, List.length_take]; omega
      rw [hk2]
      exact ⟨(by repeat (first | assumption | exact Ext.refl _ | refine Ext.alloc ?_ _ | refine Ext.drew ?_ | refine Ext.setB ?_ (by first | omega | (simp only [size_alloc, size_setB, size_drew]; omega)) _ | refine Ext.trans ?_ (by assumption))), rfl⟩
  · have hb2p := hb2.h; try simp only [al_ete, al_dfn, Bool.not_eq_true', Bool.not_eq_false', al_ne, Bool.not_not, al_nn] at hb2p
    refine WO_guardF rfl rfl hb2.h ?_
    refine WO_guardF rfl rfl hb2.h ?_
    refine WO_guardF rfl rfl hb2.h ?_
    refine WO_guardF rfl rfl hb2.h ?_
    refine WO_guardF rfl rfl hb2.h ?_
    refine WO_guardF rfl rfl hb2.h ?_
    refine WO_p (PS_pickF rfl hb2.h rfl) ?_
    refine WO_nil ?_
    refine thn_normal ?_
    refine W_condF rfl rfl ?_
    refine W_exit ?_
    refine thn_exit ?_
    refine thn_exit ?_
    refine inBlk_exit ?_
    refine thn_normal ?_
    refine W_seq ?_
    refine W_region rfl ?_
    refine WO_p (PS_move_slice rfl) ?_
    refine WO_p (PS_move_int rfl) ?_
    refine WO_p (PS_move_int rfl) ?_
    refine WO_p (PS_slS_hmA Hvac.runUnderlying92 Hvac.sizeOf5 rfl rfl rfl (by omega) (by omega) (by omega) (by omega)) ?_
    refine WO_p (PS_assign_slice rfl) ?_
    refine WO_nil ?_
    refine thn_normal ?_
    refine W_ret ?_
    refine bodyQ_ret1 Hvac.results86 rfl (.slice _ _ _) rfl ?_
    have hk := dg_trim hby (k := i) (by omega) (by rw [hln]; exact hzz) (by first | (left; omega) | (right; exact htt))
    have hk2 : sz (dv L) = i := by rw [← dg_len, ← hk, List.length_take]; omega
    rw [hk2]
    exact ⟨(by repeat (first | assumption | exact Ext.refl _ | refine Ext.alloc ?_ _ | refine Ext.drew ?_ | refine Ext.setB ?_ (by first | omega | (simp only [size_alloc, size_setB, size_drew]; omega)) _ | refine Ext.trans ?_ (by assumption))), rfl⟩

set_option maxRecDepth 10000 in
set_option maxHeartbeats 4000000 in
theorem clipX_spec [Om] (s : SV) (L : List Int) (w : World) (hs : PB w s L) (hm : s.2.1 ≤ 100000000) : Ret Hvac.prog 87 #[.slice s.1 s.2.1 s.2.2] w fun u w' => Ext w w' ∧ ∃ s' : SV, u = .slice s'.1 s'.2.1 s'.2.2 ∧ PB w' s' (dg (dv L)) := by
  obtain ⟨p, n, cp⟩ := s
  have hlc := hs.cap
  have hln := hs.len
  have hby := hs.by_
  dsimp only at hlc hln hby hm ⊢
  have htr := hs.ab.trim
  dsimp only at htr
  obtain ⟨htA, htl⟩ := htr
  
  refine Ret_of_W Hvac.func87 rfl rfl ?_
  refine W_seq ?_
  refine W_region rfl ?_
  refine WO_p (PS_assign_slice rfl) ?_
  refine WO_nil ?_
  refine thn_normal ?_
  refine W_seq ?_
  refine W_region rfl ?_
  refine WO_p (PS_move_slice rfl) ?_
  refine WO_call Hvac.call86 (by rfl) (Ret.mono (trimX_spec (p, n, cp) L _ (AB.ext hs.ab (by repeat (first | assumption | exact Ext.refl _ | refine Ext.alloc ?_ _ | refine Ext.drew ?_ | refine Ext.setB ?_ (by first | omega | (simp only [size_alloc, size_setB, size_drew]; omega)) _ | exact Ext.trans (by assumption) (by assumption) | refine Ext.trans ?_ (by assumption)))) (by dsimp only; omega)) ?_)
  rintro _ w1 ⟨hE1, rfl⟩
  dsimp only
  have hz1 := hE1.1
  refine WO_p (PS_assign_slice rfl) ?_
  refine WO_nil ?_
  refine thn_normal ?_
  refine W_seq ?_
  refine W_seq ?_
  refine W_region rfl ?_
  refine WO_p (PS_move_slice rfl) ?_
  refine WO_p (PS_lenS Hvac.runUnderlying92 rfl) ?_
  refine WO_p (PS_eql rfl rfl) ?_
  refine WO_nil ?_
  refine thn_normal ?_
  refine W_if rfl (fun hb3 => ?_) (fun hb3 => ?_)
  · have hb3p := hb3.h; try simp only [al_ete, al_dfn, Bool.not_eq_true', Bool.not_eq_false', al_ne, Bool.not_not, al_nn] at hb3p
    have hz0 : sz (dv L) = 0 := by omega
    refine W_seq ?_
    refine W_region rfl ?_
    refine WO_p (PS_assign_slice rfl) ?_
    refine WO_nil ?_
    refine thn_normal ?_
    refine W_ret ?_
    refine thn_ret ?_
    refine bodyQ_ret1 Hvac.results87 rfl (.slice _ _ _) rfl ?_
    first
    | (refine ⟨(by repeat (first | assumption | exact Ext.refl _ | refine Ext.alloc ?_ _ | refine Ext.drew ?_ | refine Ext.setB ?_ (by first | omega | (simp only [size_alloc, size_setB, size_drew]; omega)) _ | refine Ext.trans ?_ (by assumption))), (none, 0, 0), rfl, ?_⟩
       rw [sz_eq_zero hz0, dg_zero]; exact PB.nil _)
    | (refine ⟨(by repeat (first | assumption | exact Ext.refl _ | refine Ext.alloc ?_ _ | refine Ext.drew ?_ | refine Ext.setB ?_ (by first | omega | (simp only [size_alloc, size_setB, size_drew]; omega)) _ | refine Ext.trans ?_ (by assumption))), (p, sz (dv L), sz (dv L)), rfl, ⟨rfl, Nat.le_refl _, dg_by _, fun h0 => ?_⟩⟩
       replace h0 : 0 < sz (dv L) := h0
       obtain ⟨b', r', fz', hp', ho', hb', hrs', hX'⟩ := hs.row (by show 0 < n; omega)
       dsimp only at hp' hrs' hX'
       obtain ⟨b2, o2, r2, T2, fz2, hp2, hb2, hrs2, hX2⟩ := htA.row h0
       dsimp only at hp2 hrs2 hX2
       rw [hp'] at hp2
       injection hp2 with hp2
       injection hp2 with hpb hpo
       subst hpb; subst hpo
       have hrr := hb'.h.symm.trans hb2.h
       injection hrr with hrr
       injection hrr with hrr hT2 hfz
       subst hrr
       exact ⟨b', r', fz', hp', ho', hb'.ext (by repeat (first | assumption | exact Ext.refl _ | refine Ext.alloc ?_ _ | refine Ext.drew ?_ | refine Ext.setB ?_ (by first | omega | (simp only [size_alloc, size_setB, size_drew]; omega)) _ | refine Ext.trans ?_ (by assumption))), hrs2, hX2⟩)
  · have hb3p := hb3.h; try simp only [al_ete, al_dfn, Bool.not_eq_true', Bool.not_eq_false', al_ne, Bool.not_not, al_nn] at hb3p
    refine W_skip ?_
    refine thn_normal ?_
    refine W_seq ?_
    refine W_region rfl ?_
    refine WO_p (PS_move_slice rfl) ?_
    refine WO_p (PS_move_slice rfl) ?_
    refine WO_p (PS_lenS Hvac.runUnderlying92 rfl) ?_
    refine WO_p (PS_move_slice rfl) ?_
    refine WO_p (PS_lenS Hvac.runUnderlying92 rfl) ?_
    refine WO_p (PS_slS_hmA Hvac.runUnderlying92 Hvac.sizeOf5 rfl rfl rfl (by omega) (by omega) (by omega) (by omega)) ?_
    refine WO_p (PS_assign_slice rfl) ?_
    refine WO_nil ?_
    refine thn_normal ?_
    refine W_ret ?_
    refine bodyQ_ret1 Hvac.results87 rfl (.slice _ _ _) rfl ?_
    first
    | (refine ⟨(by repeat (first | assumption | exact Ext.refl _ | refine Ext.alloc ?_ _ | refine Ext.drew ?_ | refine Ext.setB ?_ (by first | omega | (simp only [size_alloc, size_setB, size_drew]; omega)) _ | refine Ext.trans ?_ (by assumption))), (none, 0, 0), rfl, ?_⟩
       rw [sz_eq_zero hz0, dg_zero]; exact PB.nil _)
    | (refine ⟨(by repeat (first | assumption | exact Ext.refl _ | refine Ext.alloc ?_ _ | refine Ext.drew ?_ | refine Ext.setB ?_ (by first | omega | (simp only [size_alloc, size_setB, size_drew]; omega)) _ | refine Ext.trans ?_ (by assumption))), (p, sz (dv L), sz (dv L)), rfl, ⟨rfl, Nat.le_refl _, dg_by _, fun h0 => ?_⟩⟩
       replace h0 : 0 < sz (dv L) := h0
       obtain ⟨b', r', fz', hp', ho', hb', hrs', hX'⟩ := hs.row (by show 0 < n; omega)
       dsimp only at hp' hrs' hX'
       obtain ⟨b2, o2, r2, T2, fz2, hp2, hb2, hrs2, hX2⟩ := htA.row h0
       dsimp only at hp2 hrs2 hX2
       rw [hp'] at hp2
       injection hp2 with hp2
       injection hp2 with hpb hpo
       subst hpb; subst hpo
       have hrr := hb'.h.symm.trans hb2.h
       injection hrr with hrr
       injection hrr with hrr hT2 hfz
       subst hrr
       exact ⟨b', r', fz', hp', ho', hb'.ext (by repeat (first | assumption | exact Ext.refl _ | refine Ext.alloc ?_ _ | refine Ext.drew ?_ | refine Ext.setB ?_ (by first | omega | (simp only [size_alloc, size_setB, size_drew]; omega)) _ | refine Ext.trans ?_ (by assumption))), hrs2, hX2⟩)

set_option maxRecDepth 10000 in
set_option maxHeartbeats 4000000 in
theorem normX_spec [Om] (s : SV) (L : List Int) (w : World) (hO : OmB w) (hs : AB w s L) (hm : s.2.1 ≤ 100000000) : Ret Hvac.prog 79 #[.slice s.1 s.2.1 s.2.2] w fun u w' => Ext w w' ∧ ∃ s' : SV, u = .slice s'.1 s'.2.1 s'.2.2 ∧ PB w' s' (dg (dv L)) := by
  obtain ⟨p, n, cp⟩ := s
  have hlc := hs.cap
  have hln := hs.len
  have hby := hs.by_
  dsimp only at hlc hln hby hm ⊢
  have htr := hs.trim
  dsimp only at htr
  obtain ⟨htA, htl⟩ := htr
  
  refine Ret_of_W Hvac.func79 rfl rfl ?_
  refine W_seq ?_
  refine W_region rfl ?_
  refine WO_p (PS_assign_slice rfl) ?_
  refine WO_nil ?_
  refine thn_normal ?_
  refine W_seq ?_
  refine W_region rfl ?_
  refine WO_p (PS_move_slice rfl) ?_
  refine WO_call Hvac.call86 (by rfl) (Ret.mono (trimX_spec (p, n, cp) L _ (AB.ext hs (by repeat (first | assumption | exact Ext.refl _ | refine Ext.alloc ?_ _ | refine Ext.drew ?_ | refine Ext.setB ?_ (by first | omega | (simp only [size_alloc, size_setB, size_drew]; omega)) _ | exact Ext.trans (by assumption) (by assumption) | refine Ext.trans ?_ (by assumption)))) (by dsimp only; omega)) ?_)
  rintro _ w1 ⟨hE1, rfl⟩
  dsimp only
  have hz1 := hE1.1
  refine WO_p (PS_assign_slice rfl) ?_
  refine WO_nil ?_
  refine thn_normal ?_
  refine W_seq ?_
  refine W_seq ?_
  refine W_region rfl ?_
  refine WO_p (PS_move_slice rfl) ?_
  refine WO_p (PS_lenS Hvac.runUnderlying92 rfl) ?_
  refine WO_p (PS_eql rfl rfl) ?_
  refine WO_nil ?_
  refine thn_normal ?_
  refine W_if rfl (fun hb3 => ?_) (fun hb3 => ?_)
  · have hb3p := hb3.h; try simp only [al_ete, al_dfn, Bool.not_eq_true', Bool.not_eq_false', al_ne, Bool.not_not, al_nn] at hb3p
    have hz0 : sz (dv L) = 0 := by omega
    refine W_seq ?_
    refine W_region rfl ?_
    refine WO_p (PS_assign_slice rfl) ?_
    refine WO_nil ?_
    refine thn_normal ?_
    refine W_ret ?_
    refine thn_ret ?_
    refine bodyQ_ret1 Hvac.results79 rfl (.slice _ _ _) rfl ?_
    first
    | (refine ⟨(by repeat (first | assumption | exact Ext.refl _ | refine Ext.alloc ?_ _ | refine Ext.drew ?_ | refine Ext.setB ?_ (by first | omega | (simp only [size_alloc, size_setB, size_drew]; omega)) _ | refine Ext.trans ?_ (by assumption))), (none, 0, 0), rfl, ?_⟩
       rw [sz_eq_zero hz0, dg_zero]; exact PB.nil _)
    | exact ⟨(by repeat (first | assumption | exact Ext.refl _ | refine Ext.alloc ?_ _ | refine Ext.drew ?_ | refine Ext.setB ?_ (by first | omega | (simp only [size_alloc, size_setB, size_drew]; omega)) _ | refine Ext.trans ?_ (by assumption))), (some ⟨_, 0, none⟩, sz (dv L), sz (dv L)), rfl, PB.newY (Hb.setSame (Hb.newY _ _)) ((hO.ext hE1).fresh (Nat.le_refl _)) (dg_by _) rfl⟩
  · have hb3p := hb3.h; try simp only [al_ete, al_dfn, Bool.not_eq_true', Bool.not_eq_false', al_ne, Bool.not_not, al_nn] at hb3p
    obtain ⟨b', o', r', T', fz', hp', hb', hrs', hX'⟩ := htA.row (by show 0 < sz (dv L); omega)
    dsimp only at hp' hrs' hX'
    subst hp'
    refine W_skip ?_
    refine thn_normal ?_
    refine W_seq ?_
    refine W_region rfl ?_
    refine WO_p (PS_move_slice rfl) ?_
    refine WO_p (PS_lenS Hvac.runUnderlying92 rfl) ?_
    refine WO_make (z := .int .u8 0) Hvac.underlying92 info5 rfl rfl rfl (by omega) (by omega) (by show (1:Int) * _ ≤ _; omega) (by omega) ?_
    rw [show (((sz (dv L)):Int)).toNat = (sz (dv L)) from Int.toNat_natCast _, show madeCells (Value.int IntKind.u8 0).cells ((sz (dv L)) * Hvac.t5.size) = ic .u8 (List.replicate (sz (dv L)) 0) from by rw [show Hvac.t5.size = 1 from rfl, Nat.mul_one]; exact made_ic .u8 _]
    refine WO_p (PS_assign_slice rfl) ?_
    refine WO_nil ?_
    refine thn_normal ?_
    refine W_seq ?_
    refine W_region rfl ?_
    refine WO_p (PS_move_slice rfl) ?_
    refine WO_p (PS_move_slice rfl) ?_
    refine WO_copy (sz (dv L)) (vs := ic .u8 (dg (dv L))) Hvac.runUnderlying92 Hvac.sizeOf5 rfl rfl (Hb.h (Hb.newY _ _)) (Hb.h (Hb.alloc (hb'.ext hE1))) (Nat.min_self _) (by rw [size_ic, List.length_replicate]; omega) (by omega) (by rw [Nat.mul_one]; exact hX'.h) oneCell_ic ?_
    rw [splice_whole rfl (by simp [ic, dg_len]), show (ic .u8 (dg (dv L))).toList.toArray = ic .u8 (dg (dv L)) from Array.toArray_toList]
    refine WO_nil ?_
    refine thn_normal ?_
    refine W_seq ?_
    refine W_region rfl ?_
    refine WO_p (PS_move_slice rfl) ?_
    refine WO_p (PS_assign_slice rfl) ?_
    refine WO_nil ?_
    refine thn_normal ?_
    refine W_ret ?_
    refine bodyQ_ret1 Hvac.results79 rfl (.slice _ _ _) rfl ?_
    first
    | (refine ⟨(by repeat (first | assumption | exact Ext.refl _ | refine Ext.alloc ?_ _ | refine Ext.drew ?_ | refine Ext.setB ?_ (by first | omega | (simp only [size_alloc, size_setB, size_drew]; omega)) _ | refine Ext.trans ?_ (by assumption))), (none, 0, 0), rfl, ?_⟩
       rw [sz_eq_zero hz0, dg_zero]; exact PB.nil _)
    | exact ⟨(by repeat (first | assumption | exact Ext.refl _ | refine Ext.alloc ?_ _ | refine Ext.drew ?_ | refine Ext.setB ?_ (by first | omega | (simp only [size_alloc, size_setB, size_drew]; omega)) _ | refine Ext.trans ?_ (by assumption))), (some ⟨_, 0, none⟩, sz (dv L), sz (dv L)), rfl, PB.newY (Hb.setSame (Hb.newY _ _)) ((hO.ext hE1).fresh (Nat.le_refl _)) (dg_by _) rfl⟩

end Go.Proofs.YgvacwGreat
