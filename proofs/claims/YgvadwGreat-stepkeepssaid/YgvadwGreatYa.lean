import Derived.Test.YgvadwGreatXf
import Derived.Test.YgvadwGreatFwO
import Derived.Test.YgvadwGreatVk
import Derived.Test.YgvadwGreatSa
namespace Go.Proofs.YgvadwGreat
set_option linter.unusedSimpArgs false
set_option linter.unusedVariables false
theorem PS_slS_hmA {P : Program} {ρ : Nat → Value} {t e : TypeId} {s n cp : Nat} {km kh : IntKind} {m h : Int} {x xh xm : Operand} {p : Option Addr} (hU : ∀ w, (underlying t).run P w = .ok (.slice e) w) (hS : ∀ w, (Go.sizeOf e).run P w = .ok s w) (hx : ev ρ x = .slice p n cp) (hm : ev ρ xm = .int km m) (hh : ev ρ xh = .int kh h) (hm0 : 0 ≤ m) (hm1 : m ≤ cp) (hh0 : 0 ≤ h) (hh1 : h ≤ m) : PS P (.slice t x none (some xh) (some xm)) ρ (.slice p h.toNat m.toNat) :=
  ⟨fun oo w hop => by
    have bm := fun code => bound_ok (P := P) (k := km) (code := code) w hm0 (show m ≤ ((cp : Nat) : Int) from hm1)
    have bh := fun code => bound_ok (P := P) (k := kh) (code := code) w hh0 (show h ≤ ((m.toNat : Nat) : Int) by omega)
    have hpp : p.map (fun a => a.add (0 * s)) = p := by cases p <;> simp [Addr.add]
    simp [execOp, hop, Instr.sliceAt, hU, hx, Instr.sliceBounds, hS, Instr.slice, hh, hm, bm, bh]
    try (cases p <;> simp [Addr.add])
    done⟩
theorem run_copy_z {P : Program} {w : World} {e ty : TypeId} {dT sT : TypeId} {dl dc sc sz : Nat} {p q : Option Addr} (hU : ∀ w, (underlying dT).run P w = .ok (.slice e) w) (hS : ∀ w, (Go.sizeOf e).run P w = .ok sz w) :
    (Builtin.copy_ #[dT, sT] ty #[.slice p dl dc, .slice q 0 sc]).run P w = .ok (goInt 0) w := by
  have h0 : Nat.min 0 dl = 0 := Nat.zero_min dl
  simp only [Builtin.copy_, Builtin.lenOf, Builtin.firstCells, Sem.run_bind, Sem.run_pure, Result.andThen_ok, hU, hS, h0]
  cases p <;> cases q <;> simp only [List.getElem?_toArray, List.getElem?_cons_zero, List.getElem?_cons_succ, Sem.run_bind, Sem.run_pure, Result.andThen_ok, hU, hS, h0, storeCells, Nat.zero_mul, loadCells, loadCellsFrom] <;> rfl
section
variable {P : Program} {ops : Array Oper} {Q : Post} {ty e : TypeId} {pos : String} {af : Array Edge} {os : List Oper} {ρ : Nat → Value} {w : World} {x y : Operand} {dd : Option Nat} {dT sT : TypeId}
theorem WO_copyZ {dl dc sc sz : Nat} {p q : Option Addr} (hU : ∀ w, (underlying dT).run P w = .ok (.slice e) w) (hS : ∀ w, (Go.sizeOf e).run P w = .ok sz w) (hx : ev ρ x = .slice p dl dc) (hy : ev ρ y = .slice q 0 sc)
    (h : WO P ops Q os (updo ρ dd (Value.int .i64 0)) w) : WO P ops Q (⟨dd, .call ⟨.builtin .copy, #[x, y], #[dT, sT]⟩, ty, pos, af, none⟩ :: os) ρ w := by
  refine WO_cons ?_
  have hrun := run_copy_z (P := P) (w := w) (ty := ty) (sT := sT) (dl := dl) (dc := dc) (sc := sc) (p := p) (q := q) hU hS
  have e1 : Array.map (ev ρ) #[x, y] = #[.slice p dl dc, .slice q 0 sc] := by simp [hx, hy]
  simp only [stepo, execOp, resolve, invoke, builtin, e1, hrun, Sem.run_bind, Sem.run_pure, Result.andThen_ok]; exact h
end
theorem WO_gen4 {P : Program} {ops : Array Oper} {Q : Post} {os : List Oper} {ρ : Nat → Value} {w : World} (h : ∀ w', w' = w → WO P ops Q os ρ w') : WO P ops Q os ρ w := h w rfl
/-- a natural of the specification: bytes in a block, at most m of them -/
structure NS (T : TypeId) (w : World) (s : SV) (m : Nat) : Prop where
  lm : s.2.1 ≤ m
  lc : s.2.1 ≤ s.2.2
  row : 0 < s.2.2 → ∃ b L fz, s.1 = some ⟨b, 0, none⟩ ∧ Hb w b (.cells (ic .u8 L) T fz) ∧ (∀ x ∈ L, 0 ≤ x ∧ x ≤ 255) ∧ s.2.2 ≤ L.length
theorem NS.ext {T : TypeId} {w w' : World} {s : SV} {m : Nat} (h : NS T w s m) (he : Ext w w') : NS T w' s m :=
  { h with row := fun h0 => by obtain ⟨b, L, fz, h1, h2, h3⟩ := h.row h0; exact ⟨b, L, fz, h1, h2.ext he, h3⟩ }
theorem NS.kt {T : TypeId} {w w' : World} {s : SV} {m : Nat} (h : NS T w s m) (he : KT T w w') : NS T w' s m :=
  { h with row := fun h0 => by obtain ⟨b, L, fz, h1, h2, h3⟩ := h.row h0; exact ⟨b, L, fz, h1, he _ _ _ h2, h3⟩ }
theorem NS.mono {T : TypeId} {w : World} {s : SV} {m m' : Nat} (h : NS T w s m) (hm : m ≤ m') : NS T w s m' := { h with lm := Nat.le_trans h.lm hm }
theorem NS.nil (T : TypeId) (w : World) (m : Nat) : NS T w (none, 0, 0) m := ⟨Nat.zero_le _, Nat.le_refl _, fun h => absurd h (Nat.lt_irrefl 0)⟩

set_option maxRecDepth 10000 in
set_option maxHeartbeats 4000000 in
theorem trim_spec (T : TypeId) (s : SV) (m : Nat) (w : World) (hs : NS T w s m) (hm : m ≤ 1000) : Ret Hvad.prog 59 #[.slice s.1 s.2.1 s.2.2] w fun u w' => Ext w w' ∧ ∃ s' : SV, u = .slice s'.1 s'.2.1 s'.2.2 ∧ NS T w' s' m ∧ s'.2.1 = s'.2.2 := by
  obtain ⟨p, n, cp⟩ := s
  have hlm := hs.lm
  have hlc := hs.lc
  dsimp only at hlm hlc ⊢
  refine Ret_of_W Hvad.func59 rfl rfl ?_
  refine W_seq ?_
  refine W_region rfl ?_
  refine WO_p (PS_assign_slice rfl) ?_
  refine WO_nil ?_
  refine thn_normal ?_
  refine W_seq ?_
  refine W_region rfl ?_
  refine WO_p (PS_move_slice rfl) ?_
  refine WO_p (PS_lenS Hvad.runUnderlying95 rfl) ?_
  refine WO_p (PS_assign_int rfl) ?_
  refine WO_nil ?_
  refine thn_normal ?_
  refine W_seq ?_
  refine W_block ?_
  refine W_loopN (fun k ρ w' => ∃ (i : Nat), i = k ∧ i ≤ n ∧ Fr [(0, .slice p n cp), (3, .int .i64 i)] ρ ∧ Ext w w') n ?_ ?_
  · exact ⟨n, rfl, by omega, ⟨rfl, rfl, trivial⟩, (by repeat (first | assumption | exact Ext.refl _ | refine Ext.alloc ?_ _ | refine Ext.drew ?_ | refine Ext.setB ?_ (by first | omega | (simp only [size_alloc, size_setB, size_drew]; omega)) _ | refine Ext.trans ?_ (by assumption)))⟩
  intro k ρ w2 hI2
  obtain ⟨i, hik, hin, hFr, hE2⟩ := hI2
  refine W_env _ hFr ?_
  have hz2 := hE2.1
  refine W_seq ?_
  refine W_seq ?_
  refine W_region rfl ?_
  refine WO_p (PS_move_int rfl) ?_
  refine WO_p (PS_gtr rfl rfl) ?_
  refine WO_p (PS_move_bool rfl) ?_
  refine WO_if (t := 8) rfl (fun hb2 => ?_) (fun hb2 => ?_)
  · have hb2p := hb2.h; try simp only [al_ete, al_dfn, Bool.not_eq_true', Bool.not_eq_false', al_ne, Bool.not_not, al_nn] at hb2p
    obtain ⟨b, L, fz, hp, hb, hby, hll⟩ := hs.row (by show 0 < cp; omega)
    dsimp only at hp hll
    subst hp
    have hj1 : ((i : Int) - 1).toNat = i - 1 := by omega
    have hce : Ce (ic .u8 L) (0 + ((i : Int) - 1).toNat * 1) (.int .u8 (L.getD (i - 1) 0)) := by rw [hj1]; exact ce_ic (by omega)
    have hbb := Hb.ext hE2 hb
    refine WO_guardT rfl rfl hb2.h ?_
    refine WO_p (PS_move_slice rfl) ?_
    refine WO_guardT rfl rfl hb2.h ?_
    refine WO_p (PS_move_int rfl) ?_
    refine WO_guardT rfl rfl hb2.h ?_
    refine WO_p (PS_sub_i64n rfl rfl (by omega) (by omega)) ?_
    refine WO_guardT rfl rfl hb2.h ?_
    refine WO_p (PS_indexS Hvad.runUnderlying95 Hvad.sizeOf5 rfl rfl (by omega) (by omega)) ?_
    refine WO_guardT rfl rfl hb2.h ?_
    refine WO_load (.int _ _) Hvad.isAgg5 rfl (Hb.h (by repeat (first | assumption | exact Hb.newY _ _ | refine Hb.alloc ?_ | refine Hb.drew ?_ | refine Hb.ext (by assumption) ?_ | exact Hb.setSameL (by first | omega | (simp only [size_alloc, size_setB, size_drew]; omega)) | exact Hb.setSame (by assumption) | refine Hb.set (by first | omega | (simp only [size_alloc, size_setB, size_drew]; omega)) ?_ ))) (Ce.h (by first | assumption | exact ⟨rfl⟩)) ?_
    refine WO_guardT rfl rfl hb2.h ?_
    refine WO_p (PS_eql rfl rfl) ?_
    refine WO_p (PS_pickT rfl hb2.h rfl) ?_
    refine WO_nil ?_
    refine thn_normal ?_
    refine W_if rfl (fun hb4 => ?_) (fun hb4 => ?_)
    · have hb4p := hb4.h; try simp only [al_ete, al_dfn, Bool.not_eq_true', Bool.not_eq_false', al_ne, Bool.not_not, al_nn] at hb4p
      refine W_skip ?_
      refine thn_normal ?_
      refine W_block ?_
      refine W_region rfl ?_
      refine WO_p (PS_move_int rfl) ?_
      refine WO_p (PS_sub_i64n rfl rfl (by omega) (by omega)) ?_
      refine WO_p (PS_assign_int rfl) ?_
      refine WO_nil ?_
      refine inBlk_normal ?_
      refine thn_normal ?_
      exact ⟨k - 1, by omega, i - 1, by omega, by omega, ⟨rfl, congrArg (Value.int .i64) (by omega), trivial⟩, (by repeat (first | assumption | exact Ext.refl _ | refine Ext.alloc ?_ _ | refine Ext.drew ?_ | refine Ext.setB ?_ (by first | omega | (simp only [size_alloc, size_setB, size_drew]; omega)) _ | refine Ext.trans ?_ (by assumption)))⟩
    · have hb4p := hb4.h; try simp only [al_ete, al_dfn, Bool.not_eq_true', Bool.not_eq_false', al_ne, Bool.not_not, al_nn] at hb4p
      refine W_exit ?_
      refine thn_exit ?_
      refine thn_exit ?_
      refine inBlk_exit ?_
      refine thn_normal ?_
      refine W_seq ?_
      refine W_region rfl ?_
      refine WO_p (PS_move_slice rfl) ?_
      refine WO_p (PS_move_int rfl) ?_
      refine WO_p (PS_move_int rfl) ?_
      refine WO_p (PS_slS_hmA Hvad.runUnderlying95 Hvad.sizeOf5 rfl rfl rfl (by omega) (by omega) (by omega) (by omega)) ?_
      refine WO_p (PS_assign_slice rfl) ?_
      refine WO_nil ?_
      refine thn_normal ?_
      refine W_ret ?_
      refine bodyQ_ret1 Hvad.results59 rfl (.slice _ _ _) rfl ?_
      refine ⟨(by repeat (first | assumption | exact Ext.refl _ | refine Ext.alloc ?_ _ | refine Ext.drew ?_ | refine Ext.setB ?_ (by first | omega | (simp only [size_alloc, size_setB, size_drew]; omega)) _ | refine Ext.trans ?_ (by assumption))), (_, i, i), rfl, ⟨by show i ≤ m; omega, Nat.le_refl _, fun h0 => ?_⟩, rfl⟩
      replace h0 : 0 < i := h0
      obtain ⟨b', L', fz', hp', hb', hby', hll'⟩ := hs.row (by show 0 < cp; omega)
      dsimp only at hll'
      exact ⟨b', L', fz', hp', Hb.ext (by repeat (first | assumption | exact Ext.refl _ | refine Ext.alloc ?_ _ | refine Ext.drew ?_ | refine Ext.setB ?_ (by first | omega | (simp only [size_alloc, size_setB, size_drew]; omega)) _ | refine Ext.trans ?_ (by assumption))) hb', hby', by show i ≤ L'.length; omega⟩
  · have hb2p := hb2.h; try simp only [al_ete, al_dfn, Bool.not_eq_true', Bool.not_eq_false', al_ne, Bool.not_not, al_nn] at hb2p
    refine WO_guardF rfl rfl hb2.h ?_
    refine WO_guardF rfl rfl hb2.h ?_
    refine WO_guardF rfl rfl hb2.h ?_
    refine WO_guardF rfl rfl hb2.h ?_
    refine WO_guardF rfl rfl hb2.h ?_
    refine WO_guardF rfl rfl hb2.h ?_
    refine WO_p (PS_pickF rfl hb2.h rfl) ?_
    refine WO_nil ?_
    refine thn_normal ?_
    refine W_condF rfl rfl ?_
    refine W_exit ?_
    refine thn_exit ?_
    refine thn_exit ?_
    refine inBlk_exit ?_
    refine thn_normal ?_
    refine W_seq ?_
    refine W_region rfl ?_
    refine WO_p (PS_move_slice rfl) ?_
    refine WO_p (PS_move_int rfl) ?_
    refine WO_p (PS_move_int rfl) ?_
    refine WO_p (PS_slS_hmA Hvad.runUnderlying95 Hvad.sizeOf5 rfl rfl rfl (by omega) (by omega) (by omega) (by omega)) ?_
    refine WO_p (PS_assign_slice rfl) ?_
    refine WO_nil ?_
    refine thn_normal ?_
    refine W_ret ?_
    refine bodyQ_ret1 Hvad.results59 rfl (.slice _ _ _) rfl ?_
    refine ⟨(by repeat (first | assumption | exact Ext.refl _ | refine Ext.alloc ?_ _ | refine Ext.drew ?_ | refine Ext.setB ?_ (by first | omega | (simp only [size_alloc, size_setB, size_drew]; omega)) _ | refine Ext.trans ?_ (by assumption))), (_, i, i), rfl, ⟨by show i ≤ m; omega, Nat.le_refl _, fun h0 => ?_⟩, rfl⟩
    replace h0 : 0 < i := h0
    obtain ⟨b', L', fz', hp', hb', hby', hll'⟩ := hs.row (by show 0 < cp; omega)
    dsimp only at hll'
    exact ⟨b', L', fz', hp', Hb.ext (by repeat (first | assumption | exact Ext.refl _ | refine Ext.alloc ?_ _ | refine Ext.drew ?_ | refine Ext.setB ?_ (by first | omega | (simp only [size_alloc, size_setB, size_drew]; omega)) _ | refine Ext.trans ?_ (by assumption))) hb', hby', by show i ≤ L'.length; omega⟩

set_option maxRecDepth 10000 in
set_option maxHeartbeats 4000000 in
theorem clip_spec (T : TypeId) (s : SV) (m : Nat) (w : World) (hs : NS T w s m) (hm : m ≤ 1000) : Ret Hvad.prog 60 #[.slice s.1 s.2.1 s.2.2] w fun u w' => Ext w w' ∧ ∃ s' : SV, u = .slice s'.1 s'.2.1 s'.2.2 ∧ NS T w' s' (m) := by
  obtain ⟨p, n, cp⟩ := s
  have hlm := hs.lm
  have hlc := hs.lc
  dsimp only at hlm hlc ⊢
  
  refine Ret_of_W Hvad.func60 rfl rfl ?_
  refine W_seq ?_
  refine W_region rfl ?_
  refine WO_p (PS_assign_slice rfl) ?_
  refine WO_nil ?_
  refine thn_normal ?_
  refine W_seq ?_
  refine W_region rfl ?_
  refine WO_p (PS_move_slice rfl) ?_
  refine WO_call Hvad.call59 (by rfl) (Ret.mono (trim_spec T (p, n, cp) m _ (NS.ext hs (by repeat (first | assumption | exact Ext.refl _ | refine Ext.alloc ?_ _ | refine Ext.drew ?_ | refine Ext.setB ?_ (by first | omega | (simp only [size_alloc, size_setB, size_drew]; omega)) _ | exact Ext.trans (by assumption) (by assumption) | refine Ext.trans ?_ (by assumption)))) hm) ?_)
  rintro _ w1 ⟨hE1, ⟨p1, n1, c1⟩, rfl, hs1, hc1⟩
  dsimp only
  have hlm1 := hs1.lm
  have hlc1 := hs1.lc
  have hz1 := hE1.1
  dsimp only at hlm1 hlc1 hc1
  refine WO_p (PS_assign_slice rfl) ?_
  refine WO_nil ?_
  refine thn_normal ?_
  refine W_seq ?_
  refine W_seq ?_
  refine W_region rfl ?_
  refine WO_p (PS_move_slice rfl) ?_
  refine WO_p (PS_lenS Hvad.runUnderlying95 rfl) ?_
  refine WO_p (PS_eql rfl rfl) ?_
  refine WO_nil ?_
  refine thn_normal ?_
  refine W_if rfl (fun hb3 => ?_) (fun hb3 => ?_)
  · have hb3p := hb3.h; try simp only [al_ete, al_dfn, Bool.not_eq_true', Bool.not_eq_false', al_ne, Bool.not_not, al_nn] at hb3p
    refine W_seq ?_
    refine W_region rfl ?_
    refine WO_p (PS_assign_slice rfl) ?_
    refine WO_nil ?_
    refine thn_normal ?_
    refine W_ret ?_
    refine thn_ret ?_
    refine bodyQ_ret1 Hvad.results60 rfl (.slice _ _ _) rfl ?_
    first
    | exact ⟨(by repeat (first | assumption | exact Ext.refl _ | refine Ext.alloc ?_ _ | refine Ext.drew ?_ | refine Ext.setB ?_ (by first | omega | (simp only [size_alloc, size_setB, size_drew]; omega)) _ | refine Ext.trans ?_ (by assumption))), (none, 0, 0), rfl, NS.nil _ _ _⟩
    | (refine ⟨(by repeat (first | assumption | exact Ext.refl _ | refine Ext.alloc ?_ _ | refine Ext.drew ?_ | refine Ext.setB ?_ (by first | omega | (simp only [size_alloc, size_setB, size_drew]; omega)) _ | refine Ext.trans ?_ (by assumption))), (p1, n1, n1), rfl, ⟨by show n1 ≤ m; omega, Nat.le_refl _, fun h0 => ?_⟩⟩
       replace h0 : 0 < n1 := h0
       obtain ⟨b', L', fz', hp', hb', hby', hll'⟩ := hs1.row (by show 0 < c1; omega)
       dsimp only at hll'
       exact ⟨b', L', fz', hp', hb', hby', by show n1 ≤ L'.length; omega⟩)
  · have hb3p := hb3.h; try simp only [al_ete, al_dfn, Bool.not_eq_true', Bool.not_eq_false', al_ne, Bool.not_not, al_nn] at hb3p
    refine W_skip ?_
    refine thn_normal ?_
    refine W_seq ?_
    refine W_region rfl ?_
    refine WO_p (PS_move_slice rfl) ?_
    refine WO_p (PS_move_slice rfl) ?_
    refine WO_p (PS_lenS Hvad.runUnderlying95 rfl) ?_
    refine WO_p (PS_move_slice rfl) ?_
    refine WO_p (PS_lenS Hvad.runUnderlying95 rfl) ?_
    refine WO_p (PS_slS_hmA Hvad.runUnderlying95 Hvad.sizeOf5 rfl rfl rfl (by omega) (by omega) (by omega) (by omega)) ?_
    refine WO_p (PS_assign_slice rfl) ?_
    refine WO_nil ?_
    refine thn_normal ?_
    refine W_ret ?_
    refine bodyQ_ret1 Hvad.results60 rfl (.slice _ _ _) rfl ?_
    first
    | exact ⟨(by repeat (first | assumption | exact Ext.refl _ | refine Ext.alloc ?_ _ | refine Ext.drew ?_ | refine Ext.setB ?_ (by first | omega | (simp only [size_alloc, size_setB, size_drew]; omega)) _ | refine Ext.trans ?_ (by assumption))), (none, 0, 0), rfl, NS.nil _ _ _⟩
    | (refine ⟨(by repeat (first | assumption | exact Ext.refl _ | refine Ext.alloc ?_ _ | refine Ext.drew ?_ | refine Ext.setB ?_ (by first | omega | (simp only [size_alloc, size_setB, size_drew]; omega)) _ | refine Ext.trans ?_ (by assumption))), (p1, n1, n1), rfl, ⟨by show n1 ≤ m; omega, Nat.le_refl _, fun h0 => ?_⟩⟩
       replace h0 : 0 < n1 := h0
       obtain ⟨b', L', fz', hp', hb', hby', hll'⟩ := hs1.row (by show 0 < c1; omega)
       dsimp only at hll'
       exact ⟨b', L', fz', hp', hb', hby', by show n1 ≤ L'.length; omega⟩)

set_option maxRecDepth 10000 in
set_option maxHeartbeats 4000000 in
theorem norm_spec (T : TypeId) (s : SV) (m : Nat) (w : World) (hs : NS T w s m) (hm : m ≤ 1000) : Ret Hvad.prog 116 #[.slice s.1 s.2.1 s.2.2] w fun u w' => Ext w w' ∧ ∃ s' : SV, u = .slice s'.1 s'.2.1 s'.2.2 ∧ NS 5 w' s' (m) := by
  obtain ⟨p, n, cp⟩ := s
  have hlm := hs.lm
  have hlc := hs.lc
  dsimp only at hlm hlc ⊢
  
  refine Ret_of_W Hvad.func116 rfl rfl ?_
  refine W_seq ?_
  refine W_region rfl ?_
  refine WO_p (PS_assign_slice rfl) ?_
  refine WO_nil ?_
  refine thn_normal ?_
  refine W_seq ?_
  refine W_region rfl ?_
  refine WO_p (PS_move_slice rfl) ?_
  refine WO_call Hvad.call59 (by rfl) (Ret.mono (trim_spec T (p, n, cp) m _ (NS.ext hs (by repeat (first | assumption | exact Ext.refl _ | refine Ext.alloc ?_ _ | refine Ext.drew ?_ | refine Ext.setB ?_ (by first | omega | (simp only [size_alloc, size_setB, size_drew]; omega)) _ | exact Ext.trans (by assumption) (by assumption) | refine Ext.trans ?_ (by assumption)))) hm) ?_)
  rintro _ w1 ⟨hE1, ⟨p1, n1, c1⟩, rfl, hs1, hc1⟩
  dsimp only
  have hlm1 := hs1.lm
  have hlc1 := hs1.lc
  have hz1 := hE1.1
  dsimp only at hlm1 hlc1 hc1
  refine WO_p (PS_assign_slice rfl) ?_
  refine WO_nil ?_
  refine thn_normal ?_
  refine W_seq ?_
  refine W_seq ?_
  refine W_region rfl ?_
  refine WO_p (PS_move_slice rfl) ?_
  refine WO_p (PS_lenS Hvad.runUnderlying95 rfl) ?_
  refine WO_p (PS_eql rfl rfl) ?_
  refine WO_nil ?_
  refine thn_normal ?_
  refine W_if rfl (fun hb3 => ?_) (fun hb3 => ?_)
  · have hb3p := hb3.h; try simp only [al_ete, al_dfn, Bool.not_eq_true', Bool.not_eq_false', al_ne, Bool.not_not, al_nn] at hb3p
    refine W_seq ?_
    refine W_region rfl ?_
    refine WO_p (PS_assign_slice rfl) ?_
    refine WO_nil ?_
    refine thn_normal ?_
    refine W_ret ?_
    refine thn_ret ?_
    refine bodyQ_ret1 Hvad.results116 rfl (.slice _ _ _) rfl ?_
    first
    | exact ⟨(by repeat (first | assumption | exact Ext.refl _ | refine Ext.alloc ?_ _ | refine Ext.drew ?_ | refine Ext.setB ?_ (by first | omega | (simp only [size_alloc, size_setB, size_drew]; omega)) _ | refine Ext.trans ?_ (by assumption))), (none, 0, 0), rfl, NS.nil _ _ _⟩
    | (refine ⟨(by repeat (first | assumption | exact Ext.refl _ | refine Ext.alloc ?_ _ | refine Ext.drew ?_ | refine Ext.setB ?_ (by first | omega | (simp only [size_alloc, size_setB, size_drew]; omega)) _ | refine Ext.trans ?_ (by assumption))), (some ⟨_, 0, none⟩, n1, n1), rfl, ⟨by show n1 ≤ m; omega, Nat.le_refl _, fun _ => ⟨_, (L'.drop 0).take (n1 * 1), (0, 0), rfl, Hb.setSame (Hb.newY _ _), ?_, ?_⟩⟩⟩
       · rw [Nat.mul_one]; exact hby2
       · show n1 ≤ _; simp; omega)
  · have hb3p := hb3.h; try simp only [al_ete, al_dfn, Bool.not_eq_true', Bool.not_eq_false', al_ne, Bool.not_not, al_nn] at hb3p
    obtain ⟨b', L', fz', hp', hb', hby', hll'⟩ := hs1.row (by show 0 < c1; omega)
    dsimp only at hll' hp'
    subst hp'
    have hby2 : ∀ x ∈ (L'.drop 0).take n1, 0 ≤ x ∧ x ≤ 255 := fun x hx => hby' x (List.mem_of_mem_drop (List.mem_of_mem_take hx))
    refine W_skip ?_
    refine thn_normal ?_
    refine W_seq ?_
    refine W_region rfl ?_
    refine WO_p (PS_move_slice rfl) ?_
    refine WO_p (PS_lenS Hvad.runUnderlying95 rfl) ?_
    refine WO_make (z := .int .u8 0) Hvad.underlying95 info5 rfl rfl rfl (by omega) (by omega) (by show (1:Int) * _ ≤ _; omega) (by omega) ?_
    rw [show ((n1:Int)).toNat = n1 from Int.toNat_natCast n1, show madeCells (Value.int IntKind.u8 0).cells (n1 * Hvad.t5.size) = ic .u8 (List.replicate n1 0) from by rw [show Hvad.t5.size = 1 from rfl, Nat.mul_one]; exact made_ic .u8 n1]
    refine WO_p (PS_assign_slice rfl) ?_
    refine WO_nil ?_
    refine thn_normal ?_
    refine W_seq ?_
    refine W_region rfl ?_
    refine WO_p (PS_move_slice rfl) ?_
    refine WO_p (PS_move_slice rfl) ?_
    refine WO_copy n1 Hvad.runUnderlying95 Hvad.sizeOf5 rfl rfl (Hb.h (Hb.newY _ _)) (Hb.h (Hb.alloc hb')) (Nat.min_self n1) (by rw [size_ic, List.length_replicate]; omega) (by rw [size_ic]; omega) (Xt.ic .u8 L' 0 (n1 * 1) (by omega)).h oneCell_ic ?_
    rw [splice_whole rfl (by simp [ic]; omega), show (ic .u8 ((L'.drop 0).take (n1 * 1))).toList.toArray = ic .u8 ((L'.drop 0).take (n1 * 1)) from Array.toArray_toList]
    refine WO_nil ?_
    refine thn_normal ?_
    refine W_seq ?_
    refine W_region rfl ?_
    refine WO_p (PS_move_slice rfl) ?_
    refine WO_p (PS_assign_slice rfl) ?_
    refine WO_nil ?_
    refine thn_normal ?_
    refine W_ret ?_
    refine bodyQ_ret1 Hvad.results116 rfl (.slice _ _ _) rfl ?_
    first
    | exact ⟨(by repeat (first | assumption | exact Ext.refl _ | refine Ext.alloc ?_ _ | refine Ext.drew ?_ | refine Ext.setB ?_ (by first | omega | (simp only [size_alloc, size_setB, size_drew]; omega)) _ | refine Ext.trans ?_ (by assumption))), (none, 0, 0), rfl, NS.nil _ _ _⟩
    | (refine ⟨(by repeat (first | assumption | exact Ext.refl _ | refine Ext.alloc ?_ _ | refine Ext.drew ?_ | refine Ext.setB ?_ (by first | omega | (simp only [size_alloc, size_setB, size_drew]; omega)) _ | refine Ext.trans ?_ (by assumption))), (some ⟨_, 0, none⟩, n1, n1), rfl, ⟨by show n1 ≤ m; omega, Nat.le_refl _, fun _ => ⟨_, (L'.drop 0).take (n1 * 1), (0, 0), rfl, Hb.setSame (Hb.newY _ _), ?_, ?_⟩⟩⟩
       · rw [Nat.mul_one]; exact hby2
       · show n1 ≤ _; simp; omega)

set_option maxRecDepth 10000 in
set_option maxHeartbeats 4000000 in
theorem fromU64_spec (a : Int) (w : World) (ha : 0 ≤ a ∧ a ≤ 18446744073709551615) : Ret Hvad.prog 58 #[.int .u64 a] w fun u w' => Ext w w' ∧ ∃ s' : SV, u = .slice s'.1 s'.2.1 s'.2.2 ∧ NS 5 w' s' (8) := by
  refine Ret_of_W Hvad.func58 rfl rfl ?_
  refine W_seq ?_
  refine W_region rfl ?_
  refine WO_p (PS_assign_slice rfl) ?_
  refine WO_nil ?_
  refine thn_normal ?_
  refine W_seq ?_
  refine W_region rfl ?_
  refine WO_allocG Hvad.zeroValue189 ?_
  intro b3 v3 hg3 hE3 hH3 hl3
  try simp only [size_alloc, size_setB, size_drew] at hg3
  have hzz3 := hE3.1
  try simp only [size_alloc, size_setB, size_drew] at hzz3
  replace hH3 : Hb v3 b3 (.cells (ic .u8 (List.replicate 8 0)) 189 (0, 0)) := hH3
  refine WO_nil ?_
  refine thn_normal ?_
  refine W_seq ?_
  refine W_seq ?_
  refine W_region rfl ?_
  refine WO_p (PS_move_int rfl) ?_
  refine WO_nil ?_
  refine thn_normal ?_
  refine W_block ?_
  refine W_loopN (fun k ρ w' => ∃ (i : Nat) (L : List Int) (a2 : Int), i + k = 8 ∧ By L 8 ∧ (0 ≤ a2 ∧ a2 ≤ 18446744073709551615) ∧ Fr [(0, .int .u64 a2), (3, .pointer (some ⟨b3, 0, none⟩)), (5, .int .i64 i)] ρ ∧ Ext w w' ∧ Hb w' b3 (.cells (ic .u8 L) 189 (0, 0))) 8 ?_ ?_
  · exact ⟨0, List.replicate 8 0, a, by omega, ⟨rfl, by decide⟩, ha, ⟨rfl, rfl, rfl, trivial⟩, (by repeat (first | assumption | exact Ext.refl _ | refine Ext.alloc ?_ _ | refine Ext.drew ?_ | refine Ext.setB ?_ (by first | omega | (simp only [size_alloc, size_setB, size_drew]; omega)) _ | refine Ext.trans ?_ (by assumption))), hH3⟩
  intro k ρ w2 hI2
  obtain ⟨i, L, a2, hik, hL, ha2, hFr, hE2, hb3⟩ := hI2
  refine W_env _ hFr ?_
  have hz2 := hE2.1
  refine W_seq ?_
  refine W_region rfl ?_
  refine WO_p (PS_lss rfl rfl) ?_
  refine WO_nil ?_
  refine thn_normal ?_
  refine W_seq ?_
  refine W_if rfl (fun hb2 => ?_) (fun hb2 => ?_)
  · have hb2p := hb2.h; try simp only [al_ete, al_dfn, Bool.not_eq_true', Bool.not_eq_false', al_ne, Bool.not_not, al_nn] at hb2p
    refine W_skip ?_
    refine thn_normal ?_
    refine W_seq ?_
    refine W_block ?_
    refine W_seq ?_
    refine W_region rfl ?_
    refine WO_p (PS_move_int rfl) ?_
    refine WO_p (PS_assign_int rfl) ?_
    refine WO_nil ?_
    refine thn_normal ?_
    refine W_seq ?_
    refine W_region rfl ?_
    refine WO_p (PS_move_int rfl) ?_
    refine WO_p (PS_move_int rfl) ?_
    refine WO_p (PS_conv_u8w Hvad.runUnderlying26 Hvad.runUnderlying5 rfl) ?_
    refine WO_p (PS_indexA Hvad.runUnderlying189 Hvad.sizeOf5 rfl rfl (by omega) (by omega)) ?_
    refine WO_store1 Hvad.sizeOf5 rfl (v := .int _ _) rfl (Hb.h (by repeat (first | assumption | exact Hb.newY _ _ | refine Hb.alloc ?_ | refine Hb.drew ?_ | refine Hb.ext (by assumption) ?_ | exact Hb.setSameL (by first | omega | (simp only [size_alloc, size_setB, size_drew]; omega)) | exact Hb.setSame (by assumption) | refine Hb.set (by first | omega | (simp only [size_alloc, size_setB, size_drew]; omega)) ?_ ))) rfl (by rw [size_ic, hL.1]; omega) rfl ?_
    rw [show ((i : Int)).toNat = i from Int.toNat_natCast i, ic_set]
    have hL4 : By (L.set i (a2 % 256)) 8 := by
      refine ⟨by rw [List.length_set]; exact hL.1, fun x hx => ?_⟩
      rcases List.mem_or_eq_of_mem_set hx with hx | rfl
      · exact hL.2 x hx
      · omega
    refine WO_nil ?_
    refine thn_normal ?_
    refine W_region rfl ?_
    refine WO_p (PS_move_int rfl) ?_
    refine WO_p (PS_shr_u64 8 rfl rfl (by decide) rfl) ?_
    refine WO_p (PS_assign_int rfl) ?_
    refine WO_nil ?_
    refine inBlk_normal ?_
    refine thn_normal ?_
    refine W_region rfl ?_
    refine WO_p (PS_add_i64n rfl rfl (by omega) (by omega)) ?_
    refine WO_p (PS_move_int rfl) ?_
    refine WO_nil ?_
    refine thn_normal ?_
    exact ⟨k - 1, by omega, i + 1, _, a2 / 2 ^ 8, by omega, hL4, by omega, ⟨rfl, rfl, congrArg (Value.int .i64) (by omega), trivial⟩, (by repeat (first | assumption | exact Ext.refl _ | refine Ext.alloc ?_ _ | refine Ext.drew ?_ | refine Ext.setB ?_ (by first | omega | (simp only [size_alloc, size_setB, size_drew]; omega)) _ | refine Ext.trans ?_ (by assumption))), Hb.setSame hb3⟩
  · have hb2p := hb2.h; try simp only [al_ete, al_dfn, Bool.not_eq_true', Bool.not_eq_false', al_ne, Bool.not_not, al_nn] at hb2p
    refine W_exit ?_
    refine thn_exit ?_
    refine thn_exit ?_
    refine inBlk_exit ?_
    refine thn_normal ?_
    refine W_seq ?_
    refine W_region rfl ?_
    refine WO_p (PS_slA Hvad.runUnderlying189 Hvad.sizeOf5 rfl (by omega)) ?_
    refine WO_call Hvad.call116 (by rfl) (Ret.mono (norm_spec 189 (some ⟨b3, 0, none⟩, 8, 8) 8 _ ⟨Nat.le_refl _, Nat.le_refl _, fun _ => ⟨b3, L, (0, 0), rfl, Hb.mk (Hb.h (by repeat (first | assumption | exact Hb.newY _ _ | refine Hb.alloc ?_ | refine Hb.drew ?_ | refine Hb.ext (by assumption) ?_ | exact Hb.setSameL (by first | omega | (simp only [size_alloc, size_setB, size_drew]; omega)) | exact Hb.setSame (by assumption) | refine Hb.set (by first | omega | (simp only [size_alloc, size_setB, size_drew]; omega)) ?_ ))), hL.2, by show 8 ≤ L.length; rw [hL.1]; exact Nat.le_refl _⟩⟩ (by decide)) ?_)
    rintro _ w9 ⟨hE9, s9, rfl, hs9⟩
    refine WO_p (PS_assign_slice rfl) ?_
    refine WO_nil ?_
    refine thn_normal ?_
    refine W_ret ?_
    refine bodyQ_ret1 Hvad.results58 rfl (.slice _ _ _) rfl ?_
    exact ⟨(by repeat (first | assumption | exact Ext.refl _ | refine Ext.alloc ?_ _ | refine Ext.drew ?_ | refine Ext.setB ?_ (by first | omega | (simp only [size_alloc, size_setB, size_drew]; omega)) _ | refine Ext.trans ?_ (by assumption))), s9, rfl, hs9⟩

set_option maxRecDepth 10000 in
theorem num_spec (a : Int) (w : World) (ha : 0 ≤ a ∧ a ≤ 18446744073709551615) : Ret Hvad.prog 23 #[.int .u64 a] w fun u w' => Ext w w' ∧ ∃ s' : SV, u = .slice s'.1 s'.2.1 s'.2.2 ∧ NS 5 w' s' (8) := by
  refine Ret_of_W Hvad.func23 rfl rfl ?_
  refine W_seq ?_
  refine W_region rfl ?_
  refine WO_p (PS_assign_slice rfl) ?_
  refine WO_nil ?_
  refine thn_normal ?_
  refine W_seq ?_
  refine W_region rfl ?_
  refine WO_p (PS_move_int rfl) ?_
  refine WO_call Hvad.call58 (by rfl) (Ret.mono (fromU64_spec a _ ha) ?_)
  rintro _ w9 ⟨hE9, s9, rfl, hs9⟩
  refine WO_p (PS_assign_slice rfl) ?_
  refine WO_nil ?_
  refine thn_normal ?_
  refine W_ret ?_
  refine bodyQ_ret1 Hvad.results23 rfl (.slice _ _ _) rfl ?_
  exact ⟨(by repeat (first | assumption | exact Ext.refl _ | refine Ext.alloc ?_ _ | refine Ext.drew ?_ | refine Ext.setB ?_ (by first | omega | (simp only [size_alloc, size_setB, size_drew]; omega)) _ | refine Ext.trans ?_ (by assumption))), s9, rfl, hs9⟩

set_option maxRecDepth 10000 in
set_option maxHeartbeats 4000000 in
theorem fromBE_spec (b o : Nat) (r : Array Value) (T : TypeId) (fz : Nat × Nat) (A : List Int) (cp : Nat) (w : World) (hb : Hb w b (.cells r T fz)) (hX : Xt r o (o + 32) (ic .u8 A)) (hA : By A 32) : Ret Hvad.prog 24 #[.slice (some ⟨b, o, none⟩) 32 cp] w fun u w' => Ext w w' ∧ ∃ s' : SV, u = .slice s'.1 s'.2.1 s'.2.2 ∧ NS 5 w' s' (32) := by
  have hbl := hb.lt
  refine Ret_of_W Hvad.func24 rfl rfl ?_
  refine W_seq ?_
  refine W_region rfl ?_
  refine WO_p (PS_assign_slice rfl) ?_
  refine WO_nil ?_
  refine thn_normal ?_
  refine W_seq ?_
  refine W_region rfl ?_
  refine WO_p (PS_assign_int rfl) ?_
  refine WO_nil ?_
  refine thn_normal ?_
  refine W_seq ?_
  refine W_block ?_
  refine W_loopN (fun k ρ w' => ∃ (i : Nat), i + k = 32 ∧ Fr [(0, .slice (some ⟨b, o, none⟩) 32 cp), (3, .int .i64 i)] ρ ∧ Ext w w') 32 ?_ ?_
  · exact ⟨0, by omega, ⟨rfl, rfl, trivial⟩, (by repeat (first | assumption | exact Ext.refl _ | refine Ext.alloc ?_ _ | refine Ext.drew ?_ | refine Ext.setB ?_ (by first | omega | (simp only [size_alloc, size_setB, size_drew]; omega)) _ | refine Ext.trans ?_ (by assumption)))⟩
  intro k ρ w2 hI2
  obtain ⟨i, hik, hFr, hE2⟩ := hI2
  refine W_env _ hFr ?_
  have hz2 := hE2.1
  refine W_seq ?_
  refine W_seq ?_
  refine W_region rfl ?_
  refine WO_p (PS_move_int rfl) ?_
  refine WO_p (PS_move_slice rfl) ?_
  refine WO_p (PS_lenS Hvad.runUnderlying32 rfl) ?_
  refine WO_p (PS_lss rfl rfl) ?_
  refine WO_p (PS_move_bool rfl) ?_
  refine WO_if (t := 10) rfl (fun hb2 => ?_) (fun hb2 => ?_)
  · have hb2p := hb2.h; try simp only [al_ete, al_dfn, Bool.not_eq_true', Bool.not_eq_false', al_ne, Bool.not_not, al_nn] at hb2p
    have hce : Ce r (o + i * 1) (.int .u8 (A.getD i 0)) := xt_ce1 hX hA.1 (by omega)
    have hbE := hb.ext hE2
    refine WO_guardT rfl rfl hb2.h ?_
    refine WO_p (PS_move_slice rfl) ?_
    refine WO_guardT rfl rfl hb2.h ?_
    refine WO_p (PS_move_int rfl) ?_
    refine WO_guardT rfl rfl hb2.h ?_
    refine WO_p (PS_indexS Hvad.runUnderlying32 Hvad.sizeOf5 rfl rfl (by omega) (by omega)) ?_
    refine WO_guardT rfl rfl hb2.h ?_
    refine WO_load (.int _ _) Hvad.isAgg5 rfl (Hb.h (by repeat (first | assumption | exact Hb.newY _ _ | refine Hb.alloc ?_ | refine Hb.drew ?_ | refine Hb.ext (by assumption) ?_ | exact Hb.setSameL (by first | omega | (simp only [size_alloc, size_setB, size_drew]; omega)) | exact Hb.setSame (by assumption) | refine Hb.set (by first | omega | (simp only [size_alloc, size_setB, size_drew]; omega)) ?_ ))) (Ce.h (by first | assumption | exact ⟨rfl⟩)) ?_
    refine WO_guardT rfl rfl hb2.h ?_
    refine WO_p (PS_eql rfl rfl) ?_
    refine WO_p (PS_pickT rfl hb2.h rfl) ?_
    refine WO_nil ?_
    refine thn_normal ?_
    refine W_if rfl (fun hb4 => ?_) (fun hb4 => ?_)
    · have hb4p := hb4.h; try simp only [al_ete, al_dfn, Bool.not_eq_true', Bool.not_eq_false', al_ne, Bool.not_not, al_nn] at hb4p
      refine W_skip ?_
      refine thn_normal ?_
      refine W_block ?_
      refine W_region rfl ?_
      refine WO_p (PS_move_int rfl) ?_
      refine WO_p (PS_add_i64n rfl rfl (by omega) (by omega)) ?_
      refine WO_p (PS_assign_int rfl) ?_
      refine WO_nil ?_
      refine inBlk_normal ?_
      refine thn_normal ?_
      exact ⟨k - 1, by omega, i + 1, by omega, ⟨rfl, congrArg (Value.int .i64) (by omega), trivial⟩, (by repeat (first | assumption | exact Ext.refl _ | refine Ext.alloc ?_ _ | refine Ext.drew ?_ | refine Ext.setB ?_ (by first | omega | (simp only [size_alloc, size_setB, size_drew]; omega)) _ | refine Ext.trans ?_ (by assumption)))⟩
    · have hb4p := hb4.h; try simp only [al_ete, al_dfn, Bool.not_eq_true', Bool.not_eq_false', al_ne, Bool.not_not, al_nn] at hb4p
      refine W_exit ?_
      refine thn_exit ?_
      refine thn_exit ?_
      refine inBlk_exit ?_
      refine thn_normal ?_
      refine W_seq ?_
      refine W_seq ?_
      refine W_region rfl ?_
      refine WO_p (PS_move_int rfl) ?_
      refine WO_p (PS_move_slice rfl) ?_
      refine WO_p (PS_lenS Hvad.runUnderlying32 rfl) ?_
      refine WO_p (PS_eql rfl rfl) ?_
      refine WO_nil ?_
      refine thn_normal ?_
      refine W_if rfl (fun hb6 => ?_) (fun hb6 => ?_)
      · have hb6p := hb6.h; try simp only [al_ete, al_dfn, Bool.not_eq_true', Bool.not_eq_false', al_ne, Bool.not_not, al_nn] at hb6p
        have hi32 : i = 32 := by omega
        refine W_seq ?_
        refine W_region rfl ?_
        refine WO_p (PS_assign_slice rfl) ?_
        refine WO_nil ?_
        refine thn_normal ?_
        refine W_ret ?_
        refine thn_ret ?_
        refine bodyQ_ret1 Hvad.results24 rfl (.slice _ _ _) rfl ?_
        first
        | exact ⟨(by repeat (first | assumption | exact Ext.refl _ | refine Ext.alloc ?_ _ | refine Ext.drew ?_ | refine Ext.setB ?_ (by first | omega | (simp only [size_alloc, size_setB, size_drew]; omega)) _ | refine Ext.trans ?_ (by assumption))), (none, 0, 0), rfl, NS.nil _ _ _⟩
        | exact ⟨(by repeat (first | assumption | exact Ext.refl _ | refine Ext.alloc ?_ _ | refine Ext.drew ?_ | refine Ext.setB ?_ (by first | omega | (simp only [size_alloc, size_setB, size_drew]; omega)) _ | refine Ext.trans ?_ (by assumption))), (some ⟨b4, 0, none⟩, n1, n1), rfl, ⟨by show n1 ≤ 32; omega, Nat.le_refl _, fun _ => ⟨b4, L, (0, 0), rfl, hb4, hL.2, by show n1 ≤ _; rw [hL.1]; exact Nat.le_refl _⟩⟩⟩
      · have hb6p := hb6.h; try simp only [al_ete, al_dfn, Bool.not_eq_true', Bool.not_eq_false', al_ne, Bool.not_not, al_nn] at hb6p
        obtain ⟨n1, hn1⟩ : ∃ n1 : Nat, ((32 : Nat) : Int) - (i : Int) = (n1 : Int) := ⟨32 - i, by omega⟩
        refine W_skip ?_
        refine thn_normal ?_
        refine W_seq ?_
        refine W_region rfl ?_
        refine WO_p (PS_move_slice rfl) ?_
        refine WO_p (PS_lenS Hvad.runUnderlying32 rfl) ?_
        refine WO_p (PS_move_int rfl) ?_
        refine WO_p (PS_sub_i64n rfl rfl (by omega) (by omega)) ?_
        rw [hn1]
        refine WO_make (z := .int .u8 0) Hvad.underlying95 info5 rfl rfl rfl (by omega) (by omega) (by show (1:Int) * _ ≤ _; omega) (by omega) ?_
        rw [show ((n1:Int)).toNat = n1 from Int.toNat_natCast n1, show madeCells (Value.int IntKind.u8 0).cells (n1 * Hvad.t5.size) = ic .u8 (List.replicate n1 0) from by rw [show Hvad.t5.size = 1 from rfl, Nat.mul_one]; exact made_ic .u8 n1]
        apply WO_gen4; intro w27 hw27
        have hb27 : Hb w27 w2.heap.size (.cells (ic .u8 (List.replicate n1 0)) 5 (0, 0)) := by rw [hw27]; exact Hb.newY _ _
        have hE27 : Ext w w27 := by rw [hw27]; exact Ext.alloc hE2 _
        have hz27 := hE2.1
        generalize w2.heap.size = b4 at *
        clear hw27
        refine WO_p (PS_assign_slice rfl) ?_
        refine WO_nil ?_
        refine thn_normal ?_
        refine W_seq ?_
        refine W_seq ?_
        refine W_region rfl ?_
        refine WO_p (PS_move_slice rfl) ?_
        refine WO_p (PS_lenS Hvad.runUnderlying95 rfl) ?_
        refine WO_p (PS_move_int rfl) ?_
        refine WO_nil ?_
        refine thn_normal ?_
        refine W_block ?_
        refine W_loopN (fun k ρ w' => ∃ (j : Nat) (L : List Int), j + k = n1 ∧ By L n1 ∧ Fr [(0, .slice (some ⟨b, o, none⟩) 32 cp), (4, .slice (some ⟨b4, 0, none⟩) n1 n1), (29, .int .i64 n1), (30, .int .i64 j)] ρ ∧ Ext w w' ∧ Hb w' b4 (.cells (ic .u8 L) 5 (0, 0))) n1 ?_ ?_
        · exact ⟨0, List.replicate n1 0, by omega, ⟨List.length_replicate, by intro x hx; rw [(List.mem_replicate.1 hx).2]; omega⟩, ⟨rfl, rfl, rfl, rfl, trivial⟩, hE27, hb27⟩
        intro k3 ρ3 w3 hI3
        obtain ⟨j, L, hjk, hL, hFr3, hE3, hb4⟩ := hI3
        refine W_env _ hFr3 ?_
        have hz3 := hE3.1
        refine W_seq ?_
        refine W_region rfl ?_
        refine WO_p (PS_lss rfl rfl) ?_
        refine WO_nil ?_
        refine thn_normal ?_
        refine W_seq ?_
        refine W_if rfl (fun hb8 => ?_) (fun hb8 => ?_)
        · have hb8p := hb8.h; try simp only [al_ete, al_dfn, Bool.not_eq_true', Bool.not_eq_false', al_ne, Bool.not_not, al_nn] at hb8p
          have hj3 : (((32 : Nat) : Int) - 1 - (j : Int)).toNat = 31 - j := by omega
          have hce : Ce r (o + (((32 : Nat) : Int) - 1 - (j : Int)).toNat * 1) (.int .u8 (A.getD (31 - j) 0)) := by rw [hj3]; exact xt_ce1 hX hA.1 (by omega)
          have hgb := getD_byte hA.2 (31 - j)
          have hbE := hb.ext hE3
          refine W_skip ?_
          refine thn_normal ?_
          refine W_seq ?_
          refine W_block ?_
          refine W_seq ?_
          refine W_region rfl ?_
          refine WO_p (PS_move_int rfl) ?_
          refine WO_p (PS_assign_int rfl) ?_
          refine WO_nil ?_
          refine thn_normal ?_
          refine W_region rfl ?_
          refine WO_p (PS_move_slice rfl) ?_
          refine WO_p (PS_move_int rfl) ?_
          refine WO_p (PS_move_slice rfl) ?_
          refine WO_p (PS_move_slice rfl) ?_
          refine WO_p (PS_lenS Hvad.runUnderlying32 rfl) ?_
          refine WO_p (PS_sub_i64n rfl rfl (by omega) (by omega)) ?_
          refine WO_p (PS_move_int rfl) ?_
          refine WO_p (PS_sub_i64n rfl rfl (by omega) (by omega)) ?_
          refine WO_p (PS_indexS Hvad.runUnderlying32 Hvad.sizeOf5 rfl rfl (by omega) (by omega)) ?_
          refine WO_load (.int _ _) Hvad.isAgg5 rfl (Hb.h (by repeat (first | assumption | exact Hb.newY _ _ | refine Hb.alloc ?_ | refine Hb.drew ?_ | refine Hb.ext (by assumption) ?_ | exact Hb.setSameL (by first | omega | (simp only [size_alloc, size_setB, size_drew]; omega)) | exact Hb.setSame (by assumption) | refine Hb.set (by first | omega | (simp only [size_alloc, size_setB, size_drew]; omega)) ?_ ))) (Ce.h (by first | assumption | exact ⟨rfl⟩)) ?_
          refine WO_p (PS_indexS Hvad.runUnderlying95 Hvad.sizeOf5 rfl rfl (by omega) (by omega)) ?_
          refine WO_store1 Hvad.sizeOf5 rfl (v := .int _ _) rfl hb4.h rfl (by rw [size_ic, hL.1]; omega) rfl ?_
          rw [show ((j : Int)).toNat = j from Int.toNat_natCast j, ic_set]
          have hL4 : By (L.set j (A.getD (31 - j) 0)) n1 := by
            refine ⟨by rw [List.length_set]; exact hL.1, fun x hx => ?_⟩
            rcases List.mem_or_eq_of_mem_set hx with hx | rfl
            · exact hL.2 x hx
            · exact hgb
          refine WO_nil ?_
          refine inBlk_normal ?_
          refine thn_normal ?_
          refine W_region rfl ?_
          refine WO_p (PS_add_i64n rfl rfl (by omega) (by omega)) ?_
          refine WO_p (PS_move_int rfl) ?_
          refine WO_nil ?_
          refine thn_normal ?_
          exact ⟨k3 - 1, by omega, j + 1, _, by omega, hL4, ⟨rfl, rfl, rfl, congrArg (Value.int .i64) (by omega), trivial⟩, Ext.setB hE3 (by omega) _, Hb.setSame hb4⟩
        · have hb8p := hb8.h; try simp only [al_ete, al_dfn, Bool.not_eq_true', Bool.not_eq_false', al_ne, Bool.not_not, al_nn] at hb8p
          refine W_exit ?_
          refine thn_exit ?_
          refine thn_exit ?_
          refine inBlk_exit ?_
          refine thn_normal ?_
          refine W_seq ?_
          refine W_region rfl ?_
          refine WO_p (PS_move_slice rfl) ?_
          refine WO_p (PS_assign_slice rfl) ?_
          refine WO_nil ?_
          refine thn_normal ?_
          refine W_ret ?_
          refine bodyQ_ret1 Hvad.results24 rfl (.slice _ _ _) rfl ?_
          first
          | exact ⟨(by repeat (first | assumption | exact Ext.refl _ | refine Ext.alloc ?_ _ | refine Ext.drew ?_ | refine Ext.setB ?_ (by first | omega | (simp only [size_alloc, size_setB, size_drew]; omega)) _ | refine Ext.trans ?_ (by assumption))), (none, 0, 0), rfl, NS.nil _ _ _⟩
          | exact ⟨(by repeat (first | assumption | exact Ext.refl _ | refine Ext.alloc ?_ _ | refine Ext.drew ?_ | refine Ext.setB ?_ (by first | omega | (simp only [size_alloc, size_setB, size_drew]; omega)) _ | refine Ext.trans ?_ (by assumption))), (some ⟨b4, 0, none⟩, n1, n1), rfl, ⟨by show n1 ≤ 32; omega, Nat.le_refl _, fun _ => ⟨b4, L, (0, 0), rfl, hb4, hL.2, by show n1 ≤ _; rw [hL.1]; exact Nat.le_refl _⟩⟩⟩
  · have hb2p := hb2.h; try simp only [al_ete, al_dfn, Bool.not_eq_true', Bool.not_eq_false', al_ne, Bool.not_not, al_nn] at hb2p
    refine WO_guardF rfl rfl hb2.h ?_
    refine WO_guardF rfl rfl hb2.h ?_
    refine WO_guardF rfl rfl hb2.h ?_
    refine WO_guardF rfl rfl hb2.h ?_
    refine WO_guardF rfl rfl hb2.h ?_
    refine WO_p (PS_pickF rfl hb2.h rfl) ?_
    refine WO_nil ?_
    refine thn_normal ?_
    refine W_condF rfl rfl ?_
    refine W_exit ?_
    refine thn_exit ?_
    refine thn_exit ?_
    refine inBlk_exit ?_
    refine thn_normal ?_
    refine W_seq ?_
    refine W_seq ?_
    refine W_region rfl ?_
    refine WO_p (PS_move_int rfl) ?_
    refine WO_p (PS_move_slice rfl) ?_
    refine WO_p (PS_lenS Hvad.runUnderlying32 rfl) ?_
    refine WO_p (PS_eql rfl rfl) ?_
    refine WO_nil ?_
    refine thn_normal ?_
    refine W_if rfl (fun hb10 => ?_) (fun hb10 => ?_)
    · have hb10p := hb10.h; try simp only [al_ete, al_dfn, Bool.not_eq_true', Bool.not_eq_false', al_ne, Bool.not_not, al_nn] at hb10p
      have hi32 : i = 32 := by omega
      refine W_seq ?_
      refine W_region rfl ?_
      refine WO_p (PS_assign_slice rfl) ?_
      refine WO_nil ?_
      refine thn_normal ?_
      refine W_ret ?_
      refine thn_ret ?_
      refine bodyQ_ret1 Hvad.results24 rfl (.slice _ _ _) rfl ?_
      first
      | exact ⟨(by repeat (first | assumption | exact Ext.refl _ | refine Ext.alloc ?_ _ | refine Ext.drew ?_ | refine Ext.setB ?_ (by first | omega | (simp only [size_alloc, size_setB, size_drew]; omega)) _ | refine Ext.trans ?_ (by assumption))), (none, 0, 0), rfl, NS.nil _ _ _⟩
      | exact ⟨(by repeat (first | assumption | exact Ext.refl _ | refine Ext.alloc ?_ _ | refine Ext.drew ?_ | refine Ext.setB ?_ (by first | omega | (simp only [size_alloc, size_setB, size_drew]; omega)) _ | refine Ext.trans ?_ (by assumption))), (some ⟨b4, 0, none⟩, n1, n1), rfl, ⟨by show n1 ≤ 32; omega, Nat.le_refl _, fun _ => ⟨b4, L, (0, 0), rfl, hb4, hL.2, by show n1 ≤ _; rw [hL.1]; exact Nat.le_refl _⟩⟩⟩
    · have hb10p := hb10.h; try simp only [al_ete, al_dfn, Bool.not_eq_true', Bool.not_eq_false', al_ne, Bool.not_not, al_nn] at hb10p
      obtain ⟨n1, hn1⟩ : ∃ n1 : Nat, ((32 : Nat) : Int) - (i : Int) = (n1 : Int) := ⟨32 - i, by omega⟩
      refine W_skip ?_
      refine thn_normal ?_
      refine W_seq ?_
      refine W_region rfl ?_
      refine WO_p (PS_move_slice rfl) ?_
      refine WO_p (PS_lenS Hvad.runUnderlying32 rfl) ?_
      refine WO_p (PS_move_int rfl) ?_
      refine WO_p (PS_sub_i64n rfl rfl (by omega) (by omega)) ?_
      rw [hn1]
      refine WO_make (z := .int .u8 0) Hvad.underlying95 info5 rfl rfl rfl (by omega) (by omega) (by show (1:Int) * _ ≤ _; omega) (by omega) ?_
      rw [show ((n1:Int)).toNat = n1 from Int.toNat_natCast n1, show madeCells (Value.int IntKind.u8 0).cells (n1 * Hvad.t5.size) = ic .u8 (List.replicate n1 0) from by rw [show Hvad.t5.size = 1 from rfl, Nat.mul_one]; exact made_ic .u8 n1]
      apply WO_gen4; intro w27 hw27
      have hb27 : Hb w27 w2.heap.size (.cells (ic .u8 (List.replicate n1 0)) 5 (0, 0)) := by rw [hw27]; exact Hb.newY _ _
      have hE27 : Ext w w27 := by rw [hw27]; exact Ext.alloc hE2 _
      have hz27 := hE2.1
      generalize w2.heap.size = b4 at *
      clear hw27
      refine WO_p (PS_assign_slice rfl) ?_
      refine WO_nil ?_
      refine thn_normal ?_
      refine W_seq ?_
      refine W_seq ?_
      refine W_region rfl ?_
      refine WO_p (PS_move_slice rfl) ?_
      refine WO_p (PS_lenS Hvad.runUnderlying95 rfl) ?_
      refine WO_p (PS_move_int rfl) ?_
      refine WO_nil ?_
      refine thn_normal ?_
      refine W_block ?_
      refine W_loopN (fun k ρ w' => ∃ (j : Nat) (L : List Int), j + k = n1 ∧ By L n1 ∧ Fr [(0, .slice (some ⟨b, o, none⟩) 32 cp), (4, .slice (some ⟨b4, 0, none⟩) n1 n1), (29, .int .i64 n1), (30, .int .i64 j)] ρ ∧ Ext w w' ∧ Hb w' b4 (.cells (ic .u8 L) 5 (0, 0))) n1 ?_ ?_
      · exact ⟨0, List.replicate n1 0, by omega, ⟨List.length_replicate, by intro x hx; rw [(List.mem_replicate.1 hx).2]; omega⟩, ⟨rfl, rfl, rfl, rfl, trivial⟩, hE27, hb27⟩
      intro k3 ρ3 w3 hI3
      obtain ⟨j, L, hjk, hL, hFr3, hE3, hb4⟩ := hI3
      refine W_env _ hFr3 ?_
      have hz3 := hE3.1
      refine W_seq ?_
      refine W_region rfl ?_
      refine WO_p (PS_lss rfl rfl) ?_
      refine WO_nil ?_
      refine thn_normal ?_
      refine W_seq ?_
      refine W_if rfl (fun hb12 => ?_) (fun hb12 => ?_)
      · have hb12p := hb12.h; try simp only [al_ete, al_dfn, Bool.not_eq_true', Bool.not_eq_false', al_ne, Bool.not_not, al_nn] at hb12p
        have hj3 : (((32 : Nat) : Int) - 1 - (j : Int)).toNat = 31 - j := by omega
        have hce : Ce r (o + (((32 : Nat) : Int) - 1 - (j : Int)).toNat * 1) (.int .u8 (A.getD (31 - j) 0)) := by rw [hj3]; exact xt_ce1 hX hA.1 (by omega)
        have hgb := getD_byte hA.2 (31 - j)
        have hbE := hb.ext hE3
        refine W_skip ?_
        refine thn_normal ?_
        refine W_seq ?_
        refine W_block ?_
        refine W_seq ?_
        refine W_region rfl ?_
        refine WO_p (PS_move_int rfl) ?_
        refine WO_p (PS_assign_int rfl) ?_
        refine WO_nil ?_
        refine thn_normal ?_
        refine W_region rfl ?_
        refine WO_p (PS_move_slice rfl) ?_
        refine WO_p (PS_move_int rfl) ?_
        refine WO_p (PS_move_slice rfl) ?_
        refine WO_p (PS_move_slice rfl) ?_
        refine WO_p (PS_lenS Hvad.runUnderlying32 rfl) ?_
        refine WO_p (PS_sub_i64n rfl rfl (by omega) (by omega)) ?_
        refine WO_p (PS_move_int rfl) ?_
        refine WO_p (PS_sub_i64n rfl rfl (by omega) (by omega)) ?_
        refine WO_p (PS_indexS Hvad.runUnderlying32 Hvad.sizeOf5 rfl rfl (by omega) (by omega)) ?_
        refine WO_load (.int _ _) Hvad.isAgg5 rfl (Hb.h (by repeat (first | assumption | exact Hb.newY _ _ | refine Hb.alloc ?_ | refine Hb.drew ?_ | refine Hb.ext (by assumption) ?_ | exact Hb.setSameL (by first | omega | (simp only [size_alloc, size_setB, size_drew]; omega)) | exact Hb.setSame (by assumption) | refine Hb.set (by first | omega | (simp only [size_alloc, size_setB, size_drew]; omega)) ?_ ))) (Ce.h (by first | assumption | exact ⟨rfl⟩)) ?_
        refine WO_p (PS_indexS Hvad.runUnderlying95 Hvad.sizeOf5 rfl rfl (by omega) (by omega)) ?_
        refine WO_store1 Hvad.sizeOf5 rfl (v := .int _ _) rfl hb4.h rfl (by rw [size_ic, hL.1]; omega) rfl ?_
        rw [show ((j : Int)).toNat = j from Int.toNat_natCast j, ic_set]
        have hL4 : By (L.set j (A.getD (31 - j) 0)) n1 := by
          refine ⟨by rw [List.length_set]; exact hL.1, fun x hx => ?_⟩
          rcases List.mem_or_eq_of_mem_set hx with hx | rfl
          · exact hL.2 x hx
          · exact hgb
        refine WO_nil ?_
        refine inBlk_normal ?_
        refine thn_normal ?_
        refine W_region rfl ?_
        refine WO_p (PS_add_i64n rfl rfl (by omega) (by omega)) ?_
        refine WO_p (PS_move_int rfl) ?_
        refine WO_nil ?_
        refine thn_normal ?_
        exact ⟨k3 - 1, by omega, j + 1, _, by omega, hL4, ⟨rfl, rfl, rfl, congrArg (Value.int .i64) (by omega), trivial⟩, Ext.setB hE3 (by omega) _, Hb.setSame hb4⟩
      · have hb12p := hb12.h; try simp only [al_ete, al_dfn, Bool.not_eq_true', Bool.not_eq_false', al_ne, Bool.not_not, al_nn] at hb12p
        refine W_exit ?_
        refine thn_exit ?_
        refine thn_exit ?_
        refine inBlk_exit ?_
        refine thn_normal ?_
        refine W_seq ?_
        refine W_region rfl ?_
        refine WO_p (PS_move_slice rfl) ?_
        refine WO_p (PS_assign_slice rfl) ?_
        refine WO_nil ?_
        refine thn_normal ?_
        refine W_ret ?_
        refine bodyQ_ret1 Hvad.results24 rfl (.slice _ _ _) rfl ?_
        first
        | exact ⟨(by repeat (first | assumption | exact Ext.refl _ | refine Ext.alloc ?_ _ | refine Ext.drew ?_ | refine Ext.setB ?_ (by first | omega | (simp only [size_alloc, size_setB, size_drew]; omega)) _ | refine Ext.trans ?_ (by assumption))), (none, 0, 0), rfl, NS.nil _ _ _⟩
        | exact ⟨(by repeat (first | assumption | exact Ext.refl _ | refine Ext.alloc ?_ _ | refine Ext.drew ?_ | refine Ext.setB ?_ (by first | omega | (simp only [size_alloc, size_setB, size_drew]; omega)) _ | refine Ext.trans ?_ (by assumption))), (some ⟨b4, 0, none⟩, n1, n1), rfl, ⟨by show n1 ≤ 32; omega, Nat.le_refl _, fun _ => ⟨b4, L, (0, 0), rfl, hb4, hL.2, by show n1 ≤ _; rw [hL.1]; exact Nat.le_refl _⟩⟩⟩

end Go.Proofs.YgvadwGreat
