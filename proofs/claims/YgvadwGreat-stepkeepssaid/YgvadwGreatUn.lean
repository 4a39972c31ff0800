import Derived.Test.YgvadwGreatUm
import Derived.Test.YgvadwGreatOo
namespace Go.Proofs.YgvadwGreat
set_option linter.unusedSimpArgs false
set_option linter.unusedVariables false
theorem Turned.ut {b : Nat} {T : TypeId} {L : List Int} {w w' : World} (h : Turned b T L w w') : ∃ L', UT b T L w w' L' ∧ UL L' := by
  obtain ⟨L', h1, h2, h3, h4⟩ := h
  exact ⟨L', ⟨h1, fun _ => h2, h3, h4⟩, h2⟩
theorem UT.splice {b o : Nat} {T : TypeId} {L M : List Int} {w : World} (h : Hb w b (.cells (ic .u64 L) T (0, 0))) (ho : o + M.length ≤ L.length) (hM : UL M) : UT b T L w (setB w b (.cells (splice (ic .u64 L) o (M.map (Value.int .u64))) T (0, 0))) (L.take o ++ M ++ L.drop (o + M.length)) := by
  have e : Go.Proofs.YgvadwGreat.splice (ic .u64 L) o (M.map (Value.int .u64)) = ic .u64 (L.take o ++ M ++ L.drop (o + M.length)) := by
    refine splice_at (P := (L.take o).map (Value.int .u64)) (M := ((L.drop o).take M.length).map (Value.int .u64)) (S := (L.drop (o + M.length)).map (Value.int .u64)) ?_ (by simp; omega) (by simp; omega) ?_
    · unfold ic
      congr 1
      rw [← List.map_append, ← List.map_append]
      congr 1
      conv => lhs; rw [← List.take_append_drop o L, ← List.take_append_drop M.length (L.drop o), List.drop_drop]
    · unfold ic; simp
  rw [e]
  refine ⟨by simp; omega, fun hl => ?_, Hb.setSame h, (KeepO.refl (fun x => x = b) w).setB (fun _ => rfl) _⟩
  intro x hx
  simp only [List.mem_append] at hx
  rcases hx with (hx | hx) | hx
  · exact hl x (List.mem_of_mem_take hx)
  · exact hM x hx
  · exact hl x (List.mem_of_mem_drop hx)
theorem KeepO.ut {w w1 w2 : World} {bx b : Nat} {T : TypeId} {L L' : List Int} (h : KeepO (fun x => x = bx) w w1) (hu : UT b T L w1 w2 L') (hb : w.heap.size ≤ b ∨ b = bx) : KeepO (fun x => x = bx) w w2 :=
  h.trans hu.keep fun x hx e => by rcases hb with hb | hb <;> omega
theorem KeepO.bt {w w1 w2 : World} {bx b : Nat} {T : TypeId} {L L' : List Int} (h : KeepO (fun x => x = bx) w w1) (hu : BufT b T L w1 w2 L') (hb : w.heap.size ≤ b ∨ b = bx) : KeepO (fun x => x = bx) w w2 :=
  h.trans hu.keep fun x hx e => by rcases hb with hb | hb <;> omega
theorem ULr (n : Nat) : UL (List.replicate n 0) := fun x hx => by rw [List.eq_of_mem_replicate hx]; decide
section
variable {P : Program} {ρ : Nat → Value} {w : World} {ops : Array Oper} {Q : Post} {os : List Oper} {x y : Operand} {ty t e : TypeId}
theorem WO_clearU {b o n cp : Nat} {T dT : TypeId} {L : List Int} {dd : Option Nat} {pos : _} {af : _} (hU : ∀ w, (underlying dT).run P w = .ok (.slice e) w) (hz : ∀ w, (zeroValue e).run P w = .ok (.int .u64 0) w) (hx : ev ρ x = .slice (some ⟨b, o, none⟩) n cp)
    (hb : Hb w b (.cells (ic .u64 L) T (0, 0))) (hk : o + n ≤ L.length) (h0 : 0 < n)
    (h : ∀ w' L', UT b T L w w' L' → WO P ops Q os (updo ρ dd (.tuple #[])) w') : WO P ops Q (⟨dd, .call ⟨.builtin .clear, #[x], #[dT]⟩, ty, pos, af, none⟩ :: os) ρ w :=
  WO_clear hU hz hx hb.h (by rw [size_ic]; exact hk) h0 (h _ _ (UT.splice (M := List.replicate n 0) hb (by simp; omega) (ULr n)))
theorem WH_copyU {S : World → Prop} {os' : List (Oper × Bool)} {tg : Bool} {b b2 n cp n2 cp2 : Nat} {T T2 dT sT : TypeId} {L L2 : List Int} {dd : Option Nat} {pos : _} {af : _} {fz : Nat × Nat} (hU : ∀ w, (underlying dT).run P w = .ok (.slice e) w) (hS : ∀ w, (Go.sizeOf e).run P w = .ok 1 w)
    (hx : ev ρ x = .slice (some ⟨b, 0, none⟩) n cp) (hy : ev ρ y = .slice (some ⟨b2, 0, none⟩) n2 cp2) (hb : Hb w b (.cells (ic .u64 L) T (0, 0))) (hb2 : Hb w b2 (.cells (ic .u64 L2) T2 fz)) (hn : n2 ≤ n) (h1 : n ≤ L.length) (h2 : L2.length = n2) (hL2 : UL L2)
    (h : ∀ w' L', UT b T L w w' L' → (tg = true → S w') ∧ WH P ops S Q os' (updo ρ dd (Value.int .i64 n2)) w') : WH P ops S Q ((⟨dd, .call ⟨.builtin .copy, #[x, y], #[dT, sT]⟩, ty, pos, af, none⟩, tg) :: os') ρ w :=
  WH_copy n2 (sz := 1) hU hS hx hy hb.h hb2.h (Nat.min_eq_left hn) (by rw [size_ic]; omega) (by rw [size_ic]; omega) (Xt.whole (k := n2 * 1) rfl (by rw [size_ic]; omega)).h (by intro u hu; exact oneCell_ic u hu) (h _ _ (UT.splice (o := 0) (M := L2) hb (by omega) hL2)).1 (h _ _ (UT.splice (o := 0) (M := L2) hb (by omega) hL2)).2
end

set_option maxRecDepth 10000 in
theorem roundU_spec (bu bvY n j : Nat) (Tu Tv : TypeId) (U Y : List Int) (w : World) (hU : Hb w bu (.cells (ic .u64 U) Tu (0, 0))) (hV : Hb w bvY (.cells (ic .u64 Y) Tv (0, 0))) (hne : bu ≠ bvY) (hul : U.length = 9) (hUL : UL U) (hY : Wd Y) (hn : n ≤ 255) (hj : j ≤ 255) : Ret Hvad.prog 293 #[.pointer (some ⟨bu, 0, none⟩), .pointer (some ⟨bvY, 0, none⟩), .int .u8 n, .int .u8 j] w fun u w' => Turned bu Tu U w w' ∧ ∃ (q f : Int) (z : Bool), u = .tuple #[.int .u64 q, .int .u8 f, .bool z] ∧ (0 ≤ q ∧ q ≤ 18446744073709551615) ∧ (0 ≤ f ∧ f ≤ 255) := by
  have hYl := hY.1
  refine Ret_of_W Hvad.func293 rfl rfl ?_
  refine W_seq ?_
  refine W_region rfl ?_
  refine WO_p (PS_assign_int rfl) ?_
  refine WO_p (PS_assign_int rfl) ?_
  refine WO_p (PS_assign_bool rfl) ?_
  refine WO_nil ?_
  refine thn_normal ?_
  refine W_seq ?_
  refine W_seq ?_
  refine W_region rfl ?_
  refine WO_p (PS_move_ptr rfl) ?_
  refine WO_p (PS_move_ptr rfl) ?_
  refine WO_p (PS_move_int rfl) ?_
  refine WO_p (PS_move_int rfl) ?_
  refine WO_call Hvad.call302 (by rfl) (Ret.mono (divMid_spec bu bvY n j Tu Tv U Y _ hU hV hul hUL hY hn hj) ?_)
  rintro _ w1 ⟨hE1, z1, rfl, hz1⟩
  have hzz1 := hE1.1
  have hU1 := Hb.ext hE1 hU
  have hV1 := Hb.ext hE1 hV
  refine WO_p (PS_not rfl) ?_
  refine WO_nil ?_
  refine thn_normal ?_
  refine W_if rfl (fun hb4 => ?_) (fun hb4 => ?_)
  · have hb4p := hb4.h; try simp only [al_ete, al_dfn, Bool.not_eq_true', Bool.not_eq_false', al_ne, Bool.not_not, al_nn] at hb4p
    skip
    refine W_seq ?_
    refine W_region rfl ?_
    refine WO_p (PS_assign_int rfl) ?_
    refine WO_p (PS_assign_int rfl) ?_
    refine WO_p (PS_assign_bool rfl) ?_
    refine WO_nil ?_
    refine thn_normal ?_
    refine W_ret ?_
    refine thn_ret ?_
    refine bodyQ_ret3 Hvad.results293 rfl rfl rfl (.int _ _) (.int _ _) (.bool _) rfl rfl rfl ?_
    first
    | exact ⟨⟨U, rfl, hUL, Hb.ext hE1 hU, hE1.keepO _⟩, 0, 0, false, rfl, by decide, by decide⟩
    | (obtain ⟨L2, k1, k2, k3, k4⟩ := hT2
       exact ⟨⟨L2, k1, k2, k3, ((Ext.drew hE1).keepO _).trans k4 fun _ _ e => e⟩, q2, f2, z2, rfl, hq2, hf2⟩)
  · have hb4p := hb4.h; try simp only [al_ete, al_dfn, Bool.not_eq_true', Bool.not_eq_false', al_ne, Bool.not_not, al_nn] at hb4p
    have hm := hz1 (by simpa using hb4p)
    refine W_skip ?_
    refine thn_normal ?_
    refine W_seq ?_
    refine W_drawE [false, false, false, false, false, false, false, false, false, false, false, false, false, false, false, false, false, false, false, false, false, false, false, false] hmix (by kernel_rfl) rfl ?_
    refine WH_p (PS_move_ptr rfl) rfl ?_
    refine WH_p (PS_nilCheck rfl) rfl ?_
    refine WH_p (PS_move_int rfl) rfl ?_
    refine WH_p (PS_move_int rfl) rfl ?_
    refine WH_p (PS_move_int rfl) rfl ?_
    refine WH_p (PS_add_u8n rfl rfl (by omega) (by omega)) rfl ?_
    refine WH_p (PS_add_u8n rfl rfl (by omega) (by omega)) rfl ?_
    refine WH_p (PS_move_int rfl) rfl ?_
    refine WH_p (PS_move_int rfl) rfl ?_
    refine WH_p (PS_add_u8n rfl rfl (by omega) (by omega)) rfl ?_
    refine WH_p (PS_add_u8n rfl rfl (by omega) (by omega)) rfl ?_
    refine WH_p (PS_slA_lhm Hvad.runUnderlying331 Hvad.sizeOf26 rfl rfl rfl rfl (by omega) (by omega) (by omega) (by omega) (by omega) (by omega) (by omega)) rfl ?_
    rw [show ((j : Int) + n + 1).toNat - (j : Int).toNat = n + 1 by omega, show (j : Int).toNat = j by omega]
    refine WH_p (PS_move_ptr rfl) rfl ?_
    refine WH_p (PS_nilCheck rfl) rfl ?_
    refine WH_p (PS_move_int rfl) rfl ?_
    refine WH_p (PS_move_int rfl) rfl ?_
    refine WH_p (PS_slA_hm Hvad.runUnderlying59 Hvad.sizeOf26 rfl rfl rfl (by omega) (by omega) (by omega) (by omega) (by omega)) rfl ?_
    rw [show (n : Int).toNat = n by omega]
    refine WH_call Hvad.call291 (by rfl) (Ret.mono (roundD_spec bu bvY n _ _ (0 + j * 1) 0 Tu Tv U Y _ (Hb.drew hU1) (Hb.drew hV1) hne hUL hY.ul (by omega) (by omega) hm.1 (by omega) (by rw [show 0 + (n - 1) = n - 1 by omega]; omega)) ?_)
    rintro _ w2 ⟨hT2, q2, f2, z2, rfl, hq2, hf2⟩
    refine ⟨(fun h => by cases h), ?_⟩
    refine WH_p (PS_extract_int rfl rfl) rfl ?_
    refine WH_p (PS_extract_int rfl rfl) rfl ?_
    refine WH_p (PS_extract_bool rfl rfl) rfl ?_
    refine WH_p (PS_assign_int rfl) rfl ?_
    refine WH_p (PS_assign_int rfl) rfl ?_
    refine WH_p (PS_assign_bool rfl) rfl ?_
    refine WH_nil ?_
    refine thn_normal ?_
    refine W_ret ?_
    refine bodyQ_ret3 Hvad.results293 rfl rfl rfl (.int _ _) (.int _ _) (.bool _) rfl rfl rfl ?_
    first
    | exact ⟨⟨U, rfl, hUL, Hb.ext hE1 hU, hE1.keepO _⟩, 0, 0, false, rfl, by decide, by decide⟩
    | (obtain ⟨L2, k1, k2, k3, k4⟩ := hT2
       exact ⟨⟨L2, k1, k2, k3, ((Ext.drew hE1).keepO _).trans k4 fun _ _ e => e⟩, q2, f2, z2, rfl, hq2, hf2⟩)

end Go.Proofs.YgvadwGreat
