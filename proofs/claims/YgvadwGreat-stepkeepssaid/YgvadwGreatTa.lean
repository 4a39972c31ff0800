import Derived.Test.YgvadwGreatUs
namespace Go.Proofs.YgvadwGreat
set_option linter.unusedSimpArgs false
set_option linter.unusedVariables false
theorem SC.part {w : World} {s : SV} {L : List Int} (h : SC w .u8 1 s L) (f k : Nat) (hf : f < s.2.1) (hc : s.2.1 ≤ s.2.2) (hk : f + k ≤ s.2.1) : SC w .u8 1 (slp' s.1 f s.2.2 1, k, s.2.2 - f) ((L.drop f).take k) := by
  obtain ⟨h1, h2⟩ := h
  simp only [Nat.mul_one] at h1 h2
  refine ⟨by simp; omega, ?_⟩
  rcases h2 with ⟨h2, h3⟩ | ⟨b, o, r, T, fz, h3, h4, h5, h6⟩
  · omega
  · refine Or.inr ⟨b, o + f * 1, r, T, fz, by rw [h3]; exact slp'_some (by omega), h4, by show o + f * 1 + k * 1 ≤ _; omega, ?_⟩
    have := xt_part h6 f k hk
    simpa using this
section
variable {P : Program} {ρ : Nat → Value} {w : World} {ops : Array Oper} {Q : Post} {os : List Oper} {x y : Operand} {ty t e : TypeId}
theorem WH_copyV {S : World → Prop} {os' : List (Oper × Bool)} {tg : Bool} {pos : _} {af : _} {b o dl dc : Nat} {T dT sT : TypeId} {L L2 : List Int} {p2 : Option Addr} {sl sc : Nat} {dd : Option Nat} (hU : ∀ w, (underlying dT).run P w = .ok (.slice e) w) (hS : ∀ w, (Go.sizeOf e).run P w = .ok 1 w)
    (hx : ev ρ x = .slice (some ⟨b, o, none⟩) dl dc) (hy : ev ρ y = .slice p2 sl sc) (hb : Hb w b (.cells (ic .u8 L) T (0, 0))) (hk : o + dl ≤ L.length) (hs : SC w .u8 1 (p2, sl, sc) L2) (hL2 : By8 L2)
    (h : ∀ w' L', BufT b T L w w' L' → (tg = true → S w') ∧ WH P ops S Q os' (updo ρ dd (Value.int .i64 (Nat.min sl dl : Nat))) w') : WH P ops S Q ((⟨dd, .call ⟨.builtin .copy, #[x, y], #[dT, sT]⟩, ty, pos, af, none⟩, tg) :: os') ρ w := by
  rcases Nat.eq_zero_or_pos dl with h0 | h0
  · subst h0
    obtain ⟨h1, h2⟩ := hs
    simp only [Nat.mul_one] at h1 h2
    have hm : Nat.min sl 0 = 0 := Nat.min_zero sl
    rw [hm] at h
    rcases h2 with ⟨h2, h3⟩ | ⟨b', o', r, T', fz, h2, h3, h4, h5⟩
    · subst h2; subst h3
      exact WH_copy0 hU hS hx hy (h w L (BufT.refl hb)).1 (h w L (BufT.refl hb)).2
    · subst h2
      have hB : BufT b T L w (setB w b (.cells (splice (ic .u8 L) o ((#[] : Array Value).toList)) T (0, 0))) L := ⟨rfl, fun h => h, Hb.setSame hb, (KeepO.refl (fun x => x = b) w).setB (fun _ => rfl) _⟩
      exact WH_copy 0 (vs := #[]) hU hS hx hy hb.h h3.h hm (by rw [size_ic]; omega) (by omega) (by simp; exact Nat.min_le_left _ _) (by simp) (h _ _ hB).1 (h _ _ hB).2
  · exact WH_copyT (b2 := 0) hU hS hx hy (fun _ => rfl) hb hk hs hL2 h0 h
end
theorem tail_ptr {bd dl n : Nat} (h : n ≤ dl) : ∃ o, slp' (some ⟨bd, 0, none⟩) (dl - n) dl 1 = some ⟨bd, o, none⟩ ∧ o + n ≤ dl := by
  rcases Nat.eq_zero_or_pos n with h0 | h0
  · subst h0; exact ⟨0, by unfold slp'; rw [if_pos (by omega)], by omega⟩
  · exact ⟨0 + (dl - n) * 1, slp'_some (by omega), by omega⟩

set_option maxRecDepth 10000 in
set_option maxHeartbeats 4000000 in
theorem part_spec (bd dl : Nat) (T : TypeId) (D : List Int) (s : SV) (L : List Int) (off n : Nat) (w : World) (hD : Hb w bd (.cells (ic .u8 D) T (0, 0))) (hdl : D.length = dl) (hd1 : dl ≤ 1000) (hs : SC w .u8 1 s L) (hL : By8 L) (hc : s.2.1 ≤ s.2.2) (hl : s.2.1 ≤ 1000000) (hoff : off ≤ 1000) (hn : n ≤ dl) : Ret Hvad.prog 147 #[.slice (some ⟨bd, 0, none⟩) dl dl, .slice s.1 s.2.1 s.2.2, .int .i64 off, .int .i64 n] w fun u w' => ∃ D', BufT bd T D w w' D' := by
  obtain ⟨o, hop, hon⟩ := tail_ptr (bd := bd) hn
  refine Ret_of_W Hvad.func147 rfl rfl ?_
  refine W_seq ?_
  refine W_region rfl ?_
  refine WO_p (PS_move_int rfl) ?_
  refine WO_p (PS_move_slice rfl) ?_
  refine WO_p (PS_lenS Hvad.runUnderlying32 rfl) ?_
  refine WO_p (PS_lss rfl rfl) ?_
  refine WO_p (PS_move_bool rfl) ?_
  refine WO_if (t := 13) rfl (fun hb2 => ?_) (fun hb2 => ?_)
  · have hb2p := hb2.h; try simp only [al_ete, al_dfn, Bool.not_eq_true', Bool.not_eq_false', al_ne, Bool.not_not, al_nn] at hb2p
    refine WO_guardT rfl rfl hb2.h ?_
    refine WO_p (PS_move_int rfl) ?_
    refine WO_guardT rfl rfl hb2.h ?_
    refine WO_p (PS_move_slice rfl) ?_
    refine WO_guardT rfl rfl hb2.h ?_
    refine WO_p (PS_lenS Hvad.runUnderlying32 rfl) ?_
    refine WO_guardT rfl rfl hb2.h ?_
    refine WO_p (PS_leq rfl rfl) ?_
    refine WO_p (PS_pickT rfl hb2.h rfl) ?_
    refine WO_nil ?_
    refine thn_normal ?_
    refine W_if rfl (fun hb4 => ?_) (fun hb4 => ?_)
    · have hb4p := hb4.h; try simp only [al_ete, al_dfn, Bool.not_eq_true', Bool.not_eq_false', al_ne, Bool.not_not, al_nn] at hb4p
      refine W_seq ?_
      refine W_region rfl ?_
      refine WO_p (PS_move_slice rfl) ?_
      refine WO_p (PS_lenS Hvad.runUnderlying32 rfl) ?_
      refine WO_p (PS_assign_int rfl) ?_
      refine WO_nil ?_
      refine thn_normal ?_
      refine W_seqJ (fun ρ w' => ∃ en : Nat, Fr [(0, .slice (some ⟨bd, 0, none⟩) dl dl), (1, .slice s.1 s.2.1 s.2.2), (2, .int .i64 off), (3, .int .i64 n), (8, .int .i64 en)] ρ ∧ w' = w ∧ off ≤ en ∧ en ≤ s.2.1 ∧ off < s.2.1) ?_ ?_
      · skip
        refine W_seq ?_
        refine W_region rfl ?_
        refine WO_p (PS_move_int rfl) ?_
        refine WO_p (PS_move_int rfl) ?_
        refine WO_p (PS_move_int rfl) ?_
        refine WO_p (PS_sub_i64n rfl rfl (by omega) (by omega)) ?_
        refine WO_p (PS_lss rfl rfl) ?_
        refine WO_nil ?_
        refine thn_normal ?_
        refine W_if rfl (fun hb6 => ?_) (fun hb6 => ?_)
        · have hb6p := hb6.h; try simp only [al_ete, al_dfn, Bool.not_eq_true', Bool.not_eq_false', al_ne, Bool.not_not, al_nn] at hb6p
          refine W_region rfl ?_
          refine WO_p (PS_move_int rfl) ?_
          refine WO_p (PS_move_int rfl) ?_
          refine WO_p (PS_add_i64n rfl rfl (by omega) (by omega)) ?_
          refine WO_p (PS_assign_int rfl) ?_
          refine WO_nil ?_
          refine thn_normal ?_
          exact ⟨off + n, ⟨rfl, rfl, rfl, rfl, congrArg (Value.int .i64) (by omega), trivial⟩, rfl, by omega, by omega, by omega⟩
        · have hb6p := hb6.h; try simp only [al_ete, al_dfn, Bool.not_eq_true', Bool.not_eq_false', al_ne, Bool.not_not, al_nn] at hb6p
          refine W_skip ?_
          refine thn_normal ?_
          exact ⟨s.2.1, ⟨rfl, rfl, rfl, rfl, rfl, trivial⟩, rfl, by omega, Nat.le_refl _, by omega⟩
      · rintro ρ w4 ⟨en, hFr, rfl, hoe, hes, hos⟩
        refine W_env _ hFr ?_
        refine W_drawE [false, false, false, false, false, false, false, false, false, false, false] hmix (by kernel_rfl) rfl ?_
        refine WH_p (PS_move_slice rfl) rfl ?_
        refine WH_p (PS_move_slice rfl) rfl ?_
        refine WH_p (PS_lenS Hvad.runUnderlying32 rfl) rfl ?_
        refine WH_p (PS_move_int rfl) rfl ?_
        refine WH_p (PS_sub_i64n rfl rfl (by omega) (by omega)) rfl ?_
        refine WH_p (PS_slG_l Hvad.runUnderlying32 Hvad.sizeOf5 rfl rfl (by omega) (by omega)) rfl ?_
        rw [show ((dl : Int) - n).toNat = dl - n by omega, hop, show dl - (dl - n) = n by omega]
        refine WH_p (PS_move_slice rfl) rfl ?_
        refine WH_p (PS_move_int rfl) rfl ?_
        refine WH_p (PS_move_int rfl) rfl ?_
        refine WH_p (PS_slG_lh Hvad.runUnderlying32 Hvad.sizeOf5 rfl rfl rfl (by omega) (by omega) (by omega) (by omega)) rfl ?_
        rw [show (en : Int).toNat = en by omega, show (off : Int).toNat = off by omega]
        refine WH_copyV (b := bd) (o := o) (T := T) (L := D) Hvad.runUnderlying32 Hvad.sizeOf5 rfl rfl (Hb.drew hD) (by omega) (SC.ext (SC.part hs off (en - off) hos hc (by omega)) (Ext.drew (Ext.refl _))) (fun z hz => hL z (List.mem_of_mem_drop (List.mem_of_mem_take hz))) ?_
        intro w5 D5 hT5
        refine ⟨(fun h => by cases h), ?_⟩
        refine WH_nil ?_
        first | refine bodyQ_ret0 Hvad.results147 ?_ | refine bodyQ_end0 Hvad.results147 ?_
        first
        | exact ⟨D5, hT5.len, hT5.ty, hT5.hb, ((Ext.drew (Ext.refl _)).keepO _).trans hT5.keep fun _ _ e => e⟩
        | exact ⟨D, BufT.refl hD⟩
    · have hb4p := hb4.h; try simp only [al_ete, al_dfn, Bool.not_eq_true', Bool.not_eq_false', al_ne, Bool.not_not, al_nn] at hb4p
      refine W_skip ?_
      first | refine bodyQ_ret0 Hvad.results147 ?_ | refine bodyQ_end0 Hvad.results147 ?_
      first
      | exact ⟨D5, hT5.len, hT5.ty, hT5.hb, ((Ext.drew (Ext.refl _)).keepO _).trans hT5.keep fun _ _ e => e⟩
      | exact ⟨D, BufT.refl hD⟩
  · have hb2p := hb2.h; try simp only [al_ete, al_dfn, Bool.not_eq_true', Bool.not_eq_false', al_ne, Bool.not_not, al_nn] at hb2p
    refine WO_guardF rfl rfl hb2.h ?_
    refine WO_guardF rfl rfl hb2.h ?_
    refine WO_guardF rfl rfl hb2.h ?_
    refine WO_guardF rfl rfl hb2.h ?_
    refine WO_p (PS_pickF rfl hb2.h rfl) ?_
    refine WO_nil ?_
    refine thn_normal ?_
    refine W_condF rfl rfl ?_
    refine W_skip ?_
    first | refine bodyQ_ret0 Hvad.results147 ?_ | refine bodyQ_end0 Hvad.results147 ?_
    first
    | exact ⟨D5, hT5.len, hT5.ty, hT5.hb, ((Ext.drew (Ext.refl _)).keepO _).trans hT5.keep fun _ _ e => e⟩
    | exact ⟨D, BufT.refl hD⟩

end Go.Proofs.YgvadwGreat
