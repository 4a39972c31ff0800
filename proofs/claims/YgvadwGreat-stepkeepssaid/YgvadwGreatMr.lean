import Derived.Test.YgvadwGreatMq
import Derived.Test.YgvadwGreatFwP
namespace Go.Proofs.YgvadwGreat
set_option linter.unusedSimpArgs false
set_option linter.unusedVariables false
theorem BufT.set1 {b : Nat} {T : TypeId} {L : List Int} {w : World} {o : Nat} (h : Hb w b (.cells (ic .u8 L) T (0, 0))) (x : Int) (ho : o < L.length) (hx : 0 ≤ x ∧ x ≤ 255) : BufT b T L w (setB w b (.cells ((ic .u8 L).setIfInBounds o (.int .u8 x)) T (0, 0))) (L.set o x) := by
  have e : (ic .u8 L).setIfInBounds o (.int .u8 x) = ic .u8 (L.set o x) := by simp [ic, List.map_set]
  rw [e]
  exact ⟨List.length_set .., fun hl => mem_set hl hx, Hb.setSame h, KeepO.setB (O := fun x => x = b) (KeepO.refl _ w) (fun _ => rfl) _⟩
def eb8 (x : Int) : List Int := [x / 2 ^ 56 % 256, x / 2 ^ 48 % 256, x / 2 ^ 40 % 256, x / 2 ^ 32 % 256, x / 2 ^ 24 % 256, x / 2 ^ 16 % 256, x / 2 ^ 8 % 256, x % 256]
theorem eb8_by (x : Int) : By8 (eb8 x) := by intro y hy; simp [eb8] at hy; omega
def put8 (L : List Int) (o : Nat) (x : Int) : List Int := (((((((L.set o (x / 2 ^ 56 % 256)).set (o + 1) (x / 2 ^ 48 % 256)).set (o + 2) (x / 2 ^ 40 % 256)).set (o + 3) (x / 2 ^ 32 % 256)).set (o + 4) (x / 2 ^ 24 % 256)).set (o + 5) (x / 2 ^ 16 % 256)).set (o + 6) (x / 2 ^ 8 % 256)).set (o + 7) (x % 256)
theorem put8_len (L : List Int) (o : Nat) (x : Int) : (put8 L o x).length = L.length := by simp [put8]
def be32 (W : List Int) : List Int := eb8 (W.getD 3 0) ++ (eb8 (W.getD 2 0) ++ (eb8 (W.getD 1 0) ++ eb8 (W.getD 0 0)))
theorem be32_by (W : List Int) : By (be32 W) 32 := ⟨rfl, by
  intro y hy
  simp only [be32, List.mem_append] at hy
  rcases hy with hy | hy | hy | hy <;> exact eb8_by _ y hy⟩
def addrW (W : List Int) : List Int := (be32 W).drop 12
theorem addrW_by (W : List Int) : By (addrW W) 20 := ⟨rfl, fun y hy => (be32_by W).2 y (List.mem_of_mem_drop hy)⟩

set_option maxRecDepth 10000 in
theorem putBE64_spec (b n cp off : Nat) (T : TypeId) (L : List Int) (x : Int) (w : World) (hb : Hb w b (.cells (ic .u8 L) T (0, 0))) (hon : off + 8 ≤ n) (hnL : n ≤ L.length) (hn : n ≤ 1000) (hcp : n ≤ cp) (hx : 0 ≤ x ∧ x ≤ 18446744073709551615) : Ret Hvad.prog 120 #[.slice (some ⟨b, 0, none⟩) n cp, .int .i64 off, .int .u64 x] w fun u w' => u = .bool true ∧ BufT b T L w w' (put8 L off x) := by
  have hsz : (ic .u8 L).size = L.length := size_ic _ _
  refine Ret_of_W Hvad.func120 rfl rfl ?_
  refine W_seq ?_
  refine W_region rfl ?_
  refine WO_p (PS_assign_bool rfl) ?_
  refine WO_nil ?_
  refine thn_normal ?_
  refine W_seq ?_
  refine W_seq ?_
  refine W_region rfl ?_
  refine WO_p (PS_move_slice rfl) ?_
  refine WO_p (PS_lenS Hvad.runUnderlying32 rfl) ?_
  refine WO_p (PS_move_int rfl) ?_
  refine WO_call Hvad.call128 (by rfl) (Ret.mono (inside_spec _ _ _ (by omega) (by omega)) ?_)
  rintro _ w0 ⟨rfl, hw0⟩
  obtain rfl := hw0.symm
  refine WO_p (PS_not rfl) ?_
  refine WO_nil ?_
  refine thn_normal ?_
  refine W_if rfl (fun hb4 => ?_) (fun hb4 => ?_)
  · have hb4p := hb4.h; try simp only [al_ete, al_dfn, Bool.not_eq_true', Bool.not_eq_false', al_ne, Bool.not_not, al_nn] at hb4p
    simp at hb4p; omega --END
  · have hb4p := hb4.h; try simp only [al_ete, al_dfn, Bool.not_eq_true', Bool.not_eq_false', al_ne, Bool.not_not, al_nn] at hb4p
    refine W_skip ?_
    refine thn_normal ?_
    refine W_seq ?_
    refine W_region rfl ?_
    refine WO_p (PS_move_slice rfl) ?_
    refine WO_p (PS_move_int rfl) ?_
    refine WO_p (PS_move_int rfl) ?_
    first | refine WO_p (PS_add_i64n rfl rfl (by omega) (by omega)) ?_ | refine WO_p (PS_add_i64w rfl rfl) ?_
    refine WO_p (PS_slS_lh Hvad.runUnderlying32 Hvad.sizeOf5 rfl rfl rfl (by omega) (by omega) (by omega) (by omega) (by omega)) ?_
    rw [Int.toNat_natCast off, show ((off : Int) + 8).toNat - off = 8 by omega, Nat.zero_add, Nat.mul_one]
    refine WO_p (PS_arrayAt Hvad.runUnderlying189 rfl (by omega)) ?_
    refine WO_p (PS_assign_ptr rfl) ?_
    refine WO_nil ?_
    refine thn_normal ?_
    refine W_seq ?_
    refine W_region rfl ?_
    refine WO_p (PS_move_ptr rfl) ?_
    refine WO_p (PS_move_int rfl) ?_
    refine WO_p (PS_shr_u64 56 rfl rfl (by decide) rfl) ?_
    refine WO_p (PS_conv_u8w Hvad.runUnderlying26 Hvad.runUnderlying5 rfl) ?_
    refine WO_p (PS_nilCheck rfl) ?_
    refine WO_p (PS_indexA Hvad.runUnderlying189 Hvad.sizeOf5 rfl rfl (by omega) (by omega)) ?_
    refine WO_store1 Hvad.sizeOf5 rfl (v := .int .u8 _) rfl hb.h rfl (by rw [size_ic]; (try simp only [List.length_set]); show off + 0 < _; omega) rfl ?_
    have hT0 := BufT.set1 hb (o := off + 0) (x / 2 ^ 56 % 256) (by (try simp only [List.length_set]); omega) (by omega)
    change WO _ _ _ _ _ (setB w b (.cells ((ic .u8 L).setIfInBounds (off + 0) (.int .u8 (x / 2 ^ 56 % 256))) T (0, 0)))
    generalize setB w b (.cells ((ic .u8 L).setIfInBounds (off + 0) (.int .u8 (x / 2 ^ 56 % 256))) T (0, 0)) = w1 at hT0 ⊢
    refine WO_nil ?_
    refine thn_normal ?_
    refine W_seq ?_
    refine W_region rfl ?_
    refine WO_p (PS_move_ptr rfl) ?_
    refine WO_p (PS_move_int rfl) ?_
    refine WO_p (PS_shr_u64 48 rfl rfl (by decide) rfl) ?_
    refine WO_p (PS_conv_u8w Hvad.runUnderlying26 Hvad.runUnderlying5 rfl) ?_
    refine WO_p (PS_nilCheck rfl) ?_
    refine WO_p (PS_indexA Hvad.runUnderlying189 Hvad.sizeOf5 rfl rfl (by omega) (by omega)) ?_
    refine WO_store1 Hvad.sizeOf5 rfl (v := .int .u8 _) rfl hT0.hb.h rfl (by rw [size_ic]; (try simp only [List.length_set]); show off + 1 < _; omega) rfl ?_
    have hT1 := BufT.set1 hT0.hb (o := off + 1) (x / 2 ^ 48 % 256) (by (try simp only [List.length_set]); omega) (by omega)
    change WO _ _ _ _ _ (setB w1 b (.cells ((ic .u8 (L.set (off + 0) (x / 2 ^ 56 % 256))).setIfInBounds (off + 1) (.int .u8 (x / 2 ^ 48 % 256))) T (0, 0)))
    generalize setB w1 b (.cells ((ic .u8 (L.set (off + 0) (x / 2 ^ 56 % 256))).setIfInBounds (off + 1) (.int .u8 (x / 2 ^ 48 % 256))) T (0, 0)) = w2 at hT1 ⊢
    refine WO_nil ?_
    refine thn_normal ?_
    refine W_seq ?_
    refine W_region rfl ?_
    refine WO_p (PS_move_ptr rfl) ?_
    refine WO_p (PS_move_int rfl) ?_
    refine WO_p (PS_shr_u64 40 rfl rfl (by decide) rfl) ?_
    refine WO_p (PS_conv_u8w Hvad.runUnderlying26 Hvad.runUnderlying5 rfl) ?_
    refine WO_p (PS_nilCheck rfl) ?_
    refine WO_p (PS_indexA Hvad.runUnderlying189 Hvad.sizeOf5 rfl rfl (by omega) (by omega)) ?_
    refine WO_store1 Hvad.sizeOf5 rfl (v := .int .u8 _) rfl hT1.hb.h rfl (by rw [size_ic]; (try simp only [List.length_set]); show off + 2 < _; omega) rfl ?_
    have hT2 := BufT.set1 hT1.hb (o := off + 2) (x / 2 ^ 40 % 256) (by (try simp only [List.length_set]); omega) (by omega)
    change WO _ _ _ _ _ (setB w2 b (.cells ((ic .u8 ((L.set (off + 0) (x / 2 ^ 56 % 256)).set (off + 1) (x / 2 ^ 48 % 256))).setIfInBounds (off + 2) (.int .u8 (x / 2 ^ 40 % 256))) T (0, 0)))
    generalize setB w2 b (.cells ((ic .u8 ((L.set (off + 0) (x / 2 ^ 56 % 256)).set (off + 1) (x / 2 ^ 48 % 256))).setIfInBounds (off + 2) (.int .u8 (x / 2 ^ 40 % 256))) T (0, 0)) = w3 at hT2 ⊢
    refine WO_nil ?_
    refine thn_normal ?_
    refine W_seq ?_
    refine W_region rfl ?_
    refine WO_p (PS_move_ptr rfl) ?_
    refine WO_p (PS_move_int rfl) ?_
    refine WO_p (PS_shr_u64 32 rfl rfl (by decide) rfl) ?_
    refine WO_p (PS_conv_u8w Hvad.runUnderlying26 Hvad.runUnderlying5 rfl) ?_
    refine WO_p (PS_nilCheck rfl) ?_
    refine WO_p (PS_indexA Hvad.runUnderlying189 Hvad.sizeOf5 rfl rfl (by omega) (by omega)) ?_
    refine WO_store1 Hvad.sizeOf5 rfl (v := .int .u8 _) rfl hT2.hb.h rfl (by rw [size_ic]; (try simp only [List.length_set]); show off + 3 < _; omega) rfl ?_
    have hT3 := BufT.set1 hT2.hb (o := off + 3) (x / 2 ^ 32 % 256) (by (try simp only [List.length_set]); omega) (by omega)
    change WO _ _ _ _ _ (setB w3 b (.cells ((ic .u8 (((L.set (off + 0) (x / 2 ^ 56 % 256)).set (off + 1) (x / 2 ^ 48 % 256)).set (off + 2) (x / 2 ^ 40 % 256))).setIfInBounds (off + 3) (.int .u8 (x / 2 ^ 32 % 256))) T (0, 0)))
    generalize setB w3 b (.cells ((ic .u8 (((L.set (off + 0) (x / 2 ^ 56 % 256)).set (off + 1) (x / 2 ^ 48 % 256)).set (off + 2) (x / 2 ^ 40 % 256))).setIfInBounds (off + 3) (.int .u8 (x / 2 ^ 32 % 256))) T (0, 0)) = w4 at hT3 ⊢
    refine WO_nil ?_
    refine thn_normal ?_
    refine W_seq ?_
    refine W_region rfl ?_
    refine WO_p (PS_move_ptr rfl) ?_
    refine WO_p (PS_move_int rfl) ?_
    refine WO_p (PS_shr_u64 24 rfl rfl (by decide) rfl) ?_
    refine WO_p (PS_conv_u8w Hvad.runUnderlying26 Hvad.runUnderlying5 rfl) ?_
    refine WO_p (PS_nilCheck rfl) ?_
    refine WO_p (PS_indexA Hvad.runUnderlying189 Hvad.sizeOf5 rfl rfl (by omega) (by omega)) ?_
    refine WO_store1 Hvad.sizeOf5 rfl (v := .int .u8 _) rfl hT3.hb.h rfl (by rw [size_ic]; (try simp only [List.length_set]); show off + 4 < _; omega) rfl ?_
    have hT4 := BufT.set1 hT3.hb (o := off + 4) (x / 2 ^ 24 % 256) (by (try simp only [List.length_set]); omega) (by omega)
    change WO _ _ _ _ _ (setB w4 b (.cells ((ic .u8 ((((L.set (off + 0) (x / 2 ^ 56 % 256)).set (off + 1) (x / 2 ^ 48 % 256)).set (off + 2) (x / 2 ^ 40 % 256)).set (off + 3) (x / 2 ^ 32 % 256))).setIfInBounds (off + 4) (.int .u8 (x / 2 ^ 24 % 256))) T (0, 0)))
    generalize setB w4 b (.cells ((ic .u8 ((((L.set (off + 0) (x / 2 ^ 56 % 256)).set (off + 1) (x / 2 ^ 48 % 256)).set (off + 2) (x / 2 ^ 40 % 256)).set (off + 3) (x / 2 ^ 32 % 256))).setIfInBounds (off + 4) (.int .u8 (x / 2 ^ 24 % 256))) T (0, 0)) = w5 at hT4 ⊢
    refine WO_nil ?_
    refine thn_normal ?_
    refine W_seq ?_
    refine W_region rfl ?_
    refine WO_p (PS_move_ptr rfl) ?_
    refine WO_p (PS_move_int rfl) ?_
    refine WO_p (PS_shr_u64 16 rfl rfl (by decide) rfl) ?_
    refine WO_p (PS_conv_u8w Hvad.runUnderlying26 Hvad.runUnderlying5 rfl) ?_
    refine WO_p (PS_nilCheck rfl) ?_
    refine WO_p (PS_indexA Hvad.runUnderlying189 Hvad.sizeOf5 rfl rfl (by omega) (by omega)) ?_
    refine WO_store1 Hvad.sizeOf5 rfl (v := .int .u8 _) rfl hT4.hb.h rfl (by rw [size_ic]; (try simp only [List.length_set]); show off + 5 < _; omega) rfl ?_
    have hT5 := BufT.set1 hT4.hb (o := off + 5) (x / 2 ^ 16 % 256) (by (try simp only [List.length_set]); omega) (by omega)
    change WO _ _ _ _ _ (setB w5 b (.cells ((ic .u8 (((((L.set (off + 0) (x / 2 ^ 56 % 256)).set (off + 1) (x / 2 ^ 48 % 256)).set (off + 2) (x / 2 ^ 40 % 256)).set (off + 3) (x / 2 ^ 32 % 256)).set (off + 4) (x / 2 ^ 24 % 256))).setIfInBounds (off + 5) (.int .u8 (x / 2 ^ 16 % 256))) T (0, 0)))
    generalize setB w5 b (.cells ((ic .u8 (((((L.set (off + 0) (x / 2 ^ 56 % 256)).set (off + 1) (x / 2 ^ 48 % 256)).set (off + 2) (x / 2 ^ 40 % 256)).set (off + 3) (x / 2 ^ 32 % 256)).set (off + 4) (x / 2 ^ 24 % 256))).setIfInBounds (off + 5) (.int .u8 (x / 2 ^ 16 % 256))) T (0, 0)) = w6 at hT5 ⊢
    refine WO_nil ?_
    refine thn_normal ?_
    refine W_seq ?_
    refine W_region rfl ?_
    refine WO_p (PS_move_ptr rfl) ?_
    refine WO_p (PS_move_int rfl) ?_
    refine WO_p (PS_shr_u64 8 rfl rfl (by decide) rfl) ?_
    refine WO_p (PS_conv_u8w Hvad.runUnderlying26 Hvad.runUnderlying5 rfl) ?_
    refine WO_p (PS_nilCheck rfl) ?_
    refine WO_p (PS_indexA Hvad.runUnderlying189 Hvad.sizeOf5 rfl rfl (by omega) (by omega)) ?_
    refine WO_store1 Hvad.sizeOf5 rfl (v := .int .u8 _) rfl hT5.hb.h rfl (by rw [size_ic]; (try simp only [List.length_set]); show off + 6 < _; omega) rfl ?_
    have hT6 := BufT.set1 hT5.hb (o := off + 6) (x / 2 ^ 8 % 256) (by (try simp only [List.length_set]); omega) (by omega)
    change WO _ _ _ _ _ (setB w6 b (.cells ((ic .u8 ((((((L.set (off + 0) (x / 2 ^ 56 % 256)).set (off + 1) (x / 2 ^ 48 % 256)).set (off + 2) (x / 2 ^ 40 % 256)).set (off + 3) (x / 2 ^ 32 % 256)).set (off + 4) (x / 2 ^ 24 % 256)).set (off + 5) (x / 2 ^ 16 % 256))).setIfInBounds (off + 6) (.int .u8 (x / 2 ^ 8 % 256))) T (0, 0)))
    generalize setB w6 b (.cells ((ic .u8 ((((((L.set (off + 0) (x / 2 ^ 56 % 256)).set (off + 1) (x / 2 ^ 48 % 256)).set (off + 2) (x / 2 ^ 40 % 256)).set (off + 3) (x / 2 ^ 32 % 256)).set (off + 4) (x / 2 ^ 24 % 256)).set (off + 5) (x / 2 ^ 16 % 256))).setIfInBounds (off + 6) (.int .u8 (x / 2 ^ 8 % 256))) T (0, 0)) = w7 at hT6 ⊢
    refine WO_nil ?_
    refine thn_normal ?_
    refine W_seq ?_
    refine W_region rfl ?_
    refine WO_p (PS_move_ptr rfl) ?_
    refine WO_p (PS_move_int rfl) ?_
    refine WO_p (PS_conv_u8w Hvad.runUnderlying26 Hvad.runUnderlying5 rfl) ?_
    refine WO_p (PS_nilCheck rfl) ?_
    refine WO_p (PS_indexA Hvad.runUnderlying189 Hvad.sizeOf5 rfl rfl (by omega) (by omega)) ?_
    refine WO_store1 Hvad.sizeOf5 rfl (v := .int .u8 _) rfl hT6.hb.h rfl (by rw [size_ic]; (try simp only [List.length_set]); show off + 7 < _; omega) rfl ?_
    have hT7 := BufT.set1 hT6.hb (o := off + 7) (x % 256) (by (try simp only [List.length_set]); omega) (by omega)
    change WO _ _ _ _ _ (setB w7 b (.cells ((ic .u8 (((((((L.set (off + 0) (x / 2 ^ 56 % 256)).set (off + 1) (x / 2 ^ 48 % 256)).set (off + 2) (x / 2 ^ 40 % 256)).set (off + 3) (x / 2 ^ 32 % 256)).set (off + 4) (x / 2 ^ 24 % 256)).set (off + 5) (x / 2 ^ 16 % 256)).set (off + 6) (x / 2 ^ 8 % 256))).setIfInBounds (off + 7) (.int .u8 (x % 256))) T (0, 0)))
    generalize setB w7 b (.cells ((ic .u8 (((((((L.set (off + 0) (x / 2 ^ 56 % 256)).set (off + 1) (x / 2 ^ 48 % 256)).set (off + 2) (x / 2 ^ 40 % 256)).set (off + 3) (x / 2 ^ 32 % 256)).set (off + 4) (x / 2 ^ 24 % 256)).set (off + 5) (x / 2 ^ 16 % 256)).set (off + 6) (x / 2 ^ 8 % 256))).setIfInBounds (off + 7) (.int .u8 (x % 256))) T (0, 0)) = w8 at hT7 ⊢
    refine WO_nil ?_
    refine thn_normal ?_
    refine W_seq ?_
    refine W_region rfl ?_
    refine WO_p (PS_assign_bool rfl) ?_
    refine WO_nil ?_
    refine thn_normal ?_
    refine W_ret ?_
    refine bodyQ_ret1 Hvad.results120 rfl (.bool _) rfl ?_
    exact ⟨rfl, ((((((hT0.trans hT1).trans hT2).trans hT3).trans hT4).trans hT5).trans hT6).trans hT7⟩

theorem put8_be32 (x0 x1 x2 x3 : Int) : put8 (put8 (put8 (put8 (List.replicate 32 0) 0 x3) 8 x2) 16 x1) 24 x0 = be32 [x0, x1, x2, x3] := by
  simp only [put8, List.replicate, List.set_cons_succ, List.set_cons_zero]
  rfl

set_option maxRecDepth 10000 in
theorem be32_spec (W : List Int) (w : World) (hW : Wd W) : Ret Hvad.prog 199 #[.agg (ic .u64 W)] w fun u w' => Ext w w' ∧ u = .agg (ic .u8 (be32 W)) := by
  obtain ⟨x0, x1, x2, x3, rfl, h0, h1, h2, h3⟩ := isZ hW
  refine Ret_of_W Hvad.func199 rfl rfl ?_
  refine W_seq ?_
  refine W_region rfl ?_
  refine WO_boxG (.agg _) rfl ?_
  intro b1 v1 hg1 hE1 hH1 hl1
  refine WO_allocG Hvad.zeroValue27 ?_
  intro b2 v2 hg2 hE2 hH2 hl2
  replace hH2 : Hb v2 b2 (.cells (ic .u8 (List.replicate 32 0)) 27 (0, 0)) := hH2
  refine WO_nil ?_
  refine thn_normal ?_
  refine W_seq ?_
  refine W_region rfl ?_
  refine WO_allocG Hvad.zeroValue27 ?_
  intro b3 v3 hg3 hE3 hH3 hl3
  replace hH3 : Hb v3 b3 (.cells (ic .u8 (List.replicate 32 0)) 27 (0, 0)) := hH3
  refine WO_nil ?_
  refine thn_normal ?_
  refine W_seq ?_
  refine W_drawE [false, false, false, false] hmix (by kernel_rfl) rfl ?_
  refine WH_p (PS_slA Hvad.runUnderlying27 Hvad.sizeOf5 rfl (by omega)) rfl ?_
  refine WH_p (PS_indexA Hvad.runUnderlying59 Hvad.sizeOf26 rfl rfl (by omega) (by omega)) rfl ?_
  refine WH_load (.int _ _) Hvad.isAgg26 rfl (Hb.h (by repeat (first | assumption | exact Hb.newY _ _ | refine Hb.alloc ?_ | refine Hb.drew ?_ | refine Hb.ext (by assumption) ?_ | exact Hb.setSameL (by first | omega | (simp only [size_alloc, size_setB, size_drew]; omega)) | exact Hb.setSame (by assumption) | refine Hb.set (by first | omega | (simp only [size_alloc, size_setB, size_drew]; omega)) ?_ ))) (Ce.h (by first | assumption | exact ⟨rfl⟩)) ?_
  refine WH_call Hvad.call120 (by rfl) (Ret.mono (putBE64_spec _ 32 32 0 27 _ x3 _ (Hb.drew hH3) (by omega) (by (try simp only [put8_len]); decide) (by omega) (by omega) (by omega)) ?_)
  rintro _ w1 ⟨rfl, hT1⟩
  refine ⟨(fun h => by cases h), ?_⟩
  have hX1 : Hb w1 b1 (.cells (ic .u64 [x0, x1, x2, x3]) 59 (0, 0)) := hT1.other (Hb.mk (Hb.h (by repeat (first | assumption | exact Hb.newY _ _ | refine Hb.alloc ?_ | refine Hb.drew ?_ | refine Hb.ext (by assumption) ?_ | exact Hb.setSameL (by first | omega | (simp only [size_alloc, size_setB, size_drew]; omega)) | exact Hb.setSame (by assumption) | refine Hb.set (by first | omega | (simp only [size_alloc, size_setB, size_drew]; omega)) ?_ )))) (by omega)
  have hY1 : Hb w1 b2 (.cells (ic .u8 (List.replicate 32 0)) 27 (0, 0)) := hT1.other (Hb.mk (Hb.h (by repeat (first | assumption | exact Hb.newY _ _ | refine Hb.alloc ?_ | refine Hb.drew ?_ | refine Hb.ext (by assumption) ?_ | exact Hb.setSameL (by first | omega | (simp only [size_alloc, size_setB, size_drew]; omega)) | exact Hb.setSame (by assumption) | refine Hb.set (by first | omega | (simp only [size_alloc, size_setB, size_drew]; omega)) ?_ )))) (by omega)
  have hZ1 : Ext w w1 := hT1.ext (by repeat (first | assumption | exact Ext.refl _ | refine Ext.alloc ?_ _ | refine Ext.drew ?_ | refine Ext.setB ?_ (by first | omega | (simp only [size_alloc, size_setB, size_drew]; omega)) _ | exact Ext.trans (by assumption) (by assumption) | refine Ext.trans ?_ (by assumption))) (by omega)
  refine WH_nil ?_
  refine thn_normal ?_
  refine W_seq ?_
  refine W_drawE [false, false, false, false] hmix (by kernel_rfl) rfl ?_
  refine WH_p (PS_slA Hvad.runUnderlying27 Hvad.sizeOf5 rfl (by omega)) rfl ?_
  refine WH_p (PS_indexA Hvad.runUnderlying59 Hvad.sizeOf26 rfl rfl (by omega) (by omega)) rfl ?_
  refine WH_load (.int _ _) Hvad.isAgg26 rfl (Hb.h (by repeat (first | assumption | exact Hb.newY _ _ | refine Hb.alloc ?_ | refine Hb.drew ?_ | refine Hb.ext (by assumption) ?_ | exact Hb.setSameL (by first | omega | (simp only [size_alloc, size_setB, size_drew]; omega)) | exact Hb.setSame (by assumption) | refine Hb.set (by first | omega | (simp only [size_alloc, size_setB, size_drew]; omega)) ?_ ))) (Ce.h (by first | assumption | exact ⟨rfl⟩)) ?_
  refine WH_call Hvad.call120 (by rfl) (Ret.mono (putBE64_spec _ 32 32 8 27 _ x2 _ (Hb.drew hT1.hb) (by omega) (by (try simp only [put8_len]); decide) (by omega) (by omega) (by omega)) ?_)
  rintro _ w2 ⟨rfl, hT2⟩
  refine ⟨(fun h => by cases h), ?_⟩
  have hX2 : Hb w2 b1 (.cells (ic .u64 [x0, x1, x2, x3]) 59 (0, 0)) := hT2.other (Hb.mk (Hb.h (by repeat (first | assumption | exact Hb.newY _ _ | refine Hb.alloc ?_ | refine Hb.drew ?_ | refine Hb.ext (by assumption) ?_ | exact Hb.setSameL (by first | omega | (simp only [size_alloc, size_setB, size_drew]; omega)) | exact Hb.setSame (by assumption) | refine Hb.set (by first | omega | (simp only [size_alloc, size_setB, size_drew]; omega)) ?_ )))) (by omega)
  have hY2 : Hb w2 b2 (.cells (ic .u8 (List.replicate 32 0)) 27 (0, 0)) := hT2.other (Hb.mk (Hb.h (by repeat (first | assumption | exact Hb.newY _ _ | refine Hb.alloc ?_ | refine Hb.drew ?_ | refine Hb.ext (by assumption) ?_ | exact Hb.setSameL (by first | omega | (simp only [size_alloc, size_setB, size_drew]; omega)) | exact Hb.setSame (by assumption) | refine Hb.set (by first | omega | (simp only [size_alloc, size_setB, size_drew]; omega)) ?_ )))) (by omega)
  have hZ2 : Ext w w2 := hT2.ext (by repeat (first | assumption | exact Ext.refl _ | refine Ext.alloc ?_ _ | refine Ext.drew ?_ | refine Ext.setB ?_ (by first | omega | (simp only [size_alloc, size_setB, size_drew]; omega)) _ | exact Ext.trans (by assumption) (by assumption) | refine Ext.trans ?_ (by assumption))) (by omega)
  refine WH_nil ?_
  refine thn_normal ?_
  refine W_seq ?_
  refine W_drawE [false, false, false, false] hmix (by kernel_rfl) rfl ?_
  refine WH_p (PS_slA Hvad.runUnderlying27 Hvad.sizeOf5 rfl (by omega)) rfl ?_
  refine WH_p (PS_indexA Hvad.runUnderlying59 Hvad.sizeOf26 rfl rfl (by omega) (by omega)) rfl ?_
  refine WH_load (.int _ _) Hvad.isAgg26 rfl (Hb.h (by repeat (first | assumption | exact Hb.newY _ _ | refine Hb.alloc ?_ | refine Hb.drew ?_ | refine Hb.ext (by assumption) ?_ | exact Hb.setSameL (by first | omega | (simp only [size_alloc, size_setB, size_drew]; omega)) | exact Hb.setSame (by assumption) | refine Hb.set (by first | omega | (simp only [size_alloc, size_setB, size_drew]; omega)) ?_ ))) (Ce.h (by first | assumption | exact ⟨rfl⟩)) ?_
  refine WH_call Hvad.call120 (by rfl) (Ret.mono (putBE64_spec _ 32 32 16 27 _ x1 _ (Hb.drew hT2.hb) (by omega) (by (try simp only [put8_len]); decide) (by omega) (by omega) (by omega)) ?_)
  rintro _ w3 ⟨rfl, hT3⟩
  refine ⟨(fun h => by cases h), ?_⟩
  have hX3 : Hb w3 b1 (.cells (ic .u64 [x0, x1, x2, x3]) 59 (0, 0)) := hT3.other (Hb.mk (Hb.h (by repeat (first | assumption | exact Hb.newY _ _ | refine Hb.alloc ?_ | refine Hb.drew ?_ | refine Hb.ext (by assumption) ?_ | exact Hb.setSameL (by first | omega | (simp only [size_alloc, size_setB, size_drew]; omega)) | exact Hb.setSame (by assumption) | refine Hb.set (by first | omega | (simp only [size_alloc, size_setB, size_drew]; omega)) ?_ )))) (by omega)
  have hY3 : Hb w3 b2 (.cells (ic .u8 (List.replicate 32 0)) 27 (0, 0)) := hT3.other (Hb.mk (Hb.h (by repeat (first | assumption | exact Hb.newY _ _ | refine Hb.alloc ?_ | refine Hb.drew ?_ | refine Hb.ext (by assumption) ?_ | exact Hb.setSameL (by first | omega | (simp only [size_alloc, size_setB, size_drew]; omega)) | exact Hb.setSame (by assumption) | refine Hb.set (by first | omega | (simp only [size_alloc, size_setB, size_drew]; omega)) ?_ )))) (by omega)
  have hZ3 : Ext w w3 := hT3.ext (by repeat (first | assumption | exact Ext.refl _ | refine Ext.alloc ?_ _ | refine Ext.drew ?_ | refine Ext.setB ?_ (by first | omega | (simp only [size_alloc, size_setB, size_drew]; omega)) _ | exact Ext.trans (by assumption) (by assumption) | refine Ext.trans ?_ (by assumption))) (by omega)
  refine WH_nil ?_
  refine thn_normal ?_
  refine W_seq ?_
  refine W_drawE [false, false, false, false] hmix (by kernel_rfl) rfl ?_
  refine WH_p (PS_slA Hvad.runUnderlying27 Hvad.sizeOf5 rfl (by omega)) rfl ?_
  refine WH_p (PS_indexA Hvad.runUnderlying59 Hvad.sizeOf26 rfl rfl (by omega) (by omega)) rfl ?_
  refine WH_load (.int _ _) Hvad.isAgg26 rfl (Hb.h (by repeat (first | assumption | exact Hb.newY _ _ | refine Hb.alloc ?_ | refine Hb.drew ?_ | refine Hb.ext (by assumption) ?_ | exact Hb.setSameL (by first | omega | (simp only [size_alloc, size_setB, size_drew]; omega)) | exact Hb.setSame (by assumption) | refine Hb.set (by first | omega | (simp only [size_alloc, size_setB, size_drew]; omega)) ?_ ))) (Ce.h (by first | assumption | exact ⟨rfl⟩)) ?_
  refine WH_call Hvad.call120 (by rfl) (Ret.mono (putBE64_spec _ 32 32 24 27 _ x0 _ (Hb.drew hT3.hb) (by omega) (by (try simp only [put8_len]); decide) (by omega) (by omega) (by omega)) ?_)
  rintro _ w4 ⟨rfl, hT4⟩
  refine ⟨(fun h => by cases h), ?_⟩
  have hX4 : Hb w4 b1 (.cells (ic .u64 [x0, x1, x2, x3]) 59 (0, 0)) := hT4.other (Hb.mk (Hb.h (by repeat (first | assumption | exact Hb.newY _ _ | refine Hb.alloc ?_ | refine Hb.drew ?_ | refine Hb.ext (by assumption) ?_ | exact Hb.setSameL (by first | omega | (simp only [size_alloc, size_setB, size_drew]; omega)) | exact Hb.setSame (by assumption) | refine Hb.set (by first | omega | (simp only [size_alloc, size_setB, size_drew]; omega)) ?_ )))) (by omega)
  have hY4 : Hb w4 b2 (.cells (ic .u8 (List.replicate 32 0)) 27 (0, 0)) := hT4.other (Hb.mk (Hb.h (by repeat (first | assumption | exact Hb.newY _ _ | refine Hb.alloc ?_ | refine Hb.drew ?_ | refine Hb.ext (by assumption) ?_ | exact Hb.setSameL (by first | omega | (simp only [size_alloc, size_setB, size_drew]; omega)) | exact Hb.setSame (by assumption) | refine Hb.set (by first | omega | (simp only [size_alloc, size_setB, size_drew]; omega)) ?_ )))) (by omega)
  have hZ4 : Ext w w4 := hT4.ext (by repeat (first | assumption | exact Ext.refl _ | refine Ext.alloc ?_ _ | refine Ext.drew ?_ | refine Ext.setB ?_ (by first | omega | (simp only [size_alloc, size_setB, size_drew]; omega)) _ | exact Ext.trans (by assumption) (by assumption) | refine Ext.trans ?_ (by assumption))) (by omega)
  refine WH_nil ?_
  refine thn_normal ?_
  refine W_seq ?_
  have hC4 := hT4.hb
  rw [put8_be32] at hC4
  have hbl := (be32_by [x0, x1, x2, x3]).1
  generalize be32 [x0, x1, x2, x3] = BE at hC4 hbl ⊢
  clear hT1 hT2 hT3 hT4
  refine W_region rfl ?_
  refine WO_loadA _ Hvad.isAgg27 Hvad.sizeOf27 rfl (Hb.h (by repeat (first | assumption | exact Hb.newY _ _ | refine Hb.alloc ?_ | refine Hb.drew ?_ | refine Hb.ext (by assumption) ?_ | exact Hb.setSameL (by first | omega | (simp only [size_alloc, size_setB, size_drew]; omega)) | exact Hb.setSame (by assumption) | refine Hb.set (by first | omega | (simp only [size_alloc, size_setB, size_drew]; omega)) ?_ ))) (by first | omega | assumption | rfl | decide | exact Nat.le_refl _ | (simp only [size_ic, Value.cells]; omega) | simp) (Xt.h (by first | assumption | exact Xt.whole rfl rfl | exact Xt.whole rfl (by simp only [size_ic, Value.cells]; omega) | exact ⟨rfl⟩)) ?_
  first | refine WO_storeW Hvad.sizeOf27 rfl (v := .agg _) rfl (Hb.h (by repeat (first | assumption | exact Hb.newY _ _ | refine Hb.alloc ?_ | refine Hb.drew ?_ | refine Hb.ext (by assumption) ?_ | exact Hb.setSameL (by first | omega | (simp only [size_alloc, size_setB, size_drew]; omega)) | exact Hb.setSame (by assumption) | refine Hb.set (by first | omega | (simp only [size_alloc, size_setB, size_drew]; omega)) ?_ ))) rfl (by first | omega | assumption | rfl | decide | exact Nat.le_refl _ | (simp only [size_ic, Value.cells]; omega) | simp) (by first | omega | assumption | rfl | decide | exact Nat.le_refl _ | (simp only [size_ic, Value.cells]; omega) | simp) (by first | exact oneCell_ic | assumption) ?_ | refine WO_store Hvad.sizeOf27 rfl (v := .agg _) rfl (Hb.h (by repeat (first | assumption | exact Hb.newY _ _ | refine Hb.alloc ?_ | refine Hb.drew ?_ | refine Hb.ext (by assumption) ?_ | exact Hb.setSameL (by first | omega | (simp only [size_alloc, size_setB, size_drew]; omega)) | exact Hb.setSame (by assumption) | refine Hb.set (by first | omega | (simp only [size_alloc, size_setB, size_drew]; omega)) ?_ ))) (by first | omega | assumption | rfl | decide | exact Nat.le_refl _ | (simp only [size_ic, Value.cells]; omega) | simp) (by first | omega | assumption | rfl | decide | exact Nat.le_refl _ | (simp only [size_ic, Value.cells]; omega) | simp) (by first | exact oneCell_ic | assumption) ?_
  refine WO_nil ?_
  refine thn_normal ?_
  refine W_ret ?_
  refine bodyQ_cell1 Hvad.results199 rfl Hvad.isAgg27 Hvad.sizeOf27 rfl (Hb.h (by repeat (first | assumption | exact Hb.newY _ _ | refine Hb.alloc ?_ | refine Hb.drew ?_ | refine Hb.ext (by assumption) ?_ | exact Hb.setSameL (by first | omega | (simp only [size_alloc, size_setB, size_drew]; omega)) | exact Hb.setSame (by assumption) | refine Hb.set (by first | omega | (simp only [size_alloc, size_setB, size_drew]; omega)) ?_ ))) (by first | omega | assumption | rfl | decide | exact Nat.le_refl _ | (simp only [size_ic, Value.cells]; omega) | simp) ?_
  exact ⟨(by repeat (first | assumption | exact Ext.refl _ | refine Ext.alloc ?_ _ | refine Ext.drew ?_ | refine Ext.setB ?_ (by first | omega | (simp only [size_alloc, size_setB, size_drew]; omega)) _ | refine Ext.trans ?_ (by assumption))), rfl⟩

end Go.Proofs.YgvadwGreat
