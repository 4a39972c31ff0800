import Derived.Test.YgvacwGreatJm
import Derived.Test.YgvacwGreatJb
import Derived.Test.YgvacwGreatMv
import Derived.Test.YgvacwGreatHa
namespace Go.Proofs.YgvacwGreat
set_option linter.unusedSimpArgs false
set_option linter.unusedVariables false
theorem mid_addr {A : List Int} (hA : A.length = 20) : mid (List.replicate 32 (0 : Int)) 12 ((List.take 20 (List.drop 0 A)).take (Nat.min 20 20)) = List.replicate 12 0 ++ A := by
  have e : (List.take 20 (List.drop 0 A)).take (Nat.min 20 20) = A := by rw [List.drop_zero, List.take_take]; exact List.take_of_length_le (by rw [hA]; decide)
  rw [e]
  simp [mid, hA]
theorem wn_addr {A : List Int} (hA : By A 20) {L : List Int} (h : L = List.replicate 12 0 ++ A) : wn (fromB L) = bvY A := by
  rw [h, wn_fromB ⟨by simp [hA.1], ?_⟩, bv_zeros_app]
  intro x hx
  rcases List.mem_append.1 hx with hx | hx
  · rw [(List.mem_replicate.1 hx).2]; decide
  · exact hA.2 x hx
theorem word_cut {L : List Int} {f n k : Nat} (hn : n = L.length - f) (hk : k = Nat.min n 32) : mid (List.replicate 32 (0 : Int)) 0 ((L.drop f).take k) = ycut L f 32 := by
  have hk' : k = min n 32 := hk
  have hl : ((L.drop f).take k).length = k := by rw [List.length_take, List.length_drop]; omega
  refine list_gd ?_ fun i hi => ?_
  · rw [mid_len (by rw [hl, List.length_replicate]; omega)]; simp [ycut]
  · rw [mid_len (by rw [hl, List.length_replicate]; omega), List.length_replicate] at hi
    rw [getD_mid (by rw [hl, List.length_replicate]; omega), if_neg (by omega), hl]
    have e2 : (ycut L f 32).getD i 0 = L.getD (f + i) 0 := by simp [ycut, List.getD_eq_getElem?_getD, hi]
    rw [e2]
    split
    · rename_i hh
      rw [List.getD_eq_getElem?_getD, List.getD_eq_getElem?_getD, List.getElem?_take, if_pos (by omega), List.getElem?_drop]
      simp
    · rename_i hh
      rw [List.getD_eq_getElem?_getD, List.getD_eq_getElem?_getD, List.getElem?_eq_none (by omega : L.length ≤ f + i)]
      rw [List.getElem?_replicate, if_pos hi]; rfl
theorem word_cut0 {L : List Int} {f : Nat} (h : L.length ≤ f) : List.replicate 32 (0 : Int) = ycut L f 32 := by
  refine list_gd (by simp [ycut]) fun i hi => ?_
  rw [List.length_replicate] at hi
  have e2 : (ycut L f 32).getD i 0 = L.getD (f + i) 0 := by simp [ycut, List.getD_eq_getElem?_getD, hi]
  rw [e2, List.getD_eq_getElem?_getD, List.getD_eq_getElem?_getD, List.getElem?_eq_none (by omega : L.length ≤ f + i)]
  rw [List.getElem?_replicate, if_pos hi]; rfl
/-- the number of bytes -/
theorem sz_eq {n k : Nat} (h1 : n < 256 ^ k) (h2 : 0 < k → 256 ^ (k - 1) ≤ n) : sz n = k := by
  have h3 := sz_le h1
  rcases Nat.lt_or_ge (sz n) k with h | h
  · exfalso
    have := lt_sz n
    have h4 : 256 ^ sz n ≤ 256 ^ (k - 1) := Nat.pow_le_pow_right (by decide) (by omega)
    have := h2 (by omega)
    omega
  · omega
theorem sz_bits {N n ln : Nat} (hln : 1 ≤ ln) (h1 : N < 2 ^ (64 * n + ln)) (h2 : 2 ^ (64 * n + (ln - 1)) ≤ N) : sz N = 8 * n + (ln + 7) / 8 := by
  refine sz_eq (Nat.lt_of_lt_of_le h1 ?_) (fun _ => Nat.le_trans ?_ h2)
  · rw [show (256 : Nat) = 2 ^ 8 from rfl, ← Nat.pow_mul]
    exact Nat.pow_le_pow_right (by decide) (by omega)
  · rw [show (256 : Nat) = 2 ^ 8 from rfl, ← Nat.pow_mul]
    exact Nat.pow_le_pow_right (by decide) (by omega)
theorem ln_pos1 {x : Int} {n : Nat} (h : Ln x n) (h0 : 0 ≤ x) (hx : x ≠ 0) : 1 ≤ n := by
  cases n with
  | zero => have := h.1; simp at this; omega
  | succ k => omega
theorem nbytes_sz {W : List Int} (hW : Wd W) {n ln : Nat} (hn4 : n ≤ 4) (hn : 0 < n) (hz : ∀ k, n ≤ k → W.getD k 0 = 0) (hnz : W.getD (n - 1) 0 ≠ 0) (hL : Ln (W.getD (n - 1) 0) ln) (hl1 : 1 ≤ ln) : sz (wn W) = 8 * (n - 1) + (ln + 7) / 8 := by
  obtain ⟨a, b, c, d, rfl, ha, hb, hc, hd⟩ := isZ hW
  have hwn := wn_limbs ha hb hc hd
  have hp : (2 : Int) ^ ln = 2 * ((2 ^ (ln - 1) : Nat) : Int) := by
    rw [show ln = (ln - 1) + 1 by omega, Int.pow_succ]
    simp; omega
  have hl : (2 : Nat) ^ ln = 2 * 2 ^ (ln - 1) := by
    conv => lhs; rw [show ln = (ln - 1) + 1 by omega, Nat.pow_succ]
    omega
  generalize hq : (2 ^ (ln - 1) : Nat) = q at *
  rcases (by omega : n = 1 ∨ n = 2 ∨ n = 3 ∨ n = 4) with hh | hh | hh | hh
  · subst hh
    have z1 := hz 1 (by omega)
    have z2 := hz 2 (by omega)
    have z3 := hz 3 (by omega)
    simp only [List.getD_cons_succ, List.getD_cons_zero] at z1 z2 z3
    have h1 : a < 2 ^ ln := hL.1
    have h2 : a ≠ 0 → (2:Int) ^ ln ≤ 2 * a := hL.2
    have hx0 : a ≠ 0 := hnz
    have h3 := h2 hx0
    rw [hp] at h1 h3
    refine sz_bits hl1 ?_ ?_
    · rw [Nat.pow_add, hl, show (2:Nat) ^ (64 * (1 - 1)) = 1 from by decide, hwn]; omega
    · rw [Nat.pow_add, show (2:Nat) ^ (64 * (1 - 1)) = 1 from by decide, hwn, hq]; omega
  · subst hh
    have z2 := hz 2 (by omega)
    have z3 := hz 3 (by omega)
    simp only [List.getD_cons_succ, List.getD_cons_zero] at z2 z3
    have h1 : b < 2 ^ ln := hL.1
    have h2 : b ≠ 0 → (2:Int) ^ ln ≤ 2 * b := hL.2
    have hx0 : b ≠ 0 := hnz
    have h3 := h2 hx0
    rw [hp] at h1 h3
    refine sz_bits hl1 ?_ ?_
    · rw [Nat.pow_add, hl, show (2:Nat) ^ (64 * (2 - 1)) = 18446744073709551616 from by decide, hwn]; omega
    · rw [Nat.pow_add, show (2:Nat) ^ (64 * (2 - 1)) = 18446744073709551616 from by decide, hwn, hq]; omega
  · subst hh
    have z3 := hz 3 (by omega)
    simp only [List.getD_cons_succ, List.getD_cons_zero] at z3
    have h1 : c < 2 ^ ln := hL.1
    have h2 : c ≠ 0 → (2:Int) ^ ln ≤ 2 * c := hL.2
    have hx0 : c ≠ 0 := hnz
    have h3 := h2 hx0
    rw [hp] at h1 h3
    refine sz_bits hl1 ?_ ?_
    · rw [Nat.pow_add, hl, show (2:Nat) ^ (64 * (3 - 1)) = 340282366920938463463374607431768211456 from by decide, hwn]; omega
    · rw [Nat.pow_add, show (2:Nat) ^ (64 * (3 - 1)) = 340282366920938463463374607431768211456 from by decide, hwn, hq]; omega
  · subst hh
    have h1 : d < 2 ^ ln := hL.1
    have h2 : d ≠ 0 → (2:Int) ^ ln ≤ 2 * d := hL.2
    have hx0 : d ≠ 0 := hnz
    have h3 := h2 hx0
    rw [hp] at h1 h3
    refine sz_bits hl1 ?_ ?_
    · rw [Nat.pow_add, hl, show (2:Nat) ^ (64 * (4 - 1)) = 6277101735386680763835789423207666416102355444464034512896 from by decide, hwn]; omega
    · rw [Nat.pow_add, show (2:Nat) ^ (64 * (4 - 1)) = 6277101735386680763835789423207666416102355444464034512896 from by decide, hwn, hq]; omega

set_option maxRecDepth 10000 in
theorem addrWord_ex (A : List Int) (w : World) (hA : By A 20) : Ret Hvac.prog 233 #[.agg (ic .u8 A)] w fun u w' => Ext w w' ∧ ∃ R, u = .agg (ic .u64 R) ∧ Wd R ∧ wn R = bvY A := by
  have hAl := hA.1
  refine Ret_of_W Hvac.func233 rfl rfl ?_
  refine W_seq ?_
  refine W_region rfl ?_
  refine WO_boxG (.agg _) rfl ?_
  intro b1 v1 hg1 hE1 hH1 hl1
  try simp only [size_alloc, size_setB, size_drew] at hg1
  have hzz1 := hE1.1
  try simp only [size_alloc, size_setB, size_drew] at hzz1
  refine WO_allocG Hvac.zeroValue61 ?_
  intro b2 v2 hg2 hE2 hH2 hl2
  try simp only [size_alloc, size_setB, size_drew] at hg2
  have hzz2 := hE2.1
  try simp only [size_alloc, size_setB, size_drew] at hzz2
  refine WO_nil ?_
  refine thn_normal ?_
  refine W_seq ?_
  refine W_region rfl ?_
  refine WO_allocG Hvac.zeroValue27 ?_
  intro b3 v3 hg3 hE3 hH3 hl3
  try simp only [size_alloc, size_setB, size_drew] at hg3
  have hzz3 := hE3.1
  try simp only [size_alloc, size_setB, size_drew] at hzz3
  replace hH3 : Hb v3 b3 (.cells (ic .u8 (List.replicate 32 0)) 27 (0, 0)) := hH3
  refine WO_nil ?_
  refine thn_normal ?_
  refine W_seq ?_
  refine W_drawE [false, false, false] hmix (by kernel_rfl) rfl ?_
  refine WH_p (PS_slA_l Hvac.runUnderlying27 Hvac.sizeOf5 rfl rfl (by decide) (by decide) (by decide)) rfl ?_
  refine WH_p (PS_slA Hvac.runUnderlying25 Hvac.sizeOf5 rfl (by omega)) rfl ?_
  refine WH_copyTX (b2 := 0) (b := b3) (o := 12) Hvac.runUnderlying32 Hvac.sizeOf5 rfl rfl (fun _ => rfl) (Hb.drew hH3) (by simp) (SC.of (o := 0) (n := 20) (cp := 20) (Hb.drew (Hb.mk (Hb.h (by repeat (first | assumption | exact Hb.newY _ _ | refine Hb.alloc ?_ | refine Hb.drew ?_ | refine Hb.ext (by assumption) ?_ | exact Hb.setSameL (by first | omega | (simp only [size_alloc, size_setB, size_drew]; omega)) | exact Hb.setSame (by assumption) | refine Hb.set (by first | omega | (simp only [size_alloc, size_setB, size_drew]; omega)) ?_ ))))) (by omega)) (fun z hz => hA.2 z (List.mem_of_mem_drop (List.mem_of_mem_take hz))) (by decide) ?_
  intro w4 L4 hT4 hL4x
  refine ⟨(fun h => by cases h), ?_⟩
  have hC4 := hT4.hb
  have hL4 : By L4 32 := ⟨by rw [hT4.len]; simp, hT4.ty (by_zero 32)⟩
  have hl4 := hL4.1
  have hR4 : Hb w4 b2 (.cells (ic .u64 [0, 0, 0, 0]) 61 (0, 0)) := hT4.other (Hb.mk (Hb.h (by repeat (first | assumption | exact Hb.newY _ _ | refine Hb.alloc ?_ | refine Hb.drew ?_ | refine Hb.ext (by assumption) ?_ | exact Hb.setSameL (by first | omega | (simp only [size_alloc, size_setB, size_drew]; omega)) | exact Hb.setSame (by assumption) | refine Hb.set (by first | omega | (simp only [size_alloc, size_setB, size_drew]; omega)) ?_ )))) (by omega)
  have hX4 : Ext w w4 := hT4.ext (by repeat (first | assumption | exact Ext.refl _ | refine Ext.alloc ?_ _ | refine Ext.drew ?_ | refine Ext.setB ?_ (by first | omega | (simp only [size_alloc, size_setB, size_drew]; omega)) _ | exact Ext.trans (by assumption) (by assumption) | refine Ext.trans ?_ (by assumption))) (by omega)
  have hlR4 := hR4.lt
  have hzX4 := hX4.1
  have hwn4 : wn (fromB L4) = bvY A := wn_addr hA (by rw [hL4x]; exact mid_addr hAl)
  refine WH_nil ?_
  refine thn_normal ?_
  refine W_seq ?_
  refine W_region rfl ?_
  refine WO_loadA _ Hvac.isAgg27 Hvac.sizeOf27 rfl (Hb.h (by repeat (first | assumption | exact Hb.newY _ _ | refine Hb.alloc ?_ | refine Hb.drew ?_ | refine Hb.ext (by assumption) ?_ | exact Hb.setSameL (by first | omega | (simp only [size_alloc, size_setB, size_drew]; omega)) | exact Hb.setSame (by assumption) | refine Hb.set (by first | omega | (simp only [size_alloc, size_setB, size_drew]; omega)) ?_ ))) (by first | omega | assumption | rfl | decide | exact Nat.le_refl _ | (simp only [size_ic, Value.cells]; omega) | (simp; omega) | simp) (Xt.h (by first | assumption | exact Xt.whole rfl rfl | exact Xt.whole rfl (by assumption) | exact Xt.whole rfl (by simp only [size_ic, Value.cells]; omega) | exact ⟨rfl⟩)) ?_
  refine WO_call Hvac.call69 (by rfl) (Ret.mono (fromBytes_spec _ _ hL4) ?_)
  rintro _ w5 ⟨rfl, hE5⟩
  have hz5 := hE5.1
  have hfw := fromB_wd hL4.2
  have hfl := hfw.1
  first | refine WO_storeW Hvac.sizeOf61 rfl (v := .agg _) rfl (Hb.h (by repeat (first | assumption | exact Hb.newY _ _ | refine Hb.alloc ?_ | refine Hb.drew ?_ | refine Hb.ext (by assumption) ?_ | exact Hb.setSameL (by first | omega | (simp only [size_alloc, size_setB, size_drew]; omega)) | exact Hb.setSame (by assumption) | refine Hb.set (by first | omega | (simp only [size_alloc, size_setB, size_drew]; omega)) ?_ ))) rfl (by first | omega | assumption | rfl | decide | exact Nat.le_refl _ | (simp only [size_ic, Value.cells]; omega) | (simp; omega) | simp) (by first | omega | assumption | rfl | decide | exact Nat.le_refl _ | (simp only [size_ic, Value.cells]; omega) | (simp; omega) | simp) (by first | exact oneCell_ic | assumption | exact one_Ws2 _ | exact one_YA2 _ | exact one_YSl2 _ | exact one_YM2 _ | exact one_YT2 _ | exact one_L2 _) ?_ | refine WO_store Hvac.sizeOf61 rfl (v := .agg _) rfl (Hb.h (by repeat (first | assumption | exact Hb.newY _ _ | refine Hb.alloc ?_ | refine Hb.drew ?_ | refine Hb.ext (by assumption) ?_ | exact Hb.setSameL (by first | omega | (simp only [size_alloc, size_setB, size_drew]; omega)) | exact Hb.setSame (by assumption) | refine Hb.set (by first | omega | (simp only [size_alloc, size_setB, size_drew]; omega)) ?_ ))) (by first | omega | assumption | rfl | decide | exact Nat.le_refl _ | (simp only [size_ic, Value.cells]; omega) | (simp; omega) | simp) (by first | omega | assumption | rfl | decide | exact Nat.le_refl _ | (simp only [size_ic, Value.cells]; omega) | (simp; omega) | simp) (by first | exact oneCell_ic | assumption | exact one_Ws2 _ | exact one_YA2 _ | exact one_YSl2 _ | exact one_YM2 _ | exact one_YT2 _ | exact one_L2 _) ?_
  refine WO_nil ?_
  refine thn_normal ?_
  refine W_ret ?_
  refine bodyQ_cell1 Hvac.results233 rfl Hvac.isAgg61 Hvac.sizeOf61 rfl (Hb.h (by repeat (first | assumption | exact Hb.newY _ _ | refine Hb.alloc ?_ | refine Hb.drew ?_ | refine Hb.ext (by assumption) ?_ | exact Hb.setSameL (by first | omega | (simp only [size_alloc, size_setB, size_drew]; omega)) | exact Hb.setSame (by assumption) | refine Hb.set (by first | omega | (simp only [size_alloc, size_setB, size_drew]; omega)) ?_ ))) (by first | omega | assumption | rfl | decide | exact Nat.le_refl _ | (simp only [size_ic, Value.cells]; omega) | (simp; omega) | simp) ?_
  exact ⟨(by repeat (first | assumption | exact Ext.refl _ | refine Ext.alloc ?_ _ | refine Ext.drew ?_ | refine Ext.setB ?_ (by first | omega | (simp only [size_alloc, size_setB, size_drew]; omega)) _ | refine Ext.trans ?_ (by assumption))), _, rfl, hfw, hwn4⟩

set_option maxRecDepth 10000 in
theorem word32_ex (s : SV) (L : List Int) (f : Int) (w : World) (hs : SC w .u8 1 s L) (hL : By8 L) (hc : s.2.1 ≤ s.2.2) (hl : s.2.1 ≤ 1000000) (hf : 0 ≤ f ∧ f ≤ 18446744073709551615) : Ret Hvac.prog 270 #[.slice s.1 s.2.1 s.2.2, .int .u64 f] w fun u w' => Ext w w' ∧ ∃ R, u = .agg (ic .u64 R) ∧ Wd R ∧ wn R = bvY (ycut L f.toNat 32) := by
  have hLn := hs.1
  refine Ret_of_W Hvac.func270 rfl rfl ?_
  refine W_seq ?_
  refine W_region rfl ?_
  refine WO_allocG Hvac.zeroValue61 ?_
  intro b4 v4 hg4 hE4 hH4 hl4
  try simp only [size_alloc, size_setB, size_drew] at hg4
  have hzz4 := hE4.1
  try simp only [size_alloc, size_setB, size_drew] at hzz4
  refine WO_nil ?_
  refine thn_normal ?_
  refine W_seq ?_
  refine W_region rfl ?_
  refine WO_allocG Hvac.zeroValue27 ?_
  intro b5 v5 hg5 hE5 hH5 hl5
  try simp only [size_alloc, size_setB, size_drew] at hg5
  have hzz5 := hE5.1
  try simp only [size_alloc, size_setB, size_drew] at hzz5
  replace hH5 : Hb v5 b5 (.cells (ic .u8 (List.replicate 32 0)) 27 (0, 0)) := hH5
  refine WO_nil ?_
  refine thn_normal ?_
  refine W_seq ?_
  refine W_seq ?_
  refine W_region rfl ?_
  refine WO_p (PS_move_int rfl) ?_
  refine WO_p (PS_move_slice rfl) ?_
  refine WO_p (PS_lenS Hvac.runUnderlying32 rfl) ?_
  refine WO_p (PS_conv_u64n Hvac.runUnderlying3 Hvac.runUnderlying26 rfl (by omega) (by omega)) ?_
  refine WO_p (PS_lss rfl rfl) ?_
  refine WO_nil ?_
  refine thn_normal ?_
  refine W_if rfl (fun hb2 => ?_) (fun hb2 => ?_)
  · have hb2p := hb2.h; try simp only [al_ete, al_dfn, Bool.not_eq_true', Bool.not_eq_false', al_ne, Bool.not_not, al_nn] at hb2p
    skip
    refine W_drawE [false, false, false, false, false] hmix (by kernel_rfl) rfl ?_
    refine WH_p (PS_slA Hvac.runUnderlying27 Hvac.sizeOf5 rfl (by omega)) rfl ?_
    refine WH_p (PS_move_slice rfl) rfl ?_
    refine WH_p (PS_move_int rfl) rfl ?_
    refine WH_p (PS_slG_l Hvac.runUnderlying32 Hvac.sizeOf5 rfl rfl (by omega) (by omega)) rfl ?_
    refine WH_copyTX (b2 := 0) (b := b5) (o := 0) Hvac.runUnderlying32 Hvac.sizeOf5 rfl rfl (fun _ => rfl) (Hb.drew hH5) (by simp) (SC.tail (SC.ext hs (by repeat (first | assumption | exact Ext.refl _ | refine Ext.alloc ?_ _ | refine Ext.drew ?_ | refine Ext.setB ?_ (by first | omega | (simp only [size_alloc, size_setB, size_drew]; omega)) _ | exact Ext.trans (by assumption) (by assumption) | refine Ext.trans ?_ (by assumption)))) f.toNat (by omega) hc) (fun z hz => hL z (List.mem_of_mem_drop hz)) (by decide) ?_
    intro w4 L4 hT4 hL4x
    refine ⟨(fun h => by cases h), ?_⟩
    have hC4 := hT4.hb
    have hL4 : By L4 32 := ⟨by rw [hT4.len]; simp, hT4.ty (by_zero 32)⟩
    have hR4 : Hb w4 b4 (.cells (ic .u64 [0, 0, 0, 0]) 61 (0, 0)) := hT4.other (Hb.mk (Hb.h (by repeat (first | assumption | exact Hb.newY _ _ | refine Hb.alloc ?_ | refine Hb.drew ?_ | refine Hb.ext (by assumption) ?_ | exact Hb.setSameL (by first | omega | (simp only [size_alloc, size_setB, size_drew]; omega)) | exact Hb.setSame (by assumption) | refine Hb.set (by first | omega | (simp only [size_alloc, size_setB, size_drew]; omega)) ?_ )))) (by omega)
    have hX4 : Ext w w4 := hT4.ext (by repeat (first | assumption | exact Ext.refl _ | refine Ext.alloc ?_ _ | refine Ext.drew ?_ | refine Ext.setB ?_ (by first | omega | (simp only [size_alloc, size_setB, size_drew]; omega)) _ | exact Ext.trans (by assumption) (by assumption) | refine Ext.trans ?_ (by assumption))) (by omega)
    have hlR4 := hR4.lt
    have hzX4 := hX4.1
    have hwn4 : wn (fromB L4) = bvY (ycut L f.toNat 32) := by rw [wn_fromB hL4, hL4x, word_cut (by omega) rfl]
    refine WH_nil ?_
    refine thn_normal ?_
    refine W_seq ?_
    have hl4 := hL4.1
    refine W_region rfl ?_
    refine WO_loadA _ Hvac.isAgg27 Hvac.sizeOf27 rfl (Hb.h (by repeat (first | assumption | exact Hb.newY _ _ | refine Hb.alloc ?_ | refine Hb.drew ?_ | refine Hb.ext (by assumption) ?_ | exact Hb.setSameL (by first | omega | (simp only [size_alloc, size_setB, size_drew]; omega)) | exact Hb.setSame (by assumption) | refine Hb.set (by first | omega | (simp only [size_alloc, size_setB, size_drew]; omega)) ?_ ))) (by first | omega | assumption | rfl | decide | exact Nat.le_refl _ | (simp only [size_ic, Value.cells]; omega) | (simp; omega) | simp) (Xt.h (by first | assumption | exact Xt.whole rfl rfl | exact Xt.whole rfl (by assumption) | exact Xt.whole rfl (by simp only [size_ic, Value.cells]; omega) | exact ⟨rfl⟩)) ?_
    refine WO_call Hvac.call69 (by rfl) (Ret.mono (fromBytes_spec _ _ hL4) ?_)
    rintro _ w5 ⟨rfl, hE5⟩
    have hz5 := hE5.1
    have hfw := fromB_wd hL4.2
    have hfl := hfw.1
    first | refine WO_storeW Hvac.sizeOf61 rfl (v := .agg _) rfl (Hb.h (by repeat (first | assumption | exact Hb.newY _ _ | refine Hb.alloc ?_ | refine Hb.drew ?_ | refine Hb.ext (by assumption) ?_ | exact Hb.setSameL (by first | omega | (simp only [size_alloc, size_setB, size_drew]; omega)) | exact Hb.setSame (by assumption) | refine Hb.set (by first | omega | (simp only [size_alloc, size_setB, size_drew]; omega)) ?_ ))) rfl (by first | omega | assumption | rfl | decide | exact Nat.le_refl _ | (simp only [size_ic, Value.cells]; omega) | (simp; omega) | simp) (by first | omega | assumption | rfl | decide | exact Nat.le_refl _ | (simp only [size_ic, Value.cells]; omega) | (simp; omega) | simp) (by first | exact oneCell_ic | assumption | exact one_Ws2 _ | exact one_YA2 _ | exact one_YSl2 _ | exact one_YM2 _ | exact one_YT2 _ | exact one_L2 _) ?_ | refine WO_store Hvac.sizeOf61 rfl (v := .agg _) rfl (Hb.h (by repeat (first | assumption | exact Hb.newY _ _ | refine Hb.alloc ?_ | refine Hb.drew ?_ | refine Hb.ext (by assumption) ?_ | exact Hb.setSameL (by first | omega | (simp only [size_alloc, size_setB, size_drew]; omega)) | exact Hb.setSame (by assumption) | refine Hb.set (by first | omega | (simp only [size_alloc, size_setB, size_drew]; omega)) ?_ ))) (by first | omega | assumption | rfl | decide | exact Nat.le_refl _ | (simp only [size_ic, Value.cells]; omega) | (simp; omega) | simp) (by first | omega | assumption | rfl | decide | exact Nat.le_refl _ | (simp only [size_ic, Value.cells]; omega) | (simp; omega) | simp) (by first | exact oneCell_ic | assumption | exact one_Ws2 _ | exact one_YA2 _ | exact one_YSl2 _ | exact one_YM2 _ | exact one_YT2 _ | exact one_L2 _) ?_
    refine WO_nil ?_
    refine thn_normal ?_
    refine W_ret ?_
    refine bodyQ_cell1 Hvac.results270 rfl Hvac.isAgg61 Hvac.sizeOf61 rfl (Hb.h (by repeat (first | assumption | exact Hb.newY _ _ | refine Hb.alloc ?_ | refine Hb.drew ?_ | refine Hb.ext (by assumption) ?_ | exact Hb.setSameL (by first | omega | (simp only [size_alloc, size_setB, size_drew]; omega)) | exact Hb.setSame (by assumption) | refine Hb.set (by first | omega | (simp only [size_alloc, size_setB, size_drew]; omega)) ?_ ))) (by first | omega | assumption | rfl | decide | exact Nat.le_refl _ | (simp only [size_ic, Value.cells]; omega) | (simp; omega) | simp) ?_
    exact ⟨(by repeat (first | assumption | exact Ext.refl _ | refine Ext.alloc ?_ _ | refine Ext.drew ?_ | refine Ext.setB ?_ (by first | omega | (simp only [size_alloc, size_setB, size_drew]; omega)) _ | refine Ext.trans ?_ (by assumption))), _, rfl, hfw, hwn4⟩
  · have hb2p := hb2.h; try simp only [al_ete, al_dfn, Bool.not_eq_true', Bool.not_eq_false', al_ne, Bool.not_not, al_nn] at hb2p
    have hL4 : By (List.replicate 32 (0 : Int)) 32 := ⟨by simp, by_zero 32⟩
    have hC4 := hH5
    have hR4 : Hb v5 b4 (.cells (ic .u64 [0, 0, 0, 0]) 61 (0, 0)) := Hb.mk (Hb.h (by repeat (first | assumption | exact Hb.newY _ _ | refine Hb.alloc ?_ | refine Hb.drew ?_ | refine Hb.ext (by assumption) ?_ | exact Hb.setSameL (by first | omega | (simp only [size_alloc, size_setB, size_drew]; omega)) | exact Hb.setSame (by assumption) | refine Hb.set (by first | omega | (simp only [size_alloc, size_setB, size_drew]; omega)) ?_ )))
    have hX4 : Ext w v5 := (by repeat (first | assumption | exact Ext.refl _ | refine Ext.alloc ?_ _ | refine Ext.drew ?_ | refine Ext.setB ?_ (by first | omega | (simp only [size_alloc, size_setB, size_drew]; omega)) _ | exact Ext.trans (by assumption) (by assumption) | refine Ext.trans ?_ (by assumption)))
    have hlR4 := hR4.lt
    have hzX4 := hX4.1
    have hwn4 : wn (fromB (List.replicate 32 (0 : Int))) = bvY (ycut L f.toNat 32) := by rw [wn_fromB hL4, word_cut0 (L := L) (f := f.toNat) (by omega)]
    refine W_skip ?_
    refine thn_normal ?_
    refine W_seq ?_
    have hl4 := hL4.1
    refine W_region rfl ?_
    refine WO_loadA _ Hvac.isAgg27 Hvac.sizeOf27 rfl (Hb.h (by repeat (first | assumption | exact Hb.newY _ _ | refine Hb.alloc ?_ | refine Hb.drew ?_ | refine Hb.ext (by assumption) ?_ | exact Hb.setSameL (by first | omega | (simp only [size_alloc, size_setB, size_drew]; omega)) | exact Hb.setSame (by assumption) | refine Hb.set (by first | omega | (simp only [size_alloc, size_setB, size_drew]; omega)) ?_ ))) (by first | omega | assumption | rfl | decide | exact Nat.le_refl _ | (simp only [size_ic, Value.cells]; omega) | (simp; omega) | simp) (Xt.h (by first | assumption | exact Xt.whole rfl rfl | exact Xt.whole rfl (by assumption) | exact Xt.whole rfl (by simp only [size_ic, Value.cells]; omega) | exact ⟨rfl⟩)) ?_
    refine WO_call Hvac.call69 (by rfl) (Ret.mono (fromBytes_spec _ _ hL4) ?_)
    rintro _ w5 ⟨rfl, hE5⟩
    have hz5 := hE5.1
    have hfw := fromB_wd hL4.2
    have hfl := hfw.1
    first | refine WO_storeW Hvac.sizeOf61 rfl (v := .agg _) rfl (Hb.h (by repeat (first | assumption | exact Hb.newY _ _ | refine Hb.alloc ?_ | refine Hb.drew ?_ | refine Hb.ext (by assumption) ?_ | exact Hb.setSameL (by first | omega | (simp only [size_alloc, size_setB, size_drew]; omega)) | exact Hb.setSame (by assumption) | refine Hb.set (by first | omega | (simp only [size_alloc, size_setB, size_drew]; omega)) ?_ ))) rfl (by first | omega | assumption | rfl | decide | exact Nat.le_refl _ | (simp only [size_ic, Value.cells]; omega) | (simp; omega) | simp) (by first | omega | assumption | rfl | decide | exact Nat.le_refl _ | (simp only [size_ic, Value.cells]; omega) | (simp; omega) | simp) (by first | exact oneCell_ic | assumption | exact one_Ws2 _ | exact one_YA2 _ | exact one_YSl2 _ | exact one_YM2 _ | exact one_YT2 _ | exact one_L2 _) ?_ | refine WO_store Hvac.sizeOf61 rfl (v := .agg _) rfl (Hb.h (by repeat (first | assumption | exact Hb.newY _ _ | refine Hb.alloc ?_ | refine Hb.drew ?_ | refine Hb.ext (by assumption) ?_ | exact Hb.setSameL (by first | omega | (simp only [size_alloc, size_setB, size_drew]; omega)) | exact Hb.setSame (by assumption) | refine Hb.set (by first | omega | (simp only [size_alloc, size_setB, size_drew]; omega)) ?_ ))) (by first | omega | assumption | rfl | decide | exact Nat.le_refl _ | (simp only [size_ic, Value.cells]; omega) | (simp; omega) | simp) (by first | omega | assumption | rfl | decide | exact Nat.le_refl _ | (simp only [size_ic, Value.cells]; omega) | (simp; omega) | simp) (by first | exact oneCell_ic | assumption | exact one_Ws2 _ | exact one_YA2 _ | exact one_YSl2 _ | exact one_YM2 _ | exact one_YT2 _ | exact one_L2 _) ?_
    refine WO_nil ?_
    refine thn_normal ?_
    refine W_ret ?_
    refine bodyQ_cell1 Hvac.results270 rfl Hvac.isAgg61 Hvac.sizeOf61 rfl (Hb.h (by repeat (first | assumption | exact Hb.newY _ _ | refine Hb.alloc ?_ | refine Hb.drew ?_ | refine Hb.ext (by assumption) ?_ | exact Hb.setSameL (by first | omega | (simp only [size_alloc, size_setB, size_drew]; omega)) | exact Hb.setSame (by assumption) | refine Hb.set (by first | omega | (simp only [size_alloc, size_setB, size_drew]; omega)) ?_ ))) (by first | omega | assumption | rfl | decide | exact Nat.le_refl _ | (simp only [size_ic, Value.cells]; omega) | (simp; omega) | simp) ?_
    exact ⟨(by repeat (first | assumption | exact Ext.refl _ | refine Ext.alloc ?_ _ | refine Ext.drew ?_ | refine Ext.setB ?_ (by first | omega | (simp only [size_alloc, size_setB, size_drew]; omega)) _ | refine Ext.trans ?_ (by assumption))), _, rfl, hfw, hwn4⟩

set_option maxRecDepth 10000 in
theorem deposit_ex (pf : PF) (s : SV) (L : List Int) (w : World) (hg : pf.gas ≤ 18446744073709551615) (hs : SC w .u8 1 s L) (hL : By8 L) (hl : s.2.1 ≤ 1000000) : Ret Hvac.prog 230 #[.int .u64 (pf.gas : Int), .slice s.1 s.2.1 s.2.2] w fun u w' => Ext w w' ∧ u = .tuple #[.int .u64 ((ydep pf L).1 : Int), .int .u8 ((ydep pf L).2 : Int)] := by
  obtain ⟨p, n, cap⟩ := s
  obtain ⟨hsl, hss⟩ := hs
  dsimp only at hsl hss hl ⊢
  refine Ret_of_W Hvac.func230 rfl rfl ?_
  refine W_seq ?_
  refine W_region rfl ?_
  refine WO_p (PS_assign_int rfl) ?_
  refine WO_p (PS_assign_int rfl) ?_
  refine WO_nil ?_
  refine thn_normal ?_
  refine W_seq ?_
  refine W_region rfl ?_
  refine WO_p (PS_move_slice rfl) ?_
  refine WO_p (PS_lenS Hvac.runUnderlying32 rfl) ?_
  refine WO_p (PS_conv_u64n Hvac.runUnderlying3 Hvac.runUnderlying26 rfl (by omega) (by omega)) ?_
  refine WO_p (PS_mul_u64n rfl rfl (by omega) (by omega)) ?_
  refine WO_p (PS_assign_int rfl) ?_
  refine WO_nil ?_
  refine thn_normal ?_
  refine W_seq ?_
  refine W_block ?_
  refine W_seq ?_
  refine W_region rfl ?_
  refine WO_p (PS_move_slice rfl) ?_
  refine WO_p (PS_lenS Hvac.runUnderlying32 rfl) ?_
  refine WO_p (PS_gtr rfl rfl) ?_
  refine WO_p (PS_assign_bool rfl) ?_
  refine WO_nil ?_
  refine thn_normal ?_
  refine W_if rfl (fun hb2 => ?_) (fun hb2 => ?_)
  · have hb2p := hb2.h; try simp only [al_ete, al_dfn, Bool.not_eq_true', Bool.not_eq_false', al_ne, Bool.not_not, al_nn] at hb2p
    refine W_seq ?_
    refine W_region rfl ?_
    refine WO_p (PS_assign_int rfl) ?_
    refine WO_p (PS_assign_int rfl) ?_
    refine WO_nil ?_
    refine thn_normal ?_
    refine W_ret ?_
    refine inBlk_ret ?_
    refine thn_ret ?_
    refine bodyQ_ret2 Hvac.results230 rfl rfl (.int _ _) (.int _ _) rfl rfl ?_
    first
    | exact ⟨(by repeat (first | assumption | exact Ext.refl _ | refine Ext.alloc ?_ _ | refine Ext.drew ?_ | refine Ext.setB ?_ (by first | omega | (simp only [size_alloc, size_setB, size_drew]; omega)) _ | refine Ext.trans ?_ (by assumption))), by unfold ydep; rw [if_pos (by omega)]; rfl⟩
    | exact ⟨(by repeat (first | assumption | exact Ext.refl _ | refine Ext.alloc ?_ _ | refine Ext.drew ?_ | refine Ext.setB ?_ (by first | omega | (simp only [size_alloc, size_setB, size_drew]; omega)) _ | refine Ext.trans ?_ (by assumption))), by unfold ydep; rw [if_neg (by omega), if_pos (by omega)]; rfl⟩
    | exact ⟨(by repeat (first | assumption | exact Ext.refl _ | refine Ext.alloc ?_ _ | refine Ext.drew ?_ | refine Ext.setB ?_ (by first | omega | (simp only [size_alloc, size_setB, size_drew]; omega)) _ | refine Ext.trans ?_ (by assumption))), by unfold ydep; rw [if_neg (by omega), if_neg (by omega), if_pos (by omega)]; rfl⟩
    | exact ⟨(by repeat (first | assumption | exact Ext.refl _ | refine Ext.alloc ?_ _ | refine Ext.drew ?_ | refine Ext.setB ?_ (by first | omega | (simp only [size_alloc, size_setB, size_drew]; omega)) _ | refine Ext.trans ?_ (by assumption))), by unfold ydep; rw [if_neg (by omega), if_neg (by omega), if_neg (by omega)]; congr 4; omega⟩
  · have hb2p := hb2.h; try simp only [al_ete, al_dfn, Bool.not_eq_true', Bool.not_eq_false', al_ne, Bool.not_not, al_nn] at hb2p
    refine W_seq ?_
    refine W_region rfl ?_
    refine WO_p (PS_move_slice rfl) ?_
    refine WO_p (PS_lenS Hvac.runUnderlying32 rfl) ?_
    refine WO_p (PS_gtr rfl rfl) ?_
    refine WO_p (PS_move_bool rfl) ?_
    refine WO_if (t := 19) rfl (fun hb4 => ?_) (fun hb4 => ?_)
    · have hb4p := hb4.h; try simp only [al_ete, al_dfn, Bool.not_eq_true', Bool.not_eq_false', al_ne, Bool.not_not, al_nn] at hb4p
      obtain ⟨b, o, r, T, fz, hp1, hb1, ho, hxt⟩ := hss.resolve_left (fun h => by omega)
      subst hp1
      have hlt : 0 < L.length := by omega
      have hld : L.getD 0 0 = L[0] := by rw [List.getD_eq_getElem?_getD, List.getElem?_eq_getElem hlt]; rfl
      have hc0 : Ce r (o + (0 : Int).toNat * 1) (.int .u8 L[0]) := ⟨by
        have e : (r.extract o (o + n * 1))[0]? = some (.int .u8 L[0]) := by rw [hxt.h]; simp [ic, hlt]
        rw [Array.getElem?_extract] at e
        split at e
        · simpa using e
        · cases e⟩
      refine WO_guardT rfl rfl hb4.h ?_
      refine WO_p (PS_move_slice rfl) ?_
      refine WO_guardT rfl rfl hb4.h ?_
      refine WO_p (PS_indexS Hvac.runUnderlying32 Hvac.sizeOf5 rfl rfl (by omega) (by omega)) ?_
      refine WO_guardT rfl rfl hb4.h ?_
      refine WO_load (.int _ _) Hvac.isAgg5 rfl (Hb.h (by repeat (first | assumption | exact Hb.newY _ _ | refine Hb.alloc ?_ | refine Hb.drew ?_ | refine Hb.ext (by assumption) ?_ | exact Hb.setSameL (by first | omega | (simp only [size_alloc, size_setB, size_drew]; omega)) | exact Hb.setSame (by assumption) | refine Hb.set (by first | omega | (simp only [size_alloc, size_setB, size_drew]; omega)) ?_ ))) (Ce.h (by first | assumption | exact ⟨rfl⟩)) ?_
      refine WO_guardT rfl rfl hb4.h ?_
      refine WO_p (PS_eql rfl rfl) ?_
      refine WO_p (PS_pickT rfl hb4.h rfl) ?_
      refine WO_p (PS_assign_bool rfl) ?_
      refine WO_nil ?_
      refine thn_normal ?_
      refine W_if rfl (fun hb6 => ?_) (fun hb6 => ?_)
      · have hb6p := hb6.h; try simp only [al_ete, al_dfn, Bool.not_eq_true', Bool.not_eq_false', al_ne, Bool.not_not, al_nn] at hb6p
        refine W_seq ?_
        refine W_region rfl ?_
        refine WO_p (PS_assign_int rfl) ?_
        refine WO_p (PS_assign_int rfl) ?_
        refine WO_nil ?_
        refine thn_normal ?_
        refine W_ret ?_
        refine inBlk_ret ?_
        refine thn_ret ?_
        refine bodyQ_ret2 Hvac.results230 rfl rfl (.int _ _) (.int _ _) rfl rfl ?_
        first
        | exact ⟨(by repeat (first | assumption | exact Ext.refl _ | refine Ext.alloc ?_ _ | refine Ext.drew ?_ | refine Ext.setB ?_ (by first | omega | (simp only [size_alloc, size_setB, size_drew]; omega)) _ | refine Ext.trans ?_ (by assumption))), by unfold ydep; rw [if_pos (by omega)]; rfl⟩
        | exact ⟨(by repeat (first | assumption | exact Ext.refl _ | refine Ext.alloc ?_ _ | refine Ext.drew ?_ | refine Ext.setB ?_ (by first | omega | (simp only [size_alloc, size_setB, size_drew]; omega)) _ | refine Ext.trans ?_ (by assumption))), by unfold ydep; rw [if_neg (by omega), if_pos (by omega)]; rfl⟩
        | exact ⟨(by repeat (first | assumption | exact Ext.refl _ | refine Ext.alloc ?_ _ | refine Ext.drew ?_ | refine Ext.setB ?_ (by first | omega | (simp only [size_alloc, size_setB, size_drew]; omega)) _ | refine Ext.trans ?_ (by assumption))), by unfold ydep; rw [if_neg (by omega), if_neg (by omega), if_pos (by omega)]; rfl⟩
        | exact ⟨(by repeat (first | assumption | exact Ext.refl _ | refine Ext.alloc ?_ _ | refine Ext.drew ?_ | refine Ext.setB ?_ (by first | omega | (simp only [size_alloc, size_setB, size_drew]; omega)) _ | refine Ext.trans ?_ (by assumption))), by unfold ydep; rw [if_neg (by omega), if_neg (by omega), if_neg (by omega)]; congr 4; omega⟩
      · have hb6p := hb6.h; try simp only [al_ete, al_dfn, Bool.not_eq_true', Bool.not_eq_false', al_ne, Bool.not_not, al_nn] at hb6p
        refine W_seq ?_
        refine W_region rfl ?_
        refine WO_p (PS_move_int rfl) ?_
        refine WO_p (PS_move_int rfl) ?_
        refine WO_p (PS_gtr rfl rfl) ?_
        refine WO_p (PS_assign_bool rfl) ?_
        refine WO_nil ?_
        refine thn_normal ?_
        refine W_if rfl (fun hb8 => ?_) (fun hb8 => ?_)
        · have hb8p := hb8.h; try simp only [al_ete, al_dfn, Bool.not_eq_true', Bool.not_eq_false', al_ne, Bool.not_not, al_nn] at hb8p
          refine W_seq ?_
          refine W_region rfl ?_
          refine WO_p (PS_assign_int rfl) ?_
          refine WO_p (PS_assign_int rfl) ?_
          refine WO_nil ?_
          refine thn_normal ?_
          refine W_ret ?_
          refine inBlk_ret ?_
          refine thn_ret ?_
          refine bodyQ_ret2 Hvac.results230 rfl rfl (.int _ _) (.int _ _) rfl rfl ?_
          first
          | exact ⟨(by repeat (first | assumption | exact Ext.refl _ | refine Ext.alloc ?_ _ | refine Ext.drew ?_ | refine Ext.setB ?_ (by first | omega | (simp only [size_alloc, size_setB, size_drew]; omega)) _ | refine Ext.trans ?_ (by assumption))), by unfold ydep; rw [if_pos (by omega)]; rfl⟩
          | exact ⟨(by repeat (first | assumption | exact Ext.refl _ | refine Ext.alloc ?_ _ | refine Ext.drew ?_ | refine Ext.setB ?_ (by first | omega | (simp only [size_alloc, size_setB, size_drew]; omega)) _ | refine Ext.trans ?_ (by assumption))), by unfold ydep; rw [if_neg (by omega), if_pos (by omega)]; rfl⟩
          | exact ⟨(by repeat (first | assumption | exact Ext.refl _ | refine Ext.alloc ?_ _ | refine Ext.drew ?_ | refine Ext.setB ?_ (by first | omega | (simp only [size_alloc, size_setB, size_drew]; omega)) _ | refine Ext.trans ?_ (by assumption))), by unfold ydep; rw [if_neg (by omega), if_neg (by omega), if_pos (by omega)]; rfl⟩
          | exact ⟨(by repeat (first | assumption | exact Ext.refl _ | refine Ext.alloc ?_ _ | refine Ext.drew ?_ | refine Ext.setB ?_ (by first | omega | (simp only [size_alloc, size_setB, size_drew]; omega)) _ | refine Ext.trans ?_ (by assumption))), by unfold ydep; rw [if_neg (by omega), if_neg (by omega), if_neg (by omega)]; congr 4; omega⟩
        · have hb8p := hb8.h; try simp only [al_ete, al_dfn, Bool.not_eq_true', Bool.not_eq_false', al_ne, Bool.not_not, al_nn] at hb8p
          refine W_skip ?_
          refine inBlk_normal ?_
          refine thn_normal ?_
          refine W_seq ?_
          refine W_region rfl ?_
          refine WO_p (PS_move_int rfl) ?_
          refine WO_p (PS_move_int rfl) ?_
          refine WO_p (PS_sub_u64n rfl rfl (by omega) (by omega)) ?_
          refine WO_p (PS_assign_int rfl) ?_
          refine WO_p (PS_assign_int rfl) ?_
          refine WO_nil ?_
          refine thn_normal ?_
          refine W_ret ?_
          refine bodyQ_ret2 Hvac.results230 rfl rfl (.int _ _) (.int _ _) rfl rfl ?_
          first
          | exact ⟨(by repeat (first | assumption | exact Ext.refl _ | refine Ext.alloc ?_ _ | refine Ext.drew ?_ | refine Ext.setB ?_ (by first | omega | (simp only [size_alloc, size_setB, size_drew]; omega)) _ | refine Ext.trans ?_ (by assumption))), by unfold ydep; rw [if_pos (by omega)]; rfl⟩
          | exact ⟨(by repeat (first | assumption | exact Ext.refl _ | refine Ext.alloc ?_ _ | refine Ext.drew ?_ | refine Ext.setB ?_ (by first | omega | (simp only [size_alloc, size_setB, size_drew]; omega)) _ | refine Ext.trans ?_ (by assumption))), by unfold ydep; rw [if_neg (by omega), if_pos (by omega)]; rfl⟩
          | exact ⟨(by repeat (first | assumption | exact Ext.refl _ | refine Ext.alloc ?_ _ | refine Ext.drew ?_ | refine Ext.setB ?_ (by first | omega | (simp only [size_alloc, size_setB, size_drew]; omega)) _ | refine Ext.trans ?_ (by assumption))), by unfold ydep; rw [if_neg (by omega), if_neg (by omega), if_pos (by omega)]; rfl⟩
          | exact ⟨(by repeat (first | assumption | exact Ext.refl _ | refine Ext.alloc ?_ _ | refine Ext.drew ?_ | refine Ext.setB ?_ (by first | omega | (simp only [size_alloc, size_setB, size_drew]; omega)) _ | refine Ext.trans ?_ (by assumption))), by unfold ydep; rw [if_neg (by omega), if_neg (by omega), if_neg (by omega)]; congr 4; omega⟩
    · have hb4p := hb4.h; try simp only [al_ete, al_dfn, Bool.not_eq_true', Bool.not_eq_false', al_ne, Bool.not_not, al_nn] at hb4p
      refine WO_guardF rfl rfl hb4.h ?_
      refine WO_guardF rfl rfl hb4.h ?_
      refine WO_guardF rfl rfl hb4.h ?_
      refine WO_guardF rfl rfl hb4.h ?_
      refine WO_p (PS_pickF rfl hb4.h rfl) ?_
      refine WO_p (PS_assign_bool rfl) ?_
      refine WO_nil ?_
      refine thn_normal ?_
      refine W_condF rfl rfl ?_
      refine W_seq ?_
      refine W_region rfl ?_
      refine WO_p (PS_move_int rfl) ?_
      refine WO_p (PS_move_int rfl) ?_
      refine WO_p (PS_gtr rfl rfl) ?_
      refine WO_p (PS_assign_bool rfl) ?_
      refine WO_nil ?_
      refine thn_normal ?_
      refine W_if rfl (fun hb10 => ?_) (fun hb10 => ?_)
      · have hb10p := hb10.h; try simp only [al_ete, al_dfn, Bool.not_eq_true', Bool.not_eq_false', al_ne, Bool.not_not, al_nn] at hb10p
        refine W_seq ?_
        refine W_region rfl ?_
        refine WO_p (PS_assign_int rfl) ?_
        refine WO_p (PS_assign_int rfl) ?_
        refine WO_nil ?_
        refine thn_normal ?_
        refine W_ret ?_
        refine inBlk_ret ?_
        refine thn_ret ?_
        refine bodyQ_ret2 Hvac.results230 rfl rfl (.int _ _) (.int _ _) rfl rfl ?_
        first
        | exact ⟨(by repeat (first | assumption | exact Ext.refl _ | refine Ext.alloc ?_ _ | refine Ext.drew ?_ | refine Ext.setB ?_ (by first | omega | (simp only [size_alloc, size_setB, size_drew]; omega)) _ | refine Ext.trans ?_ (by assumption))), by unfold ydep; rw [if_pos (by omega)]; rfl⟩
        | exact ⟨(by repeat (first | assumption | exact Ext.refl _ | refine Ext.alloc ?_ _ | refine Ext.drew ?_ | refine Ext.setB ?_ (by first | omega | (simp only [size_alloc, size_setB, size_drew]; omega)) _ | refine Ext.trans ?_ (by assumption))), by unfold ydep; rw [if_neg (by omega), if_pos (by omega)]; rfl⟩
        | exact ⟨(by repeat (first | assumption | exact Ext.refl _ | refine Ext.alloc ?_ _ | refine Ext.drew ?_ | refine Ext.setB ?_ (by first | omega | (simp only [size_alloc, size_setB, size_drew]; omega)) _ | refine Ext.trans ?_ (by assumption))), by unfold ydep; rw [if_neg (by omega), if_neg (by omega), if_pos (by omega)]; rfl⟩
        | exact ⟨(by repeat (first | assumption | exact Ext.refl _ | refine Ext.alloc ?_ _ | refine Ext.drew ?_ | refine Ext.setB ?_ (by first | omega | (simp only [size_alloc, size_setB, size_drew]; omega)) _ | refine Ext.trans ?_ (by assumption))), by unfold ydep; rw [if_neg (by omega), if_neg (by omega), if_neg (by omega)]; congr 4; omega⟩
      · have hb10p := hb10.h; try simp only [al_ete, al_dfn, Bool.not_eq_true', Bool.not_eq_false', al_ne, Bool.not_not, al_nn] at hb10p
        refine W_skip ?_
        refine inBlk_normal ?_
        refine thn_normal ?_
        refine W_seq ?_
        refine W_region rfl ?_
        refine WO_p (PS_move_int rfl) ?_
        refine WO_p (PS_move_int rfl) ?_
        refine WO_p (PS_sub_u64n rfl rfl (by omega) (by omega)) ?_
        refine WO_p (PS_assign_int rfl) ?_
        refine WO_p (PS_assign_int rfl) ?_
        refine WO_nil ?_
        refine thn_normal ?_
        refine W_ret ?_
        refine bodyQ_ret2 Hvac.results230 rfl rfl (.int _ _) (.int _ _) rfl rfl ?_
        first
        | exact ⟨(by repeat (first | assumption | exact Ext.refl _ | refine Ext.alloc ?_ _ | refine Ext.drew ?_ | refine Ext.setB ?_ (by first | omega | (simp only [size_alloc, size_setB, size_drew]; omega)) _ | refine Ext.trans ?_ (by assumption))), by unfold ydep; rw [if_pos (by omega)]; rfl⟩
        | exact ⟨(by repeat (first | assumption | exact Ext.refl _ | refine Ext.alloc ?_ _ | refine Ext.drew ?_ | refine Ext.setB ?_ (by first | omega | (simp only [size_alloc, size_setB, size_drew]; omega)) _ | refine Ext.trans ?_ (by assumption))), by unfold ydep; rw [if_neg (by omega), if_pos (by omega)]; rfl⟩
        | exact ⟨(by repeat (first | assumption | exact Ext.refl _ | refine Ext.alloc ?_ _ | refine Ext.drew ?_ | refine Ext.setB ?_ (by first | omega | (simp only [size_alloc, size_setB, size_drew]; omega)) _ | refine Ext.trans ?_ (by assumption))), by unfold ydep; rw [if_neg (by omega), if_neg (by omega), if_pos (by omega)]; rfl⟩
        | exact ⟨(by repeat (first | assumption | exact Ext.refl _ | refine Ext.alloc ?_ _ | refine Ext.drew ?_ | refine Ext.setB ?_ (by first | omega | (simp only [size_alloc, size_setB, size_drew]; omega)) _ | refine Ext.trans ?_ (by assumption))), by unfold ydep; rw [if_neg (by omega), if_neg (by omega), if_neg (by omega)]; congr 4; omega⟩

set_option maxRecDepth 10000 in
theorem nbytes_ex (W : List Int) (w : World) (hW : Wd W) : Ret Hvac.prog 369 #[.agg (ic .u64 W)] w fun u w' => Ext w w' ∧ u = .int .u8 (sz (wn W) : Int) ∧ sz (wn W) ≤ 32 := by
  have hWl := hW.1
  have hs32 : sz (wn W) ≤ 32 := sz_le (by have := wn_lt hW; simpa using this)
  refine Ret_of_W Hvac.func369 rfl rfl ?_
  refine W_seq ?_
  refine W_region rfl ?_
  refine WO_box (.agg _) rfl ?_
  refine WO_p (PS_assign_int rfl) ?_
  refine WO_nil ?_
  refine thn_normal ?_
  refine W_seq ?_
  refine W_region rfl ?_
  refine WO_loadA _ Hvac.isAgg61 Hvac.sizeOf61 rfl (Hb.h (by repeat (first | assumption | exact Hb.newY _ _ | refine Hb.alloc ?_ | refine Hb.drew ?_ | refine Hb.ext (by assumption) ?_ | exact Hb.setSameL (by first | omega | (simp only [size_alloc, size_setB, size_drew]; omega)) | exact Hb.setSame (by assumption) | refine Hb.set (by first | omega | (simp only [size_alloc, size_setB, size_drew]; omega)) ?_ ))) (by first | omega | assumption | rfl | decide | exact Nat.le_refl _ | (simp only [size_ic, Value.cells]; omega) | (simp; omega) | simp) (Xt.h (by first | assumption | exact Xt.whole rfl rfl | exact Xt.whole rfl (by assumption) | exact Xt.whole rfl (by simp only [size_ic, Value.cells]; omega) | exact ⟨rfl⟩)) ?_
  refine WO_call Hvac.call228 (by rfl) (Ret.mono (limbs_ex W _ hW) ?_)
  rintro _ w1 ⟨hE1, n, rfl, hn4, hnz, hnk⟩
  refine WO_p (PS_assign_int rfl) ?_
  refine WO_nil ?_
  refine thn_normal ?_
  refine W_seq ?_
  refine W_seq ?_
  refine W_region rfl ?_
  refine WO_p (PS_move_int rfl) ?_
  refine WO_p (PS_eql rfl rfl) ?_
  refine WO_nil ?_
  refine thn_normal ?_
  refine W_if rfl (fun hb3 => ?_) (fun hb3 => ?_)
  · have hb3p := hb3.h; try simp only [al_ete, al_dfn, Bool.not_eq_true', Bool.not_eq_false', al_ne, Bool.not_not, al_nn] at hb3p
    have hn0 : n = 0 := by omega
    have hw0 : wn W = 0 := by
      obtain ⟨a, b, c, d, rfl, ha, hb, hc, hd⟩ := isZ hW
      have h0 := hnk 0 (by omega); have h1 := hnk 1 (by omega); have h2 := hnk 2 (by omega); have h3 := hnk 3 (by omega)
      simp only [List.getD_cons_succ, List.getD_cons_zero] at h0 h1 h2 h3
      rw [h0, h1, h2, h3]; rfl
    refine W_seq ?_
    refine W_region rfl ?_
    refine WO_p (PS_assign_int rfl) ?_
    refine WO_nil ?_
    refine thn_normal ?_
    refine W_ret ?_
    refine thn_ret ?_
    refine bodyQ_ret1 Hvac.results369 rfl (.int _ _) rfl ?_
    first
    | exact ⟨(by repeat (first | assumption | exact Ext.refl _ | refine Ext.alloc ?_ _ | refine Ext.drew ?_ | refine Ext.setB ?_ (by first | omega | (simp only [size_alloc, size_setB, size_drew]; omega)) _ | refine Ext.trans ?_ (by assumption))), by rw [hw0, sz_zero]; rfl, hs32⟩
    | exact ⟨(by repeat (first | assumption | exact Ext.refl _ | refine Ext.alloc ?_ _ | refine Ext.drew ?_ | refine Ext.setB ?_ (by first | omega | (simp only [size_alloc, size_setB, size_drew]; omega)) _ | refine Ext.trans ?_ (by assumption))), by rw [hsz]; congr 1; omega, hs32⟩
  · have hb3p := hb3.h; try simp only [al_ete, al_dfn, Bool.not_eq_true', Bool.not_eq_false', al_ne, Bool.not_not, al_nn] at hb3p
    have hce : Ce (ic .u64 W) (0 + ((n:Int) - 1).toNat * 1) (.int .u64 (W.getD ((n:Int) - 1).toNat 0)) := ce_ic (by omega)
    have hxb := wd_get hW ((n:Int) - 1).toNat
    refine W_skip ?_
    refine thn_normal ?_
    refine W_seq ?_
    refine W_region rfl ?_
    refine WO_p (PS_move_int rfl) ?_
    first | refine WO_p (PS_sub_u8n rfl rfl (by omega) (by omega)) ?_ | refine WO_p (PS_sub_u8w rfl rfl) ?_
    first | refine WO_p (PS_mul_u8n rfl rfl (by omega) (by omega)) ?_ | refine WO_p (PS_mul_u8w rfl rfl) ?_
    refine WO_p (PS_move_int rfl) ?_
    first | refine WO_p (PS_sub_u8n rfl rfl (by omega) (by omega)) ?_ | refine WO_p (PS_sub_u8w rfl rfl) ?_
    refine WO_p (PS_indexA Hvac.runUnderlying61 Hvac.sizeOf26 rfl rfl (by omega) (by omega)) ?_
    refine WO_load (.int _ _) Hvac.isAgg26 rfl (Hb.h (by repeat (first | assumption | exact Hb.newY _ _ | refine Hb.alloc ?_ | refine Hb.drew ?_ | refine Hb.ext (by assumption) ?_ | exact Hb.setSameL (by first | omega | (simp only [size_alloc, size_setB, size_drew]; omega)) | exact Hb.setSame (by assumption) | refine Hb.set (by first | omega | (simp only [size_alloc, size_setB, size_drew]; omega)) ?_ ))) (Ce.h (by first | assumption | exact ⟨rfl⟩)) ?_
    refine WO_call Hvac.call229 (by rfl) (Ret.mono (len64_spec _ _ (by omega)) ?_)
    rintro _ _ ⟨rfl, ln, rfl, hln, hL⟩
    have hl1 : 1 ≤ ln := ln_pos1 hL hxb.1 (by have := hnz (by omega); rw [show ((n:Int) - 1).toNat = n - 1 by omega]; exact this)
    have hsz := nbytes_sz hW hn4 (by omega) hnk (hnz (by omega)) (by rw [show n - 1 = ((n:Int) - 1).toNat by omega]; exact hL) hl1
    first | refine WO_p (PS_add_i64n rfl rfl (by omega) (by omega)) ?_ | refine WO_p (PS_add_i64w rfl rfl) ?_
    refine WO_p (PS_quo_i64 rfl rfl (by omega) (by omega) (by omega)) ?_
    first | refine WO_p (PS_conv_u8n Hvac.runUnderlying3 Hvac.runUnderlying5 rfl (by omega) (by omega)) ?_ | refine WO_p (PS_conv_u8w Hvac.runUnderlying3 Hvac.runUnderlying5 rfl) ?_
    first | refine WO_p (PS_add_u8n rfl rfl (by omega) (by omega)) ?_ | refine WO_p (PS_add_u8w rfl rfl) ?_
    refine WO_p (PS_assign_int rfl) ?_
    refine WO_nil ?_
    refine thn_normal ?_
    refine W_ret ?_
    refine bodyQ_ret1 Hvac.results369 rfl (.int _ _) rfl ?_
    first
    | exact ⟨(by repeat (first | assumption | exact Ext.refl _ | refine Ext.alloc ?_ _ | refine Ext.drew ?_ | refine Ext.setB ?_ (by first | omega | (simp only [size_alloc, size_setB, size_drew]; omega)) _ | refine Ext.trans ?_ (by assumption))), by rw [hw0, sz_zero]; rfl, hs32⟩
    | exact ⟨(by repeat (first | assumption | exact Ext.refl _ | refine Ext.alloc ?_ _ | refine Ext.drew ?_ | refine Ext.setB ?_ (by first | omega | (simp only [size_alloc, size_setB, size_drew]; omega)) _ | refine Ext.trans ?_ (by assumption))), by rw [hsz]; congr 1; omega, hs32⟩

set_option maxRecDepth 10000 in
theorem expCost_ex (W : List Int) (w : World) (hW : Wd W) : Ret Hvac.prog 331 #[.agg (ic .u64 W)] w fun u w' => Ext w w' ∧ u = .int .u64 (10 + 50 * (sz (wn W) : Int)) ∧ sz (wn W) ≤ 32 := by
  have hWl := hW.1
  refine Ret_of_W Hvac.func331 rfl rfl ?_
  refine W_seq ?_
  refine W_region rfl ?_
  refine WO_box (.agg _) rfl ?_
  refine WO_p (PS_assign_int rfl) ?_
  refine WO_nil ?_
  refine thn_normal ?_
  refine W_seq ?_
  refine W_region rfl ?_
  refine WO_loadA _ Hvac.isAgg61 Hvac.sizeOf61 rfl (Hb.h (by repeat (first | assumption | exact Hb.newY _ _ | refine Hb.alloc ?_ | refine Hb.drew ?_ | refine Hb.ext (by assumption) ?_ | exact Hb.setSameL (by first | omega | (simp only [size_alloc, size_setB, size_drew]; omega)) | exact Hb.setSame (by assumption) | refine Hb.set (by first | omega | (simp only [size_alloc, size_setB, size_drew]; omega)) ?_ ))) (by first | omega | assumption | rfl | decide | exact Nat.le_refl _ | (simp only [size_ic, Value.cells]; omega) | (simp; omega) | simp) (Xt.h (by first | assumption | exact Xt.whole rfl rfl | exact Xt.whole rfl (by assumption) | exact Xt.whole rfl (by simp only [size_ic, Value.cells]; omega) | exact ⟨rfl⟩)) ?_
  refine WO_call Hvac.call369 (by rfl) (Ret.mono (nbytes_ex _ _ hW) ?_)
  rintro _ w369_0 ⟨hE369_0, rfl, hs32⟩
  refine WO_p (PS_conv_u64n Hvac.runUnderlying5 Hvac.runUnderlying26 rfl (by omega) (by omega)) ?_
  refine WO_p (PS_mul_u64n rfl rfl (by omega) (by omega)) ?_
  refine WO_p (PS_add_u64n rfl rfl (by omega) (by omega)) ?_
  refine WO_p (PS_assign_int rfl) ?_
  refine WO_nil ?_
  refine thn_normal ?_
  refine W_ret ?_
  refine bodyQ_ret1 Hvac.results331 rfl (.int _ _) rfl ?_
  exact ⟨(by repeat (first | assumption | exact Ext.refl _ | refine Ext.alloc ?_ _ | refine Ext.drew ?_ | refine Ext.setB ?_ (by first | omega | (simp only [size_alloc, size_setB, size_drew]; omega)) _ | refine Ext.trans ?_ (by assumption))), rfl, hs32⟩

end Go.Proofs.YgvacwGreat
