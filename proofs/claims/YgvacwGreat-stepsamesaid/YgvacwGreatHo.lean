import Derived.Test.YgvacwGreatHn
namespace Go.Proofs.YgvacwGreat
set_option linter.unusedSimpArgs false
set_option linter.unusedVariables false
def yargs (f : PF) (k : Nat) : List Nat := (List.range k).map (yarg f)
theorem yargs_len (f : PF) (k : Nat) : (yargs f k).length = k := by simp [yargs]
theorem yargs_get {f : PF} {k i : Nat} (h : i < k) : (yargs f k)[i]? = some (yarg f i) := by simp [yargs, h]
theorem yargs_sz {f : PF} (h : PFB f) (k : Nat) : ∀ a ∈ yargs f k, sz a ≤ 32 := by
  intro a ha
  simp only [yargs, List.mem_map, List.mem_range] at ha
  obtain ⟨i, _, rfl⟩ := ha
  exact sz_yarg h i
abbrev yisj (f : PF) (o : Int) : Prop := o = 86 ∨ (o = 87 ∧ yarg f 1 ≠ 0)
def ypnext (f : PF) (o : Int) : Nat := if yisj f o then yarg f 0 else f.pc + (1 + immOf o).toNat
def ypbase (f : PF) (k : Nat) : List Nat := f.stack.take (f.stack.length - k)
def ypmid (f : PF) (k j : Nat) : List Nat := (List.range j).map fun i => yarg f (k - 2 - i)
def ypkept (ks : List Int → List Int) (y : PSt) (f : PF) (o : Int) (k : Nat) : List Nat :=
  if yisj f o then ypbase f k else if 128 ≤ o ∧ o ≤ 143 then f.stack ++ [yarg f (k - 1)] else if 144 ≤ o ∧ o ≤ 159 then ypbase f k ++ [yarg f 0] ++ ypmid f k (k - 2) ++ [yarg f (k - 1)]
  else if ygives o = 1 then ypbase f k ++ [yval ks y f o (yargs f k)] else ypbase f k
/-- no effect is asked for -/
abbrev ypq (f : PF) (o : Int) : Prop := yisj f o ∨ (128 ≤ o ∧ o ≤ 143) ∨ (144 ≤ o ∧ o ≤ 159)
def ypst (y : PSt) (f : PF) (o : Int) (k : Nat) : PSt := if ypq f o then y else if ygives o = 1 then yvst y f o (yargs f k) else (yeff y f o (yargs f k)).1
def ypfr (y : PSt) (f : PF) (o : Int) (k : Nat) : PF := if ypq f o ∨ ygives o = 1 then f else (yeff y f o (yargs f k)).2
def yplain (ks : List Int → List Int) (y : PSt) (rest : List PF) (f : PF) (o : Int) : PSt × List PF :=
  if ¬ ypq f o ∧ ygives o ≠ 1 ∧ ¬ (o = 85 → (ysstA y f).2.2 ≤ y.now.ref) then (yfault y ((rest ++ [f]).getD 0 f).saved, [])
  else (ypst y f o (ytakes o).toNat, rest ++ [{ ypfr y f o (ytakes o).toNat with stack := ypkept ks y f o (ytakes o).toNat, pc := ypnext f o }])
theorem FrR.sStk [Om] {w : World} {x : YFr} {f : PF} {s : SV} {l : List Nat} (h : FrR w x f) (hs : StR w s l) : FrR w { x with stack := s } { f with stack := l } := { h with stack := hs }
theorem FrR.sPc [Om] {w : World} {x : YFr} {f : PF} {s : SV} {n : Nat} (h : FrR w x f) (hs : NN w s n) : FrR w { x with pc := s } { f with pc := n } := { h with pc := hs }
theorem StR.at_ [Om] {w : World} {p : Option Addr} {n c i : Nat} {l : List Nat} (h : StR w (p, n, c) l) (hi : i < n) : ∃ b r fz a, p = some ⟨b, 0, none⟩ ∧ Hb w b (.cells r 92 fz) ∧ 0 + i * 1 < r.size ∧ Ce r (0 + i * 1) (.slice a.1 a.2.1 a.2.2) ∧ NN w a (l.getD i 0) := by
  obtain ⟨L, hP, hR⟩ := h
  have hn := hP.len
  dsimp only at hn
  have hR1 := hR.1
  obtain ⟨a, y, ha, hy, hay⟩ := hR.get (i := i) (by omega)
  obtain ⟨b, r, fz, hp, hb, hrs, hX⟩ := pl_at hP ha rfl
  refine ⟨b, r, fz, a, hp, hb, by omega, hX.ce hrs (k := 0) ⟨rfl⟩ (by decide), ?_⟩
  rw [List.getD_eq_getElem?_getD, hy]; exact hay
section
variable [Om] {ops : Array Oper} {S : World → Prop} {Q : Post} {t ty : TypeId} {pos : String} {af : Array Edge} {os' : List TOp} {ρ : Nat → Value} {w : World} {xo yo : Operand} {d : Nat} {bb : Bool}
theorem WH_appC {α : Type} {enc : α → List Value} {u B n : Nat} {e : TypeId} {p : Option Addr} {K : List α} (x : α) {b1 : Nat} {T1 : TypeId} {fz : Nat × Nat} (ha : AppI enc u e t B) (hK : PL enc u e w (p, n, n) K) (hl : n ≤ 1000000000)
    (hxl : (enc x).length = u) (hsrc : Hb w b1 (.cells (enc x).toArray T1 fz)) (hx : ev ρ xo = .slice p n n) (hy : ev ρ yo = .slice (some ⟨b1, 0, none⟩) 1 1)
    (h : ∀ so' w', BL enc u e w [] w' so' (K ++ [x]) → Ext w w' → w.heap.size ≤ w'.heap.size → (bb = true → S w') ∧ WH Hvac.prog ops S Q os' (upd ρ d (.slice (slp so') (n + 1) (slc so'))) w') :
    WH Hvac.prog ops S Q ((⟨some d, .call ⟨.builtin .append, #[xo, yo], #[t, t]⟩, ty, pos, af, none⟩, bb) :: os') ρ w := by
  obtain ⟨i, z, hi, hz, hs, hby, hzs⟩ := ha.hi
  have hb8 : (n + 1) * B ≤ 140737488355328 := by
    have h1 : (n + 1) * B ≤ 1000000001 * 1000 := Nat.mul_le_mul (by omega) ha.hB
    omega
  obtain ⟨s', w', hr, hrow, hE, hb⟩ := run_append_cut (rt := ty) ha.ht hi hz hs hby hzs hK.len (fun h0 => by obtain ⟨b, r, fz, h1, h2, h3, h4⟩ := hK.row h0; exact ⟨b, r, e, fz, h1, h3, h4⟩) hxl hsrc hb8 (Nat.lt_of_le_of_lt hl (by decide))
  have h9 := h s' w' ⟨hrow, fun b hbb => ⟨hb b hbb, by simp⟩⟩ hE hE.1
  exact WH_append hx hy hr h9.1 h9.2
end
theorem yargs_gd {f : PF} {k i : Nat} (h : i < k) : (yargs f k).getD i 0 = yarg f i := by rw [List.getD_eq_getElem?_getD, yargs_get h]; rfl
theorem ypmid_succ (f : PF) (k j : Nat) : ypmid f k (j + 1) = ypmid f k j ++ [yarg f (k - 2 - j)] := by unfold ypmid; rw [List.range_succ, List.map_append]; rfl
theorem StR.sn [Om] {w : World} {so : Option (Nat × Nat)} {K : List SV} {w0 : World} {l : List Nat} {n : Nat} (h : BL encYN 1 92 w0 [] w so K) (hO : OmB w0) (hr : R2 (fun a n => NN w a n) K l) (hn : K.length = n) : StR w (slp so, n, slc so) l := by subst hn; exact ⟨K, h.pl hO, hr⟩
theorem BL.base {α : Type} {enc : α → List Value} {u : Nat} {e : TypeId} {w0 w1 : World} {X : List Nat} {w : World} {so : Option (Nat × Nat)} {K : List α} (h : BL enc u e w0 X w so K) (he : w1.heap.size ≤ w0.heap.size) : BL enc u e w1 X w so K := ⟨h.row, fun b hb => ⟨Nat.le_trans he (h.fr b hb).1, (h.fr b hb).2⟩⟩
theorem YG.pre {w w1 : World} {O O' : Om} {Y Y' : Nat → Prop} (he : Ext w w1) (hg : YG w1 O Y O' Y') : YG w O Y O' Y' := ⟨⟨fun b hb => hg.le.dn b (Nat.lt_of_lt_of_le hb he.1)⟩, hg.up, hg.yup, fun b hb => hg.ydn b (Nat.lt_of_lt_of_le hb he.1), hg.newY⟩
theorem ytakes_log {o : Int} (h : 160 ≤ o ∧ o ≤ 164) : ytakes o = o - 158 := by
  have h9 : o = 160 ∨ o = 161 ∨ o = 162 ∨ o = 163 ∨ o = 164 := by omega
  rcases h9 with rfl | rfl | rfl | rfl | rfl <;> decide
theorem ytakes_sw {o : Int} (h : 144 ≤ o ∧ o ≤ 159) : ytakes o = o - 142 := by
  unfold ytakes; rw [if_neg (by unfold yfam; repeat (first | omega | split)), if_neg (by omega), if_pos h]
theorem ytakes_cp {o : Int} (h : o = 55 ∨ o = 57 ∨ o = 62 ∨ o = 94) : ytakes o = 3 := by rcases h with rfl | rfl | rfl | rfl <;> decide
theorem BL.st [Om] {w0 w : World} {so : Option (Nat × Nat)} {K : List SV} {l : List Nat} (h : BL encYN 1 92 w0 [] w so K) (hO : OmB w0) (hr : R2 (fun a n => NN w a n) K l) : StR w (slp so, K.length, slc so) l := ⟨K, h.pl hO, hr⟩

set_option maxRecDepth 10000 in
set_option maxHeartbeats 4000000 in
theorem yPlain_spec [O : Om] (w : World) (hO : OmB w) (Y : Nat → Prop) (C : Nat) (x : YSt) (y : PSt) (xs : List YFr) (rest : List PF) (f : PF) (N : Nat) (hX : YX Y w C x y xs (rest ++ [f])) (hB : PSB N y) (hN : N ≤ 99999800) (hYB : YB y) (hP : PFB f) (hPr : ∀ g ∈ rest, PFB g ∧ sz g.gas ≤ 30) (hgf : sz f.gas ≤ 30) (hrl : rest.length ≤ 800) (F : Nat) (hFp : x.frames.1 = some ⟨F, 0, none⟩) (hrz : sz y.now.ref ≤ 30) (ks : List Int → List Int) (hK : KSum ks) (hhl : y.hashes.length ≤ 1000) (o : Int) (ho : 0 ≤ o ∧ o ≤ 255) (hst : (ytakes o).toNat ≤ f.stack.length) (hsl : f.stack.length ≤ 1000) (hpz : sz f.pc ≤ 8) (hvo : ygives o = 1 → ¬ (128 ≤ o ∧ o ≤ 159) → ((1 ≤ o ∧ o ≤ 11) ∨ (16 ≤ o ∧ o ≤ 29) ∨ o = 32 ∨ (48 ≤ o ∧ o ≤ 54) ∨ o = 56 ∨ o = 58 ∨ o = 59 ∨ o = 61 ∨ (63 ≤ o ∧ o ≤ 72) ∨ o = 81 ∨ o = 84 ∨ o = 88 ∨ o = 89 ∨ o = 90 ∨ o = 92 ∨ (95 ≤ o ∧ o ≤ 127))) (hk32 : o = 32 → yarg f 1 ≤ 1000000) (hcp : o = 55 ∨ o = 57 ∨ o = 62 ∨ o = 94 → yarg f 2 ≤ 1000000) (hcp2 : o = 60 → yarg f 3 ≤ 1000000) (hlg : 160 ≤ o ∧ o ≤ 164 → yarg f 1 ≤ 1000000) : Ret Hvac.prog 51 #[.pointer (some ⟨C, 0, none⟩), .pointer (some ⟨F, rest.length * 60, none⟩), .int .u8 o] w fun u w' => u = .tuple #[] ∧ YRet Y w w' C (yplain ks y rest f o).1 (yplain ks y rest f o).2 := by
  have hO0 := hO
  have hSb := hX.ss.blk
  have hSS := hX.ss
  have hSo := hX.ss.om
  have hSl := hSb.lt
  obtain ⟨r, xf, hxf, hFM, hMW, hYF, hlf⟩ := hX.top hFp
  have hFR := hFM.rel
  have hFC := hFM.fc
  have hFb := hFM.blk
  have hFo := hFM.om
  have hFl := hFb.lt
  have hFsz := hFC.size
  have hFS := hFM.s0
  have hk12 := hFC.self
  rw [hFR.self] at hk12
  have hsbl := hFR.sb.1
  have hzs := encYS_size x
  have hfcap := hX.frs.cap
  have htb := ytakes_bd ho
  have hgb := ygives_bd ho
  obtain ⟨tk, htkk⟩ : ∃ tk : Nat, ytakes o = (tk : Int) := ⟨(ytakes o).toNat, by omega⟩
  have htn : (ytakes o).toNat = tk := by omega
  rw [htkk] at htb
  rw [htn] at hst
  have hk3 := hFC.pc
  have hk8 := hFC.stack
  have hslen := hFR.stack.len
  have hN3 := hFR.pc
  have hz3 := hP.pc
  have hscap : xf.stack.2.1 ≤ xf.stack.2.2 := by obtain ⟨Ls, h9, _⟩ := hFR.stack; exact h9.cap
  have himb := immOf_bd o
  refine Ret_of_W Hvac.func51 rfl rfl ?_
  refine W_seq ?_
  refine W_region rfl ?_
  refine WO_p (PS_move_int rfl) ?_
  refine WO_call Hvac.call111 (by rfl) (Ret.mono (arity_spec _ _ ho) ?_)
  rintro _ w111_0 ⟨hE111_0, rfl⟩
  have hz111_0 := hE111_0.1
  try simp only [size_alloc, size_setB, size_drew] at hz111_0
  refine WO_p (PS_move_tuple rfl) ?_
  refine WO_p (PS_extract_int rfl rfl) ?_
  refine WO_p (PS_extract_int rfl rfl) ?_
  refine WO_p (PS_extract_bool rfl rfl) ?_
  refine WO_p (PS_assign_int rfl) ?_
  refine WO_p (PS_assign_int rfl) ?_
  refine WO_p (PS_assign_bool rfl) ?_
  refine WO_nil ?_
  refine thn_normal ?_
  refine W_seq ?_
  rw [htkk]
  refine W_region rfl ?_
  refine WO_p (PS_move_int rfl) ?_
  refine WO_make (z := .slice none 0 0) Hvac.underlying119 info92 rfl rfl rfl (by omega) (by omega) (by show ((24 : Nat) : Int) * _ ≤ _; omega) (by omega) ?_
  rw [show ((tk : Int)).toNat = tk from Int.toNat_natCast _]
  refine WO_p (PS_assign_slice rfl) ?_
  refine WO_nil ?_
  refine thn_normal ?_
  refine W_seq ?_
  refine W_seq ?_
  refine W_region rfl ?_
  refine WO_p (PS_move_slice rfl) ?_
  refine WO_p (PS_lenS Hvac.runUnderlying119 rfl) ?_
  refine WO_p (PS_move_int rfl) ?_
  refine WO_nil ?_
  refine thn_normal ?_
  refine W_block ?_
  refine W_loopN (fun k9 ρ w' => ∃ (i : Nat) (pF : Option Addr) (K : List SV), i + k9 = tk ∧ K.length = i ∧ FL encYN 1 92 w [] w' (pF, tk, tk) tk K ∧ R2 (fun a n => NN w' a n) K (yargs f i) ∧ Fr [(0, .pointer (some ⟨C, 0, none⟩)), (1, .pointer (some ⟨F, rest.length * 60, none⟩)), (2, .int .u8 o), (6, .int .i64 (tk : Int)), (7, .int .i64 (ygives o)), (9, .slice pF tk tk), (23, .int .i64 (tk : Int)), (24, .int .i64 i)] ρ ∧ Ext w w') tk ?_ ?_
  · exact ⟨0, some ⟨_, 0, none⟩, [], by omega, rfl, FL.made (Hb.newY _ _) (size_madeCells _ _) (by omega) (by simp), R2.nil _, ⟨rfl, rfl, rfl, rfl, rfl, rfl, rfl, rfl, trivial⟩, (by repeat (first | assumption | exact Ext.refl _ | refine Ext.alloc ?_ _ | refine Ext.drew ?_ | refine Ext.setB ?_ (by first | omega | (simp only [size_alloc, size_setB, size_drew]; omega)) _ | refine Ext.trans ?_ (by assumption)))⟩
  intro k40 ρ40 w40 hI40
  obtain ⟨i, pF, K, hik, hKi, hFL, hKR, hFr40, hE40⟩ := hI40
  refine W_env _ hFr40 ?_
  have hz40 := hE40.1
  refine W_seq ?_
  refine W_region rfl ?_
  refine WO_p (PS_lss rfl rfl) ?_
  refine WO_nil ?_
  refine thn_normal ?_
  refine W_seq ?_
  refine W_if rfl (fun hb4 => ?_) (fun hb4 => ?_)
  · have hb4p := hb4.h; try simp only [al_ete, al_dfn, Bool.not_eq_true', Bool.not_eq_false', al_ne, Bool.not_not, al_nn] at hb4p
    obtain ⟨bF, rF, hsF, hbF0, hbFX, hbF, hrF, hRF⟩ := hFL.row (by omega)
    dsimp only at hsF
    subst hsF
    have hbFl := hbF.lt
    have hFbs : 0 + (i : Int).toNat * 1 < rF.size := by omega
    refine W_skip ?_
    refine thn_normal ?_
    refine W_seq ?_
    refine W_block ?_
    refine W_seq ?_
    refine W_region rfl ?_
    refine WO_p (PS_move_int rfl) ?_
    refine WO_p (PS_assign_int rfl) ?_
    refine WO_nil ?_
    refine thn_normal ?_
    refine W_region rfl ?_
    refine WO_p (PS_move_slice rfl) ?_
    refine WO_p (PS_move_int rfl) ?_
    refine WO_p (PS_move_ptr rfl) ?_
    refine WO_p (PS_move_int rfl) ?_
    refine WO_call Hvac.call47 (by rfl) (Ret.mono (yArg_spec _ (OmB.ext hO (by repeat (first | assumption | exact Ext.refl _ | refine Ext.alloc ?_ _ | refine Ext.drew ?_ | refine Ext.setB ?_ (by first | omega | (simp only [size_alloc, size_setB, size_drew]; omega)) _ | exact Ext.trans (by assumption) (by assumption) | refine Ext.trans ?_ (by assumption)))) _ _ _ _ (by first | assumption | exact FrS.ext (by assumption) (by repeat (first | assumption | exact Ext.refl _ | refine Ext.alloc ?_ _ | refine Ext.drew ?_ | refine Ext.setB ?_ (by first | omega | (simp only [size_alloc, size_setB, size_drew]; omega)) _ | exact Ext.trans (by assumption) (by assumption) | refine Ext.trans ?_ (by assumption)))) hP _ (by omega)) ?_)
    rintro _ w47 ⟨hE47, s47, rfl, hN47, hs47⟩
    have hz47 := hE47.1
    try simp only [size_alloc, size_setB, size_drew] at hz47
    refine WO_p (PS_indexS Hvac.runUnderlying119 Hvac.sizeOf92 rfl rfl (by omega) (by omega)) ?_
    refine WO_store1 Hvac.sizeOf92 rfl (v := (.slice _ _ _)) rfl (Hb.h (by repeat (first | assumption | exact Hb.newY _ _ | refine Hb.alloc ?_ | refine Hb.drew ?_ | refine Hb.ext (by assumption) ?_ | exact Hb.setSameL (by first | omega | (simp only [size_alloc, size_setB, size_drew]; omega)) | exact Hb.setSame (by assumption) | refine Hb.set (by first | omega | (simp only [size_alloc, size_setB, size_drew]; omega)) ?_ ))) rfl (by first | omega | assumption | rfl | decide | exact Nat.le_refl _ | (simp only [size_ic, Value.cells]; omega) | (simp [encWs]; done) | (simp; omega) | simp | exact encYA_sz (by assumption) | exact encYT_sz (by assumption) | exact encYM_sz (by assumption)) rfl ?_
    refine WO_nil ?_
    refine inBlk_normal ?_
    refine thn_normal ?_
    refine W_region rfl ?_
    refine WO_p (PS_add_i64n rfl rfl (by omega) (by omega)) ?_
    refine WO_p (PS_move_int rfl) ?_
    refine WO_nil ?_
    refine thn_normal ?_
    have hEF : Ext w40 w47 := hE47
    have hbFw := hbF.ext hEF
    refine ⟨k40 - 1, by omega, i + 1, some ⟨bF, 0, none⟩, K ++ [s47], by omega, by simp; omega, (hFL.ext hEF).put hKi (by omega) hbFw rfl rfl, ?_, ⟨rfl, rfl, rfl, rfl, rfl, rfl, rfl, congrArg (Value.int .i64) (by omega), trivial⟩, Ext.setB (hE40.trans hEF) (by omega) _⟩
    unfold yargs
    rw [List.range_succ, List.map_append]
    exact R2.snoc (hKR.mono fun _ _ h => (NN.ext h hEF).kt (KT.setB hbFw (by decide))) (hN47.kt (KT.setB hbFw (by decide)))
  · have hb4p := hb4.h; try simp only [al_ete, al_dfn, Bool.not_eq_true', Bool.not_eq_false', al_ne, Bool.not_not, al_nn] at hb4p
    have hit : i = tk := by omega
    subst hit
    have hlA : StR w40 (pF, i, i) (yargs f i) := ⟨K, hFL.pl hO (by omega), hKR⟩
    refine W_exit ?_
    refine thn_exit ?_
    refine thn_exit ?_
    refine inBlk_exit ?_
    refine thn_normal ?_
    refine W_seq ?_
    refine W_drawE [false, false, false, false, false, true, false, false, true, false, false] hmix (by kernel_rfl) rfl ?_
    refine WH_p (PS_move_ptr rfl) rfl ?_
    refine WH_p (PS_nilCheck rfl) rfl ?_
    refine WH_p (PS_fieldAddr 3 Hvac.runUnderlying121 rfl Hvac.sizeOf92 rfl rfl) rfl ?_
    refine WH_load (.slice _ _ _) Hvac.isAgg92 rfl (Hb.h (by repeat (first | assumption | exact Hb.newY _ _ | refine Hb.alloc ?_ | refine Hb.drew ?_ | refine Hb.ext (by assumption) ?_ | exact Hb.setSameL (by first | omega | (simp only [size_alloc, size_setB, size_drew]; omega)) | exact Hb.setSame (by assumption) | refine Hb.set (by first | omega | (simp only [size_alloc, size_setB, size_drew]; omega)) ?_ ))) (Ce.h (by first | assumption | exact ⟨rfl⟩)) ?_
    refine WH_p (PS_move_int rfl) rfl ?_
    refine WH_call Hvac.call125 (by rfl) (Ret.mono (imm_spec _ _ ho) ?_)
    rintro _ w125_5 ⟨hE125_5, rfl⟩
    refine ⟨fun _ => (by repeat (first | assumption | exact Ext.refl _ | refine Ext.alloc ?_ _ | refine Ext.drew ?_ | refine Ext.setB ?_ (by first | omega | (simp only [size_alloc, size_setB, size_drew]; omega)) _ | exact Ext.trans (by assumption) (by assumption) | refine Ext.trans ?_ (by assumption))), ?_⟩
    have hz125_5 := hE125_5.1
    try simp only [size_alloc, size_setB, size_drew] at hz125_5
    refine WH_p (PS_conv_u64n Hvac.runUnderlying5 Hvac.runUnderlying26 rfl (by omega) (by omega)) rfl ?_
    refine WH_p (PS_add_u64n rfl rfl (by omega) (by omega)) rfl ?_
    refine WH_call Hvac.call19 (by rfl) (Ret.mono (nNum_spec (OmB.ext hO (by repeat (first | assumption | exact Ext.refl _ | refine Ext.alloc ?_ _ | refine Ext.drew ?_ | refine Ext.setB ?_ (by first | omega | (simp only [size_alloc, size_setB, size_drew]; omega)) _ | exact Ext.trans (by assumption) (by assumption) | refine Ext.trans ?_ (by assumption)))) ⟨by omega, by omega⟩) ?_)
    rintro _ w19_6 ⟨hE19_6, s19_6, rfl, hN19_6, hs19_6⟩
    refine ⟨fun _ => (by repeat (first | assumption | exact Ext.refl _ | refine Ext.alloc ?_ _ | refine Ext.drew ?_ | refine Ext.setB ?_ (by first | omega | (simp only [size_alloc, size_setB, size_drew]; omega)) _ | exact Ext.trans (by assumption) (by assumption) | refine Ext.trans ?_ (by assumption))), ?_⟩
    have hz19_6 := hE19_6.1
    try simp only [size_alloc, size_setB, size_drew] at hz19_6
    try simp only [Int.toNat_natCast, toNat_lit] at hN19_6 hs19_6
    refine WH_call Hvac.call24 (by rfl) (Ret.mono (nAdd_spec (OmB.ext hO (by repeat (first | assumption | exact Ext.refl _ | refine Ext.alloc ?_ _ | refine Ext.drew ?_ | refine Ext.setB ?_ (by first | omega | (simp only [size_alloc, size_setB, size_drew]; omega)) _ | exact Ext.trans (by assumption) (by assumption) | refine Ext.trans ?_ (by assumption)))) (by first | exact NN.nil _ | assumption | exact NN.ext (by assumption) (by repeat (first | assumption | exact Ext.refl _ | refine Ext.alloc ?_ _ | refine Ext.drew ?_ | refine Ext.setB ?_ (by first | omega | (simp only [size_alloc, size_setB, size_drew]; omega)) _ | exact Ext.trans (by assumption) (by assumption) | refine Ext.trans ?_ (by assumption)))) (by first | exact NN.nil _ | assumption | exact NN.ext (by assumption) (by repeat (first | assumption | exact Ext.refl _ | refine Ext.alloc ?_ _ | refine Ext.drew ?_ | refine Ext.setB ?_ (by first | omega | (simp only [size_alloc, size_setB, size_drew]; omega)) _ | exact Ext.trans (by assumption) (by assumption) | refine Ext.trans ?_ (by assumption)))) (by first | assumption | omega | (rw [sz_zero]; omega)) (by first | assumption | omega | (rw [sz_zero]; omega))) ?_)
    rintro _ w24_7 ⟨hE24_7, s43, rfl, hN43⟩
    refine ⟨(fun h => by cases h), ?_⟩
    have hz24_7 := hE24_7.1
    try simp only [size_alloc, size_setB, size_drew] at hz24_7
    have hs24_7 := hN43.z_add
    refine WH_p (PS_assign_slice rfl) rfl ?_
    refine WH_nil ?_
    refine thn_normal ?_
    refine W_seq ?_
    refine W_drawE [false, false, false, false, false, false, false, false, false, false, false, false, false, false, false, false, false, false, false, false] hmix (by kernel_rfl) rfl ?_
    refine WH_p (PS_move_ptr rfl) rfl ?_
    refine WH_p (PS_nilCheck rfl) rfl ?_
    refine WH_p (PS_fieldAddr 8 Hvac.runUnderlying121 rfl Hvac.sizeOf119 rfl rfl) rfl ?_
    refine WH_load (.slice _ _ _) Hvac.isAgg119 rfl (Hb.h (by repeat (first | assumption | exact Hb.newY _ _ | refine Hb.alloc ?_ | refine Hb.drew ?_ | refine Hb.ext (by assumption) ?_ | exact Hb.setSameL (by first | omega | (simp only [size_alloc, size_setB, size_drew]; omega)) | exact Hb.setSame (by assumption) | refine Hb.set (by first | omega | (simp only [size_alloc, size_setB, size_drew]; omega)) ?_ ))) (Ce.h (by first | assumption | exact ⟨rfl⟩)) ?_
    refine WH_p (PS_move_ptr rfl) rfl ?_
    refine WH_p (PS_nilCheck rfl) rfl ?_
    refine WH_p (PS_fieldAddr 8 Hvac.runUnderlying121 rfl Hvac.sizeOf119 rfl rfl) rfl ?_
    refine WH_load (.slice _ _ _) Hvac.isAgg119 rfl (Hb.h (by repeat (first | assumption | exact Hb.newY _ _ | refine Hb.alloc ?_ | refine Hb.drew ?_ | refine Hb.ext (by assumption) ?_ | exact Hb.setSameL (by first | omega | (simp only [size_alloc, size_setB, size_drew]; omega)) | exact Hb.setSame (by assumption) | refine Hb.set (by first | omega | (simp only [size_alloc, size_setB, size_drew]; omega)) ?_ ))) (Ce.h (by first | assumption | exact ⟨rfl⟩)) ?_
    refine WH_p (PS_lenS Hvac.runUnderlying119 rfl) rfl ?_
    refine WH_p (PS_move_int rfl) rfl ?_
    refine WH_p (PS_sub_i64n rfl rfl (by omega) (by omega)) rfl ?_
    refine WH_p (PS_move_ptr rfl) rfl ?_
    refine WH_p (PS_nilCheck rfl) rfl ?_
    refine WH_p (PS_fieldAddr 8 Hvac.runUnderlying121 rfl Hvac.sizeOf119 rfl rfl) rfl ?_
    refine WH_load (.slice _ _ _) Hvac.isAgg119 rfl (Hb.h (by repeat (first | assumption | exact Hb.newY _ _ | refine Hb.alloc ?_ | refine Hb.drew ?_ | refine Hb.ext (by assumption) ?_ | exact Hb.setSameL (by first | omega | (simp only [size_alloc, size_setB, size_drew]; omega)) | exact Hb.setSame (by assumption) | refine Hb.set (by first | omega | (simp only [size_alloc, size_setB, size_drew]; omega)) ?_ ))) (Ce.h (by first | assumption | exact ⟨rfl⟩)) ?_
    refine WH_p (PS_lenS Hvac.runUnderlying119 rfl) rfl ?_
    refine WH_p (PS_move_int rfl) rfl ?_
    refine WH_p (PS_sub_i64n rfl rfl (by omega) (by omega)) rfl ?_
    refine WH_p (PS_slS_hmA Hvac.runUnderlying119 Hvac.sizeOf92 rfl rfl rfl (by omega) (by omega) (by omega) (by omega)) rfl ?_
    rw [show ((xf.stack.2.1 : Int) - (i : Int)).toNat = xf.stack.2.1 - i by omega]
    refine WH_p (PS_assign_slice rfl) rfl ?_
    refine WH_nil ?_
    refine thn_normal ?_
    refine W_seqJ (fun ρ w' => ∃ (O' : Om) (Y' : Nat → Prop) (x' : YSt) (xs' : List YFr) (s12 s11 : SV), Fr [(1, .pointer (some ⟨F, rest.length * 60, none⟩)), (11, .slice s11.1 s11.2.1 s11.2.2), (12, .slice s12.1 s12.2.1 s12.2.2)] ρ ∧ YG w O Y O' Y' ∧ KeepO Y w w' ∧ @YX O' Y' w' C x' (ypst y f o i) xs' (rest ++ [ypfr y f o i]) ∧ x'.frames.1 = some ⟨F, 0, none⟩ ∧ @StR O' w' s12 (ypkept ks y f o i) ∧ @NN O' w' s11 (ypnext f o) ∧ ¬ (¬ ypq f o ∧ ygives o ≠ 1 ∧ ¬ (o = 85 → (ysstA y f).2.2 ≤ y.now.ref))) ?_ ?_
    · skip
      refine W_block ?_
      refine W_seq ?_
      refine W_seq ?_
      refine W_gen fun w11 hw11 => ?_
      have hE11 : Ext w w11 := by rw [hw11]; exact (by repeat (first | assumption | exact Ext.refl _ | refine Ext.alloc ?_ _ | refine Ext.drew ?_ | refine Ext.setB ?_ (by first | omega | (simp only [size_alloc, size_setB, size_drew]; omega)) _ | refine Ext.trans ?_ (by assumption)))
      have hE4011 : Ext w40 w11 := by rw [hw11]; exact (by repeat (first | assumption | exact Ext.refl _ | refine Ext.alloc ?_ _ | refine Ext.drew ?_ | refine Ext.setB ?_ (by first | omega | (simp only [size_alloc, size_setB, size_drew]; omega)) _ | refine Ext.trans ?_ (by assumption)))
      have hN11 : NN w11 s43 (f.pc + (1 + immOf o).toNat) := by rw [hw11]; exact NN.ext hN43 (by repeat (first | assumption | exact Ext.refl _ | refine Ext.alloc ?_ _ | refine Ext.drew ?_ | refine Ext.setB ?_ (by first | omega | (simp only [size_alloc, size_setB, size_drew]; omega)) _ | refine Ext.trans ?_ (by assumption)))
      clear hw11
      have hz11 := hE11.1
      have hl11 := StR.ext hlA hE4011
      have hO11 := OmB.ext hO hE11
      have hsub := hX.sub
      obtain ⟨Ls, hsP, hsR⟩ := hFR.stack
      have hsPn := hsP.len
      have hsPc := hsP.cap
      have hb11 : StR w11 (xf.stack.1, xf.stack.2.1 - i, xf.stack.2.1 - i) (ypbase f i) := by
        have h9 := StR.ext (StR.cut (k := xf.stack.2.1 - i) (hFR.stack) (Nat.sub_le _ _)) hE11
        unfold ypbase; rw [← hslen]; exact h9
      refine W_region rfl ?_
      refine WO_p (PS_move_int rfl) ?_
      refine WO_p (PS_eql rfl rfl) ?_
      refine WO_p (PS_assign_bool rfl) ?_
      refine WO_nil ?_
      refine thn_normal ?_
      refine W_if rfl (fun hb10 => ?_) (fun hb10 => ?_)
      · have hb10p := hb10.h; try simp only [al_ete, al_dfn, Bool.not_eq_true', Bool.not_eq_false', al_ne, Bool.not_not, al_nn] at hb10p
        have hj : yisj f o := by first | exact Or.inl (by omega) | exact Or.inr ⟨by omega, by simpa using hb10p⟩
        have hq : ypq f o := Or.inl hj
        have ho5 : o = 86 := by omega
        refine W_skip ?_
        refine thn_normal ?_
        refine W_condT rfl hb10.h ?_
        have h86 : ytakes 86 = 1 := by decide
        have h87b : ytakes 87 = 2 := by decide
        have hi1 : 1 ≤ i := by
          rcases hj with h9 | h9
          · rw [h9, h86] at htkk; omega
          · rw [h9.1, h87b] at htkk; omega
        obtain ⟨bB, rB, fzB, aB, hpB, hbB, hrB, hcB, hnB⟩ := hl11.at_ (i := 0) (by omega)
        cases hpB
        have hbBl := hbB.lt
        have hcB1 : Ce rB (0 + (0:Int).toNat * 1) (.slice aB.1 aB.2.1 aB.2.2) := hcB
        have hrB1 : 0 + (0:Int).toNat * 1 < rB.size := hrB
        have hzB : sz ((yargs f i).getD 0 0) ≤ 32 := by rw [yargs_gd (by omega)]; exact sz_yarg hP 0
        refine W_region rfl ?_
        refine WO_p (PS_move_slice rfl) ?_
        refine WO_p (PS_indexS Hvac.runUnderlying119 Hvac.sizeOf92 rfl rfl (by omega) (by omega)) ?_
        refine WO_load (.slice _ _ _) Hvac.isAgg92 rfl (Hb.h (by repeat (first | assumption | exact Hb.newY _ _ | refine Hb.alloc ?_ | refine Hb.drew ?_ | refine Hb.ext (by assumption) ?_ | exact Hb.setSameL (by first | omega | (simp only [size_alloc, size_setB, size_drew]; omega)) | exact Hb.setSame (by assumption) | refine Hb.set (by first | omega | (simp only [size_alloc, size_setB, size_drew]; omega)) ?_ ))) (Ce.h (by first | assumption | exact ⟨rfl⟩)) ?_
        refine WO_call Hvac.call79 (by rfl) (Ret.mono (nNorm_spec (OmB.ext hO (by repeat (first | assumption | exact Ext.refl _ | refine Ext.alloc ?_ _ | refine Ext.drew ?_ | refine Ext.setB ?_ (by first | omega | (simp only [size_alloc, size_setB, size_drew]; omega)) _ | exact Ext.trans (by assumption) (by assumption) | refine Ext.trans ?_ (by assumption)))) (by first | exact NN.nil _ | assumption | exact NN.ext (by assumption) (by repeat (first | assumption | exact Ext.refl _ | refine Ext.alloc ?_ _ | refine Ext.drew ?_ | refine Ext.setB ?_ (by first | omega | (simp only [size_alloc, size_setB, size_drew]; omega)) _ | exact Ext.trans (by assumption) (by assumption) | refine Ext.trans ?_ (by assumption)))) (by first | assumption | omega | (rw [sz_zero]; omega))) ?_)
        rintro _ w79_10 ⟨hE79_10, s79_10, rfl, hN79_10⟩
        have hz79_10 := hE79_10.1
        try simp only [size_alloc, size_setB, size_drew] at hz79_10
        refine WO_p (PS_assign_slice rfl) ?_
        refine WO_nil ?_
        refine inBlk_normal ?_
        refine thn_normal ?_
        have e1 : ypst y f o i = y := (by unfold ypst; rw [if_pos hq]); have e2 : ypfr y f o i = f := (by unfold ypfr; rw [if_pos (Or.inl hq)]); have e3 : ypkept ks y f o i = ypbase f i := (by unfold ypkept; rw [if_pos hj]); have e4 : ypnext f o = yarg f 0 := (by unfold ypnext; rw [if_pos hj]); rw [e1, e2, e3, e4]; exact ⟨O, Y, x, xs, (xf.stack.1, xf.stack.2.1 - i, xf.stack.2.1 - i), (_, _, _), ⟨rfl, rfl, rfl, trivial⟩, YG.refl w O Y, Ext.keepO (by repeat (first | assumption | exact Ext.refl _ | refine Ext.alloc ?_ _ | refine Ext.drew ?_ | refine Ext.setB ?_ (by first | omega | (simp only [size_alloc, size_setB, size_drew]; omega)) _ | refine Ext.trans ?_ (by assumption))) _, hX.ext (by repeat (first | assumption | exact Ext.refl _ | refine Ext.alloc ?_ _ | refine Ext.drew ?_ | refine Ext.setB ?_ (by first | omega | (simp only [size_alloc, size_setB, size_drew]; omega)) _ | refine Ext.trans ?_ (by assumption))), hFp, StR.ext hb11 (by repeat (first | assumption | exact Ext.refl _ | refine Ext.alloc ?_ _ | refine Ext.drew ?_ | refine Ext.setB ?_ (by first | omega | (simp only [size_alloc, size_setB, size_drew]; omega)) _ | refine Ext.trans ?_ (by assumption))), NN.castY (by first | exact NN.nil _ | assumption | exact NN.ext (by assumption) (by repeat (first | assumption | exact Ext.refl _ | refine Ext.alloc ?_ _ | refine Ext.drew ?_ | refine Ext.setB ?_ (by first | omega | (simp only [size_alloc, size_setB, size_drew]; omega)) _ | refine Ext.trans ?_ (by assumption)))) (yargs_gd (by omega)), (fun h9 => absurd h9.1 (fun h8 => h8 hq))⟩
      · have hb10p := hb10.h; try simp only [al_ete, al_dfn, Bool.not_eq_true', Bool.not_eq_false', al_ne, Bool.not_not, al_nn] at hb10p
        first | (have hj : ¬ yisj f o := (fun h9 => by rcases h9 with h9 | h9; omega; first | (have h8 := h9.1; omega) | exact absurd h9.2 (by simpa using hb10p))) | skip
        refine W_region rfl ?_
        refine WO_p (PS_move_int rfl) ?_
        refine WO_p (PS_eql rfl rfl) ?_
        refine WO_p (PS_move_bool rfl) ?_
        refine WO_if (t := 76) rfl (fun hb13 => ?_) (fun hb13 => ?_)
        · have hb13p := hb13.h; try simp only [al_ete, al_dfn, Bool.not_eq_true', Bool.not_eq_false', al_ne, Bool.not_not, al_nn] at hb13p
          have h87 : ytakes 87 = 2 := by decide
          have hi87 : i = 2 := by rw [show o = 87 by omega, h87] at htkk; omega
          obtain ⟨bA, rA, fzA, aA, hpA, hbA, hrA, hcA, hnA⟩ := hl11.at_ (i := 1) (by omega)
          cases hpA
          have hbAl := hbA.lt
          have hcA1 : Ce rA (0 + (1:Int).toNat * 1) (.slice aA.1 aA.2.1 aA.2.2) := hcA
          have hrA1 : 0 + (1:Int).toNat * 1 < rA.size := hrA
          rw [yargs_gd (by omega)] at hnA
          have hzA := sz_yarg hP 1
          have ho5 : o = 87 := by omega
          refine WO_guardT rfl rfl hb13.h ?_
          refine WO_p (PS_move_slice rfl) ?_
          refine WO_guardT rfl rfl hb13.h ?_
          refine WO_p (PS_indexS Hvac.runUnderlying119 Hvac.sizeOf92 rfl rfl (by omega) (by omega)) ?_
          refine WO_guardT rfl rfl hb13.h ?_
          refine WO_load (.slice _ _ _) Hvac.isAgg92 rfl (Hb.h (by repeat (first | assumption | exact Hb.newY _ _ | refine Hb.alloc ?_ | refine Hb.drew ?_ | refine Hb.ext (by assumption) ?_ | exact Hb.setSameL (by first | omega | (simp only [size_alloc, size_setB, size_drew]; omega)) | exact Hb.setSame (by assumption) | refine Hb.set (by first | omega | (simp only [size_alloc, size_setB, size_drew]; omega)) ?_ ))) (Ce.h (by first | assumption | exact ⟨rfl⟩)) ?_
          refine WO_guardT rfl rfl hb13.h ?_
          refine WO_call Hvac.call91 (by rfl) (Ret.mono (yIsZero_spec _ (OmB.ext hO (by repeat (first | assumption | exact Ext.refl _ | refine Ext.alloc ?_ _ | refine Ext.drew ?_ | refine Ext.setB ?_ (by first | omega | (simp only [size_alloc, size_setB, size_drew]; omega)) _ | exact Ext.trans (by assumption) (by assumption) | refine Ext.trans ?_ (by assumption)))) _ _ _ _ (by first | exact NN.nil _ | assumption | exact NN.ext (by assumption) (by repeat (first | assumption | exact Ext.refl _ | refine Ext.alloc ?_ _ | refine Ext.drew ?_ | refine Ext.setB ?_ (by first | omega | (simp only [size_alloc, size_setB, size_drew]; omega)) _ | exact Ext.trans (by assumption) (by assumption) | refine Ext.trans ?_ (by assumption)))) (by first | assumption | omega | (rw [sz_zero]; omega))) ?_)
          rintro _ w91_13 ⟨hE91_13, rfl⟩
          have hz91_13 := hE91_13.1
          try simp only [size_alloc, size_setB, size_drew] at hz91_13
          refine WO_guardT rfl rfl hb13.h ?_
          refine WO_p (PS_not rfl) ?_
          refine WO_p (PS_pickT rfl hb13.h rfl) ?_
          refine WO_p (PS_assign_bool rfl) ?_
          refine WO_nil ?_
          refine thn_normal ?_
          refine W_if rfl (fun hb17 => ?_) (fun hb17 => ?_)
          · have hb17p := hb17.h; try simp only [al_ete, al_dfn, Bool.not_eq_true', Bool.not_eq_false', al_ne, Bool.not_not, al_nn] at hb17p
            have hj : yisj f o := by first | exact Or.inl (by omega) | exact Or.inr ⟨by omega, by simpa using hb17p⟩
            have hq : ypq f o := Or.inl hj
            have h86 : ytakes 86 = 1 := by decide
            have h87b : ytakes 87 = 2 := by decide
            have hi1 : 1 ≤ i := by
              rcases hj with h9 | h9
              · rw [h9, h86] at htkk; omega
              · rw [h9.1, h87b] at htkk; omega
            obtain ⟨bB, rB, fzB, aB, hpB, hbB, hrB, hcB, hnB⟩ := hl11.at_ (i := 0) (by omega)
            cases hpB
            have hbBl := hbB.lt
            have hcB1 : Ce rB (0 + (0:Int).toNat * 1) (.slice aB.1 aB.2.1 aB.2.2) := hcB
            have hrB1 : 0 + (0:Int).toNat * 1 < rB.size := hrB
            have hzB : sz ((yargs f i).getD 0 0) ≤ 32 := by rw [yargs_gd (by omega)]; exact sz_yarg hP 0
            refine W_region rfl ?_
            refine WO_p (PS_move_slice rfl) ?_
            refine WO_p (PS_indexS Hvac.runUnderlying119 Hvac.sizeOf92 rfl rfl (by omega) (by omega)) ?_
            refine WO_load (.slice _ _ _) Hvac.isAgg92 rfl (Hb.h (by repeat (first | assumption | exact Hb.newY _ _ | refine Hb.alloc ?_ | refine Hb.drew ?_ | refine Hb.ext (by assumption) ?_ | exact Hb.setSameL (by first | omega | (simp only [size_alloc, size_setB, size_drew]; omega)) | exact Hb.setSame (by assumption) | refine Hb.set (by first | omega | (simp only [size_alloc, size_setB, size_drew]; omega)) ?_ ))) (Ce.h (by first | assumption | exact ⟨rfl⟩)) ?_
            refine WO_call Hvac.call79 (by rfl) (Ret.mono (nNorm_spec (OmB.ext hO (by repeat (first | assumption | exact Ext.refl _ | refine Ext.alloc ?_ _ | refine Ext.drew ?_ | refine Ext.setB ?_ (by first | omega | (simp only [size_alloc, size_setB, size_drew]; omega)) _ | exact Ext.trans (by assumption) (by assumption) | refine Ext.trans ?_ (by assumption)))) (by first | exact NN.nil _ | assumption | exact NN.ext (by assumption) (by repeat (first | assumption | exact Ext.refl _ | refine Ext.alloc ?_ _ | refine Ext.drew ?_ | refine Ext.setB ?_ (by first | omega | (simp only [size_alloc, size_setB, size_drew]; omega)) _ | exact Ext.trans (by assumption) (by assumption) | refine Ext.trans ?_ (by assumption)))) (by first | assumption | omega | (rw [sz_zero]; omega))) ?_)
            rintro _ w79_17 ⟨hE79_17, s79_17, rfl, hN79_17⟩
            have hz79_17 := hE79_17.1
            try simp only [size_alloc, size_setB, size_drew] at hz79_17
            refine WO_p (PS_assign_slice rfl) ?_
            refine WO_nil ?_
            refine inBlk_normal ?_
            refine thn_normal ?_
            have e1 : ypst y f o i = y := (by unfold ypst; rw [if_pos hq]); have e2 : ypfr y f o i = f := (by unfold ypfr; rw [if_pos (Or.inl hq)]); have e3 : ypkept ks y f o i = ypbase f i := (by unfold ypkept; rw [if_pos hj]); have e4 : ypnext f o = yarg f 0 := (by unfold ypnext; rw [if_pos hj]); rw [e1, e2, e3, e4]; exact ⟨O, Y, x, xs, (xf.stack.1, xf.stack.2.1 - i, xf.stack.2.1 - i), (_, _, _), ⟨rfl, rfl, rfl, trivial⟩, YG.refl w O Y, Ext.keepO (by repeat (first | assumption | exact Ext.refl _ | refine Ext.alloc ?_ _ | refine Ext.drew ?_ | refine Ext.setB ?_ (by first | omega | (simp only [size_alloc, size_setB, size_drew]; omega)) _ | refine Ext.trans ?_ (by assumption))) _, hX.ext (by repeat (first | assumption | exact Ext.refl _ | refine Ext.alloc ?_ _ | refine Ext.drew ?_ | refine Ext.setB ?_ (by first | omega | (simp only [size_alloc, size_setB, size_drew]; omega)) _ | refine Ext.trans ?_ (by assumption))), hFp, StR.ext hb11 (by repeat (first | assumption | exact Ext.refl _ | refine Ext.alloc ?_ _ | refine Ext.drew ?_ | refine Ext.setB ?_ (by first | omega | (simp only [size_alloc, size_setB, size_drew]; omega)) _ | refine Ext.trans ?_ (by assumption))), NN.castY (by first | exact NN.nil _ | assumption | exact NN.ext (by assumption) (by repeat (first | assumption | exact Ext.refl _ | refine Ext.alloc ?_ _ | refine Ext.drew ?_ | refine Ext.setB ?_ (by first | omega | (simp only [size_alloc, size_setB, size_drew]; omega)) _ | refine Ext.trans ?_ (by assumption)))) (yargs_gd (by omega)), (fun h9 => absurd h9.1 (fun h8 => h8 hq))⟩
          · have hb17p := hb17.h; try simp only [al_ete, al_dfn, Bool.not_eq_true', Bool.not_eq_false', al_ne, Bool.not_not, al_nn] at hb17p
            first | (have hj : ¬ yisj f o := (fun h9 => by rcases h9 with h9 | h9; omega; first | (have h8 := h9.1; omega) | exact absurd h9.2 (by simpa using hb17p))) | skip
            refine W_seq ?_
            have hj14 : ¬ yisj f o := by first | assumption | exact (fun h9 => by rcases h9 with h9 | ⟨h9, _⟩ <;> omega)
            refine W_region rfl ?_
            refine WO_p (PS_move_int rfl) ?_
            refine WO_p (PS_geq rfl rfl) ?_
            refine WO_p (PS_move_bool rfl) ?_
            refine WO_if (t := 90) rfl (fun hb20 => ?_) (fun hb20 => ?_)
            · have hb20p := hb20.h; try simp only [al_ete, al_dfn, Bool.not_eq_true', Bool.not_eq_false', al_ne, Bool.not_not, al_nn] at hb20p
              exfalso; omega
            · have hb20p := hb20.h; try simp only [al_ete, al_dfn, Bool.not_eq_true', Bool.not_eq_false', al_ne, Bool.not_not, al_nn] at hb20p
              refine WO_guardF rfl rfl hb20.h ?_
              refine WO_guardF rfl rfl hb20.h ?_
              refine WO_p (PS_pickF rfl hb20.h rfl) ?_
              refine WO_p (PS_assign_bool rfl) ?_
              refine WO_nil ?_
              refine thn_normal ?_
              refine W_condF rfl rfl ?_
              refine W_seq ?_
              refine W_region rfl ?_
              refine WO_p (PS_move_int rfl) ?_
              refine WO_p (PS_geq rfl rfl) ?_
              refine WO_p (PS_move_bool rfl) ?_
              refine WO_if (t := 119) rfl (fun hb22 => ?_) (fun hb22 => ?_)
              · have hb22p := hb22.h; try simp only [al_ete, al_dfn, Bool.not_eq_true', Bool.not_eq_false', al_ne, Bool.not_not, al_nn] at hb22p
                exfalso; omega
              · have hb22p := hb22.h; try simp only [al_ete, al_dfn, Bool.not_eq_true', Bool.not_eq_false', al_ne, Bool.not_not, al_nn] at hb22p
                refine WO_guardF rfl rfl hb22.h ?_
                refine WO_guardF rfl rfl hb22.h ?_
                refine WO_p (PS_pickF rfl hb22.h rfl) ?_
                refine WO_p (PS_assign_bool rfl) ?_
                refine WO_nil ?_
                refine thn_normal ?_
                refine W_condF rfl rfl ?_
                refine W_seq ?_
                refine W_region rfl ?_
                refine WO_p (PS_move_int rfl) ?_
                refine WO_p (PS_eql rfl rfl) ?_
                refine WO_p (PS_assign_bool rfl) ?_
                refine WO_nil ?_
                refine thn_normal ?_
                refine W_if rfl (fun hb24 => ?_) (fun hb24 => ?_)
                · have hb24p := hb24.h; try simp only [al_ete, al_dfn, Bool.not_eq_true', Bool.not_eq_false', al_ne, Bool.not_not, al_nn] at hb24p
                  have hg1 : ygives o = 1 := by omega
                  have hnq : ¬ ypq f o := fun h9 => by rcases h9 with h9 | h9 | h9; exact hj14 h9; omega; omega
                  refine W_region rfl ?_
                  refine WO_p (PS_move_slice rfl) ?_
                  refine WO_p (PS_move_ptr rfl) ?_
                  refine WO_p (PS_move_ptr rfl) ?_
                  refine WO_p (PS_move_int rfl) ?_
                  refine WO_p (PS_move_slice rfl) ?_
                  refine WO_call Hvac.call126 (by rfl) (Ret.mono (yValue_spec _ (OmB.ext hO (by repeat (first | assumption | exact Ext.refl _ | refine Ext.alloc ?_ _ | refine Ext.drew ?_ | refine Ext.setB ?_ (by first | omega | (simp only [size_alloc, size_setB, size_drew]; omega)) _ | exact Ext.trans (by assumption) (by assumption) | refine Ext.trans ?_ (by assumption)))) Y C x y xs rest f N (YX.ext hX (by repeat (first | assumption | exact Ext.refl _ | refine Ext.alloc ?_ _ | refine Ext.drew ?_ | refine Ext.setB ?_ (by first | omega | (simp only [size_alloc, size_setB, size_drew]; omega)) _ | exact Ext.trans (by assumption) (by assumption) | refine Ext.trans ?_ (by assumption)))) hB hN hYB hP hPr hgf hrl F hFp ks hK hhl _ ho (hvo (by omega) (by omega)) _ _ _ _ (StR.ext hl11 (by repeat (first | assumption | exact Ext.refl _ | refine Ext.alloc ?_ _ | refine Ext.drew ?_ | refine Ext.setB ?_ (by first | omega | (simp only [size_alloc, size_setB, size_drew]; omega)) _ | exact Ext.trans (by assumption) (by assumption) | refine Ext.trans ?_ (by assumption)))) (yargs_sz hP i) (by omega) (fun h9 => by rw [yargs_gd (by have h8 : ytakes 32 = 2 := (by decide); rw [h9, h8] at htkk; omega)]; exact hk32 h9) hpz) ?_)
                  rintro _ w24 ⟨s24, x24, rfl, hT24, hfr24, hlg24, hN24⟩
                  have hTa24 : SStep w w24 C x24 (yvst y f o (yargs f i)) := SStep.pre (by repeat (first | assumption | exact Ext.refl _ | refine Ext.alloc ?_ _ | refine Ext.drew ?_ | refine Ext.setB ?_ (by first | omega | (simp only [size_alloc, size_setB, size_drew]; omega)) _ | refine Ext.trans ?_ (by assumption))) hT24
                  have hX24 := hX.sstep hTa24 hfr24 hlg24
                  have hb24 := (StR.ext hb11 (by repeat (first | assumption | exact Ext.refl _ | refine Ext.alloc ?_ _ | refine Ext.drew ?_ | refine Ext.setB ?_ (by first | omega | (simp only [size_alloc, size_setB, size_drew]; omega)) _ | refine Ext.trans ?_ (by assumption)))).keep hT24.ko
                  have hn24 := (NN.ext hN11 (by repeat (first | assumption | exact Ext.refl _ | refine Ext.alloc ?_ _ | refine Ext.drew ?_ | refine Ext.setB ?_ (by first | omega | (simp only [size_alloc, size_setB, size_drew]; omega)) _ | refine Ext.trans ?_ (by assumption)))).keep hT24.ko
                  replace hO := hX24.omb
                  obtain ⟨L24, hP24, hR24⟩ := hb24
                  have hP24n := hP24.len
                  refine WO_buildSliceV (.slice _ _ _) Hvac.runUnderlying119 Hvac.sizeOf92 Hvac.zeroValue92 rfl rfl (by decide) (by decide) ?_
                  refine WO_appC s24 ap_YN (PL.ext hP24 (by repeat (first | assumption | exact Ext.refl _ | refine Ext.alloc ?_ _ | refine Ext.drew ?_ | refine Ext.setB ?_ (by first | omega | (simp only [size_alloc, size_setB, size_drew]; omega)) _ | exact Ext.trans (by assumption) (by assumption) | refine Ext.trans ?_ (by assumption)))) (by omega) rfl (Hb.mk (Hb.h (by repeat (first | assumption | exact Hb.newY _ _ | refine Hb.alloc ?_ | refine Hb.drew ?_ | refine Hb.ext (by assumption) ?_ | exact Hb.setSameL (by first | omega | (simp only [size_alloc, size_setB, size_drew]; omega)) | exact Hb.setSame (by assumption) | refine Hb.set (by first | omega | (simp only [size_alloc, size_setB, size_drew]; omega)) ?_ )))) rfl rfl ?_
                  intro so25 w25 hBL25 hE25 hz25
                  try simp only [size_alloc, size_setB, size_drew] at hz25
                  have hE2425 : Ext w24 w25 := (by repeat (first | assumption | exact Ext.refl _ | refine Ext.alloc ?_ _ | refine Ext.drew ?_ | refine Ext.setB ?_ (by first | omega | (simp only [size_alloc, size_setB, size_drew]; omega)) _ | exact Ext.trans (by assumption) (by assumption) | refine Ext.trans ?_ (by assumption)))
                  have hSt25a : StR w25 (slp so25, xf.stack.2.1 - i + 1, slc so25) (ypbase f i ++ [yval ks y f o (yargs f i)]) := by
                    refine StR.sn hBL25 (OmB.ext hO (by repeat (first | assumption | exact Ext.refl _ | refine Ext.alloc ?_ _ | refine Ext.drew ?_ | refine Ext.setB ?_ (by first | omega | (simp only [size_alloc, size_setB, size_drew]; omega)) _ | exact Ext.trans (by assumption) (by assumption) | refine Ext.trans ?_ (by assumption)))) ?_ (by rw [List.length_append, hP24n]; rfl)
                    exact (hR24.mono fun _ _ h => NN.ext h hE2425).snoc (NN.ext hN24 hE2425)
                  refine WO_p (PS_assign_slice rfl) ?_
                  refine WO_nil ?_
                  refine inBlk_normal ?_
                  refine thn_normal ?_
                  have e1 : ypst y f o i = yvst y f o (yargs f i) := (by unfold ypst; rw [if_neg hnq, if_pos hg1]); have e2 : ypfr y f o i = f := (by unfold ypfr; rw [if_pos (Or.inr hg1)]); have e3 : ypkept ks y f o i = ypbase f i ++ [yval ks y f o (yargs f i)] := (by unfold ypkept; rw [if_neg hj14, if_neg (by omega), if_neg (by omega), if_pos hg1]); have e4 : ypnext f o = f.pc + (1 + immOf o).toNat := (by unfold ypnext; rw [if_neg hj14]); rw [e1, e2, e3, e4]; exact ⟨O, Y, x24, xs, (slp so25, xf.stack.2.1 - i + 1, slc so25), (_, _, _), ⟨rfl, rfl, rfl, trivial⟩, YG.refl w O Y, (KeepO.mono hTa24.keep (fun b e => e ▸ hX.yc)).extR (by repeat (first | assumption | exact Ext.refl _ | refine Ext.alloc ?_ _ | refine Ext.drew ?_ | refine Ext.setB ?_ (by first | omega | (simp only [size_alloc, size_setB, size_drew]; omega)) _ | refine Ext.trans ?_ (by assumption))), hX24.ext (by repeat (first | assumption | exact Ext.refl _ | refine Ext.alloc ?_ _ | refine Ext.drew ?_ | refine Ext.setB ?_ (by first | omega | (simp only [size_alloc, size_setB, size_drew]; omega)) _ | refine Ext.trans ?_ (by assumption))), (by rw [hfr24]; exact hFp), hSt25a, NN.ext hn24 (by repeat (first | assumption | exact Ext.refl _ | refine Ext.alloc ?_ _ | refine Ext.drew ?_ | refine Ext.setB ?_ (by first | omega | (simp only [size_alloc, size_setB, size_drew]; omega)) _ | refine Ext.trans ?_ (by assumption))), fun h9 => absurd hg1 h9.2.1⟩
                · have hb24p := hb24.h; try simp only [al_ete, al_dfn, Bool.not_eq_true', Bool.not_eq_false', al_ne, Bool.not_not, al_nn] at hb24p
                  have hg1 : ygives o ≠ 1 := by omega
                  have hnq : ¬ ypq f o := fun h9 => by rcases h9 with h9 | h9 | h9; exact hj14 h9; omega; omega
                  refine W_seq ?_
                  refine W_region rfl ?_
                  refine WO_p (PS_move_ptr rfl) ?_
                  refine WO_p (PS_move_ptr rfl) ?_
                  refine WO_p (PS_move_int rfl) ?_
                  refine WO_p (PS_move_slice rfl) ?_
                  refine WO_call Hvac.call127 (by rfl) (Ret.mono (yEffect_spec _ (OmB.ext hO (by repeat (first | assumption | exact Ext.refl _ | refine Ext.alloc ?_ _ | refine Ext.drew ?_ | refine Ext.setB ?_ (by first | omega | (simp only [size_alloc, size_setB, size_drew]; omega)) _ | exact Ext.trans (by assumption) (by assumption) | refine Ext.trans ?_ (by assumption)))) Y C x y xs rest f N (YX.ext hX (by repeat (first | assumption | exact Ext.refl _ | refine Ext.alloc ?_ _ | refine Ext.drew ?_ | refine Ext.setB ?_ (by first | omega | (simp only [size_alloc, size_setB, size_drew]; omega)) _ | exact Ext.trans (by assumption) (by assumption) | refine Ext.trans ?_ (by assumption)))) hB hN hYB hP hPr hgf hrl F hFp hrz _ ho _ _ _ _ (StR.ext hl11 (by repeat (first | assumption | exact Ext.refl _ | refine Ext.alloc ?_ _ | refine Ext.drew ?_ | refine Ext.setB ?_ (by first | omega | (simp only [size_alloc, size_setB, size_drew]; omega)) _ | exact Ext.trans (by assumption) (by assumption) | refine Ext.trans ?_ (by assumption)))) (yargs_sz hP i) (by omega) (fun h9 => by rw [yargs_gd (by have h8 := ytakes_cp h9; omega)]; exact hcp h9) (fun h9 => by rw [yargs_gd (by have h8 : ytakes 60 = 4 := (by decide); rw [h9, h8] at htkk; omega)]; exact hcp2 h9) (fun h9 => ⟨by rw [yargs_gd (by have h8 := ytakes_log h9; omega)]; exact hlg h9, by have h8 := ytakes_log h9; rw [yargs_len]; omega, by have h8 := ytakes_log h9; rw [yargs_len]; omega⟩)) ?_)
                  rintro _ w9 ⟨rfl, hok9, hno9⟩
                  refine WO_p (PS_not rfl) ?_
                  refine WO_nil ?_
                  refine thn_normal ?_
                  refine W_if rfl (fun hb29 => ?_) (fun hb29 => ?_)
                  · have hb29p := hb29.h; try simp only [al_ete, al_dfn, Bool.not_eq_true', Bool.not_eq_false', al_ne, Bool.not_not, al_nn] at hb29p
                    have hef : ¬ (o = 85 → (ysstA y f).2.2 ≤ y.now.ref) := by simpa using hb29p
                    have hE9 := hno9 hef
                    refine W_seq ?_
                    obtain ⟨g, hg0⟩ : ∃ g, (rest ++ [f])[0]? = some g := ⟨_, List.getElem?_eq_getElem (by simp)⟩
                    have hz9 := hE9.1
                    refine W_region rfl ?_
                    refine WO_p (PS_move_ptr rfl) ?_
                    refine WO_call Hvac.call128 (by rfl) (Ret.mono (yFault_spec _ (OmB.ext hO (by repeat (first | assumption | exact Ext.refl _ | refine Ext.alloc ?_ _ | refine Ext.drew ?_ | refine Ext.setB ?_ (by first | omega | (simp only [size_alloc, size_setB, size_drew]; omega)) _ | exact Ext.trans (by assumption) (by assumption) | refine Ext.trans ?_ (by assumption)))) Y C x y xs (rest ++ [f]) g (YX.ext hX (by repeat (first | assumption | exact Ext.refl _ | refine Ext.alloc ?_ _ | refine Ext.drew ?_ | refine Ext.setB ?_ (by first | omega | (simp only [size_alloc, size_setB, size_drew]; omega)) _ | exact Ext.trans (by assumption) (by assumption) | refine Ext.trans ?_ (by assumption)))) hg0) ?_)
                    rintro _ w10 ⟨rfl, hY10⟩
                    refine WO_nil ?_
                    refine thn_normal ?_
                    refine W_ret ?_
                    refine inBlk_ret ?_
                    refine thn_ret ?_
                    first | refine bodyQ_ret0 Hvac.results51 ?_ | refine bodyQ_end0 Hvac.results51 ?_
                    have e9 : yplain ks y rest f o = (yfault y g.saved, []) := (by unfold yplain; rw [if_pos ⟨hnq, hg1, hef⟩, List.getD_eq_getElem?_getD, hg0]; rfl); rw [e9]; exact ⟨rfl, YRet.pre (Ext.keepO (by repeat (first | assumption | exact Ext.refl _ | refine Ext.alloc ?_ _ | refine Ext.drew ?_ | refine Ext.setB ?_ (by first | omega | (simp only [size_alloc, size_setB, size_drew]; omega)) _ | refine Ext.trans ?_ (by assumption))) _) hY10⟩
                  · have hb29p := hb29.h; try simp only [al_ete, al_dfn, Bool.not_eq_true', Bool.not_eq_false', al_ne, Bool.not_not, al_nn] at hb29p
                    have hef : (o = 85 → (ysstA y f).2.2 ≤ y.now.ref) := by simpa using hb29p
                    refine W_skip ?_
                    refine inBlk_normal ?_
                    refine thn_normal ?_
                    obtain ⟨O2, Y2, x2, xs2, hg2, hk2, hX2, hs2⟩ := YRetF.pre (w := w11) (Ext.keepO (by repeat (first | assumption | exact Ext.refl _ | refine Ext.alloc ?_ _ | refine Ext.drew ?_ | refine Ext.setB ?_ (by first | omega | (simp only [size_alloc, size_setB, size_drew]; omega)) _ | refine Ext.trans ?_ (by assumption))) _) (hok9 hef); have e1 : ypst y f o i = (yeff y f o (yargs f i)).1 := (by unfold ypst; rw [if_neg hnq, if_neg hg1]); have e2 : ypfr y f o i = (yeff y f o (yargs f i)).2 := (by unfold ypfr; rw [if_neg (fun h9 => h9.elim hnq hg1)]); have e3 : ypkept ks y f o i = ypbase f i := (by unfold ypkept; rw [if_neg hj14, if_neg (fun h9 => hnq (Or.inr (Or.inl h9))), if_neg (fun h9 => hnq (Or.inr (Or.inr h9))), if_neg hg1]); have e4 : ypnext f o = f.pc + (1 + immOf o).toNat := (by unfold ypnext; rw [if_neg hj14]); rw [e1, e2, e3, e4]; have hkk : KeepO (@Om.p O2) w11 w9 := hk2.mono (fun b hb => hg2.up b (hsub b hb)); exact ⟨O2, Y2, x2, xs2, (xf.stack.1, xf.stack.2.1 - i, xf.stack.2.1 - i), (_, _, _), ⟨rfl, rfl, rfl, trivial⟩, YG.pre hE11 hg2, (Ext.keepO hE11 _).trans hk2 (fun _ _ e => e), hX2, (by rw [hs2]; exact hFp), @StR.keep O2 _ _ _ _ (StR.om hb11 hg2.le) hkk, @NN.keep O2 _ _ _ _ (NN.om hN11 hg2.le) hkk, fun h9 => h9.2.2 hef⟩
        · have hb13p := hb13.h; try simp only [al_ete, al_dfn, Bool.not_eq_true', Bool.not_eq_false', al_ne, Bool.not_not, al_nn] at hb13p
          refine WO_guardF rfl rfl hb13.h ?_
          refine WO_guardF rfl rfl hb13.h ?_
          refine WO_guardF rfl rfl hb13.h ?_
          refine WO_guardF rfl rfl hb13.h ?_
          refine WO_guardF rfl rfl hb13.h ?_
          refine WO_p (PS_pickF rfl hb13.h rfl) ?_
          refine WO_p (PS_assign_bool rfl) ?_
          refine WO_nil ?_
          refine thn_normal ?_
          refine W_condF rfl rfl ?_
          refine W_seq ?_
          have hj14 : ¬ yisj f o := by first | assumption | exact (fun h9 => by rcases h9 with h9 | ⟨h9, _⟩ <;> omega)
          refine W_region rfl ?_
          refine WO_p (PS_move_int rfl) ?_
          refine WO_p (PS_geq rfl rfl) ?_
          refine WO_p (PS_move_bool rfl) ?_
          refine WO_if (t := 90) rfl (fun hb32 => ?_) (fun hb32 => ?_)
          · have hb32p := hb32.h; try simp only [al_ete, al_dfn, Bool.not_eq_true', Bool.not_eq_false', al_ne, Bool.not_not, al_nn] at hb32p
            refine WO_guardT rfl rfl hb32.h ?_
            refine WO_p (PS_move_int rfl) ?_
            refine WO_guardT rfl rfl hb32.h ?_
            refine WO_p (PS_leq rfl rfl) ?_
            refine WO_p (PS_pickT rfl hb32.h rfl) ?_
            refine WO_p (PS_assign_bool rfl) ?_
            refine WO_nil ?_
            refine thn_normal ?_
            refine W_if rfl (fun hb34 => ?_) (fun hb34 => ?_)
            · have hb34p := hb34.h; try simp only [al_ete, al_dfn, Bool.not_eq_true', Bool.not_eq_false', al_ne, Bool.not_not, al_nn] at hb34p
              have hdt : ytakes o = o - 127 := by unfold ytakes; rw [if_neg (by unfold yfam; first | decide | (repeat (first | omega | split))), if_pos (by omega)]
              have hi1 : 1 ≤ i := by omega
              have hq : ypq f o := Or.inr (Or.inl (by omega))
              obtain ⟨bD, rD, fzD, aD, hpD, hbD, hrD, hcD, hnD⟩ := hl11.at_ (i := (i - 1)) (by omega)
              cases hpD
              have hbDl := hbD.lt
              have hcD1 : Ce rD (0 + ((i : Int) - 1).toNat * 1) (.slice aD.1 aD.2.1 aD.2.2) := by rw [show ((i : Int) - 1).toNat = i - 1 by omega]; exact hcD
              have hrD1 : 0 + ((i : Int) - 1).toNat * 1 < rD.size := by omega
              rw [yargs_gd (by omega)] at hnD
              refine W_drawE [false, false, false, false, false, false, false, false, false, false, false, false, false, false, false, false, false, false, false, false, true, false, false] hmix (by kernel_rfl) rfl ?_
              refine WH_p (PS_move_ptr rfl) rfl ?_
              refine WH_p (PS_nilCheck rfl) rfl ?_
              refine WH_p (PS_fieldAddr 8 Hvac.runUnderlying121 rfl Hvac.sizeOf119 rfl rfl) rfl ?_
              refine WH_load (.slice _ _ _) Hvac.isAgg119 rfl (Hb.h (by repeat (first | assumption | exact Hb.newY _ _ | refine Hb.alloc ?_ | refine Hb.drew ?_ | refine Hb.ext (by assumption) ?_ | exact Hb.setSameL (by first | omega | (simp only [size_alloc, size_setB, size_drew]; omega)) | exact Hb.setSame (by assumption) | refine Hb.set (by first | omega | (simp only [size_alloc, size_setB, size_drew]; omega)) ?_ ))) (Ce.h (by first | assumption | exact ⟨rfl⟩)) ?_
              refine WH_p (PS_move_ptr rfl) rfl ?_
              refine WH_p (PS_nilCheck rfl) rfl ?_
              refine WH_p (PS_fieldAddr 8 Hvac.runUnderlying121 rfl Hvac.sizeOf119 rfl rfl) rfl ?_
              refine WH_load (.slice _ _ _) Hvac.isAgg119 rfl (Hb.h (by repeat (first | assumption | exact Hb.newY _ _ | refine Hb.alloc ?_ | refine Hb.drew ?_ | refine Hb.ext (by assumption) ?_ | exact Hb.setSameL (by first | omega | (simp only [size_alloc, size_setB, size_drew]; omega)) | exact Hb.setSame (by assumption) | refine Hb.set (by first | omega | (simp only [size_alloc, size_setB, size_drew]; omega)) ?_ ))) (Ce.h (by first | assumption | exact ⟨rfl⟩)) ?_
              refine WH_p (PS_lenS Hvac.runUnderlying119 rfl) rfl ?_
              refine WH_p (PS_move_ptr rfl) rfl ?_
              refine WH_p (PS_nilCheck rfl) rfl ?_
              refine WH_p (PS_fieldAddr 8 Hvac.runUnderlying121 rfl Hvac.sizeOf119 rfl rfl) rfl ?_
              refine WH_load (.slice _ _ _) Hvac.isAgg119 rfl (Hb.h (by repeat (first | assumption | exact Hb.newY _ _ | refine Hb.alloc ?_ | refine Hb.drew ?_ | refine Hb.ext (by assumption) ?_ | exact Hb.setSameL (by first | omega | (simp only [size_alloc, size_setB, size_drew]; omega)) | exact Hb.setSame (by assumption) | refine Hb.set (by first | omega | (simp only [size_alloc, size_setB, size_drew]; omega)) ?_ ))) (Ce.h (by first | assumption | exact ⟨rfl⟩)) ?_
              refine WH_p (PS_lenS Hvac.runUnderlying119 rfl) rfl ?_
              refine WH_p (PS_slS_hmA Hvac.runUnderlying119 Hvac.sizeOf92 rfl rfl rfl (by omega) (by omega) (by omega) (by omega)) rfl ?_
              rw [Int.toNat_natCast]
              refine WH_p (PS_move_slice rfl) rfl ?_
              refine WH_p (PS_move_int rfl) rfl ?_
              refine WH_p (PS_sub_i64n rfl rfl (by omega) (by omega)) rfl ?_
              refine WH_p (PS_indexS Hvac.runUnderlying119 Hvac.sizeOf92 rfl rfl (by omega) (by omega)) rfl ?_
              refine WH_load (.slice _ _ _) Hvac.isAgg92 rfl (Hb.h (by repeat (first | assumption | exact Hb.newY _ _ | refine Hb.alloc ?_ | refine Hb.drew ?_ | refine Hb.ext (by assumption) ?_ | exact Hb.setSameL (by first | omega | (simp only [size_alloc, size_setB, size_drew]; omega)) | exact Hb.setSame (by assumption) | refine Hb.set (by first | omega | (simp only [size_alloc, size_setB, size_drew]; omega)) ?_ ))) (Ce.h (by first | assumption | exact ⟨rfl⟩)) ?_
              refine WH_buildSliceV (.slice _ _ _) Hvac.runUnderlying119 Hvac.sizeOf92 Hvac.zeroValue92 rfl rfl (by decide) (by decide) (fun _ => (by repeat (first | assumption | exact Ext.refl _ | refine Ext.alloc ?_ _ | refine Ext.drew ?_ | refine Ext.setB ?_ (by first | omega | (simp only [size_alloc, size_setB, size_drew]; omega)) _ | exact Ext.trans (by assumption) (by assumption) | refine Ext.trans ?_ (by assumption)))) ?_
              refine WH_appC aD ap_YN (PL.ext (PL.cut (k := xf.stack.2.1) hsP (Nat.le_refl _)) (by repeat (first | assumption | exact Ext.refl _ | refine Ext.alloc ?_ _ | refine Ext.drew ?_ | refine Ext.setB ?_ (by first | omega | (simp only [size_alloc, size_setB, size_drew]; omega)) _ | exact Ext.trans (by assumption) (by assumption) | refine Ext.trans ?_ (by assumption)))) (by omega) rfl (Hb.mk (Hb.h (by repeat (first | assumption | exact Hb.newY _ _ | refine Hb.alloc ?_ | refine Hb.drew ?_ | refine Hb.ext (by assumption) ?_ | exact Hb.setSameL (by first | omega | (simp only [size_alloc, size_setB, size_drew]; omega)) | exact Hb.setSame (by assumption) | refine Hb.set (by first | omega | (simp only [size_alloc, size_setB, size_drew]; omega)) ?_ )))) rfl rfl ?_
              intro so15 w15 hBL15 hE15 hz15
              try simp only [size_alloc, size_setB, size_drew] at hz15
              have hE1115 : Ext w11 w15 := (by repeat (first | assumption | exact Ext.refl _ | refine Ext.alloc ?_ _ | refine Ext.drew ?_ | refine Ext.setB ?_ (by first | omega | (simp only [size_alloc, size_setB, size_drew]; omega)) _ | exact Ext.trans (by assumption) (by assumption) | refine Ext.trans ?_ (by assumption)))
              have hSt15 : StR w15 (slp so15, xf.stack.2.1 + 1, slc so15) (f.stack ++ [yarg f (i - 1)]) := by
                refine StR.sn hBL15 (OmB.ext hO11 (by repeat (first | assumption | exact Ext.refl _ | refine Ext.alloc ?_ _ | refine Ext.drew ?_ | refine Ext.setB ?_ (by first | omega | (simp only [size_alloc, size_setB, size_drew]; omega)) _ | exact Ext.trans (by assumption) (by assumption) | refine Ext.trans ?_ (by assumption)))) ?_ (by rw [List.length_append, List.length_take, hsPn]; simp)
                rw [List.take_of_length_le (by omega)]
                exact (hsR.mono fun _ _ h => NN.ext (NN.ext h hE11) hE1115).snoc (NN.ext hnD hE1115)
              refine ⟨(fun h => by cases h), ?_⟩
              refine WH_p (PS_assign_slice rfl) rfl ?_
              refine WH_nil ?_
              refine inBlk_normal ?_
              refine thn_normal ?_
              have e1 : ypst y f o i = y := (by unfold ypst; rw [if_pos hq]); have e2 : ypfr y f o i = f := (by unfold ypfr; rw [if_pos (Or.inl hq)]); have e3 : ypkept ks y f o i = f.stack ++ [yarg f (i - 1)] := (by unfold ypkept; rw [if_neg hj14, if_pos (by omega)]); have e4 : ypnext f o = f.pc + (1 + immOf o).toNat := (by unfold ypnext; rw [if_neg hj14]); rw [e1, e2, e3, e4]; exact ⟨O, Y, x, xs, (slp so15, xf.stack.2.1 + 1, slc so15), (_, _, _), ⟨rfl, rfl, rfl, trivial⟩, YG.refl w O Y, Ext.keepO (by repeat (first | assumption | exact Ext.refl _ | refine Ext.alloc ?_ _ | refine Ext.drew ?_ | refine Ext.setB ?_ (by first | omega | (simp only [size_alloc, size_setB, size_drew]; omega)) _ | refine Ext.trans ?_ (by assumption))) _, hX.ext (by repeat (first | assumption | exact Ext.refl _ | refine Ext.alloc ?_ _ | refine Ext.drew ?_ | refine Ext.setB ?_ (by first | omega | (simp only [size_alloc, size_setB, size_drew]; omega)) _ | refine Ext.trans ?_ (by assumption))), hFp, hSt15, NN.ext hN11 (by repeat (first | assumption | exact Ext.refl _ | refine Ext.alloc ?_ _ | refine Ext.drew ?_ | refine Ext.setB ?_ (by first | omega | (simp only [size_alloc, size_setB, size_drew]; omega)) _ | refine Ext.trans ?_ (by assumption))), (fun h9 => absurd h9.1 (fun h8 => h8 hq))⟩
            · have hb34p := hb34.h; try simp only [al_ete, al_dfn, Bool.not_eq_true', Bool.not_eq_false', al_ne, Bool.not_not, al_nn] at hb34p
              refine W_seq ?_
              refine W_region rfl ?_
              refine WO_p (PS_move_int rfl) ?_
              refine WO_p (PS_geq rfl rfl) ?_
              refine WO_p (PS_move_bool rfl) ?_
              refine WO_if (t := 119) rfl (fun hb36 => ?_) (fun hb36 => ?_)
              · have hb36p := hb36.h; try simp only [al_ete, al_dfn, Bool.not_eq_true', Bool.not_eq_false', al_ne, Bool.not_not, al_nn] at hb36p
                refine WO_guardT rfl rfl hb36.h ?_
                refine WO_p (PS_move_int rfl) ?_
                refine WO_guardT rfl rfl hb36.h ?_
                refine WO_p (PS_leq rfl rfl) ?_
                refine WO_p (PS_pickT rfl hb36.h rfl) ?_
                refine WO_p (PS_assign_bool rfl) ?_
                refine WO_nil ?_
                refine thn_normal ?_
                refine W_if rfl (fun hb38 => ?_) (fun hb38 => ?_)
                · have hb38p := hb38.h; try simp only [al_ete, al_dfn, Bool.not_eq_true', Bool.not_eq_false', al_ne, Bool.not_not, al_nn] at hb38p
                  refine W_seq ?_
                  have hq : ypq f o := Or.inr (Or.inr (by omega))
                  have hdt : ytakes o = o - 142 := ytakes_sw (by omega)
                  have hi2 : 2 ≤ i := by omega
                  obtain ⟨bS, rS, fzS, aS, hpS, hbS, hrS, hcS, hnS⟩ := hl11.at_ (i := 0) (by omega)
                  cases hpS
                  have hbSl := hbS.lt
                  have hcS1 : Ce rS (0 + (0:Int).toNat * 1) (.slice aS.1 aS.2.1 aS.2.2) := hcS
                  have hrS1 : 0 + (0:Int).toNat * 1 < rS.size := hrS
                  rw [yargs_gd (by omega)] at hnS
                  obtain ⟨Lb, hPb, hRb⟩ := hb11
                  have hPbn := hPb.len
                  dsimp only at hPbn
                  refine W_region rfl ?_
                  refine WO_p (PS_move_slice rfl) ?_
                  refine WO_p (PS_move_slice rfl) ?_
                  refine WO_p (PS_indexS Hvac.runUnderlying119 Hvac.sizeOf92 rfl rfl (by omega) (by omega)) ?_
                  refine WO_load (.slice _ _ _) Hvac.isAgg92 rfl (Hb.h (by repeat (first | assumption | exact Hb.newY _ _ | refine Hb.alloc ?_ | refine Hb.drew ?_ | refine Hb.ext (by assumption) ?_ | exact Hb.setSameL (by first | omega | (simp only [size_alloc, size_setB, size_drew]; omega)) | exact Hb.setSame (by assumption) | refine Hb.set (by first | omega | (simp only [size_alloc, size_setB, size_drew]; omega)) ?_ ))) (Ce.h (by first | assumption | exact ⟨rfl⟩)) ?_
                  refine WO_buildSliceV (.slice _ _ _) Hvac.runUnderlying119 Hvac.sizeOf92 Hvac.zeroValue92 rfl rfl (by decide) (by decide) ?_
                  refine WO_appC aS ap_YN (PL.ext hPb (by repeat (first | assumption | exact Ext.refl _ | refine Ext.alloc ?_ _ | refine Ext.drew ?_ | refine Ext.setB ?_ (by first | omega | (simp only [size_alloc, size_setB, size_drew]; omega)) _ | exact Ext.trans (by assumption) (by assumption) | refine Ext.trans ?_ (by assumption)))) (by omega) rfl (Hb.mk (Hb.h (by repeat (first | assumption | exact Hb.newY _ _ | refine Hb.alloc ?_ | refine Hb.drew ?_ | refine Hb.ext (by assumption) ?_ | exact Hb.setSameL (by first | omega | (simp only [size_alloc, size_setB, size_drew]; omega)) | exact Hb.setSame (by assumption) | refine Hb.set (by first | omega | (simp only [size_alloc, size_setB, size_drew]; omega)) ?_ )))) rfl rfl ?_
                  intro so17 w17 hBL17 hE17 hz17
                  try simp only [size_alloc, size_setB, size_drew] at hz17
                  have hE1117 : Ext w11 w17 := (by repeat (first | assumption | exact Ext.refl _ | refine Ext.alloc ?_ _ | refine Ext.drew ?_ | refine Ext.setB ?_ (by first | omega | (simp only [size_alloc, size_setB, size_drew]; omega)) _ | exact Ext.trans (by assumption) (by assumption) | refine Ext.trans ?_ (by assumption)))
                  have hB17 : BL encYN 1 92 w11 [] w17 so17 (Lb ++ [aS]) := hBL17.base (by first | omega | (simp only [size_alloc, size_setB, size_drew]; omega))
                  have hR17 : R2 (fun a n => NN w11 a n) (Lb ++ [aS]) (ypbase f i ++ [yarg f 0]) := hRb.snoc hnS
                  refine WO_p (PS_assign_slice rfl) ?_
                  refine WO_nil ?_
                  refine thn_normal ?_
                  refine W_seq ?_
                  refine W_seq ?_
                  refine W_region rfl ?_
                  refine WO_p (PS_move_int rfl) ?_
                  refine WO_p (PS_sub_i64n rfl rfl (by omega) (by omega)) ?_
                  refine WO_p (PS_assign_int rfl) ?_
                  refine WO_nil ?_
                  refine thn_normal ?_
                  refine W_block ?_
                  refine W_loopN (fun k9 ρ w' => ∃ (j : Nat) (so : Option (Nat × Nat)) (K : List SV), j + k9 = i - 2 ∧ K.length = xf.stack.2.1 - i + 1 + j ∧ BL encYN 1 92 w11 [] w' so K ∧ R2 (fun a n => NN w11 a n) K (ypbase f i ++ [yarg f 0] ++ ypmid f i j) ∧ Fr [(1, .pointer (some ⟨F, rest.length * 60, none⟩)), (6, .int .i64 (i : Int)), (9, .slice (some ⟨bS, 0, none⟩) i i), (11, .slice s43.1 s43.2.1 s43.2.2), (12, .slice (slp so) K.length (slc so)), (13, .int .i64 ((i - 2 - j : Nat) : Int))] ρ ∧ Ext w11 w') (i - 2) ?_ ?_
                  · exact ⟨0, so17, Lb ++ [aS], by omega, by rw [List.length_append, hPbn]; rfl, hB17, by rw [show ypmid f i 0 = [] from rfl, List.append_nil]; exact hR17, ⟨rfl, rfl, rfl, rfl, congrArg (fun n => Value.slice (slp so17) n (slc so17)) (by rw [List.length_append, hPbn]; rfl), congrArg (Value.int .i64) (by omega), trivial⟩, hE1117⟩
                  intro k50 ρ50 w50 hI50
                  obtain ⟨j, so, K, hjk, hKn, hBK, hRK, hFr50, hE50⟩ := hI50
                  refine W_env _ hFr50 ?_
                  have hz50 := hE50.1
                  refine W_seq ?_
                  refine W_seq ?_
                  refine W_region rfl ?_
                  refine WO_p (PS_move_int rfl) ?_
                  refine WO_p (PS_gtr rfl rfl) ?_
                  refine WO_nil ?_
                  refine thn_normal ?_
                  refine W_if rfl (fun hb40 => ?_) (fun hb40 => ?_)
                  · have hb40p := hb40.h; try simp only [al_ete, al_dfn, Bool.not_eq_true', Bool.not_eq_false', al_ne, Bool.not_not, al_nn] at hb40p
                    obtain ⟨bL, rL, fzL, aL, hpL, hbL, hrL, hcL, hnL⟩ := hl11.at_ (i := i - 2 - j) (by omega)
                    cases hpL
                    have hcL1 : Ce rL (0 + ((i - 2 - j : Nat) : Int).toNat * 1) (.slice aL.1 aL.2.1 aL.2.2) := by rw [Int.toNat_natCast]; exact hcL
                    have hrL1 : 0 + ((i - 2 - j : Nat) : Int).toNat * 1 < rL.size := by rw [Int.toNat_natCast]; exact hrL
                    rw [yargs_gd (by omega)] at hnL
                    refine W_skip ?_
                    refine thn_normal ?_
                    refine W_seq ?_
                    refine W_block ?_
                    refine W_region rfl ?_
                    refine WO_p (PS_move_slice rfl) ?_
                    refine WO_p (PS_move_slice rfl) ?_
                    refine WO_p (PS_move_int rfl) ?_
                    refine WO_p (PS_indexS Hvac.runUnderlying119 Hvac.sizeOf92 rfl rfl (by omega) (by omega)) ?_
                    refine WO_load (.slice _ _ _) Hvac.isAgg92 rfl (Hb.h (by repeat (first | assumption | exact Hb.newY _ _ | refine Hb.alloc ?_ | refine Hb.drew ?_ | refine Hb.ext (by assumption) ?_ | exact Hb.setSameL (by first | omega | (simp only [size_alloc, size_setB, size_drew]; omega)) | exact Hb.setSame (by assumption) | refine Hb.set (by first | omega | (simp only [size_alloc, size_setB, size_drew]; omega)) ?_ ))) (Ce.h (by first | assumption | exact ⟨rfl⟩)) ?_
                    refine WO_buildSliceV (.slice _ _ _) Hvac.runUnderlying119 Hvac.sizeOf92 Hvac.zeroValue92 rfl rfl (by decide) (by decide) ?_
                    refine WO_app aL ap_YN (BL.ext hBK (by repeat (first | assumption | exact Ext.refl _ | refine Ext.alloc ?_ _ | refine Ext.drew ?_ | refine Ext.setB ?_ (by first | omega | (simp only [size_alloc, size_setB, size_drew]; omega)) _ | exact Ext.trans (by assumption) (by assumption) | refine Ext.trans ?_ (by assumption)))) (by repeat (first | assumption | exact Ext.refl _ | refine Ext.alloc ?_ _ | refine Ext.drew ?_ | refine Ext.setB ?_ (by first | omega | (simp only [size_alloc, size_setB, size_drew]; omega)) _ | exact Ext.trans (by assumption) (by assumption) | refine Ext.trans ?_ (by assumption))) (by simp) (by omega) rfl (Hb.mk (Hb.h (by repeat (first | assumption | exact Hb.newY _ _ | refine Hb.alloc ?_ | refine Hb.drew ?_ | refine Hb.ext (by assumption) ?_ | exact Hb.setSameL (by first | omega | (simp only [size_alloc, size_setB, size_drew]; omega)) | exact Hb.setSame (by assumption) | refine Hb.set (by first | omega | (simp only [size_alloc, size_setB, size_drew]; omega)) ?_ )))) rfl rfl ?_
                    intro soL wL hBL hEL hkL hzL
                    try simp only [size_alloc, size_setB, size_drew] at hzL
                    refine WO_p (PS_assign_slice rfl) ?_
                    refine WO_nil ?_
                    refine inBlk_normal ?_
                    refine thn_normal ?_
                    refine W_region rfl ?_
                    refine WO_p (PS_move_int rfl) ?_
                    refine WO_p (PS_sub_i64n rfl rfl (by omega) (by omega)) ?_
                    refine WO_p (PS_assign_int rfl) ?_
                    refine WO_nil ?_
                    refine thn_normal ?_
                    refine ⟨k50 - 1, by omega, j + 1, soL, K ++ [aL], by omega, by simp; omega, hBL, ?_, ⟨rfl, rfl, rfl, rfl, rfl, congrArg (Value.int .i64) (by omega), trivial⟩, hEL⟩
                    rw [ypmid_succ, ← List.append_assoc]
                    exact hRK.snoc hnL
                  · have hb40p := hb40.h; try simp only [al_ete, al_dfn, Bool.not_eq_true', Bool.not_eq_false', al_ne, Bool.not_not, al_nn] at hb40p
                    have hjt : j = i - 2 := by omega
                    subst hjt
                    obtain ⟨bM, rM, fzM, aM, hpM, hbM, hrM, hcM, hnM⟩ := hl11.at_ (i := i - 1) (by omega)
                    cases hpM
                    have hcM1 : Ce rM (0 + ((i : Int) - 1).toNat * 1) (.slice aM.1 aM.2.1 aM.2.2) := by rw [show ((i : Int) - 1).toNat = i - 1 by omega]; exact hcM
                    have hrM1 : 0 + ((i : Int) - 1).toNat * 1 < rM.size := by omega
                    rw [yargs_gd (by omega)] at hnM
                    refine W_exit ?_
                    refine thn_exit ?_
                    refine thn_exit ?_
                    refine inBlk_exit ?_
                    refine thn_normal ?_
                    refine W_region rfl ?_
                    refine WO_p (PS_move_slice rfl) ?_
                    refine WO_p (PS_move_slice rfl) ?_
                    refine WO_p (PS_move_int rfl) ?_
                    refine WO_p (PS_sub_i64n rfl rfl (by omega) (by omega)) ?_
                    refine WO_p (PS_indexS Hvac.runUnderlying119 Hvac.sizeOf92 rfl rfl (by omega) (by omega)) ?_
                    refine WO_load (.slice _ _ _) Hvac.isAgg92 rfl (Hb.h (by repeat (first | assumption | exact Hb.newY _ _ | refine Hb.alloc ?_ | refine Hb.drew ?_ | refine Hb.ext (by assumption) ?_ | exact Hb.setSameL (by first | omega | (simp only [size_alloc, size_setB, size_drew]; omega)) | exact Hb.setSame (by assumption) | refine Hb.set (by first | omega | (simp only [size_alloc, size_setB, size_drew]; omega)) ?_ ))) (Ce.h (by first | assumption | exact ⟨rfl⟩)) ?_
                    refine WO_buildSliceV (.slice _ _ _) Hvac.runUnderlying119 Hvac.sizeOf92 Hvac.zeroValue92 rfl rfl (by decide) (by decide) ?_
                    refine WO_app aM ap_YN (BL.ext hBK (by repeat (first | assumption | exact Ext.refl _ | refine Ext.alloc ?_ _ | refine Ext.drew ?_ | refine Ext.setB ?_ (by first | omega | (simp only [size_alloc, size_setB, size_drew]; omega)) _ | exact Ext.trans (by assumption) (by assumption) | refine Ext.trans ?_ (by assumption)))) (by repeat (first | assumption | exact Ext.refl _ | refine Ext.alloc ?_ _ | refine Ext.drew ?_ | refine Ext.setB ?_ (by first | omega | (simp only [size_alloc, size_setB, size_drew]; omega)) _ | exact Ext.trans (by assumption) (by assumption) | refine Ext.trans ?_ (by assumption))) (by simp) (by omega) rfl (Hb.mk (Hb.h (by repeat (first | assumption | exact Hb.newY _ _ | refine Hb.alloc ?_ | refine Hb.drew ?_ | refine Hb.ext (by assumption) ?_ | exact Hb.setSameL (by first | omega | (simp only [size_alloc, size_setB, size_drew]; omega)) | exact Hb.setSame (by assumption) | refine Hb.set (by first | omega | (simp only [size_alloc, size_setB, size_drew]; omega)) ?_ )))) rfl rfl ?_
                    intro soM wM hBM hEM hkM hzM
                    try simp only [size_alloc, size_setB, size_drew] at hzM
                    have hSt22 : StR wM (slp soM, (K ++ [aM]).length, slc soM) (ypbase f i ++ [yarg f 0] ++ ypmid f i (i - 2) ++ [yarg f (i - 1)]) := by
                      refine StR.sn hBM hO11 ?_ rfl
                      exact (hRK.snoc hnM).mono fun _ _ h => NN.ext h hEM
                    refine WO_p (PS_assign_slice rfl) ?_
                    refine WO_nil ?_
                    refine inBlk_normal ?_
                    refine thn_normal ?_
                    have e1 : ypst y f o i = y := (by unfold ypst; rw [if_pos hq]); have e2 : ypfr y f o i = f := (by unfold ypfr; rw [if_pos (Or.inl hq)]); have e3 : ypkept ks y f o i = ypbase f i ++ [yarg f 0] ++ ypmid f i (i - 2) ++ [yarg f (i - 1)] := (by unfold ypkept; rw [if_neg hj14, if_neg (by omega), if_pos (by omega)]); have e4 : ypnext f o = f.pc + (1 + immOf o).toNat := (by unfold ypnext; rw [if_neg hj14]); rw [e1, e2, e3, e4]; exact ⟨O, Y, x, xs, (slp soM, (K ++ [aM]).length, slc soM), (_, _, _), ⟨rfl, rfl, rfl, trivial⟩, YG.refl w O Y, Ext.keepO (by repeat (first | assumption | exact Ext.refl _ | refine Ext.alloc ?_ _ | refine Ext.drew ?_ | refine Ext.setB ?_ (by first | omega | (simp only [size_alloc, size_setB, size_drew]; omega)) _ | refine Ext.trans ?_ (by assumption))) _, hX.ext (by repeat (first | assumption | exact Ext.refl _ | refine Ext.alloc ?_ _ | refine Ext.drew ?_ | refine Ext.setB ?_ (by first | omega | (simp only [size_alloc, size_setB, size_drew]; omega)) _ | refine Ext.trans ?_ (by assumption))), hFp, hSt22, NN.ext hN11 (by repeat (first | assumption | exact Ext.refl _ | refine Ext.alloc ?_ _ | refine Ext.drew ?_ | refine Ext.setB ?_ (by first | omega | (simp only [size_alloc, size_setB, size_drew]; omega)) _ | refine Ext.trans ?_ (by assumption))), (fun h9 => absurd h9.1 (fun h8 => h8 hq))⟩
                · have hb38p := hb38.h; try simp only [al_ete, al_dfn, Bool.not_eq_true', Bool.not_eq_false', al_ne, Bool.not_not, al_nn] at hb38p
                  refine W_seq ?_
                  refine W_region rfl ?_
                  refine WO_p (PS_move_int rfl) ?_
                  refine WO_p (PS_eql rfl rfl) ?_
                  refine WO_p (PS_assign_bool rfl) ?_
                  refine WO_nil ?_
                  refine thn_normal ?_
                  refine W_if rfl (fun hb42 => ?_) (fun hb42 => ?_)
                  · have hb42p := hb42.h; try simp only [al_ete, al_dfn, Bool.not_eq_true', Bool.not_eq_false', al_ne, Bool.not_not, al_nn] at hb42p
                    have hg1 : ygives o = 1 := by omega
                    have hnq : ¬ ypq f o := fun h9 => by rcases h9 with h9 | h9 | h9; exact hj14 h9; omega; omega
                    refine W_region rfl ?_
                    refine WO_p (PS_move_slice rfl) ?_
                    refine WO_p (PS_move_ptr rfl) ?_
                    refine WO_p (PS_move_ptr rfl) ?_
                    refine WO_p (PS_move_int rfl) ?_
                    refine WO_p (PS_move_slice rfl) ?_
                    refine WO_call Hvac.call126 (by rfl) (Ret.mono (yValue_spec _ (OmB.ext hO (by repeat (first | assumption | exact Ext.refl _ | refine Ext.alloc ?_ _ | refine Ext.drew ?_ | refine Ext.setB ?_ (by first | omega | (simp only [size_alloc, size_setB, size_drew]; omega)) _ | exact Ext.trans (by assumption) (by assumption) | refine Ext.trans ?_ (by assumption)))) Y C x y xs rest f N (YX.ext hX (by repeat (first | assumption | exact Ext.refl _ | refine Ext.alloc ?_ _ | refine Ext.drew ?_ | refine Ext.setB ?_ (by first | omega | (simp only [size_alloc, size_setB, size_drew]; omega)) _ | exact Ext.trans (by assumption) (by assumption) | refine Ext.trans ?_ (by assumption)))) hB hN hYB hP hPr hgf hrl F hFp ks hK hhl _ ho (hvo (by omega) (by omega)) _ _ _ _ (StR.ext hl11 (by repeat (first | assumption | exact Ext.refl _ | refine Ext.alloc ?_ _ | refine Ext.drew ?_ | refine Ext.setB ?_ (by first | omega | (simp only [size_alloc, size_setB, size_drew]; omega)) _ | exact Ext.trans (by assumption) (by assumption) | refine Ext.trans ?_ (by assumption)))) (yargs_sz hP i) (by omega) (fun h9 => by rw [yargs_gd (by have h8 : ytakes 32 = 2 := (by decide); rw [h9, h8] at htkk; omega)]; exact hk32 h9) hpz) ?_)
                    rintro _ w24 ⟨s24, x24, rfl, hT24, hfr24, hlg24, hN24⟩
                    have hTa24 : SStep w w24 C x24 (yvst y f o (yargs f i)) := SStep.pre (by repeat (first | assumption | exact Ext.refl _ | refine Ext.alloc ?_ _ | refine Ext.drew ?_ | refine Ext.setB ?_ (by first | omega | (simp only [size_alloc, size_setB, size_drew]; omega)) _ | refine Ext.trans ?_ (by assumption))) hT24
                    have hX24 := hX.sstep hTa24 hfr24 hlg24
                    have hb24 := (StR.ext hb11 (by repeat (first | assumption | exact Ext.refl _ | refine Ext.alloc ?_ _ | refine Ext.drew ?_ | refine Ext.setB ?_ (by first | omega | (simp only [size_alloc, size_setB, size_drew]; omega)) _ | refine Ext.trans ?_ (by assumption)))).keep hT24.ko
                    have hn24 := (NN.ext hN11 (by repeat (first | assumption | exact Ext.refl _ | refine Ext.alloc ?_ _ | refine Ext.drew ?_ | refine Ext.setB ?_ (by first | omega | (simp only [size_alloc, size_setB, size_drew]; omega)) _ | refine Ext.trans ?_ (by assumption)))).keep hT24.ko
                    replace hO := hX24.omb
                    obtain ⟨L24, hP24, hR24⟩ := hb24
                    have hP24n := hP24.len
                    refine WO_buildSliceV (.slice _ _ _) Hvac.runUnderlying119 Hvac.sizeOf92 Hvac.zeroValue92 rfl rfl (by decide) (by decide) ?_
                    refine WO_appC s24 ap_YN (PL.ext hP24 (by repeat (first | assumption | exact Ext.refl _ | refine Ext.alloc ?_ _ | refine Ext.drew ?_ | refine Ext.setB ?_ (by first | omega | (simp only [size_alloc, size_setB, size_drew]; omega)) _ | exact Ext.trans (by assumption) (by assumption) | refine Ext.trans ?_ (by assumption)))) (by omega) rfl (Hb.mk (Hb.h (by repeat (first | assumption | exact Hb.newY _ _ | refine Hb.alloc ?_ | refine Hb.drew ?_ | refine Hb.ext (by assumption) ?_ | exact Hb.setSameL (by first | omega | (simp only [size_alloc, size_setB, size_drew]; omega)) | exact Hb.setSame (by assumption) | refine Hb.set (by first | omega | (simp only [size_alloc, size_setB, size_drew]; omega)) ?_ )))) rfl rfl ?_
                    intro so25 w25 hBL25 hE25 hz25
                    try simp only [size_alloc, size_setB, size_drew] at hz25
                    have hE2425 : Ext w24 w25 := (by repeat (first | assumption | exact Ext.refl _ | refine Ext.alloc ?_ _ | refine Ext.drew ?_ | refine Ext.setB ?_ (by first | omega | (simp only [size_alloc, size_setB, size_drew]; omega)) _ | exact Ext.trans (by assumption) (by assumption) | refine Ext.trans ?_ (by assumption)))
                    have hSt25a : StR w25 (slp so25, xf.stack.2.1 - i + 1, slc so25) (ypbase f i ++ [yval ks y f o (yargs f i)]) := by
                      refine StR.sn hBL25 (OmB.ext hO (by repeat (first | assumption | exact Ext.refl _ | refine Ext.alloc ?_ _ | refine Ext.drew ?_ | refine Ext.setB ?_ (by first | omega | (simp only [size_alloc, size_setB, size_drew]; omega)) _ | exact Ext.trans (by assumption) (by assumption) | refine Ext.trans ?_ (by assumption)))) ?_ (by rw [List.length_append, hP24n]; rfl)
                      exact (hR24.mono fun _ _ h => NN.ext h hE2425).snoc (NN.ext hN24 hE2425)
                    refine WO_p (PS_assign_slice rfl) ?_
                    refine WO_nil ?_
                    refine inBlk_normal ?_
                    refine thn_normal ?_
                    have e1 : ypst y f o i = yvst y f o (yargs f i) := (by unfold ypst; rw [if_neg hnq, if_pos hg1]); have e2 : ypfr y f o i = f := (by unfold ypfr; rw [if_pos (Or.inr hg1)]); have e3 : ypkept ks y f o i = ypbase f i ++ [yval ks y f o (yargs f i)] := (by unfold ypkept; rw [if_neg hj14, if_neg (by omega), if_neg (by omega), if_pos hg1]); have e4 : ypnext f o = f.pc + (1 + immOf o).toNat := (by unfold ypnext; rw [if_neg hj14]); rw [e1, e2, e3, e4]; exact ⟨O, Y, x24, xs, (slp so25, xf.stack.2.1 - i + 1, slc so25), (_, _, _), ⟨rfl, rfl, rfl, trivial⟩, YG.refl w O Y, (KeepO.mono hTa24.keep (fun b e => e ▸ hX.yc)).extR (by repeat (first | assumption | exact Ext.refl _ | refine Ext.alloc ?_ _ | refine Ext.drew ?_ | refine Ext.setB ?_ (by first | omega | (simp only [size_alloc, size_setB, size_drew]; omega)) _ | refine Ext.trans ?_ (by assumption))), hX24.ext (by repeat (first | assumption | exact Ext.refl _ | refine Ext.alloc ?_ _ | refine Ext.drew ?_ | refine Ext.setB ?_ (by first | omega | (simp only [size_alloc, size_setB, size_drew]; omega)) _ | refine Ext.trans ?_ (by assumption))), (by rw [hfr24]; exact hFp), hSt25a, NN.ext hn24 (by repeat (first | assumption | exact Ext.refl _ | refine Ext.alloc ?_ _ | refine Ext.drew ?_ | refine Ext.setB ?_ (by first | omega | (simp only [size_alloc, size_setB, size_drew]; omega)) _ | refine Ext.trans ?_ (by assumption))), fun h9 => absurd hg1 h9.2.1⟩
                  · have hb42p := hb42.h; try simp only [al_ete, al_dfn, Bool.not_eq_true', Bool.not_eq_false', al_ne, Bool.not_not, al_nn] at hb42p
                    have hg1 : ygives o ≠ 1 := by omega
                    have hnq : ¬ ypq f o := fun h9 => by rcases h9 with h9 | h9 | h9; exact hj14 h9; omega; omega
                    refine W_seq ?_
                    refine W_region rfl ?_
                    refine WO_p (PS_move_ptr rfl) ?_
                    refine WO_p (PS_move_ptr rfl) ?_
                    refine WO_p (PS_move_int rfl) ?_
                    refine WO_p (PS_move_slice rfl) ?_
                    refine WO_call Hvac.call127 (by rfl) (Ret.mono (yEffect_spec _ (OmB.ext hO (by repeat (first | assumption | exact Ext.refl _ | refine Ext.alloc ?_ _ | refine Ext.drew ?_ | refine Ext.setB ?_ (by first | omega | (simp only [size_alloc, size_setB, size_drew]; omega)) _ | exact Ext.trans (by assumption) (by assumption) | refine Ext.trans ?_ (by assumption)))) Y C x y xs rest f N (YX.ext hX (by repeat (first | assumption | exact Ext.refl _ | refine Ext.alloc ?_ _ | refine Ext.drew ?_ | refine Ext.setB ?_ (by first | omega | (simp only [size_alloc, size_setB, size_drew]; omega)) _ | exact Ext.trans (by assumption) (by assumption) | refine Ext.trans ?_ (by assumption)))) hB hN hYB hP hPr hgf hrl F hFp hrz _ ho _ _ _ _ (StR.ext hl11 (by repeat (first | assumption | exact Ext.refl _ | refine Ext.alloc ?_ _ | refine Ext.drew ?_ | refine Ext.setB ?_ (by first | omega | (simp only [size_alloc, size_setB, size_drew]; omega)) _ | exact Ext.trans (by assumption) (by assumption) | refine Ext.trans ?_ (by assumption)))) (yargs_sz hP i) (by omega) (fun h9 => by rw [yargs_gd (by have h8 := ytakes_cp h9; omega)]; exact hcp h9) (fun h9 => by rw [yargs_gd (by have h8 : ytakes 60 = 4 := (by decide); rw [h9, h8] at htkk; omega)]; exact hcp2 h9) (fun h9 => ⟨by rw [yargs_gd (by have h8 := ytakes_log h9; omega)]; exact hlg h9, by have h8 := ytakes_log h9; rw [yargs_len]; omega, by have h8 := ytakes_log h9; rw [yargs_len]; omega⟩)) ?_)
                    rintro _ w9 ⟨rfl, hok9, hno9⟩
                    refine WO_p (PS_not rfl) ?_
                    refine WO_nil ?_
                    refine thn_normal ?_
                    refine W_if rfl (fun hb47 => ?_) (fun hb47 => ?_)
                    · have hb47p := hb47.h; try simp only [al_ete, al_dfn, Bool.not_eq_true', Bool.not_eq_false', al_ne, Bool.not_not, al_nn] at hb47p
                      have hef : ¬ (o = 85 → (ysstA y f).2.2 ≤ y.now.ref) := by simpa using hb47p
                      have hE9 := hno9 hef
                      refine W_seq ?_
                      obtain ⟨g, hg0⟩ : ∃ g, (rest ++ [f])[0]? = some g := ⟨_, List.getElem?_eq_getElem (by simp)⟩
                      have hz9 := hE9.1
                      refine W_region rfl ?_
                      refine WO_p (PS_move_ptr rfl) ?_
                      refine WO_call Hvac.call128 (by rfl) (Ret.mono (yFault_spec _ (OmB.ext hO (by repeat (first | assumption | exact Ext.refl _ | refine Ext.alloc ?_ _ | refine Ext.drew ?_ | refine Ext.setB ?_ (by first | omega | (simp only [size_alloc, size_setB, size_drew]; omega)) _ | exact Ext.trans (by assumption) (by assumption) | refine Ext.trans ?_ (by assumption)))) Y C x y xs (rest ++ [f]) g (YX.ext hX (by repeat (first | assumption | exact Ext.refl _ | refine Ext.alloc ?_ _ | refine Ext.drew ?_ | refine Ext.setB ?_ (by first | omega | (simp only [size_alloc, size_setB, size_drew]; omega)) _ | exact Ext.trans (by assumption) (by assumption) | refine Ext.trans ?_ (by assumption)))) hg0) ?_)
                      rintro _ w10 ⟨rfl, hY10⟩
                      refine WO_nil ?_
                      refine thn_normal ?_
                      refine W_ret ?_
                      refine inBlk_ret ?_
                      refine thn_ret ?_
                      first | refine bodyQ_ret0 Hvac.results51 ?_ | refine bodyQ_end0 Hvac.results51 ?_
                      have e9 : yplain ks y rest f o = (yfault y g.saved, []) := (by unfold yplain; rw [if_pos ⟨hnq, hg1, hef⟩, List.getD_eq_getElem?_getD, hg0]; rfl); rw [e9]; exact ⟨rfl, YRet.pre (Ext.keepO (by repeat (first | assumption | exact Ext.refl _ | refine Ext.alloc ?_ _ | refine Ext.drew ?_ | refine Ext.setB ?_ (by first | omega | (simp only [size_alloc, size_setB, size_drew]; omega)) _ | refine Ext.trans ?_ (by assumption))) _) hY10⟩
                    · have hb47p := hb47.h; try simp only [al_ete, al_dfn, Bool.not_eq_true', Bool.not_eq_false', al_ne, Bool.not_not, al_nn] at hb47p
                      have hef : (o = 85 → (ysstA y f).2.2 ≤ y.now.ref) := by simpa using hb47p
                      refine W_skip ?_
                      refine inBlk_normal ?_
                      refine thn_normal ?_
                      obtain ⟨O2, Y2, x2, xs2, hg2, hk2, hX2, hs2⟩ := YRetF.pre (w := w11) (Ext.keepO (by repeat (first | assumption | exact Ext.refl _ | refine Ext.alloc ?_ _ | refine Ext.drew ?_ | refine Ext.setB ?_ (by first | omega | (simp only [size_alloc, size_setB, size_drew]; omega)) _ | refine Ext.trans ?_ (by assumption))) _) (hok9 hef); have e1 : ypst y f o i = (yeff y f o (yargs f i)).1 := (by unfold ypst; rw [if_neg hnq, if_neg hg1]); have e2 : ypfr y f o i = (yeff y f o (yargs f i)).2 := (by unfold ypfr; rw [if_neg (fun h9 => h9.elim hnq hg1)]); have e3 : ypkept ks y f o i = ypbase f i := (by unfold ypkept; rw [if_neg hj14, if_neg (fun h9 => hnq (Or.inr (Or.inl h9))), if_neg (fun h9 => hnq (Or.inr (Or.inr h9))), if_neg hg1]); have e4 : ypnext f o = f.pc + (1 + immOf o).toNat := (by unfold ypnext; rw [if_neg hj14]); rw [e1, e2, e3, e4]; have hkk : KeepO (@Om.p O2) w11 w9 := hk2.mono (fun b hb => hg2.up b (hsub b hb)); exact ⟨O2, Y2, x2, xs2, (xf.stack.1, xf.stack.2.1 - i, xf.stack.2.1 - i), (_, _, _), ⟨rfl, rfl, rfl, trivial⟩, YG.pre hE11 hg2, (Ext.keepO hE11 _).trans hk2 (fun _ _ e => e), hX2, (by rw [hs2]; exact hFp), @StR.keep O2 _ _ _ _ (StR.om hb11 hg2.le) hkk, @NN.keep O2 _ _ _ _ (NN.om hN11 hg2.le) hkk, fun h9 => h9.2.2 hef⟩
              · have hb36p := hb36.h; try simp only [al_ete, al_dfn, Bool.not_eq_true', Bool.not_eq_false', al_ne, Bool.not_not, al_nn] at hb36p
                exfalso; omega
          · have hb32p := hb32.h; try simp only [al_ete, al_dfn, Bool.not_eq_true', Bool.not_eq_false', al_ne, Bool.not_not, al_nn] at hb32p
            refine WO_guardF rfl rfl hb32.h ?_
            refine WO_guardF rfl rfl hb32.h ?_
            refine WO_p (PS_pickF rfl hb32.h rfl) ?_
            refine WO_p (PS_assign_bool rfl) ?_
            refine WO_nil ?_
            refine thn_normal ?_
            refine W_condF rfl rfl ?_
            refine W_seq ?_
            refine W_region rfl ?_
            refine WO_p (PS_move_int rfl) ?_
            refine WO_p (PS_geq rfl rfl) ?_
            refine WO_p (PS_move_bool rfl) ?_
            refine WO_if (t := 119) rfl (fun hb50 => ?_) (fun hb50 => ?_)
            · have hb50p := hb50.h; try simp only [al_ete, al_dfn, Bool.not_eq_true', Bool.not_eq_false', al_ne, Bool.not_not, al_nn] at hb50p
              exfalso; omega
            · have hb50p := hb50.h; try simp only [al_ete, al_dfn, Bool.not_eq_true', Bool.not_eq_false', al_ne, Bool.not_not, al_nn] at hb50p
              refine WO_guardF rfl rfl hb50.h ?_
              refine WO_guardF rfl rfl hb50.h ?_
              refine WO_p (PS_pickF rfl hb50.h rfl) ?_
              refine WO_p (PS_assign_bool rfl) ?_
              refine WO_nil ?_
              refine thn_normal ?_
              refine W_condF rfl rfl ?_
              refine W_seq ?_
              refine W_region rfl ?_
              refine WO_p (PS_move_int rfl) ?_
              refine WO_p (PS_eql rfl rfl) ?_
              refine WO_p (PS_assign_bool rfl) ?_
              refine WO_nil ?_
              refine thn_normal ?_
              refine W_if rfl (fun hb52 => ?_) (fun hb52 => ?_)
              · have hb52p := hb52.h; try simp only [al_ete, al_dfn, Bool.not_eq_true', Bool.not_eq_false', al_ne, Bool.not_not, al_nn] at hb52p
                have hg1 : ygives o = 1 := by omega
                have hnq : ¬ ypq f o := fun h9 => by rcases h9 with h9 | h9 | h9; exact hj14 h9; omega; omega
                refine W_region rfl ?_
                refine WO_p (PS_move_slice rfl) ?_
                refine WO_p (PS_move_ptr rfl) ?_
                refine WO_p (PS_move_ptr rfl) ?_
                refine WO_p (PS_move_int rfl) ?_
                refine WO_p (PS_move_slice rfl) ?_
                refine WO_call Hvac.call126 (by rfl) (Ret.mono (yValue_spec _ (OmB.ext hO (by repeat (first | assumption | exact Ext.refl _ | refine Ext.alloc ?_ _ | refine Ext.drew ?_ | refine Ext.setB ?_ (by first | omega | (simp only [size_alloc, size_setB, size_drew]; omega)) _ | exact Ext.trans (by assumption) (by assumption) | refine Ext.trans ?_ (by assumption)))) Y C x y xs rest f N (YX.ext hX (by repeat (first | assumption | exact Ext.refl _ | refine Ext.alloc ?_ _ | refine Ext.drew ?_ | refine Ext.setB ?_ (by first | omega | (simp only [size_alloc, size_setB, size_drew]; omega)) _ | exact Ext.trans (by assumption) (by assumption) | refine Ext.trans ?_ (by assumption)))) hB hN hYB hP hPr hgf hrl F hFp ks hK hhl _ ho (hvo (by omega) (by omega)) _ _ _ _ (StR.ext hl11 (by repeat (first | assumption | exact Ext.refl _ | refine Ext.alloc ?_ _ | refine Ext.drew ?_ | refine Ext.setB ?_ (by first | omega | (simp only [size_alloc, size_setB, size_drew]; omega)) _ | exact Ext.trans (by assumption) (by assumption) | refine Ext.trans ?_ (by assumption)))) (yargs_sz hP i) (by omega) (fun h9 => by rw [yargs_gd (by have h8 : ytakes 32 = 2 := (by decide); rw [h9, h8] at htkk; omega)]; exact hk32 h9) hpz) ?_)
                rintro _ w24 ⟨s24, x24, rfl, hT24, hfr24, hlg24, hN24⟩
                have hTa24 : SStep w w24 C x24 (yvst y f o (yargs f i)) := SStep.pre (by repeat (first | assumption | exact Ext.refl _ | refine Ext.alloc ?_ _ | refine Ext.drew ?_ | refine Ext.setB ?_ (by first | omega | (simp only [size_alloc, size_setB, size_drew]; omega)) _ | refine Ext.trans ?_ (by assumption))) hT24
                have hX24 := hX.sstep hTa24 hfr24 hlg24
                have hb24 := (StR.ext hb11 (by repeat (first | assumption | exact Ext.refl _ | refine Ext.alloc ?_ _ | refine Ext.drew ?_ | refine Ext.setB ?_ (by first | omega | (simp only [size_alloc, size_setB, size_drew]; omega)) _ | refine Ext.trans ?_ (by assumption)))).keep hT24.ko
                have hn24 := (NN.ext hN11 (by repeat (first | assumption | exact Ext.refl _ | refine Ext.alloc ?_ _ | refine Ext.drew ?_ | refine Ext.setB ?_ (by first | omega | (simp only [size_alloc, size_setB, size_drew]; omega)) _ | refine Ext.trans ?_ (by assumption)))).keep hT24.ko
                replace hO := hX24.omb
                obtain ⟨L24, hP24, hR24⟩ := hb24
                have hP24n := hP24.len
                refine WO_buildSliceV (.slice _ _ _) Hvac.runUnderlying119 Hvac.sizeOf92 Hvac.zeroValue92 rfl rfl (by decide) (by decide) ?_
                refine WO_appC s24 ap_YN (PL.ext hP24 (by repeat (first | assumption | exact Ext.refl _ | refine Ext.alloc ?_ _ | refine Ext.drew ?_ | refine Ext.setB ?_ (by first | omega | (simp only [size_alloc, size_setB, size_drew]; omega)) _ | exact Ext.trans (by assumption) (by assumption) | refine Ext.trans ?_ (by assumption)))) (by omega) rfl (Hb.mk (Hb.h (by repeat (first | assumption | exact Hb.newY _ _ | refine Hb.alloc ?_ | refine Hb.drew ?_ | refine Hb.ext (by assumption) ?_ | exact Hb.setSameL (by first | omega | (simp only [size_alloc, size_setB, size_drew]; omega)) | exact Hb.setSame (by assumption) | refine Hb.set (by first | omega | (simp only [size_alloc, size_setB, size_drew]; omega)) ?_ )))) rfl rfl ?_
                intro so25 w25 hBL25 hE25 hz25
                try simp only [size_alloc, size_setB, size_drew] at hz25
                have hE2425 : Ext w24 w25 := (by repeat (first | assumption | exact Ext.refl _ | refine Ext.alloc ?_ _ | refine Ext.drew ?_ | refine Ext.setB ?_ (by first | omega | (simp only [size_alloc, size_setB, size_drew]; omega)) _ | exact Ext.trans (by assumption) (by assumption) | refine Ext.trans ?_ (by assumption)))
                have hSt25a : StR w25 (slp so25, xf.stack.2.1 - i + 1, slc so25) (ypbase f i ++ [yval ks y f o (yargs f i)]) := by
                  refine StR.sn hBL25 (OmB.ext hO (by repeat (first | assumption | exact Ext.refl _ | refine Ext.alloc ?_ _ | refine Ext.drew ?_ | refine Ext.setB ?_ (by first | omega | (simp only [size_alloc, size_setB, size_drew]; omega)) _ | exact Ext.trans (by assumption) (by assumption) | refine Ext.trans ?_ (by assumption)))) ?_ (by rw [List.length_append, hP24n]; rfl)
                  exact (hR24.mono fun _ _ h => NN.ext h hE2425).snoc (NN.ext hN24 hE2425)
                refine WO_p (PS_assign_slice rfl) ?_
                refine WO_nil ?_
                refine inBlk_normal ?_
                refine thn_normal ?_
                have e1 : ypst y f o i = yvst y f o (yargs f i) := (by unfold ypst; rw [if_neg hnq, if_pos hg1]); have e2 : ypfr y f o i = f := (by unfold ypfr; rw [if_pos (Or.inr hg1)]); have e3 : ypkept ks y f o i = ypbase f i ++ [yval ks y f o (yargs f i)] := (by unfold ypkept; rw [if_neg hj14, if_neg (by omega), if_neg (by omega), if_pos hg1]); have e4 : ypnext f o = f.pc + (1 + immOf o).toNat := (by unfold ypnext; rw [if_neg hj14]); rw [e1, e2, e3, e4]; exact ⟨O, Y, x24, xs, (slp so25, xf.stack.2.1 - i + 1, slc so25), (_, _, _), ⟨rfl, rfl, rfl, trivial⟩, YG.refl w O Y, (KeepO.mono hTa24.keep (fun b e => e ▸ hX.yc)).extR (by repeat (first | assumption | exact Ext.refl _ | refine Ext.alloc ?_ _ | refine Ext.drew ?_ | refine Ext.setB ?_ (by first | omega | (simp only [size_alloc, size_setB, size_drew]; omega)) _ | refine Ext.trans ?_ (by assumption))), hX24.ext (by repeat (first | assumption | exact Ext.refl _ | refine Ext.alloc ?_ _ | refine Ext.drew ?_ | refine Ext.setB ?_ (by first | omega | (simp only [size_alloc, size_setB, size_drew]; omega)) _ | refine Ext.trans ?_ (by assumption))), (by rw [hfr24]; exact hFp), hSt25a, NN.ext hn24 (by repeat (first | assumption | exact Ext.refl _ | refine Ext.alloc ?_ _ | refine Ext.drew ?_ | refine Ext.setB ?_ (by first | omega | (simp only [size_alloc, size_setB, size_drew]; omega)) _ | refine Ext.trans ?_ (by assumption))), fun h9 => absurd hg1 h9.2.1⟩
              · have hb52p := hb52.h; try simp only [al_ete, al_dfn, Bool.not_eq_true', Bool.not_eq_false', al_ne, Bool.not_not, al_nn] at hb52p
                have hg1 : ygives o ≠ 1 := by omega
                have hnq : ¬ ypq f o := fun h9 => by rcases h9 with h9 | h9 | h9; exact hj14 h9; omega; omega
                refine W_seq ?_
                refine W_region rfl ?_
                refine WO_p (PS_move_ptr rfl) ?_
                refine WO_p (PS_move_ptr rfl) ?_
                refine WO_p (PS_move_int rfl) ?_
                refine WO_p (PS_move_slice rfl) ?_
                refine WO_call Hvac.call127 (by rfl) (Ret.mono (yEffect_spec _ (OmB.ext hO (by repeat (first | assumption | exact Ext.refl _ | refine Ext.alloc ?_ _ | refine Ext.drew ?_ | refine Ext.setB ?_ (by first | omega | (simp only [size_alloc, size_setB, size_drew]; omega)) _ | exact Ext.trans (by assumption) (by assumption) | refine Ext.trans ?_ (by assumption)))) Y C x y xs rest f N (YX.ext hX (by repeat (first | assumption | exact Ext.refl _ | refine Ext.alloc ?_ _ | refine Ext.drew ?_ | refine Ext.setB ?_ (by first | omega | (simp only [size_alloc, size_setB, size_drew]; omega)) _ | exact Ext.trans (by assumption) (by assumption) | refine Ext.trans ?_ (by assumption)))) hB hN hYB hP hPr hgf hrl F hFp hrz _ ho _ _ _ _ (StR.ext hl11 (by repeat (first | assumption | exact Ext.refl _ | refine Ext.alloc ?_ _ | refine Ext.drew ?_ | refine Ext.setB ?_ (by first | omega | (simp only [size_alloc, size_setB, size_drew]; omega)) _ | exact Ext.trans (by assumption) (by assumption) | refine Ext.trans ?_ (by assumption)))) (yargs_sz hP i) (by omega) (fun h9 => by rw [yargs_gd (by have h8 := ytakes_cp h9; omega)]; exact hcp h9) (fun h9 => by rw [yargs_gd (by have h8 : ytakes 60 = 4 := (by decide); rw [h9, h8] at htkk; omega)]; exact hcp2 h9) (fun h9 => ⟨by rw [yargs_gd (by have h8 := ytakes_log h9; omega)]; exact hlg h9, by have h8 := ytakes_log h9; rw [yargs_len]; omega, by have h8 := ytakes_log h9; rw [yargs_len]; omega⟩)) ?_)
                rintro _ w9 ⟨rfl, hok9, hno9⟩
                refine WO_p (PS_not rfl) ?_
                refine WO_nil ?_
                refine thn_normal ?_
                refine W_if rfl (fun hb57 => ?_) (fun hb57 => ?_)
                · have hb57p := hb57.h; try simp only [al_ete, al_dfn, Bool.not_eq_true', Bool.not_eq_false', al_ne, Bool.not_not, al_nn] at hb57p
                  have hef : ¬ (o = 85 → (ysstA y f).2.2 ≤ y.now.ref) := by simpa using hb57p
                  have hE9 := hno9 hef
                  refine W_seq ?_
                  obtain ⟨g, hg0⟩ : ∃ g, (rest ++ [f])[0]? = some g := ⟨_, List.getElem?_eq_getElem (by simp)⟩
                  have hz9 := hE9.1
                  refine W_region rfl ?_
                  refine WO_p (PS_move_ptr rfl) ?_
                  refine WO_call Hvac.call128 (by rfl) (Ret.mono (yFault_spec _ (OmB.ext hO (by repeat (first | assumption | exact Ext.refl _ | refine Ext.alloc ?_ _ | refine Ext.drew ?_ | refine Ext.setB ?_ (by first | omega | (simp only [size_alloc, size_setB, size_drew]; omega)) _ | exact Ext.trans (by assumption) (by assumption) | refine Ext.trans ?_ (by assumption)))) Y C x y xs (rest ++ [f]) g (YX.ext hX (by repeat (first | assumption | exact Ext.refl _ | refine Ext.alloc ?_ _ | refine Ext.drew ?_ | refine Ext.setB ?_ (by first | omega | (simp only [size_alloc, size_setB, size_drew]; omega)) _ | exact Ext.trans (by assumption) (by assumption) | refine Ext.trans ?_ (by assumption)))) hg0) ?_)
                  rintro _ w10 ⟨rfl, hY10⟩
                  refine WO_nil ?_
                  refine thn_normal ?_
                  refine W_ret ?_
                  refine inBlk_ret ?_
                  refine thn_ret ?_
                  first | refine bodyQ_ret0 Hvac.results51 ?_ | refine bodyQ_end0 Hvac.results51 ?_
                  have e9 : yplain ks y rest f o = (yfault y g.saved, []) := (by unfold yplain; rw [if_pos ⟨hnq, hg1, hef⟩, List.getD_eq_getElem?_getD, hg0]; rfl); rw [e9]; exact ⟨rfl, YRet.pre (Ext.keepO (by repeat (first | assumption | exact Ext.refl _ | refine Ext.alloc ?_ _ | refine Ext.drew ?_ | refine Ext.setB ?_ (by first | omega | (simp only [size_alloc, size_setB, size_drew]; omega)) _ | refine Ext.trans ?_ (by assumption))) _) hY10⟩
                · have hb57p := hb57.h; try simp only [al_ete, al_dfn, Bool.not_eq_true', Bool.not_eq_false', al_ne, Bool.not_not, al_nn] at hb57p
                  have hef : (o = 85 → (ysstA y f).2.2 ≤ y.now.ref) := by simpa using hb57p
                  refine W_skip ?_
                  refine inBlk_normal ?_
                  refine thn_normal ?_
                  obtain ⟨O2, Y2, x2, xs2, hg2, hk2, hX2, hs2⟩ := YRetF.pre (w := w11) (Ext.keepO (by repeat (first | assumption | exact Ext.refl _ | refine Ext.alloc ?_ _ | refine Ext.drew ?_ | refine Ext.setB ?_ (by first | omega | (simp only [size_alloc, size_setB, size_drew]; omega)) _ | refine Ext.trans ?_ (by assumption))) _) (hok9 hef); have e1 : ypst y f o i = (yeff y f o (yargs f i)).1 := (by unfold ypst; rw [if_neg hnq, if_neg hg1]); have e2 : ypfr y f o i = (yeff y f o (yargs f i)).2 := (by unfold ypfr; rw [if_neg (fun h9 => h9.elim hnq hg1)]); have e3 : ypkept ks y f o i = ypbase f i := (by unfold ypkept; rw [if_neg hj14, if_neg (fun h9 => hnq (Or.inr (Or.inl h9))), if_neg (fun h9 => hnq (Or.inr (Or.inr h9))), if_neg hg1]); have e4 : ypnext f o = f.pc + (1 + immOf o).toNat := (by unfold ypnext; rw [if_neg hj14]); rw [e1, e2, e3, e4]; have hkk : KeepO (@Om.p O2) w11 w9 := hk2.mono (fun b hb => hg2.up b (hsub b hb)); exact ⟨O2, Y2, x2, xs2, (xf.stack.1, xf.stack.2.1 - i, xf.stack.2.1 - i), (_, _, _), ⟨rfl, rfl, rfl, trivial⟩, YG.pre hE11 hg2, (Ext.keepO hE11 _).trans hk2 (fun _ _ e => e), hX2, (by rw [hs2]; exact hFp), @StR.keep O2 _ _ _ _ (StR.om hb11 hg2.le) hkk, @NN.keep O2 _ _ _ _ (NN.om hN11 hg2.le) hkk, fun h9 => h9.2.2 hef⟩
    · rintro ρ25 w25 ⟨O2, Y2, x2, xs2, s12, s11, hFr25, hg25, hK25, hX25, hFp25, hSt25, hN25, hnf⟩
      refine W_env _ hFr25 ?_
      refine W_seq ?_
      replace hO := hX25.omb
      obtain ⟨r25, xf25, hxf25, hF25, hMW25, hYF25, hlf25⟩ := hX25.top hFp25
      have hFo := hF25.om
      have hFb25 := hF25.blk
      have hFC25 := hF25.fc
      have hFl25 := hFb25.lt
      have hFsz25 := hFC25.size
      refine W_region rfl ?_
      refine WO_p (PS_move_ptr rfl) ?_
      refine WO_p (PS_move_slice rfl) ?_
      refine WO_p (PS_nilCheck rfl) ?_
      refine WO_p (PS_fieldAddr 8 Hvac.runUnderlying121 rfl Hvac.sizeOf119 rfl rfl) ?_
      refine WO_store1 Hvac.sizeOf119 rfl (v := (.slice _ _ _)) rfl (Hb.h (by repeat (first | assumption | exact Hb.newY _ _ | refine Hb.alloc ?_ | refine Hb.drew ?_ | refine Hb.ext (by assumption) ?_ | exact Hb.setSameL (by first | omega | (simp only [size_alloc, size_setB, size_drew]; omega)) | exact Hb.setSame (by assumption) | refine Hb.set (by first | omega | (simp only [size_alloc, size_setB, size_drew]; omega)) ?_ ))) rfl (by first | omega | assumption | rfl | decide | exact Nat.le_refl _ | (simp only [size_ic, Value.cells]; omega) | (simp [encWs]; done) | (simp; omega) | simp | exact encYA_sz (by assumption) | exact encYT_sz (by assumption) | exact encYM_sz (by assumption)) rfl ?_
      refine WO_nil ?_
      refine thn_normal ?_
      refine W_gen fun w26 hw26 => ?_
      have hS26 := FStep.put (f' := { ypfr y f o i with stack := ypkept ks y f o i }) hw26 hF25 (by repeat (first | assumption | exact Ext.refl _ | refine Ext.alloc ?_ _ | refine Ext.drew ?_ | refine Ext.setB ?_ (by first | omega | (simp only [size_alloc, size_setB, size_drew]; omega)) _ | refine Ext.trans ?_ (by assumption))) (hFC25.stack_ s12) (FrR.sStk (FrR.ext hF25.rel (by repeat (first | assumption | exact Ext.refl _ | refine Ext.alloc ?_ _ | refine Ext.drew ?_ | refine Ext.setB ?_ (by first | omega | (simp only [size_alloc, size_setB, size_drew]; omega)) _ | refine Ext.trans ?_ (by assumption)))) (StR.ext hSt25 (by repeat (first | assumption | exact Ext.refl _ | refine Ext.alloc ?_ _ | refine Ext.drew ?_ | refine Ext.setB ?_ (by first | omega | (simp only [size_alloc, size_setB, size_drew]; omega)) _ | refine Ext.trans ?_ (by assumption)))))
      have hF26 := hS26.m hFo
      have hKO26 := hS26.ko hFo
      replace hO := hO.keep hKO26
      have hFb26 := hF26.blk
      have hFC26 := hF26.fc
      have hFR26 := hF26.rel
      have hFl26 := hFb26.lt
      have hFsz26 := hFC26.size
      replace hN25 := hN25.keep hKO26
      clear hw26
      have hX26 := hX25.ftop (o := 0) hFp25 hxf25 hF25 hS26 rfl rfl
      refine W_region rfl ?_
      refine WO_p (PS_move_ptr rfl) ?_
      refine WO_p (PS_move_slice rfl) ?_
      refine WO_p (PS_nilCheck rfl) ?_
      refine WO_p (PS_fieldAddr 3 Hvac.runUnderlying121 rfl Hvac.sizeOf92 rfl rfl) ?_
      refine WO_store1 Hvac.sizeOf92 rfl (v := (.slice _ _ _)) rfl (Hb.h (by repeat (first | assumption | exact Hb.newY _ _ | refine Hb.alloc ?_ | refine Hb.drew ?_ | refine Hb.ext (by assumption) ?_ | exact Hb.setSameL (by first | omega | (simp only [size_alloc, size_setB, size_drew]; omega)) | exact Hb.setSame (by assumption) | refine Hb.set (by first | omega | (simp only [size_alloc, size_setB, size_drew]; omega)) ?_ ))) rfl (by first | omega | assumption | rfl | decide | exact Nat.le_refl _ | (simp only [size_ic, Value.cells]; omega) | (simp [encWs]; done) | (simp; omega) | simp | exact encYA_sz (by assumption) | exact encYT_sz (by assumption) | exact encYM_sz (by assumption)) rfl ?_
      refine WO_nil ?_
      first | refine bodyQ_ret0 Hvac.results51 ?_ | refine bodyQ_end0 Hvac.results51 ?_
      have e9 : yplain ks y rest f o = (ypst y f o i, rest ++ [{ ypfr y f o i with stack := ypkept ks y f o i, pc := ypnext f o }]) := (by unfold yplain; rw [if_neg hnf, htn]); rw [e9]; refine (fun (hS27 : FStep w26 _ F (rest.length * 60) _ { ypfr y f o i with stack := ypkept ks y f o i, pc := ypnext f o } _ _) => ⟨rfl, O2, Y2, x2, _, hg25, (hK25.trans (KeepO.mono hS26.keep (fun b e => e ▸ hYF)) (fun _ _ e => e)).trans (KeepO.mono hS27.keep (fun b e => e ▸ hYF)) (fun _ _ e => e), hX26.ftop (o := 0) hFp25 (List.getElem?_set_self (lt_of_getElem? hxf25)) hF26 hS27 rfl rfl⟩) (FStep.put rfl hF26 (by repeat (first | assumption | exact Ext.refl _ | refine Ext.alloc ?_ _ | refine Ext.drew ?_ | refine Ext.setB ?_ (by first | omega | (simp only [size_alloc, size_setB, size_drew]; omega)) _ | refine Ext.trans ?_ (by assumption))) (hFC26.pc_ s11) (FrR.sPc (FrR.ext hF26.rel (by repeat (first | assumption | exact Ext.refl _ | refine Ext.alloc ?_ _ | refine Ext.drew ?_ | refine Ext.setB ?_ (by first | omega | (simp only [size_alloc, size_setB, size_drew]; omega)) _ | refine Ext.trans ?_ (by assumption)))) (NN.ext hN25 (by repeat (first | assumption | exact Ext.refl _ | refine Ext.alloc ?_ _ | refine Ext.drew ?_ | refine Ext.setB ?_ (by first | omega | (simp only [size_alloc, size_setB, size_drew]; omega)) _ | refine Ext.trans ?_ (by assumption))))))

end Go.Proofs.YgvacwGreat
