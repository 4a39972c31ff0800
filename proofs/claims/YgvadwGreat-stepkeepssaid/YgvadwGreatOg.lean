import Derived.Test.YgvadwGreatOf
namespace Go.Proofs.YgvadwGreat
set_option linter.unusedSimpArgs false
set_option linter.unusedVariables false
/-! rows of hashes -/
def encH (L : List Int) : List Value := L.map (Value.int .u8)
theorem app_topics {w : World} {s : Option (Nat × Nat)} {l : List (List Int)} {x : List Int} {b1 : Nat} (hrow : Row encH 32 28 w s l) (hx : (encH x).length = 32) (hsrc : Hb w b1 (.cells (encH x).toArray 28 (0, 0))) (hl : l.length ≤ 2800) :
    ∃ s' w', (Builtin.append_ #[29, 29] 29 #[slv s l.length, .slice (some ⟨b1, 0, none⟩) 1 1]).run Hvad.prog w = .ok (slv s' (l.length + 1)) w' ∧ Row encH 32 28 w' s' (l ++ [x]) ∧ KeepO (blkOf s) w w' ∧ (∀ b, blkOf s' b → blkOf s b ∨ w.heap.size ≤ b) :=
  run_append_row (bytes := Hvad.t28.bytes) Hvad.underlying29 info28 rfl rfl rfl rfl hrow hx (one_map _ _) hsrc (Nat.le_trans (Nat.mul_le_mul (show l.length + 1 ≤ 70000 by omega) (show Hvad.t28.bytes ≤ 200 by decide)) (by decide)) (by omega)
theorem flat_len {l : List (List Int)} (h : ∀ x ∈ l, x.length = 32) : l.flatten.length = l.length * 32 := by
  induction l with
  | nil => rfl
  | cons x l ih => simp only [List.flatten_cons, List.length_append, List.length_cons, h x (by simp), ih (fun y hy => h y (by simp [hy]))]; omega
theorem flat_get {l : List (List Int)} (h : ∀ x ∈ l, x.length = 32) : ∀ (i k : Nat) (x : List Int), l[i]? = some x → k < 32 → l.flatten[i * 32 + k]? = x[k]? := by
  induction l with
  | nil => intro i k x hx; simp at hx
  | cons y l ih =>
    intro i k x hx hk
    have hy := h y (by simp)
    rw [List.flatten_cons]
    cases i with
    | zero =>
      simp at hx; subst hx
      rw [List.getElem?_append_left (by omega)]; simp
    | succ i =>
      rw [List.getElem?_append_right (by omega), show (i + 1) * 32 + k - y.length = i * 32 + k by omega]
      exact ih (fun z hz => h z (by simp [hz])) i k x (by simpa using hx) hk
theorem row_sc {w : World} {s : Option (Nat × Nat)} {l : List (List Int)} (h : Row encH 32 28 w s l) (hl : ∀ x ∈ l, x.length = 32) : SC w .u8 32 (slp s, l.length, slc s) l.flatten := by
  refine ⟨flat_len hl, ?_⟩
  cases s with
  | none => have : l = [] := h; subst this; exact Or.inl ⟨rfl, rfl⟩
  | some p =>
    obtain ⟨b, cap⟩ := p
    obtain ⟨h1, r, h2, h3, h4⟩ := h
    refine Or.inr ⟨b, 0, r, 28, (0, 0), rfl, h2, by show 0 + l.length * 32 ≤ _; have := h4.1; omega, ⟨?_⟩⟩
    have h5 := h4.1
    refine Array.ext_getElem? fun j => ?_
    show (r.extract 0 (0 + l.length * 32))[j]? = _
    rw [Array.getElem?_extract, ic_get]
    by_cases hj : j < l.length * 32
    · rw [if_pos (by omega)]
      have hi : j / 32 < l.length := by omega
      have hx : l[j / 32]? = some l[j / 32] := List.getElem?_eq_getElem hi
      have e := h4.2 (j / 32) _ hx (j % 32) (by omega)
      rw [show 0 + j / 32 * 32 + j % 32 = 0 + j by omega] at e
      have g := flat_get hl (j / 32) (j % 32) _ hx (by omega)
      rw [show j / 32 * 32 + j % 32 = j by omega] at g
      rw [e, g]; simp [encH]
    · rw [if_neg (by omega), List.getElem?_eq_none (by rw [flat_len hl]; omega)]; rfl
theorem Ext.keepB {w w1 w2 : World} {O : Nat → Prop} (he : Ext w w1) (hk : KeepO O w1 w2) (hO : ∀ b, O b → w.heap.size ≤ b) : Ext w w2 :=
  ⟨Nat.le_trans he.1 hk.sz, fun x hx => (hk.old x (Nat.lt_of_lt_of_le hx he.1) (fun h => by have := hO x h; omega)).trans (he.2 x hx), hk.en.1.trans he.3.1, hk.en.2.1.trans he.3.2.1, hk.en.2.2.trans he.3.2.2⟩
theorem NewB.low {w w' : World} {s : SV} {L : List Int} (h : NewB w w' s L) : ∀ b o, s.1 = some ⟨b, o, none⟩ → w.heap.size ≤ b := by
  intro b o e
  rcases h with ⟨_, rfl⟩ | ⟨_, b', rfl, hb, _⟩
  · cases e
  · injection e with e; injection e with e; subst e; exact hb

set_option maxRecDepth 10000 in
set_option maxHeartbeats 4000000 in
theorem opLog_spec (scan : List Int → List Int) (C : Nat) (c : Array Value) (v : V) (B : VB) (m : Mc) (t : Nat) (f : Fm) (o c' S : Int) (w : World) (hM : MS w C c v B m) (hop : Mc.opc f = o) (hAd : Adm scan v m t f o (infoW o).2.2.1 c' S) (hk : (infoW o).1 ≤ f.sp ∧ f.sp - (infoW o).1 + (infoW o).2.1 ≤ 64) (hc : 0 < c') (ho : 160 ≤ o ∧ o ≤ 164) : Ret Hvad.prog 216 #[.pointer (some ⟨C, 0, none⟩)] w fun _ w' => ∃ v' m', MRet w C B m w' v' m' ∧ OpP scan m t c' S v' m' := by
  have hI := hAd.ri
  have hf := hAd.fr
  have hR := hI.run hf
  have hA := hR.fa
  have hblk := hM.vs.blk
  have hCl := hblk.lt
  have hcs := hM.sz
  have hc_s := hM.rep.s
  obtain ⟨ht7, hfty, hF⟩ := hM.openF hf
  have hFk := hI.fr t f (Nat.le_refl _) hf
  have hvi := hI.ti.vi
  have hcbl := (hM.code f (List.mem_of_getElem? hf)).1.len
  have hcb5 := hFk.cl
  have hcl : f.code.2.1 ≤ 100000 := by omega
  have hpct := hfty.pc
  have hspt := hfty.sp
  have hwdA := fun i => argW_wd hM.ty f i
  have hpcl : f.pc < (f.cb.length : Int) := opc_pc (by rw [hop]; omega)
  have e : infoW o = (o - 160 + 2, 0, 375 * (o - 160 + 1), true) := by rcases (show o = 160 ∨ o = 161 ∨ o = 162 ∨ o = 163 ∨ o = 164 by omega) with h | h | h | h | h <;> (rw [h]; rfl)
  have hin := hk
  rw [e] at hin
  replace hin : o - 160 + 2 ≤ f.sp ∧ f.sp - (o - 160 + 2) + 0 ≤ 64 := hin
  have hcs0 := hAd.cs
  rw [e] at hcs0
  replace hcs0 : 375 * (o - 160 + 1) ≤ c' := hcs0
  have hl0 := (hwdA 0).1
  have hl1 := (hwdA 1).1
  obtain ⟨lo, n, hlo, hhi, hszn, hlon, hn32⟩ := hI.mem hM.ty (i := t) (Nat.le_refl _)
  have hbl0 := hI.ti.bl
  have hT : MemT m t lo n := ⟨hI.mtY, by omega, hlo, hhi, hlon, by omega⟩
  have hfl : isFlat o = false := by rcases (show o = 160 ∨ o = 161 ∨ o = 162 ∨ o = 163 ∨ o = 164 by omega) with h | h | h | h | h <;> (rw [h]; rfl)
  have hre := hAd.re hfl
  have hre0 : reachesW m f o = reachW (m.argW f 0) (m.argW f 1) := by unfold reachesW; rw [if_pos (by omega)]
  rw [hre0] at hre
  have hft := reach_fit (hwdA 1) hre.1
  have hre2 := hre.2
  have hrd : wv (m.argW f 1) = 0 ∨ wv (m.argW f 0) + wv (m.argW f 1) ≤ n := by rcases hft with h | h; exact Or.inl h; exact Or.inr (by omega)
  have hx7 : wv (m.argW f 1) ≤ 717280 := by rcases hft with h | h <;> omega
  have hroom := hI.room hM.ty
  have hf_self := hF.self
  have hby := hfty.self
  have hbyl := hby.1
  
  refine Ret_of_W Hvad.func216 rfl rfl ?_
  refine W_seq ?_
  refine W_region rfl ?_
  refine WO_p (PS_move_ptr rfl) ?_
  refine WO_call Hvad.call91 (by rfl) (Ret.mono (running_spec C c v B m t f _ (MS.ext hM (by repeat (first | assumption | exact Ext.refl _ | refine Ext.alloc ?_ _ | refine Ext.drew ?_ | refine Ext.setB ?_ (by first | omega | (simp only [size_alloc, size_setB, size_drew]; omega)) _ | exact Ext.trans (by assumption) (by assumption) | refine Ext.trans ?_ (by assumption)))) hR) ?_)
  rintro _ w91_0 ⟨hE91_0, rfl⟩
  have hz91_0 := hE91_0.1
  try simp only [size_alloc, size_setB, size_drew] at hz91_0
  refine WO_p (PS_assign_ptr rfl) ?_
  refine WO_nil ?_
  refine thn_normal ?_
  refine W_seq ?_
  refine W_seq ?_
  refine W_region rfl ?_
  refine WO_p (PS_move_ptr rfl) ?_
  refine WO_p (PS_eqlnil Hvad.underlying182 rfl) ?_
  refine WO_nil ?_
  refine thn_normal ?_
  refine W_if rfl (fun hb3 => ?_) (fun hb3 => ?_)
  · have hb3p := hb3.h; try simp only [al_ete, al_dfn, Bool.not_eq_true', Bool.not_eq_false', al_ne, Bool.not_not, al_nn] at hb3p
    simp at hb3p --END
  · have hb3p := hb3.h; try simp only [al_ete, al_dfn, Bool.not_eq_true', Bool.not_eq_false', al_ne, Bool.not_not, al_nn] at hb3p
    refine W_skip ?_
    refine thn_normal ?_
    refine W_seq ?_
    refine W_region rfl ?_
    refine WO_p (PS_move_ptr rfl) ?_
    refine WO_call Hvad.call49 (by rfl) (Ret.mono (opcode_spec C c v B m t f _ (MS.ext hM (by repeat (first | assumption | exact Ext.refl _ | refine Ext.alloc ?_ _ | refine Ext.drew ?_ | refine Ext.setB ?_ (by first | omega | (simp only [size_alloc, size_setB, size_drew]; omega)) _ | exact Ext.trans (by assumption) (by assumption) | refine Ext.trans ?_ (by assumption)))) hR hcl) ?_)
    rintro _ w49_3 ⟨hE49_3, rfl⟩
    have hz49_3 := hE49_3.1
    try simp only [size_alloc, size_setB, size_drew] at hz49_3
    try rw [hop]
    refine WO_p (PS_sub_u8n rfl rfl (by omega) (by omega)) ?_
    refine WO_p (PS_conv_i64n Hvad.runUnderlying5 Hvad.runUnderlying3 rfl (by omega) (by omega)) ?_
    refine WO_p (PS_assign_int rfl) ?_
    refine WO_nil ?_
    refine thn_normal ?_
    refine W_seq ?_
    refine W_region rfl ?_
    refine WO_p (PS_move_ptr rfl) ?_
    refine WO_p (PS_move_ptr rfl) ?_
    refine WO_p (PS_move_ptr rfl) ?_
    refine WO_call Hvad.call160 (by rfl) (Ret.mono (arg_spec C c v B m t f _ _ (MS.ext hM (by repeat (first | assumption | exact Ext.refl _ | refine Ext.alloc ?_ _ | refine Ext.drew ?_ | refine Ext.setB ?_ (by first | omega | (simp only [size_alloc, size_setB, size_drew]; omega)) _ | exact Ext.trans (by assumption) (by assumption) | refine Ext.trans ?_ (by assumption)))) hA (by omega)) ?_)
    rintro _ w160_4 ⟨hE160_4, rfl⟩
    have hz160_4 := hE160_4.1
    try simp only [size_alloc, size_setB, size_drew] at hz160_4
    refine WO_p (PS_move_ptr rfl) ?_
    refine WO_p (PS_move_ptr rfl) ?_
    refine WO_call Hvad.call160 (by rfl) (Ret.mono (arg_spec C c v B m t f _ _ (MS.ext hM (by repeat (first | assumption | exact Ext.refl _ | refine Ext.alloc ?_ _ | refine Ext.drew ?_ | refine Ext.setB ?_ (by first | omega | (simp only [size_alloc, size_setB, size_drew]; omega)) _ | exact Ext.trans (by assumption) (by assumption) | refine Ext.trans ?_ (by assumption)))) hA (by omega)) ?_)
    rintro _ w160_5 ⟨hE160_5, rfl⟩
    have hz160_5 := hE160_5.1
    try simp only [size_alloc, size_setB, size_drew] at hz160_5
    refine WO_call Hvad.call188 (by rfl) (Ret.mono (read_spec C c v B m t lo n _ _ _ (MS.ext hM (by repeat (first | assumption | exact Ext.refl _ | refine Ext.alloc ?_ _ | refine Ext.drew ?_ | refine Ext.setB ?_ (by first | omega | (simp only [size_alloc, size_setB, size_drew]; omega)) _ | exact Ext.trans (by assumption) (by assumption) | refine Ext.trans ?_ (by assumption)))) hT (hwdA _) (hwdA _) hrd) ?_)
    rintro _ w188_6 ⟨hE188_6, s5, L5, rfl, hN5, hL5, hB5⟩
    have hz188_6 := hE188_6.1
    try simp only [size_alloc, size_setB, size_drew] at hz188_6
    have hsc5 := hN5.sc
    have hcap5 := hN5.cap
    have hlen5 := hN5.len
    have hbs5 : BS _ (bb m) s5 := hN5.bs (fun b hb => bb_lt (MS.ext hM (by repeat (first | assumption | exact Ext.refl _ | refine Ext.alloc ?_ _ | refine Ext.drew ?_ | refine Ext.setB ?_ (by first | omega | (simp only [size_alloc, size_setB, size_drew]; omega)) _ | exact Ext.trans (by assumption) (by assumption) | refine Ext.trans ?_ (by assumption)))) b hb) hB5
    have hbx5 : BX _ none s5 L5 := hN5.bx (fun b hb => by cases hb) hB5
    have hlow5 := hN5.low
    refine WO_p (PS_move_tuple rfl) ?_
    refine WO_p (PS_extract_slice rfl rfl) ?_
    refine WO_p (PS_extract_bool rfl rfl) ?_
    refine WO_p (PS_assign_slice rfl) ?_
    refine WO_p (PS_assign_bool rfl) ?_
    refine WO_nil ?_
    refine thn_normal ?_
    refine W_seq ?_
    have hsz4 : (Value.agg (encL ⟨f.self, (none, 0, 0), (s5.1, s5.2.1, s5.2.2)⟩).toArray).cells.size = 22 := by show (encL _).toArray.size = 22; simp [encL, hbyl]
    have ho4 : ∀ u ∈ (Value.agg (encL ⟨f.self, (none, 0, 0), (s5.1, s5.2.1, s5.2.2)⟩).toArray).cells.toList, u.oneCell' = true := one_encL _
    refine W_region rfl ?_
    refine WO_p (PS_move_ptr rfl) ?_
    refine WO_p (PS_nilCheck rfl) ?_
    refine WO_p (PS_fieldAddr 9 Hvad.runUnderlying65 rfl Hvad.sizeOf25 rfl rfl) ?_
    refine WO_loadA _ Hvad.isAgg25 Hvad.sizeOf25 rfl (Hb.h (by repeat (first | assumption | exact Hb.newY _ _ | refine Hb.alloc ?_ | refine Hb.drew ?_ | refine Hb.ext (by assumption) ?_ | exact Hb.setSameL (by first | omega | (simp only [size_alloc, size_setB, size_drew]; omega)) | exact Hb.setSame (by assumption) | refine Hb.set (by first | omega | (simp only [size_alloc, size_setB, size_drew]; omega)) ?_ ))) (by first | omega | assumption | rfl | decide | exact Nat.le_refl _ | (simp only [size_ic, Value.cells]; omega) | simp) (Xt.h (by first | assumption | exact Xt.whole rfl rfl | exact Xt.whole rfl (by simp only [size_ic, Value.cells]; omega) | exact ⟨rfl⟩)) ?_
    refine WO_p (PS_move_slice rfl) ?_
    refine WO_p (PS_b307_02 rfl hbyl rfl) ?_
    refine WO_allocG Hvad.zeroValue307 ?_
    intro b6 v6 hg6 hE6 hH6 hl6
    try simp only [size_alloc, size_setB, size_drew] at hg6
    have hzz6 := hE6.1
    try simp only [size_alloc, size_setB, size_drew] at hzz6
    first | refine WO_storeW Hvad.sizeOf307 rfl (v := .agg _) rfl (Hb.h (by repeat (first | assumption | exact Hb.newY _ _ | refine Hb.alloc ?_ | refine Hb.drew ?_ | refine Hb.ext (by assumption) ?_ | exact Hb.setSameL (by first | omega | (simp only [size_alloc, size_setB, size_drew]; omega)) | exact Hb.setSame (by assumption) | refine Hb.set (by first | omega | (simp only [size_alloc, size_setB, size_drew]; omega)) ?_ ))) rfl (by first | omega | assumption | rfl | decide | exact Nat.le_refl _ | (simp only [size_ic, Value.cells]; omega) | simp) (by first | omega | assumption | rfl | decide | exact Nat.le_refl _ | (simp only [size_ic, Value.cells]; omega) | simp) (by first | exact oneCell_ic | assumption) ?_ | refine WO_store Hvad.sizeOf307 rfl (v := .agg _) rfl (Hb.h (by repeat (first | assumption | exact Hb.newY _ _ | refine Hb.alloc ?_ | refine Hb.drew ?_ | refine Hb.ext (by assumption) ?_ | exact Hb.setSameL (by first | omega | (simp only [size_alloc, size_setB, size_drew]; omega)) | exact Hb.setSame (by assumption) | refine Hb.set (by first | omega | (simp only [size_alloc, size_setB, size_drew]; omega)) ?_ ))) (by first | omega | assumption | rfl | decide | exact Nat.le_refl _ | (simp only [size_ic, Value.cells]; omega) | simp) (by first | omega | assumption | rfl | decide | exact Nat.le_refl _ | (simp only [size_ic, Value.cells]; omega) | simp) (by first | exact oneCell_ic | assumption) ?_
    refine WO_nil ?_
    refine thn_normal ?_
    refine W_seq ?_
    refine W_seq ?_
    refine W_region rfl ?_
    refine WO_p (PS_assign_int rfl) ?_
    refine WO_nil ?_
    refine thn_normal ?_
    refine W_block ?_
    refine W_loopN (fun k ρ w' => ∃ (i : Nat) (s : Option (Nat × Nat)) (l : List (List Int)), k + i = (o - 160).toNat ∧ l.length = i ∧ (∀ x ∈ l, x.length = 32) ∧ Row encH 32 28 w' s l ∧ (∀ b, blkOf s b → w.heap.size ≤ b) ∧ Fr [(0, .pointer (some ⟨C, 0, none⟩)), (2, .pointer (some ⟨C, 1803 + t * 65, none⟩)), (3, .int .i64 (o - 160)), (5, .bool true), (6, .pointer (some ⟨b6, 0, none⟩)), (7, .int .i64 i)] ρ ∧ Ext w w' ∧ v6.heap.size ≤ w'.heap.size ∧ Hb w' b6 (.cells (encL ⟨f.self, (slp s, i, slc s), s5⟩).toArray 307 (0, 0)) ∧ BX w' none s5 L5) (o - 160).toNat ?_ ?_
    · exact ⟨0, none, [], by omega, rfl, (fun x hx => by cases hx), rfl, (fun b hb => by obtain ⟨_, h⟩ := hb; cases h), ⟨rfl, rfl, rfl, rfl, rfl, rfl, trivial⟩, (by repeat (first | assumption | exact Ext.refl _ | refine Ext.alloc ?_ _ | refine Ext.drew ?_ | refine Ext.setB ?_ (by first | omega | (simp only [size_alloc, size_setB, size_drew]; omega)) _ | refine Ext.trans ?_ (by assumption))), by first | omega | (simp only [size_setB]; omega), Hb.mk (Hb.h (by repeat (first | assumption | exact Hb.newY _ _ | refine Hb.alloc ?_ | refine Hb.drew ?_ | refine Hb.ext (by assumption) ?_ | exact Hb.setSameL (by first | omega | (simp only [size_alloc, size_setB, size_drew]; omega)) | exact Hb.setSame (by assumption) | refine Hb.set (by first | omega | (simp only [size_alloc, size_setB, size_drew]; omega)) ?_ ))), BX.ext hbx5 (by repeat (first | assumption | exact Ext.refl _ | refine Ext.alloc ?_ _ | refine Ext.drew ?_ | refine Ext.setB ?_ (by first | omega | (simp only [size_alloc, size_setB, size_drew]; omega)) _ | refine Ext.trans ?_ (by assumption)))⟩
    intro k ρ w2 hI2
    obtain ⟨i, s, l, hki, hli, hl32, hrow, hlow, hFr, hE2, hz62, hb62, hbx2⟩ := hI2
    refine W_env _ hFr ?_
    have hz2 := hE2.1
    refine W_seq ?_
    refine W_seq ?_
    refine W_region rfl ?_
    refine WO_p (PS_move_int rfl) ?_
    refine WO_p (PS_move_int rfl) ?_
    refine WO_p (PS_lss rfl rfl) ?_
    refine WO_nil ?_
    refine thn_normal ?_
    refine W_if rfl (fun hb10 => ?_) (fun hb10 => ?_)
    · have hb10p := hb10.h; try simp only [al_ete, al_dfn, Bool.not_eq_true', Bool.not_eq_false', al_ne, Bool.not_not, al_nn] at hb10p
      have hce39 : Ce (encL ⟨f.self, (slp s, i, slc s), s5⟩).toArray (0 + 20) (.slice (slp s) i (slc s)) := ⟨by simp [encL, hbyl, sv, List.getElem?_append]⟩
      have hb32l := (be32_by (m.argW f (2 + (i : Int)))).1
      refine W_skip ?_
      refine thn_normal ?_
      refine W_seq ?_
      refine W_block ?_
      refine W_drawE [false, false, false, false, false, false, true, true, true, false, false, false] hmix (by kernel_rfl) rfl ?_
      refine WH_p (PS_fieldAddr 20 Hvad.runUnderlying307 rfl Hvad.sizeOf29 rfl rfl) rfl ?_
      refine WH_load (.slice _ _ _) Hvad.isAgg29 rfl (Hb.h (by repeat (first | assumption | exact Hb.newY _ _ | refine Hb.alloc ?_ | refine Hb.drew ?_ | refine Hb.ext (by assumption) ?_ | exact Hb.setSameL (by first | omega | (simp only [size_alloc, size_setB, size_drew]; omega)) | exact Hb.setSame (by assumption) | refine Hb.set (by first | omega | (simp only [size_alloc, size_setB, size_drew]; omega)) ?_ ))) (Ce.h (by first | assumption | exact ⟨rfl⟩)) ?_
      refine WH_p (PS_move_ptr rfl) rfl ?_
      refine WH_p (PS_move_ptr rfl) rfl ?_
      refine WH_p (PS_move_int rfl) rfl ?_
      refine WH_p (PS_add_i64n rfl rfl (by omega) (by omega)) rfl ?_
      refine WH_call Hvad.call160 (by rfl) (Ret.mono (arg_spec C c v B m t f _ _ (MS.ext hM (by repeat (first | assumption | exact Ext.refl _ | refine Ext.alloc ?_ _ | refine Ext.drew ?_ | refine Ext.setB ?_ (by first | omega | (simp only [size_alloc, size_setB, size_drew]; omega)) _ | exact Ext.trans (by assumption) (by assumption) | refine Ext.trans ?_ (by assumption)))) hA (by omega)) ?_)
      rintro _ w160_10 ⟨hE160_10, rfl⟩
      refine ⟨fun _ => (by repeat (first | assumption | exact Ext.refl _ | refine Ext.alloc ?_ _ | refine Ext.drew ?_ | refine Ext.setB ?_ (by first | omega | (simp only [size_alloc, size_setB, size_drew]; omega)) _ | exact Ext.trans (by assumption) (by assumption) | refine Ext.trans ?_ (by assumption))), ?_⟩
      have hz160_10 := hE160_10.1
      try simp only [size_alloc, size_setB, size_drew] at hz160_10
      refine WH_call Hvad.call199 (by rfl) (Ret.mono (be32_spec _ _ (hwdA _)) ?_)
      rintro _ w19 ⟨hE199_11, rfl⟩
      refine ⟨fun _ => (by repeat (first | assumption | exact Ext.refl _ | refine Ext.alloc ?_ _ | refine Ext.drew ?_ | refine Ext.setB ?_ (by first | omega | (simp only [size_alloc, size_setB, size_drew]; omega)) _ | exact Ext.trans (by assumption) (by assumption) | refine Ext.trans ?_ (by assumption))), ?_⟩
      have hz199_11 := hE199_11.1
      try simp only [size_alloc, size_setB, size_drew] at hz199_11
      refine WH_buildSlice1 Hvad.runUnderlying29 Hvad.sizeOf28 Hvad.zeroValue28 rfl (by first | omega | assumption | rfl | decide | exact Nat.le_refl _ | (simp only [size_ic, Value.cells]; omega) | simp) (by decide) (by decide) (fun _ => (by repeat (first | assumption | exact Ext.refl _ | refine Ext.alloc ?_ _ | refine Ext.drew ?_ | refine Ext.setB ?_ (by first | omega | (simp only [size_alloc, size_setB, size_drew]; omega)) _ | exact Ext.trans (by assumption) (by assumption) | refine Ext.trans ?_ (by assumption)))) ?_
      have hrow3 : Row encH 32 28 (w19.alloc (.cells (ic .u8 (be32 (m.argW f (2 + (i : Int))))) 28 (0, 0))) s l := hrow.kt (KT.ext (by repeat (first | assumption | exact Ext.refl _ | refine Ext.alloc ?_ _ | refine Ext.drew ?_ | refine Ext.setB ?_ (by first | omega | (simp only [size_alloc, size_setB, size_drew]; omega)) _ | exact Ext.trans (by assumption) (by assumption) | refine Ext.trans ?_ (by assumption))))
      obtain ⟨s4, w4, hrun4, hrow4, hkeep4, hnew4⟩ := app_topics (w := w19.alloc (.cells (ic .u8 (be32 (m.argW f (2 + (i : Int))))) 28 (0, 0))) (x := be32 (m.argW f (2 + (i : Int)))) (b1 := w19.heap.size) hrow3 rfl (Hb.newY _ _) (by omega)
      rw [hli] at hrun4
      have hz4 := hkeep4.sz
      simp only [size_alloc] at hz4
      have hty4 : ∀ b, blkOf s b → ∃ r fz, Hb (w19.alloc (.cells (ic .u8 (be32 (m.argW f (2 + (i : Int))))) 28 (0, 0))) b (.cells r 28 fz) := fun b hb => by obtain ⟨r, hr⟩ := hrow3.ty_of hb; exact ⟨r, _, hr⟩
      have hb64 : Hb w4 b6 (.cells (encL ⟨f.self, (slp s, i, slc s), s5⟩).toArray 307 (0, 0)) := KT.keepO hkeep4 hty4 (by decide) _ _ _ (Hb.mk (Hb.h (by repeat (first | assumption | exact Hb.newY _ _ | refine Hb.alloc ?_ | refine Hb.drew ?_ | refine Hb.ext (by assumption) ?_ | exact Hb.setSameL (by first | omega | (simp only [size_alloc, size_setB, size_drew]; omega)) | exact Hb.setSame (by assumption) | refine Hb.set (by first | omega | (simp only [size_alloc, size_setB, size_drew]; omega)) ?_ ))))
      have hbx4 : BX w4 none s5 L5 := (hbx2.ext (by repeat (first | assumption | exact Ext.refl _ | refine Ext.alloc ?_ _ | refine Ext.drew ?_ | refine Ext.setB ?_ (by first | omega | (simp only [size_alloc, size_setB, size_drew]; omega)) _ | exact Ext.trans (by assumption) (by assumption) | refine Ext.trans ?_ (by assumption)))).kt (KT.keepO hkeep4 hty4 (by decide))
      have hE4 : Ext w w4 := Ext.keepB (w1 := w19.alloc (.cells (ic .u8 (be32 (m.argW f (2 + (i : Int))))) 28 (0, 0))) (by repeat (first | assumption | exact Ext.refl _ | refine Ext.alloc ?_ _ | refine Ext.drew ?_ | refine Ext.setB ?_ (by first | omega | (simp only [size_alloc, size_setB, size_drew]; omega)) _ | exact Ext.trans (by assumption) (by assumption) | refine Ext.trans ?_ (by assumption))) hkeep4 hlow
      refine WH_append rfl rfl hrun4 (fun h => by cases h) ?_
      refine WH_p (PS_fieldAddr 20 Hvad.runUnderlying307 rfl Hvad.sizeOf29 rfl rfl) rfl ?_
      refine WH_store1 Hvad.sizeOf29 rfl (v := .slice _ _ _) rfl hb64.h rfl (by show 0 + 20 < (encL _).toArray.size; simp [encL, hbyl]) rfl (fun h => by cases h) ?_
      have he4 := encL_topics hbyl (slp s, i, slc s) (slp s4, i + 1, slc s4) s5
      dsimp only at he4
      rw [he4]
      refine WH_nil ?_
      refine inBlk_normal ?_
      refine thn_normal ?_
      refine W_region rfl ?_
      refine WO_p (PS_move_int rfl) ?_
      refine WO_p (PS_add_i64n rfl rfl (by omega) (by omega)) ?_
      refine WO_p (PS_assign_int rfl) ?_
      refine WO_nil ?_
      refine thn_normal ?_
      exact ⟨k - 1, by omega, i + 1, s4, l ++ [be32 (m.argW f (2 + (i : Int)))], by omega, by simp [hli], (fun x hx => by rcases List.mem_append.1 hx with hx | hx; exact hl32 x hx; rw [List.mem_singleton.1 hx]; exact hb32l), hrow4.kt (KT.setB hb64 (by decide)), (fun b hb => by rcases hnew4 b hb with h | h; exact hlow b h; simp only [size_alloc] at h; omega), ⟨rfl, rfl, rfl, rfl, rfl, congrArg (Value.int .i64) (by omega), trivial⟩, Ext.setB hE4 (by omega) _, (by simp only [size_setB]; omega), Hb.setSame hb64, hbx4.kt (KT.setB hb64 (by decide))⟩
    · have hb10p := hb10.h; try simp only [al_ete, al_dfn, Bool.not_eq_true', Bool.not_eq_false', al_ne, Bool.not_not, al_nn] at hb10p
      refine W_exit ?_
      refine thn_exit ?_
      refine thn_exit ?_
      refine inBlk_exit ?_
      refine thn_normal ?_
      refine W_seq ?_
      refine W_seq ?_
      have hscT := row_sc hrow hl32
      rw [hli] at hscT
      have hen := encL_len ⟨f.self, (slp s, i, slc s), s5⟩ hbyl
      have hsz22 : (encL ⟨f.self, (slp s, i, slc s), s5⟩).toArray.size = 22 := by simpa using hen
      have hxtL : Xt (encL ⟨f.self, (slp s, i, slc s), s5⟩).toArray 0 (0 + 22) (encL ⟨f.self, (slp s, i, slc s), s5⟩).toArray := Xt.whole rfl (by simpa using hen)
      have hotT : ∀ b o, (slp s, i, slc s).1 = some ⟨b, o, none⟩ → ¬ VOwn C B b := by
        intro b o he ho
        have h1 := hM.vs.own_lt ho
        have h2 : blkOf s b := by cases s with | none => cases he | some p => obtain ⟨b', cap⟩ := p; replace he : some (⟨b', 0, none⟩ : Addr) = some ⟨b, o, none⟩ := he; injection he with he; injection he with he; subst he; exact ⟨cap, rfl⟩
        have := hlow b h2
        omega
      have hodT : ∀ b o, s5.1 = some ⟨b, o, none⟩ → ¬ VOwn C B b := by
        intro b o he ho
        have h1 := hM.vs.own_lt ho
        have := hlow5 b o he
        omega
      refine W_drawE [false, false, false, false, false, false, false, false, false, false, false] hmix (by kernel_rfl) rfl ?_
      refine WH_p (PS_move_bool rfl) rfl ?_
      refine WH_p (PS_not rfl) rfl ?_
      refine WH_p (PS_move_bool rfl) rfl ?_
      refine WH_if (t := 51) rfl (fun hb15 => ?_) (fun hb15 => ?_)
      · have hb15p := hb15.h; try simp only [al_ete, al_dfn, Bool.not_eq_true', Bool.not_eq_false', al_ne, Bool.not_not, al_nn] at hb15p
        simp at hb15p --END
      · have hb15p := hb15.h; try simp only [al_ete, al_dfn, Bool.not_eq_true', Bool.not_eq_false', al_ne, Bool.not_not, al_nn] at hb15p
        refine WH_guardT rfl rfl hb15.h ?_
        refine WH_p (PS_move_ptr rfl) rfl ?_
        refine WH_guardT rfl rfl hb15.h ?_
        refine WH_p (PS_nilCheck rfl) rfl ?_
        refine WH_guardT rfl rfl hb15.h ?_
        refine WH_p (PS_fieldAddr 0 Hvad.runUnderlying69 rfl Hvad.sizeOf53 rfl rfl) rfl ?_
        refine WH_guardT rfl rfl hb15.h ?_
        refine WH_load (.pointer _) Hvad.isAgg53 rfl (Hb.h (by repeat (first | assumption | exact Hb.newY _ _ | refine Hb.alloc ?_ | refine Hb.drew ?_ | refine Hb.ext (by assumption) ?_ | exact Hb.setSameL (by first | omega | (simp only [size_alloc, size_setB, size_drew]; omega)) | exact Hb.setSame (by assumption) | refine Hb.set (by first | omega | (simp only [size_alloc, size_setB, size_drew]; omega)) ?_ ))) (Ce.h (by first | assumption | exact ⟨rfl⟩)) ?_
        refine WH_guardT rfl rfl hb15.h ?_
        refine WH_loadA _ Hvad.isAgg307 Hvad.sizeOf307 rfl (Hb.h (by repeat (first | assumption | exact Hb.newY _ _ | refine Hb.alloc ?_ | refine Hb.drew ?_ | refine Hb.ext (by assumption) ?_ | exact Hb.setSameL (by first | omega | (simp only [size_alloc, size_setB, size_drew]; omega)) | exact Hb.setSame (by assumption) | refine Hb.set (by first | omega | (simp only [size_alloc, size_setB, size_drew]; omega)) ?_ ))) (by first | omega | assumption | rfl | decide | exact Nat.le_refl _ | (simp only [size_ic, Value.cells]; omega) | simp) (Xt.h (by first | assumption | exact Xt.whole rfl rfl | exact Xt.whole rfl (by simp only [size_ic, Value.cells]; omega) | exact ⟨rfl⟩)) ?_
        refine WH_guardT rfl rfl hb15.h ?_
        refine WH_call Hvad.call264 (by rfl) (Ret.mono (putLog_spec C c v B (bb m) f.self (slp s, i, slc s) s5 l.flatten L5 _ (VS.ext hM.vs (by repeat (first | assumption | exact Ext.refl _ | refine Ext.alloc ?_ _ | refine Ext.drew ?_ | refine Ext.setB ?_ (by first | omega | (simp only [size_alloc, size_setB, size_drew]; omega)) _ | exact Ext.trans (by assumption) (by assumption) | refine Ext.trans ?_ (by assumption)))) hby (SC.ext hscT (by repeat (first | assumption | exact Ext.refl _ | refine Ext.alloc ?_ _ | refine Ext.drew ?_ | refine Ext.setB ?_ (by first | omega | (simp only [size_alloc, size_setB, size_drew]; omega)) _ | exact Ext.trans (by assumption) (by assumption) | refine Ext.trans ?_ (by assumption)))) (SC.ext hbx2.sc (by repeat (first | assumption | exact Ext.refl _ | refine Ext.alloc ?_ _ | refine Ext.drew ?_ | refine Ext.setB ?_ (by first | omega | (simp only [size_alloc, size_setB, size_drew]; omega)) _ | exact Ext.trans (by assumption) (by assumption) | refine Ext.trans ?_ (by assumption)))) hotT hodT) ?_)
        rintro _ w1 ⟨t8, d8, ht8, hd8, rfl, hR1⟩
        refine ⟨(fun h => by cases h), ?_⟩
        obtain ⟨hq8, hso, href⟩ := putLog_go hvi (x := ⟨f.self, t8, d8⟩) ⟨by show t8.2.1 ≤ 4; rw [ht8]; show i ≤ 4; omega, by show d8.2.1 ≤ 717280; rw [hd8]; omega⟩ hroom.l (by have := hroom.j; omega)
        rw [hq8]
        generalize (v.putLog ⟨f.self, t8, d8⟩).2 = y1 at *
        have hR1m := (MS.ext hM (by repeat (first | assumption | exact Ext.refl _ | refine Ext.alloc ?_ _ | refine Ext.drew ?_ | refine Ext.setB ?_ (by first | omega | (simp only [size_alloc, size_setB, size_drew]; omega)) _ | exact Ext.trans (by assumption) (by assumption) | refine Ext.trans ?_ (by assumption)))).vret hR1
        obtain ⟨c1, B1, hM1, hS1⟩ := hR1m
        have hz1 := hS1.keep.sz
        try simp only [size_alloc, size_setB, size_drew] at hz1
        have hS1w := (MStep.ext (w := w) (C := C) (B := B) (m := m) (by repeat (first | assumption | exact Ext.refl _ | refine Ext.alloc ?_ _ | refine Ext.drew ?_ | refine Ext.setB ?_ (by first | omega | (simp only [size_alloc, size_setB, size_drew]; omega)) _ | exact Ext.trans (by assumption) (by assumption) | refine Ext.trans ?_ (by assumption)))).trans hS1
        have hrw1 : RW y1 m S (m.txgas - gasTo m.frames (t + 1)) := hI.rw_.setO hso href (by omega) (by omega) (by omega) (by omega) (by omega)
        refine WH_guardT rfl rfl hb15.h ?_
        refine WH_p (PS_not rfl) rfl ?_
        refine WH_p (PS_pickF rfl hb15.h rfl) rfl ?_
        refine WH_nil ?_
        refine thn_normal ?_
        refine W_if rfl (fun hb19 => ?_) (fun hb19 => ?_)
        · have hb19p := hb19.h; try simp only [al_ete, al_dfn, Bool.not_eq_true', Bool.not_eq_false', al_ne, Bool.not_not, al_nn] at hb19p
          simp at hb19p --END
        · have hb19p := hb19.h; try simp only [al_ete, al_dfn, Bool.not_eq_true', Bool.not_eq_false', al_ne, Bool.not_not, al_nn] at hb19p
          refine W_skip ?_
          refine thn_normal ?_
          refine W_region rfl ?_
          refine WO_p (PS_move_ptr rfl) ?_
          refine WO_p (PS_move_ptr rfl) ?_
          refine WO_p (PS_move_int rfl) ?_
          refine WO_p (PS_add_i64n rfl rfl (by omega) (by omega)) ?_
          refine WO_p (PS_conv_u16n Hvad.runUnderlying3 Hvad.runUnderlying61 rfl (by omega) (by omega)) ?_
          refine WO_p (PS_buildI (k := .u64) (zs := [0, 0, 0, 0]) (ps := []) (L := [0, 0, 0, 0]) Hvad.zeroValue59 Hvad.runUnderlying59 Hvad.sizeOf26 rfl rfl rfl rfl) ?_
          refine WO_call Hvad.call155 (by rfl) (Ret.mono (settle_spec C c1 y1 B1 m t f _ _ _ _ _ (MS.ext hM1 (by repeat (first | assumption | exact Ext.refl _ | refine Ext.alloc ?_ _ | refine Ext.drew ?_ | refine Ext.setB ?_ (by first | omega | (simp only [size_alloc, size_setB, size_drew]; omega)) _ | exact Ext.trans (by assumption) (by assumption) | refine Ext.trans ?_ (by assumption)))) hA (by omega) (by first | (intro _; omega) | (intro h; cases h)) Wd0 (by omega)) ?_)
          rintro _ wS hRS
          have hRS2 : MRet w C B m wS y1 _ := MRet.trans hS1w (MRet.pre (by repeat (first | assumption | exact Ext.refl _ | refine Ext.alloc ?_ _ | refine Ext.drew ?_ | refine Ext.setB ?_ (by first | omega | (simp only [size_alloc, size_setB, size_drew]; omega)) _ | exact Ext.trans (by assumption) (by assumption) | refine Ext.trans ?_ (by assumption))) hRS)
          refine WO_nil ?_
          first | refine bodyQ_ret0 Hvad.results216 ?_ | refine bodyQ_end0 Hvad.results216 ?_
          exact ⟨y1, _, hRS2, (hI.settle hf hrw1 hso.go.inv hso.go.ent (Int.le_of_eq hso.go.nm.symm) (by omega) (by first | (intro _; omega) | (intro h; cases h)) (by omega) hc).2⟩

end Go.Proofs.YgvadwGreat
