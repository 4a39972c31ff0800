import Derived.Test.YgvacwGreatEp
namespace Go.Proofs.YgvacwGreat
set_option linter.unusedSimpArgs false
set_option linter.unusedVariables false
/-! jumps -/
theorem yplain_jump {ks : List Int → List Int} {y : PSt} {rest : List PF} {g : PF} {o : Int} (hj : yisj g o) : yplain ks y rest g o = (y, rest ++ [{ g with stack := g.stack.take (g.stack.length - (ytakes o).toNat), pc := yarg g 0 }]) := by
  have hq : ypq g o := Or.inl hj
  unfold yplain
  rw [if_neg (fun h => h.1 hq)]
  unfold ypst ypfr ypkept ypnext ypbase
  rw [if_pos hq, if_pos (Or.inl hq), if_pos hj, if_pos hj]
theorem yplain_swap {ks : List Int → List Int} {y : PSt} {rest : List PF} {g : PF} {o : Int} (ho : 144 ≤ o ∧ o ≤ 159) : yplain ks y rest g o = (y, rest ++ [{ g with stack := ypbase g (o - 142).toNat ++ [yarg g 0] ++ ypmid g (o - 142).toNat ((o - 142).toNat - 2) ++ [yarg g ((o - 142).toNat - 1)], pc := g.pc + 1 }]) := by
  have h1 : ¬ yisj g o := by rintro (h | h) <;> omega
  have h2 : ¬ (128 ≤ o ∧ o ≤ 143) := by omega
  have hq : ypq g o := Or.inr (Or.inr ho)
  have hi : immOf o = 0 := by unfold immOf; rw [if_neg (by omega)]
  have hf : yfam o ≠ 0 := by unfold yfam; repeat (first | omega | split)
  have ht : ytakes o = o - 142 := by unfold ytakes; rw [if_neg hf, if_neg (by omega), if_pos ho]
  unfold yplain
  rw [if_neg (fun h => h.1 hq)]
  unfold ypst ypfr ypkept ypnext
  rw [if_pos hq, if_pos (Or.inl hq), if_neg h1, if_neg h2, if_pos ho, if_neg h1, ht, hi]
  rfl
theorem range_split {n k : Nat} (h2 : 2 ≤ k) (hn : k ≤ n) : List.range n = List.range (n - k) ++ [n - k] ++ (List.range (k - 2)).map (fun i => n - k + 1 + i) ++ [n - 1] := by
  have e : n = (n - k + 1) + (k - 2) + 1 := by omega
  have e2 : n - k + 1 + (k - 2) = n - 1 := by omega
  conv => lhs; rw [e, List.range_succ, List.range_add, List.range_succ, e2]
section
variable [Om] {w w' : World} {C : Nat} {c : Array Value} {v : V} {B : VB} {m : Mc} {t : Nat} {f : Fm} {y : PSt} {rest : List PF} {g : PF} {o kI xq : Int} {k : Nat}
theorem Rel.jump (hRl : Rel w v m (y, rest ++ [g])) (hM : MS w C c v B m) (hI : MI m t) (hf : m.frames[t]? = some f) (h5 : KT 5 w w') (h28 : KT 28 w w') (hj : yisj g o) (hk : (ytakes o).toNat = k) (hkI : kI = (k : Int)) (hx : xq = (yarg g 0 : Int)) (hks : kI ≤ f.sp) :
    Rel w' v { m with stack := m.stack, ret := m.ret, frames := m.frames.set t { f with sp := f.sp - kI + 0, pc := xq } } (yplain khash y rest g o) := by
  have hl := hRl.len hI
  rw [yplain_jump hj, hk]
  obtain ⟨L, hL, hP⟩ := (hRl.kt hM h5 h28).ex
  refine ⟨L, hL, ?_⟩
  have hg := hP.fr t f g hf (last_get hl)
  have hs0 := (hM.ty.frames.2 f (List.mem_of_getElem? hf)).sp.1
  refine hP.top_ hl hf hI.ph (fun i f hi hf => (hI.fr i f (by omega) hf).2) (f' := { f with sp := f.sp - kI + 0, pc := xq }) (stk := m.stack) (r' := m.ret) (bf := m.buf) (bs := m.base) rfl (fun _ _ => rfl) (fun _ _ => rfl) ?_ hP.ret rfl
  refine { hg with pc := hx, stack := ?_ }
  have hn : g.stack.length = f.sp.toNat := by have := hg.len hs0; omega
  show g.stack.take (g.stack.length - k) = (List.range (f.sp - kI + 0).toNat).map _
  rw [hn, hg.stack, stack_take, show (f.sp - kI + 0).toNat = f.sp.toNat - k by omega]
theorem Rel.swap {x1 x2 : List Int} (hRl : Rel w v m (y, rest ++ [g])) (hM : MS w C c v B m) (hI : MI m t) (hf : m.frames[t]? = some f) (h5 : KT 5 w w') (h28 : KT 28 w w') (ho : 144 ≤ o ∧ o ≤ 159) (hks : o - 142 ≤ f.sp) (hx1 : m.stack[(f.sbase + f.sp - 1).toNat]? = some x1) (hx2 : m.stack[(f.sbase + f.sp - 1 - (o - 144) - 1).toNat]? = some x2) :
    Rel w' v { m with stack := (m.stack.set (f.sbase + f.sp - 1).toNat x2).set (f.sbase + f.sp - 1 - (o - 144) - 1).toNat x1, frames := m.frames.set t { f with pc := f.pc + 1 } } (yplain khash y rest g o) := by
  have hl := hRl.len hI
  rw [yplain_swap ho]
  obtain ⟨L, hL, hP⟩ := (hRl.kt hM h5 h28).ex
  refine ⟨L, hL, ?_⟩
  have hg := hP.fr t f g hf (last_get hl)
  have hs0 := (hM.ty.frames.2 f (List.mem_of_getElem? hf)).sp.1
  have hsb := (hI.fr t f (Nat.le_refl _) hf).1
  have hl1 := lt_of_getElem? hx1
  have hl2 := lt_of_getElem? hx2
  have e1 : (f.sbase + f.sp - 1).toNat = 64 * t + (f.sp.toNat - 1) := by omega
  have e2 : (f.sbase + f.sp - 1 - (o - 144) - 1).toNat = 64 * t + (f.sp.toNat - (o - 142).toNat) := by omega
  rw [e1] at hx1 hl1 ⊢
  rw [e2] at hx2 hl2 ⊢
  have d1 : m.stack.getD (64 * t + (f.sp.toNat - 1)) [0, 0, 0, 0] = x1 := by rw [List.getD_eq_getElem?_getD, hx1]; rfl
  have d2 : m.stack.getD (64 * t + (f.sp.toNat - (o - 142).toNat)) [0, 0, 0, 0] = x2 := by rw [List.getD_eq_getElem?_getD, hx2]; rfl
  have hn : g.stack.length = f.sp.toNat := by have := hg.len hs0; omega
  have hya : ∀ i, i < f.sp.toNat → yarg g i = wn (m.stack.getD (64 * t + (f.sp.toNat - 1 - i)) [0, 0, 0, 0]) := fun i hi => by
    rw [hg.arg hsb hs0, Mc.argW, if_neg (by omega)]; congr 2; omega
  generalize hkk : (o - 142).toNat = k at *
  have hk2 : 2 ≤ k ∧ k ≤ f.sp.toNat := by omega
  refine hP.top_ hl hf hI.ph (fun i f hi hf => (hI.fr i f (by omega) hf).2) (f' := { f with pc := f.pc + 1 }) (stk := (m.stack.set (64 * t + (f.sp.toNat - 1)) x2).set (64 * t + (f.sp.toNat - k)) x1) (r' := m.ret) (bf := m.buf) (bs := m.base) rfl (fun j hj => ?_) (fun _ _ => rfl) ?_ hP.ret rfl
  · rw [getD_setN (by omega), getD_setN (by omega)]
  · refine { hg with pc := ?_, stack := ?_ }
    · show f.pc + 1 = ((g.pc + 1 : Nat) : Int); rw [hg.pc]; omega
    · show ypbase g k ++ [yarg g 0] ++ ypmid g k (k - 2) ++ [yarg g (k - 1)] = (List.range f.sp.toNat).map (fun j => wn (((m.stack.set (64 * t + (f.sp.toNat - 1)) x2).set (64 * t + (f.sp.toNat - k)) x1).getD (64 * t + j) [0, 0, 0, 0]))
      rw [range_split hk2.1 hk2.2, List.map_append, List.map_append, List.map_append]
      congr 1
      · congr 1
        · congr 1
          · unfold ypbase
            rw [hn, hg.stack, stack_take]
            refine List.map_congr_left fun j hj => ?_
            rw [List.mem_range] at hj
            rw [getD_setN (by omega), getD_setN (by omega)]
          · simp only [List.map_cons, List.map_nil]
            rw [getD_setS (by rw [List.length_set]; omega), hya 0 (by omega), Nat.sub_zero, d1]
        · unfold ypmid
          rw [List.map_map]
          refine List.map_congr_left fun i hi => ?_
          rw [List.mem_range] at hi
          show _ = wn (((m.stack.set (64 * t + (f.sp.toNat - 1)) x2).set (64 * t + (f.sp.toNat - k)) x1).getD (64 * t + (f.sp.toNat - k + 1 + i)) [0, 0, 0, 0])
          rw [hya _ (by omega), getD_setN (by omega), getD_setN (by omega), show f.sp.toNat - 1 - (k - 2 - i) = f.sp.toNat - k + 1 + i by omega]
      · simp only [List.map_cons, List.map_nil]
        rw [getD_setN (by omega), getD_setS (by omega), hya _ (by omega), show f.sp.toNat - 1 - (k - 1) = f.sp.toNat - k by omega, d2]
end
theorem ygives_push {o : Int} (h : 95 ≤ o ∧ o ≤ 127) : ygives o = 1 ∧ (ytakes o).toNat = 0 := by
  have hf : yfam o ≠ 0 := by unfold yfam; repeat (first | omega | split)
  have hf1 : yfam o ≠ 1 := by unfold yfam; repeat (first | omega | split)
  constructor
  · unfold ygives; repeat (first | omega | split)
  · have : ytakes o = 0 := by unfold ytakes; repeat (first | rw [if_neg (by omega)] | rw [if_pos (by omega)])
    rw [this]; rfl
theorem yval_push {ks : List Int → List Int} {y : PSt} {g : PF} {o : Int} (h : 95 ≤ o ∧ o ≤ 127) (l : List Nat) : yval ks y g o l = bvY (ycut g.code (g.pc + 1) (immOf o).toNat) := by
  unfold yval
  rw [if_neg (by omega), if_neg (by omega), if_neg (by omega), if_neg (by omega), if_neg (by omega), if_neg (by omega), if_neg (by omega), if_neg (by omega), if_neg (by omega), if_neg (by omega), if_neg (by omega), if_neg (by omega), if_neg (by omega), if_neg (by omega), if_neg (by omega), if_neg (by omega), if_neg (by omega), if_neg (by omega), if_neg (by omega), if_pos h]
theorem ycut_succ (L : List Int) (p i : Nat) : ycut L p (i + 1) = ycut L p i ++ [L.getD (p + i) 0] := by simp [ycut, List.range_succ]
theorem bv_snoc (A : List Int) (c : Int) : bvY (A ++ [c]) = bvY A * 256 + c.toNat := by
  unfold bvY
  rw [List.reverse_append]
  show dv (c :: A.reverse) = _
  simp only [dv]; omega
theorem push_step {L : List Int} (h : ∀ x ∈ L, 0 ≤ x ∧ x ≤ 255) {p i : Nat} {x c : Int} (hi : i < 8) (hx : x = (bvY (ycut L p i) : Int)) (hc : c = L.getD (p + i) 0) (hcb : 0 ≤ c ∧ c ≤ 255) : bOr (x * 2 ^ (min 8 64) % 18446744073709551616) c = (bvY (ycut L p (i + 1)) : Int) := by
  have h1 := bv_lt (ycut_by h p i)
  rw [ycut_len] at h1
  have h2 : (256 : Nat) ^ i ≤ 256 ^ 7 := Nat.pow_le_pow_right (by decide) (by omega)
  have h3 : (256 : Nat) ^ 7 = 72057594037927936 := by decide
  rw [ycut_succ, bv_snoc, ← hc]
  generalize bvY (ycut L p i) = q at *
  have e : x * 2 ^ (min 8 64) % 18446744073709551616 = x * 2 ^ 8 := by
    rw [show (min 8 64 : Nat) = 8 from rfl, show (2 : Int) ^ 8 = 256 from rfl]; omega
  rw [e, bOr_comm, bOr_shl 8 hcb.1 (by show c < 2 ^ 8; rw [show (2 : Int) ^ 8 = 256 from rfl]; omega) (by omega) (by rw [show (2 : Int) ^ 8 = 256 from rfl]; omega)]
  rw [show (2 : Int) ^ 8 = 256 from rfl]; omega
theorem push_cut {L : List Int} {f n k q : Nat} (hn : n ≤ 32) (hq : q = L.length - f) (hk : k = Nat.min q n) : mid (List.replicate 32 (0 : Int)) (32 - n) ((L.drop f).take k) = List.replicate (32 - n) 0 ++ ycut L f n := by
  have hk' : k = min q n := hk
  have hl : ((L.drop f).take k).length = k := by rw [List.length_take, List.length_drop]; omega
  refine list_gd ?_ fun i hi => ?_
  · rw [mid_len (by rw [hl, List.length_replicate]; omega)]; simp [ycut]; omega
  · rw [mid_len (by rw [hl, List.length_replicate]; omega), List.length_replicate] at hi
    rw [getD_mid (by rw [hl, List.length_replicate]; omega), hl, getD_appI, List.length_replicate]
    have hz : ∀ j a : Nat, (List.replicate a (0 : Int)).getD j 0 = 0 := fun j a => by
      rw [List.getD_eq_getElem?_getD, List.getElem?_replicate]; split <;> rfl
    by_cases h1 : i < 32 - n
    · rw [if_pos h1, if_pos h1, hz, hz]
    · rw [if_neg h1, if_neg h1]
      have e2 : (ycut L f n).getD (i - (32 - n)) 0 = L.getD (f + (i - (32 - n))) 0 := by
        rw [List.getD_eq_getElem?_getD]; simp [ycut, show i - (32 - n) < n by omega]
      rw [e2]
      split
      · rename_i hh
        rw [List.getD_eq_getElem?_getD, List.getD_eq_getElem?_getD, List.getElem?_take, if_pos (by omega), List.getElem?_drop]
      · rename_i hh
        rw [hz, List.getD_eq_getElem?_getD, List.getElem?_eq_none (by omega)]; rfl
theorem push_cut0 {L : List Int} {f n : Nat} (hn : n ≤ 32) (h : L.length ≤ f) : List.replicate 32 (0 : Int) = List.replicate (32 - n) 0 ++ ycut L f n := by
  have : ycut L f n = List.replicate n 0 := by
    refine list_gd (by simp [ycut]) fun i hi => ?_
    rw [ycut_len] at hi
    have e2 : (ycut L f n).getD i 0 = L.getD (f + i) 0 := by rw [List.getD_eq_getElem?_getD]; simp [ycut, hi]
    rw [e2, List.getD_eq_getElem?_getD, List.getElem?_eq_none (by omega), List.getD_eq_getElem?_getD, List.getElem?_replicate]; split <;> rfl
  rw [this, List.replicate_append_replicate]; congr 1; omega

set_option maxRecDepth 10000 in
set_option maxHeartbeats 4000000 in
theorem opJump_ex [Om] (scan : List Int → List Int) (C : Nat) (c : Array Value) (v : V) (B : VB) (m : Mc) (t : Nat) (f : Fm) (o c' S : Int) (w : World) (hM : MS w C c v B m) (hop : Mc.opc f = o) (hAd : Adm scan v m t f o (infoW o).2.2.1 c' S) (hk : (infoW o).1 ≤ f.sp ∧ f.sp - (infoW o).1 + (infoW o).2.1 ≤ 64) (hc : 0 < c') (y : PSt) (rest : List PF) (g : PF) (hRl : Rel w v m (y, rest ++ [g])) (ho : o = 86 ∨ o = 87 ∨ o = 91) : Ret Hvac.prog 185 #[.pointer (some ⟨C, 0, none⟩)] w fun _ w' => ∃ v' m', MRet w C B m w' v' m' ∧ OpP scan m t c' S v' m' ∧ Rel w' v' m' (yplain khash y rest g o) := by
  have hI := hAd.ri
  have hf := hAd.fr
  have hR := hI.run hf
  have hA := hR.fa
  have hblk := hM.vs.blk
  have hCl := hblk.lt
  have hcs := hM.sz
  have hc_s := hM.rep.s
  obtain ⟨ht7, hfty, hF⟩ := hM.openF hf
  have hFk := hI.fr t f (Nat.le_refl _) hf
  have hvi := hI.ti.vi
  have hcbl := (hM.code f (List.mem_of_getElem? hf)).1.len
  have hcb5 := hFk.cl
  have hcl : f.code.2.1 ≤ 100000 := by omega
  have hpct := hfty.pc
  have hspt := hfty.sp
  have hwdA := fun i => argW_wd hM.ty f i
  have hMI := hI.mi
  have hAr := fun i => hRl.arg hM hMI hf i
  have htl := hRl.len hMI
  have hy0 : yarg g 0 = wn (m.argW f 0) := hAr 0
  have hy1 : yarg g 1 = wn (m.argW f 1) := hAr 1
  have hy2 : yarg g 2 = wn (m.argW f 2) := hAr 2
  have hy3 : yarg g 3 = wn (m.argW f 3) := hAr 3
  have hy4 : yarg g 4 = wn (m.argW f 4) := hAr 4
  have hy5 : yarg g 5 = wn (m.argW f 5) := hAr 5
  have hy6 : yarg g 6 = wn (m.argW f 6) := hAr 6
  have hpcl : f.pc < (f.cb.length : Int) := opc_pc (by rw [hop]; omega)
  have hl0 := (hwdA 0).1
  have hl1 := (hwdA 1).1
  have hw1 : wv [1, 0, 0, 0] = 1 := rfl
  have hwi0 := wn_int (hwdA 0)
  have hwi1 := wn_int (hwdA 1)
  have hj1 := hAd.j1
  have hj2 := hAd.j2
  refine Ret_of_W Hvac.func185 rfl rfl ?_
  refine W_seq ?_
  refine W_region rfl ?_
  refine WO_p (PS_move_ptr rfl) ?_
  refine WO_call Hvac.call95 (by rfl) (Ret.mono (running_spec C c v B m t f _ (MS.ext hM (by repeat (first | assumption | exact Ext.refl _ | refine Ext.alloc ?_ _ | refine Ext.drew ?_ | refine Ext.setB ?_ (by first | omega | (simp only [size_alloc, size_setB, size_drew]; omega)) _ | exact Ext.trans (by assumption) (by assumption) | refine Ext.trans ?_ (by assumption)))) hR) ?_)
  rintro _ w95_0 ⟨hE95_0, rfl⟩
  have hz95_0 := hE95_0.1
  try simp only [size_alloc, size_setB, size_drew] at hz95_0
  refine WO_p (PS_assign_ptr rfl) ?_
  refine WO_nil ?_
  refine thn_normal ?_
  refine W_seq ?_
  refine W_seq ?_
  refine W_region rfl ?_
  refine WO_p (PS_move_ptr rfl) ?_
  refine WO_p (PS_eqlnil Hvac.underlying187 rfl) ?_
  refine WO_nil ?_
  refine thn_normal ?_
  refine W_if rfl (fun hb3 => ?_) (fun hb3 => ?_)
  · have hb3p := hb3.h; try simp only [al_ete, al_dfn, Bool.not_eq_true', Bool.not_eq_false', al_ne, Bool.not_not, al_nn] at hb3p
    simp at hb3p --END
  · have hb3p := hb3.h; try simp only [al_ete, al_dfn, Bool.not_eq_true', Bool.not_eq_false', al_ne, Bool.not_not, al_nn] at hb3p
    refine W_skip ?_
    refine thn_normal ?_
    refine W_seq ?_
    refine W_region rfl ?_
    refine WO_p (PS_move_ptr rfl) ?_
    refine WO_p (PS_move_ptr rfl) ?_
    refine WO_call Hvac.call239 (by rfl) (Ret.mono (arg_spec C c v B m t f _ _ (MS.ext hM (by repeat (first | assumption | exact Ext.refl _ | refine Ext.alloc ?_ _ | refine Ext.drew ?_ | refine Ext.setB ?_ (by first | omega | (simp only [size_alloc, size_setB, size_drew]; omega)) _ | exact Ext.trans (by assumption) (by assumption) | refine Ext.trans ?_ (by assumption)))) hA (by omega)) ?_)
    rintro _ w239_3 ⟨hE239_3, rfl⟩
    have hz239_3 := hE239_3.1
    try simp only [size_alloc, size_setB, size_drew] at hz239_3
    refine WO_allocG Hvac.zeroValue61 ?_
    intro b3 v3 hg3 hE3 hH3 hl3
    try simp only [size_alloc, size_setB, size_drew] at hg3
    have hzz3 := hE3.1
    try simp only [size_alloc, size_setB, size_drew] at hzz3
    first | refine WO_storeW Hvac.sizeOf61 rfl (v := .agg _) rfl (Hb.h (by repeat (first | assumption | exact Hb.newY _ _ | refine Hb.alloc ?_ | refine Hb.drew ?_ | refine Hb.ext (by assumption) ?_ | exact Hb.setSameL (by first | omega | (simp only [size_alloc, size_setB, size_drew]; omega)) | exact Hb.setSame (by assumption) | refine Hb.set (by first | omega | (simp only [size_alloc, size_setB, size_drew]; omega)) ?_ ))) rfl (by first | omega | assumption | rfl | decide | exact Nat.le_refl _ | (simp only [size_ic, Value.cells]; omega) | (simp; omega) | simp) (by first | omega | assumption | rfl | decide | exact Nat.le_refl _ | (simp only [size_ic, Value.cells]; omega) | (simp; omega) | simp) (by first | exact oneCell_ic | assumption | exact one_Ws2 _ | exact one_YA2 _ | exact one_YSl2 _ | exact one_YM2 _ | exact one_YT2 _ | exact one_L2 _) ?_ | refine WO_store Hvac.sizeOf61 rfl (v := .agg _) rfl (Hb.h (by repeat (first | assumption | exact Hb.newY _ _ | refine Hb.alloc ?_ | refine Hb.drew ?_ | refine Hb.ext (by assumption) ?_ | exact Hb.setSameL (by first | omega | (simp only [size_alloc, size_setB, size_drew]; omega)) | exact Hb.setSame (by assumption) | refine Hb.set (by first | omega | (simp only [size_alloc, size_setB, size_drew]; omega)) ?_ ))) (by first | omega | assumption | rfl | decide | exact Nat.le_refl _ | (simp only [size_ic, Value.cells]; omega) | (simp; omega) | simp) (by first | omega | assumption | rfl | decide | exact Nat.le_refl _ | (simp only [size_ic, Value.cells]; omega) | (simp; omega) | simp) (by first | exact oneCell_ic | assumption | exact one_Ws2 _ | exact one_YA2 _ | exact one_YSl2 _ | exact one_YM2 _ | exact one_YT2 _ | exact one_L2 _) ?_
    refine WO_nil ?_
    refine thn_normal ?_
    refine W_seq ?_
    refine W_region rfl ?_
    refine WO_p (PS_move_ptr rfl) ?_
    refine WO_p (PS_move_ptr rfl) ?_
    refine WO_call Hvac.call239 (by rfl) (Ret.mono (arg_spec C c v B m t f _ _ (MS.ext hM (by repeat (first | assumption | exact Ext.refl _ | refine Ext.alloc ?_ _ | refine Ext.drew ?_ | refine Ext.setB ?_ (by first | omega | (simp only [size_alloc, size_setB, size_drew]; omega)) _ | exact Ext.trans (by assumption) (by assumption) | refine Ext.trans ?_ (by assumption)))) hA (by omega)) ?_)
    rintro _ w239_4 ⟨hE239_4, rfl⟩
    have hz239_4 := hE239_4.1
    try simp only [size_alloc, size_setB, size_drew] at hz239_4
    refine WO_allocG Hvac.zeroValue61 ?_
    intro b4 v4 hg4 hE4 hH4 hl4
    try simp only [size_alloc, size_setB, size_drew] at hg4
    have hzz4 := hE4.1
    try simp only [size_alloc, size_setB, size_drew] at hzz4
    first | refine WO_storeW Hvac.sizeOf61 rfl (v := .agg _) rfl (Hb.h (by repeat (first | assumption | exact Hb.newY _ _ | refine Hb.alloc ?_ | refine Hb.drew ?_ | refine Hb.ext (by assumption) ?_ | exact Hb.setSameL (by first | omega | (simp only [size_alloc, size_setB, size_drew]; omega)) | exact Hb.setSame (by assumption) | refine Hb.set (by first | omega | (simp only [size_alloc, size_setB, size_drew]; omega)) ?_ ))) rfl (by first | omega | assumption | rfl | decide | exact Nat.le_refl _ | (simp only [size_ic, Value.cells]; omega) | (simp; omega) | simp) (by first | omega | assumption | rfl | decide | exact Nat.le_refl _ | (simp only [size_ic, Value.cells]; omega) | (simp; omega) | simp) (by first | exact oneCell_ic | assumption | exact one_Ws2 _ | exact one_YA2 _ | exact one_YSl2 _ | exact one_YM2 _ | exact one_YT2 _ | exact one_L2 _) ?_ | refine WO_store Hvac.sizeOf61 rfl (v := .agg _) rfl (Hb.h (by repeat (first | assumption | exact Hb.newY _ _ | refine Hb.alloc ?_ | refine Hb.drew ?_ | refine Hb.ext (by assumption) ?_ | exact Hb.setSameL (by first | omega | (simp only [size_alloc, size_setB, size_drew]; omega)) | exact Hb.setSame (by assumption) | refine Hb.set (by first | omega | (simp only [size_alloc, size_setB, size_drew]; omega)) ?_ ))) (by first | omega | assumption | rfl | decide | exact Nat.le_refl _ | (simp only [size_ic, Value.cells]; omega) | (simp; omega) | simp) (by first | omega | assumption | rfl | decide | exact Nat.le_refl _ | (simp only [size_ic, Value.cells]; omega) | (simp; omega) | simp) (by first | exact oneCell_ic | assumption | exact one_Ws2 _ | exact one_YA2 _ | exact one_YSl2 _ | exact one_YM2 _ | exact one_YT2 _ | exact one_L2 _) ?_
    refine WO_nil ?_
    refine thn_normal ?_
    refine W_seq ?_
    refine W_region rfl ?_
    refine WO_p (PS_assign_int rfl) ?_
    refine WO_nil ?_
    refine thn_normal ?_
    refine W_seq ?_
    refine W_seq ?_
    refine W_region rfl ?_
    refine WO_p (PS_move_ptr rfl) ?_
    refine WO_call Hvac.call104 (by rfl) (Ret.mono (opcode_spec C c v B m t f _ (MS.ext hM (by repeat (first | assumption | exact Ext.refl _ | refine Ext.alloc ?_ _ | refine Ext.drew ?_ | refine Ext.setB ?_ (by first | omega | (simp only [size_alloc, size_setB, size_drew]; omega)) _ | exact Ext.trans (by assumption) (by assumption) | refine Ext.trans ?_ (by assumption)))) hR hcl) ?_)
    rintro _ w104_5 ⟨hE104_5, rfl⟩
    have hz104_5 := hE104_5.1
    try simp only [size_alloc, size_setB, size_drew] at hz104_5
    try rw [hop]
    refine WO_nil ?_
    refine thn_normal ?_
    refine W_block ?_
    refine W_seq ?_
    refine W_region rfl ?_
    refine WO_p (PS_eql rfl rfl) ?_
    refine WO_p (PS_assign_bool rfl) ?_
    refine WO_nil ?_
    refine thn_normal ?_
    refine W_if rfl (fun hb8 => ?_) (fun hb8 => ?_)
    · have hb8p := hb8.h; try simp only [al_ete, al_dfn, Bool.not_eq_true', Bool.not_eq_false', al_ne, Bool.not_not, al_nn] at hb8p
      have hin : (1 : Int) ≤ f.sp ∧ f.sp - 1 + 0 ≤ 64 := by have h := hk; rw [show o = 86 from by omega] at h; exact h
      have hoN : o = 86 := by omega
      have hjj := hj1 (by omega)
      refine W_seq ?_
      refine W_region rfl ?_
      refine WO_p (PS_assign_int rfl) ?_
      refine WO_nil ?_
      refine thn_normal ?_
      refine W_region rfl ?_
      refine WO_p (PS_buildI (k := .u64) (zs := [0, 0, 0, 0]) (ps := [(0, _)]) (L := [_, 0, 0, 0]) Hvac.zeroValue61 Hvac.runUnderlying61 Hvac.sizeOf26 rfl rfl rfl rfl) ?_
      first | refine WO_storeW Hvac.sizeOf61 rfl (v := .agg _) rfl (Hb.h (by repeat (first | assumption | exact Hb.newY _ _ | refine Hb.alloc ?_ | refine Hb.drew ?_ | refine Hb.ext (by assumption) ?_ | exact Hb.setSameL (by first | omega | (simp only [size_alloc, size_setB, size_drew]; omega)) | exact Hb.setSame (by assumption) | refine Hb.set (by first | omega | (simp only [size_alloc, size_setB, size_drew]; omega)) ?_ ))) rfl (by first | omega | assumption | rfl | decide | exact Nat.le_refl _ | (simp only [size_ic, Value.cells]; omega) | (simp; omega) | simp) (by first | omega | assumption | rfl | decide | exact Nat.le_refl _ | (simp only [size_ic, Value.cells]; omega) | (simp; omega) | simp) (by first | exact oneCell_ic | assumption | exact one_Ws2 _ | exact one_YA2 _ | exact one_YSl2 _ | exact one_YM2 _ | exact one_YT2 _ | exact one_L2 _) ?_ | refine WO_store Hvac.sizeOf61 rfl (v := .agg _) rfl (Hb.h (by repeat (first | assumption | exact Hb.newY _ _ | refine Hb.alloc ?_ | refine Hb.drew ?_ | refine Hb.ext (by assumption) ?_ | exact Hb.setSameL (by first | omega | (simp only [size_alloc, size_setB, size_drew]; omega)) | exact Hb.setSame (by assumption) | refine Hb.set (by first | omega | (simp only [size_alloc, size_setB, size_drew]; omega)) ?_ ))) (by first | omega | assumption | rfl | decide | exact Nat.le_refl _ | (simp only [size_ic, Value.cells]; omega) | (simp; omega) | simp) (by first | omega | assumption | rfl | decide | exact Nat.le_refl _ | (simp only [size_ic, Value.cells]; omega) | (simp; omega) | simp) (by first | exact oneCell_ic | assumption | exact one_Ws2 _ | exact one_YA2 _ | exact one_YSl2 _ | exact one_YM2 _ | exact one_YT2 _ | exact one_L2 _) ?_
      refine WO_nil ?_
      refine inBlk_normal ?_
      refine thn_normal ?_
      refine W_seq ?_
      refine W_seq ?_
      refine W_region rfl ?_
      refine WO_p (PS_move_int rfl) ?_
      refine WO_p (PS_eql rfl rfl) ?_
      refine WO_p (PS_move_bool rfl) ?_
      refine WO_if (t := 27) rfl (fun hb10 => ?_) (fun hb10 => ?_)
      · have hb10p := hb10.h; try simp only [al_ete, al_dfn, Bool.not_eq_true', Bool.not_eq_false', al_ne, Bool.not_not, al_nn] at hb10p
        refine WO_guardF rfl rfl hb10.h ?_
        refine WO_guardF rfl rfl hb10.h ?_
        refine WO_p (PS_pickT rfl hb10.h rfl) ?_
        refine WO_nil ?_
        refine thn_normal ?_
        refine W_condT rfl rfl ?_
        refine W_seq ?_
        refine W_region rfl ?_
        refine WO_p (PS_move_ptr rfl) ?_
        refine WO_p (PS_move_ptr rfl) ?_
        refine WO_p (PS_move_int rfl) ?_
        refine WO_p (PS_buildI (k := .u64) (zs := [0, 0, 0, 0]) (ps := []) (L := [0, 0, 0, 0]) Hvac.zeroValue61 Hvac.runUnderlying61 Hvac.sizeOf26 rfl rfl rfl rfl) ?_
        refine WO_call Hvac.call235 (by rfl) (Ret.mono (settle_ex C c v B m t f _ _ _ _ _ (MS.ext hM (by repeat (first | assumption | exact Ext.refl _ | refine Ext.alloc ?_ _ | refine Ext.drew ?_ | refine Ext.setB ?_ (by first | omega | (simp only [size_alloc, size_setB, size_drew]; omega)) _ | exact Ext.trans (by assumption) (by assumption) | refine Ext.trans ?_ (by assumption)))) hA (by omega) (by first | (intro _; omega) | (intro h; cases h)) (by first | assumption | exact argW_wd hM.ty _ _ | exact Wd0 | exact flagW_wd _ | exact Wd1 | exact limb_wd (by omega)) (by omega)) ?_)
        rintro _ wS ⟨hRS, hKS⟩
        have hRS2 := MRet.pre (w := w) (by repeat (first | assumption | exact Ext.refl _ | refine Ext.alloc ?_ _ | refine Ext.drew ?_ | refine Ext.setB ?_ (by first | omega | (simp only [size_alloc, size_setB, size_drew]; omega)) _ | exact Ext.trans (by assumption) (by assumption) | refine Ext.trans ?_ (by assumption))) hRS
        have hKC := KC.pre (a := w) (by repeat (first | assumption | exact Ext.refl _ | refine Ext.alloc ?_ _ | refine Ext.drew ?_ | refine Ext.setB ?_ (by first | omega | (simp only [size_alloc, size_setB, size_drew]; omega)) _ | exact Ext.trans (by assumption) (by assumption) | refine Ext.trans ?_ (by assumption))) hKS
        have hK5 : KT 5 w wS := KC.kt hKC hblk (by decide)
        have hK28 : KT 28 w wS := KC.kt hKC hblk (by decide)
        refine WO_nil ?_
        refine thn_normal ?_
        refine W_ret ?_
        refine thn_ret ?_
        first | refine bodyQ_ret0 Hvac.results185 ?_ | refine bodyQ_end0 Hvac.results185 ?_
        first
        | (exfalso; omega)
        | (exact ⟨v, _, hRS2, (hI.settle hf hI.rw0 hvi (fun _ h => h) (Int.le_refl _) (by omega) (by first | (intro _; omega) | (intro h; cases h)) (by omega) hc).2, hRl.fin_eff hM hMI hf hK5 hK28 hoN (by decide) (by simp [yisj]) (by decide) (k := 1) (by decide) rfl rfl (by decide) rfl (by omega)⟩)
      · have hb10p := hb10.h; try simp only [al_ete, al_dfn, Bool.not_eq_true', Bool.not_eq_false', al_ne, Bool.not_not, al_nn] at hb10p
        have hq91 : o = 86 ∨ o = 87 := by first | omega | (exfalso; simp at hb10p)
        refine WO_guardT rfl rfl hb10.h ?_
        refine WO_loadA _ Hvac.isAgg61 Hvac.sizeOf61 rfl (Hb.h (by repeat (first | assumption | exact Hb.newY _ _ | refine Hb.alloc ?_ | refine Hb.drew ?_ | refine Hb.ext (by assumption) ?_ | exact Hb.setSameL (by first | omega | (simp only [size_alloc, size_setB, size_drew]; omega)) | exact Hb.setSame (by assumption) | refine Hb.set (by first | omega | (simp only [size_alloc, size_setB, size_drew]; omega)) ?_ ))) (by first | omega | assumption | rfl | decide | exact Nat.le_refl _ | (simp only [size_ic, Value.cells]; omega) | (simp; omega) | simp) (Xt.h (by first | assumption | exact Xt.whole rfl rfl | exact Xt.whole rfl (by assumption) | exact Xt.whole rfl (by simp only [size_ic, Value.cells]; omega) | exact ⟨rfl⟩)) ?_
        refine WO_guardT rfl rfl hb10.h ?_
        refine WO_call Hvac.call223 (by rfl) (Ret.mono (isz_spec _ _ (by first | exact hwdA _ | exact Wd1)) ?_)
        rintro _ w223_11 ⟨rfl, hE223_11⟩
        have hz223_11 := hE223_11.1
        try simp only [size_alloc, size_setB, size_drew] at hz223_11
        refine WO_p (PS_pickF rfl hb10.h rfl) ?_
        refine WO_nil ?_
        refine thn_normal ?_
        refine W_if rfl (fun hb13 => ?_) (fun hb13 => ?_)
        · have hb13p := hb13.h; try simp only [al_ete, al_dfn, Bool.not_eq_true', Bool.not_eq_false', al_ne, Bool.not_not, al_nn] at hb13p
          refine W_seq ?_
          refine W_region rfl ?_
          refine WO_p (PS_move_ptr rfl) ?_
          refine WO_p (PS_move_ptr rfl) ?_
          refine WO_p (PS_move_int rfl) ?_
          refine WO_p (PS_buildI (k := .u64) (zs := [0, 0, 0, 0]) (ps := []) (L := [0, 0, 0, 0]) Hvac.zeroValue61 Hvac.runUnderlying61 Hvac.sizeOf26 rfl rfl rfl rfl) ?_
          refine WO_call Hvac.call235 (by rfl) (Ret.mono (settle_ex C c v B m t f _ _ _ _ _ (MS.ext hM (by repeat (first | assumption | exact Ext.refl _ | refine Ext.alloc ?_ _ | refine Ext.drew ?_ | refine Ext.setB ?_ (by first | omega | (simp only [size_alloc, size_setB, size_drew]; omega)) _ | exact Ext.trans (by assumption) (by assumption) | refine Ext.trans ?_ (by assumption)))) hA (by omega) (by first | (intro _; omega) | (intro h; cases h)) (by first | assumption | exact argW_wd hM.ty _ _ | exact Wd0 | exact flagW_wd _ | exact Wd1 | exact limb_wd (by omega)) (by omega)) ?_)
          rintro _ wS ⟨hRS, hKS⟩
          have hRS2 := MRet.pre (w := w) (by repeat (first | assumption | exact Ext.refl _ | refine Ext.alloc ?_ _ | refine Ext.drew ?_ | refine Ext.setB ?_ (by first | omega | (simp only [size_alloc, size_setB, size_drew]; omega)) _ | exact Ext.trans (by assumption) (by assumption) | refine Ext.trans ?_ (by assumption))) hRS
          have hKC := KC.pre (a := w) (by repeat (first | assumption | exact Ext.refl _ | refine Ext.alloc ?_ _ | refine Ext.drew ?_ | refine Ext.setB ?_ (by first | omega | (simp only [size_alloc, size_setB, size_drew]; omega)) _ | exact Ext.trans (by assumption) (by assumption) | refine Ext.trans ?_ (by assumption))) hKS
          have hK5 : KT 5 w wS := KC.kt hKC hblk (by decide)
          have hK28 : KT 28 w wS := KC.kt hKC hblk (by decide)
          refine WO_nil ?_
          refine thn_normal ?_
          refine W_ret ?_
          refine thn_ret ?_
          first | refine bodyQ_ret0 Hvac.results185 ?_ | refine bodyQ_end0 Hvac.results185 ?_
          first
          | (exfalso; omega)
          | (exact ⟨v, _, hRS2, (hI.settle hf hI.rw0 hvi (fun _ h => h) (Int.le_refl _) (by omega) (by first | (intro _; omega) | (intro h; cases h)) (by omega) hc).2, hRl.fin_eff hM hMI hf hK5 hK28 hoN (by decide) (by simp [yisj]) (by decide) (k := 1) (by decide) rfl rfl (by decide) rfl (by omega)⟩)
        · have hb13p := hb13.h; try simp only [al_ete, al_dfn, Bool.not_eq_true', Bool.not_eq_false', al_ne, Bool.not_not, al_nn] at hb13p
          refine W_skip ?_
          refine thn_normal ?_
          refine W_seq ?_
          have hjk : wv (m.argW f 0) < f.cb.length ∧ wv (m.argW f 0) < 512 := by first | (exfalso; omega) | exact hj1 (by omega) | exact hj2 (by omega) (by omega)
          refine W_region rfl ?_
          refine WO_loadA _ Hvac.isAgg61 Hvac.sizeOf61 rfl (Hb.h (by repeat (first | assumption | exact Hb.newY _ _ | refine Hb.alloc ?_ | refine Hb.drew ?_ | refine Hb.ext (by assumption) ?_ | exact Hb.setSameL (by first | omega | (simp only [size_alloc, size_setB, size_drew]; omega)) | exact Hb.setSame (by assumption) | refine Hb.set (by first | omega | (simp only [size_alloc, size_setB, size_drew]; omega)) ?_ ))) (by first | omega | assumption | rfl | decide | exact Nat.le_refl _ | (simp only [size_ic, Value.cells]; omega) | (simp; omega) | simp) (Xt.h (by first | assumption | exact Xt.whole rfl rfl | exact Xt.whole rfl (by assumption) | exact Xt.whole rfl (by simp only [size_ic, Value.cells]; omega) | exact ⟨rfl⟩)) ?_
          refine WO_call Hvac.call274 (by rfl) (Ret.mono (u64x_spec _ _ (hwdA _)) ?_)
          rintro _ w274_14 ⟨hE274_14, xq, rfl, hxq, hxqb⟩
          have hz274_14 := hE274_14.1
          try simp only [size_alloc, size_setB, size_drew] at hz274_14
          refine WO_p (PS_move_tuple rfl) ?_
          refine WO_p (PS_extract_int rfl rfl) ?_
          refine WO_p (PS_extract_bool rfl rfl) ?_
          refine WO_p (PS_assign_int rfl) ?_
          refine WO_p (PS_assign_bool rfl) ?_
          refine WO_nil ?_
          refine thn_normal ?_
          refine W_seq ?_
          refine W_seq ?_
          refine W_region rfl ?_
          refine WO_p (PS_move_int rfl) ?_
          refine WO_p (PS_geq rfl rfl) ?_
          refine WO_nil ?_
          refine thn_normal ?_
          refine W_if rfl (fun hb18 => ?_) (fun hb18 => ?_)
          · have hb18p := hb18.h; try simp only [al_ete, al_dfn, Bool.not_eq_true', Bool.not_eq_false', al_ne, Bool.not_not, al_nn] at hb18p
            omega --END
          · have hb18p := hb18.h; try simp only [al_ete, al_dfn, Bool.not_eq_true', Bool.not_eq_false', al_ne, Bool.not_not, al_nn] at hb18p
            refine W_skip ?_
            refine thn_normal ?_
            refine W_seq ?_
            refine W_region rfl ?_
            refine WO_p (PS_move_ptr rfl) ?_
            refine WO_p (PS_move_ptr rfl) ?_
            refine WO_p (PS_move_int rfl) ?_
            refine WO_p (PS_buildI (k := .u64) (zs := [0, 0, 0, 0]) (ps := []) (L := [0, 0, 0, 0]) Hvac.zeroValue61 Hvac.runUnderlying61 Hvac.sizeOf26 rfl rfl rfl rfl) ?_
            refine WO_call Hvac.call235 (by rfl) (Ret.mono (settle_ex C c v B m t f _ _ _ _ _ (MS.ext hM (by repeat (first | assumption | exact Ext.refl _ | refine Ext.alloc ?_ _ | refine Ext.drew ?_ | refine Ext.setB ?_ (by first | omega | (simp only [size_alloc, size_setB, size_drew]; omega)) _ | exact Ext.trans (by assumption) (by assumption) | refine Ext.trans ?_ (by assumption)))) hA (by omega) (by first | (intro _; omega) | (intro h; cases h)) Wd0 (by omega)) ?_)
            rintro _ wS ⟨hRS, hKS⟩
            have hKC := KC.pre (a := w) (by repeat (first | assumption | exact Ext.refl _ | refine Ext.alloc ?_ _ | refine Ext.drew ?_ | refine Ext.setB ?_ (by first | omega | (simp only [size_alloc, size_setB, size_drew]; omega)) _ | exact Ext.trans (by assumption) (by assumption) | refine Ext.trans ?_ (by assumption))) hKS
            obtain ⟨c8, B8, hM8, hS8⟩ := MRet.pre (w := w) (by repeat (first | assumption | exact Ext.refl _ | refine Ext.alloc ?_ _ | refine Ext.drew ?_ | refine Ext.setB ?_ (by first | omega | (simp only [size_alloc, size_setB, size_drew]; omega)) _ | exact Ext.trans (by assumption) (by assumption) | refine Ext.trans ?_ (by assumption))) hRS
            have hblk8 := hM8.vs.blk
            have hcs8 := hM8.sz
            have hf8 : (m.settle t f 1 false [0, 0, 0, 0] 0).frames[t]? = some { f with sp := f.sp - 1 + 0, pc := f.pc + 0 } := by show (m.frames.set t _)[t]? = _; rw [List.getElem?_set_self (lt_of_getElem? hf)]; rfl
            obtain ⟨_, _, hF8⟩ := hM8.openF hf8
            refine WO_nil ?_
            refine thn_normal ?_
            refine W_region rfl ?_
            refine WO_p (PS_move_ptr rfl) ?_
            refine WO_p (PS_move_int rfl) ?_
            refine WO_p (PS_conv_u16n Hvac.runUnderlying26 Hvac.runUnderlying42 rfl (by omega) (by omega)) ?_
            refine WO_p (PS_nilCheck rfl) ?_
            refine WO_p (PS_fieldAddr 4 Hvac.runUnderlying66 rfl Hvac.sizeOf42 rfl rfl) ?_
            refine WO_store1 Hvac.sizeOf42 rfl (v := (.int _ _)) rfl (Hb.h (by repeat (first | assumption | exact Hb.newY _ _ | refine Hb.alloc ?_ | refine Hb.drew ?_ | refine Hb.ext (by assumption) ?_ | exact Hb.setSameL (by first | omega | (simp only [size_alloc, size_setB, size_drew]; omega)) | exact Hb.setSame (by assumption) | refine Hb.set (by first | omega | (simp only [size_alloc, size_setB, size_drew]; omega)) ?_ ))) rfl (by first | omega | assumption | rfl | decide | exact Nat.le_refl _ | (simp only [size_ic, Value.cells]; omega) | (simp; omega) | simp) rfl ?_
            refine WO_nil ?_
            first | refine bodyQ_ret0 Hvac.results185 ?_ | refine bodyQ_end0 Hvac.results185 ?_
            first
            | (exfalso; omega)
            | ((obtain ⟨hM9, hS9⟩ := hM8.putF_pc hf8 xq (by omega)); (have hst := hI.set (v' := v) (f' := { f with sp := f.sp - 1 + 0, pc := xq }) (stk := m.stack) (ret' := m.ret) hf hI.rw0 hvi (fun _ h => h) (Int.le_refl _) hI.ti.rt rfl rfl rfl { hFk with sp := by show f.sp - 1 + 0 ≤ 64; have := hFk.sp; omega, pc := by show xq ≤ (f.cb.length : Int) + 33; omega }); (have e9 : ({ m.settle t f 1 false [0, 0, 0, 0] 0 with frames := (m.settle t f 1 false [0, 0, 0, 0] 0).frames.set t { f with sp := f.sp - 1 + 0, pc := xq } } : Mc) = { m with stack := m.stack, ret := m.ret, frames := m.frames.set t { f with sp := f.sp - 1 + 0, pc := xq } } := by unfold Mc.settle; simp [List.set_set]); (have hKf := KC.setC hKC (.cells (c8.setIfInBounds (1803 + t * 65 + 4) (.int .u16 xq)) 87 (0, 0))); exact ⟨v, { m with stack := m.stack, ret := m.ret, frames := m.frames.set t { f with sp := f.sp - 1 + 0, pc := xq } }, ⟨_, _, e9 ▸ hM9, hS8.trans (e9 ▸ hS9)⟩, Or.inl ⟨t, hst.1, Or.inl (by show gasTo (m.frames.set t _) (t + 1) < _; rw [hst.2]; omega)⟩, hRl.jump hM hMI hf (KC.kt hKf hblk (by decide)) (KC.kt hKf hblk (by decide)) (Or.inl hoN) (k := 1) (by rw [hoN]; decide) rfl (by rw [hy0]; omega) (by omega)⟩)
    · have hb8p := hb8.h; try simp only [al_ete, al_dfn, Bool.not_eq_true', Bool.not_eq_false', al_ne, Bool.not_not, al_nn] at hb8p
      refine W_seq ?_
      refine W_region rfl ?_
      refine WO_p (PS_eql rfl rfl) ?_
      refine WO_p (PS_assign_bool rfl) ?_
      refine WO_nil ?_
      refine thn_normal ?_
      refine W_if rfl (fun hb21 => ?_) (fun hb21 => ?_)
      · have hb21p := hb21.h; try simp only [al_ete, al_dfn, Bool.not_eq_true', Bool.not_eq_false', al_ne, Bool.not_not, al_nn] at hb21p
        have hin : (2 : Int) ≤ f.sp ∧ f.sp - 2 + 0 ≤ 64 := by have h := hk; rw [show o = 87 from by omega] at h; exact h
        have hoN : o = 87 := by omega
        refine W_region rfl ?_
        refine WO_p (PS_assign_int rfl) ?_
        refine WO_nil ?_
        refine inBlk_normal ?_
        refine thn_normal ?_
        refine W_seq ?_
        refine W_seq ?_
        refine W_region rfl ?_
        refine WO_p (PS_move_int rfl) ?_
        refine WO_p (PS_eql rfl rfl) ?_
        refine WO_p (PS_move_bool rfl) ?_
        refine WO_if (t := 27) rfl (fun hb23 => ?_) (fun hb23 => ?_)
        · have hb23p := hb23.h; try simp only [al_ete, al_dfn, Bool.not_eq_true', Bool.not_eq_false', al_ne, Bool.not_not, al_nn] at hb23p
          refine WO_guardF rfl rfl hb23.h ?_
          refine WO_guardF rfl rfl hb23.h ?_
          refine WO_p (PS_pickT rfl hb23.h rfl) ?_
          refine WO_nil ?_
          refine thn_normal ?_
          refine W_condT rfl rfl ?_
          refine W_seq ?_
          refine W_region rfl ?_
          refine WO_p (PS_move_ptr rfl) ?_
          refine WO_p (PS_move_ptr rfl) ?_
          refine WO_p (PS_move_int rfl) ?_
          refine WO_p (PS_buildI (k := .u64) (zs := [0, 0, 0, 0]) (ps := []) (L := [0, 0, 0, 0]) Hvac.zeroValue61 Hvac.runUnderlying61 Hvac.sizeOf26 rfl rfl rfl rfl) ?_
          refine WO_call Hvac.call235 (by rfl) (Ret.mono (settle_ex C c v B m t f _ _ _ _ _ (MS.ext hM (by repeat (first | assumption | exact Ext.refl _ | refine Ext.alloc ?_ _ | refine Ext.drew ?_ | refine Ext.setB ?_ (by first | omega | (simp only [size_alloc, size_setB, size_drew]; omega)) _ | exact Ext.trans (by assumption) (by assumption) | refine Ext.trans ?_ (by assumption)))) hA (by omega) (by first | (intro _; omega) | (intro h; cases h)) (by first | assumption | exact argW_wd hM.ty _ _ | exact Wd0 | exact flagW_wd _ | exact Wd1 | exact limb_wd (by omega)) (by omega)) ?_)
          rintro _ wS ⟨hRS, hKS⟩
          have hRS2 := MRet.pre (w := w) (by repeat (first | assumption | exact Ext.refl _ | refine Ext.alloc ?_ _ | refine Ext.drew ?_ | refine Ext.setB ?_ (by first | omega | (simp only [size_alloc, size_setB, size_drew]; omega)) _ | exact Ext.trans (by assumption) (by assumption) | refine Ext.trans ?_ (by assumption))) hRS
          have hKC := KC.pre (a := w) (by repeat (first | assumption | exact Ext.refl _ | refine Ext.alloc ?_ _ | refine Ext.drew ?_ | refine Ext.setB ?_ (by first | omega | (simp only [size_alloc, size_setB, size_drew]; omega)) _ | exact Ext.trans (by assumption) (by assumption) | refine Ext.trans ?_ (by assumption))) hKS
          have hK5 : KT 5 w wS := KC.kt hKC hblk (by decide)
          have hK28 : KT 28 w wS := KC.kt hKC hblk (by decide)
          refine WO_nil ?_
          refine thn_normal ?_
          refine W_ret ?_
          refine thn_ret ?_
          first | refine bodyQ_ret0 Hvac.results185 ?_ | refine bodyQ_end0 Hvac.results185 ?_
          first
          | (exfalso; omega)
          | (exact ⟨v, _, hRS2, (hI.settle hf hI.rw0 hvi (fun _ h => h) (Int.le_refl _) (by omega) (by first | (intro _; omega) | (intro h; cases h)) (by omega) hc).2, hRl.fin_eff hM hMI hf hK5 hK28 hoN (by decide) (by rintro (h | h | h); (rcases h with h | h; omega; (apply h.2; rw [hy1]; omega)); omega; omega) (by decide) (k := 2) (by decide) rfl rfl (by decide) rfl (by omega)⟩)
        · have hb23p := hb23.h; try simp only [al_ete, al_dfn, Bool.not_eq_true', Bool.not_eq_false', al_ne, Bool.not_not, al_nn] at hb23p
          have hq91 : o = 86 ∨ o = 87 := by first | omega | (exfalso; simp at hb23p)
          refine WO_guardT rfl rfl hb23.h ?_
          refine WO_loadA _ Hvac.isAgg61 Hvac.sizeOf61 rfl (Hb.h (by repeat (first | assumption | exact Hb.newY _ _ | refine Hb.alloc ?_ | refine Hb.drew ?_ | refine Hb.ext (by assumption) ?_ | exact Hb.setSameL (by first | omega | (simp only [size_alloc, size_setB, size_drew]; omega)) | exact Hb.setSame (by assumption) | refine Hb.set (by first | omega | (simp only [size_alloc, size_setB, size_drew]; omega)) ?_ ))) (by first | omega | assumption | rfl | decide | exact Nat.le_refl _ | (simp only [size_ic, Value.cells]; omega) | (simp; omega) | simp) (Xt.h (by first | assumption | exact Xt.whole rfl rfl | exact Xt.whole rfl (by assumption) | exact Xt.whole rfl (by simp only [size_ic, Value.cells]; omega) | exact ⟨rfl⟩)) ?_
          refine WO_guardT rfl rfl hb23.h ?_
          refine WO_call Hvac.call223 (by rfl) (Ret.mono (isz_spec _ _ (by first | exact hwdA _ | exact Wd1)) ?_)
          rintro _ w223_24 ⟨rfl, hE223_24⟩
          have hz223_24 := hE223_24.1
          try simp only [size_alloc, size_setB, size_drew] at hz223_24
          refine WO_p (PS_pickF rfl hb23.h rfl) ?_
          refine WO_nil ?_
          refine thn_normal ?_
          refine W_if rfl (fun hb26 => ?_) (fun hb26 => ?_)
          · have hb26p := hb26.h; try simp only [al_ete, al_dfn, Bool.not_eq_true', Bool.not_eq_false', al_ne, Bool.not_not, al_nn] at hb26p
            refine W_seq ?_
            refine W_region rfl ?_
            refine WO_p (PS_move_ptr rfl) ?_
            refine WO_p (PS_move_ptr rfl) ?_
            refine WO_p (PS_move_int rfl) ?_
            refine WO_p (PS_buildI (k := .u64) (zs := [0, 0, 0, 0]) (ps := []) (L := [0, 0, 0, 0]) Hvac.zeroValue61 Hvac.runUnderlying61 Hvac.sizeOf26 rfl rfl rfl rfl) ?_
            refine WO_call Hvac.call235 (by rfl) (Ret.mono (settle_ex C c v B m t f _ _ _ _ _ (MS.ext hM (by repeat (first | assumption | exact Ext.refl _ | refine Ext.alloc ?_ _ | refine Ext.drew ?_ | refine Ext.setB ?_ (by first | omega | (simp only [size_alloc, size_setB, size_drew]; omega)) _ | exact Ext.trans (by assumption) (by assumption) | refine Ext.trans ?_ (by assumption)))) hA (by omega) (by first | (intro _; omega) | (intro h; cases h)) (by first | assumption | exact argW_wd hM.ty _ _ | exact Wd0 | exact flagW_wd _ | exact Wd1 | exact limb_wd (by omega)) (by omega)) ?_)
            rintro _ wS ⟨hRS, hKS⟩
            have hRS2 := MRet.pre (w := w) (by repeat (first | assumption | exact Ext.refl _ | refine Ext.alloc ?_ _ | refine Ext.drew ?_ | refine Ext.setB ?_ (by first | omega | (simp only [size_alloc, size_setB, size_drew]; omega)) _ | exact Ext.trans (by assumption) (by assumption) | refine Ext.trans ?_ (by assumption))) hRS
            have hKC := KC.pre (a := w) (by repeat (first | assumption | exact Ext.refl _ | refine Ext.alloc ?_ _ | refine Ext.drew ?_ | refine Ext.setB ?_ (by first | omega | (simp only [size_alloc, size_setB, size_drew]; omega)) _ | exact Ext.trans (by assumption) (by assumption) | refine Ext.trans ?_ (by assumption))) hKS
            have hK5 : KT 5 w wS := KC.kt hKC hblk (by decide)
            have hK28 : KT 28 w wS := KC.kt hKC hblk (by decide)
            refine WO_nil ?_
            refine thn_normal ?_
            refine W_ret ?_
            refine thn_ret ?_
            first | refine bodyQ_ret0 Hvac.results185 ?_ | refine bodyQ_end0 Hvac.results185 ?_
            first
            | (exfalso; omega)
            | (exact ⟨v, _, hRS2, (hI.settle hf hI.rw0 hvi (fun _ h => h) (Int.le_refl _) (by omega) (by first | (intro _; omega) | (intro h; cases h)) (by omega) hc).2, hRl.fin_eff hM hMI hf hK5 hK28 hoN (by decide) (by rintro (h | h | h); (rcases h with h | h; omega; (apply h.2; rw [hy1]; omega)); omega; omega) (by decide) (k := 2) (by decide) rfl rfl (by decide) rfl (by omega)⟩)
          · have hb26p := hb26.h; try simp only [al_ete, al_dfn, Bool.not_eq_true', Bool.not_eq_false', al_ne, Bool.not_not, al_nn] at hb26p
            refine W_skip ?_
            refine thn_normal ?_
            refine W_seq ?_
            have hjk : wv (m.argW f 0) < f.cb.length ∧ wv (m.argW f 0) < 512 := by first | (exfalso; omega) | exact hj1 (by omega) | exact hj2 (by omega) (by omega)
            refine W_region rfl ?_
            refine WO_loadA _ Hvac.isAgg61 Hvac.sizeOf61 rfl (Hb.h (by repeat (first | assumption | exact Hb.newY _ _ | refine Hb.alloc ?_ | refine Hb.drew ?_ | refine Hb.ext (by assumption) ?_ | exact Hb.setSameL (by first | omega | (simp only [size_alloc, size_setB, size_drew]; omega)) | exact Hb.setSame (by assumption) | refine Hb.set (by first | omega | (simp only [size_alloc, size_setB, size_drew]; omega)) ?_ ))) (by first | omega | assumption | rfl | decide | exact Nat.le_refl _ | (simp only [size_ic, Value.cells]; omega) | (simp; omega) | simp) (Xt.h (by first | assumption | exact Xt.whole rfl rfl | exact Xt.whole rfl (by assumption) | exact Xt.whole rfl (by simp only [size_ic, Value.cells]; omega) | exact ⟨rfl⟩)) ?_
            refine WO_call Hvac.call274 (by rfl) (Ret.mono (u64x_spec _ _ (hwdA _)) ?_)
            rintro _ w274_27 ⟨hE274_27, xq, rfl, hxq, hxqb⟩
            have hz274_27 := hE274_27.1
            try simp only [size_alloc, size_setB, size_drew] at hz274_27
            refine WO_p (PS_move_tuple rfl) ?_
            refine WO_p (PS_extract_int rfl rfl) ?_
            refine WO_p (PS_extract_bool rfl rfl) ?_
            refine WO_p (PS_assign_int rfl) ?_
            refine WO_p (PS_assign_bool rfl) ?_
            refine WO_nil ?_
            refine thn_normal ?_
            refine W_seq ?_
            refine W_seq ?_
            refine W_region rfl ?_
            refine WO_p (PS_move_int rfl) ?_
            refine WO_p (PS_geq rfl rfl) ?_
            refine WO_nil ?_
            refine thn_normal ?_
            refine W_if rfl (fun hb31 => ?_) (fun hb31 => ?_)
            · have hb31p := hb31.h; try simp only [al_ete, al_dfn, Bool.not_eq_true', Bool.not_eq_false', al_ne, Bool.not_not, al_nn] at hb31p
              omega --END
            · have hb31p := hb31.h; try simp only [al_ete, al_dfn, Bool.not_eq_true', Bool.not_eq_false', al_ne, Bool.not_not, al_nn] at hb31p
              refine W_skip ?_
              refine thn_normal ?_
              refine W_seq ?_
              refine W_region rfl ?_
              refine WO_p (PS_move_ptr rfl) ?_
              refine WO_p (PS_move_ptr rfl) ?_
              refine WO_p (PS_move_int rfl) ?_
              refine WO_p (PS_buildI (k := .u64) (zs := [0, 0, 0, 0]) (ps := []) (L := [0, 0, 0, 0]) Hvac.zeroValue61 Hvac.runUnderlying61 Hvac.sizeOf26 rfl rfl rfl rfl) ?_
              refine WO_call Hvac.call235 (by rfl) (Ret.mono (settle_ex C c v B m t f _ _ _ _ _ (MS.ext hM (by repeat (first | assumption | exact Ext.refl _ | refine Ext.alloc ?_ _ | refine Ext.drew ?_ | refine Ext.setB ?_ (by first | omega | (simp only [size_alloc, size_setB, size_drew]; omega)) _ | exact Ext.trans (by assumption) (by assumption) | refine Ext.trans ?_ (by assumption)))) hA (by omega) (by first | (intro _; omega) | (intro h; cases h)) Wd0 (by omega)) ?_)
              rintro _ wS ⟨hRS, hKS⟩
              have hKC := KC.pre (a := w) (by repeat (first | assumption | exact Ext.refl _ | refine Ext.alloc ?_ _ | refine Ext.drew ?_ | refine Ext.setB ?_ (by first | omega | (simp only [size_alloc, size_setB, size_drew]; omega)) _ | exact Ext.trans (by assumption) (by assumption) | refine Ext.trans ?_ (by assumption))) hKS
              obtain ⟨c8, B8, hM8, hS8⟩ := MRet.pre (w := w) (by repeat (first | assumption | exact Ext.refl _ | refine Ext.alloc ?_ _ | refine Ext.drew ?_ | refine Ext.setB ?_ (by first | omega | (simp only [size_alloc, size_setB, size_drew]; omega)) _ | exact Ext.trans (by assumption) (by assumption) | refine Ext.trans ?_ (by assumption))) hRS
              have hblk8 := hM8.vs.blk
              have hcs8 := hM8.sz
              have hf8 : (m.settle t f 2 false [0, 0, 0, 0] 0).frames[t]? = some { f with sp := f.sp - 2 + 0, pc := f.pc + 0 } := by show (m.frames.set t _)[t]? = _; rw [List.getElem?_set_self (lt_of_getElem? hf)]; rfl
              obtain ⟨_, _, hF8⟩ := hM8.openF hf8
              refine WO_nil ?_
              refine thn_normal ?_
              refine W_region rfl ?_
              refine WO_p (PS_move_ptr rfl) ?_
              refine WO_p (PS_move_int rfl) ?_
              refine WO_p (PS_conv_u16n Hvac.runUnderlying26 Hvac.runUnderlying42 rfl (by omega) (by omega)) ?_
              refine WO_p (PS_nilCheck rfl) ?_
              refine WO_p (PS_fieldAddr 4 Hvac.runUnderlying66 rfl Hvac.sizeOf42 rfl rfl) ?_
              refine WO_store1 Hvac.sizeOf42 rfl (v := (.int _ _)) rfl (Hb.h (by repeat (first | assumption | exact Hb.newY _ _ | refine Hb.alloc ?_ | refine Hb.drew ?_ | refine Hb.ext (by assumption) ?_ | exact Hb.setSameL (by first | omega | (simp only [size_alloc, size_setB, size_drew]; omega)) | exact Hb.setSame (by assumption) | refine Hb.set (by first | omega | (simp only [size_alloc, size_setB, size_drew]; omega)) ?_ ))) rfl (by first | omega | assumption | rfl | decide | exact Nat.le_refl _ | (simp only [size_ic, Value.cells]; omega) | (simp; omega) | simp) rfl ?_
              refine WO_nil ?_
              first | refine bodyQ_ret0 Hvac.results185 ?_ | refine bodyQ_end0 Hvac.results185 ?_
              first
              | (exfalso; omega)
              | ((obtain ⟨hM9, hS9⟩ := hM8.putF_pc hf8 xq (by omega)); (have hst := hI.set (v' := v) (f' := { f with sp := f.sp - 2 + 0, pc := xq }) (stk := m.stack) (ret' := m.ret) hf hI.rw0 hvi (fun _ h => h) (Int.le_refl _) hI.ti.rt rfl rfl rfl { hFk with sp := by show f.sp - 2 + 0 ≤ 64; have := hFk.sp; omega, pc := by show xq ≤ (f.cb.length : Int) + 33; omega }); (have e9 : ({ m.settle t f 2 false [0, 0, 0, 0] 0 with frames := (m.settle t f 2 false [0, 0, 0, 0] 0).frames.set t { f with sp := f.sp - 2 + 0, pc := xq } } : Mc) = { m with stack := m.stack, ret := m.ret, frames := m.frames.set t { f with sp := f.sp - 2 + 0, pc := xq } } := by unfold Mc.settle; simp [List.set_set]); (have hKf := KC.setC hKC (.cells (c8.setIfInBounds (1803 + t * 65 + 4) (.int .u16 xq)) 87 (0, 0))); exact ⟨v, { m with stack := m.stack, ret := m.ret, frames := m.frames.set t { f with sp := f.sp - 2 + 0, pc := xq } }, ⟨_, _, e9 ▸ hM9, hS8.trans (e9 ▸ hS9)⟩, Or.inl ⟨t, hst.1, Or.inl (by show gasTo (m.frames.set t _) (t + 1) < _; rw [hst.2]; omega)⟩, hRl.jump hM hMI hf (KC.kt hKf hblk (by decide)) (KC.kt hKf hblk (by decide)) (Or.inr ⟨hoN, by rw [hy1]; omega⟩) (k := 2) (by rw [hoN]; decide) rfl (by rw [hy0]; omega) (by omega)⟩)
      · have hb21p := hb21.h; try simp only [al_ete, al_dfn, Bool.not_eq_true', Bool.not_eq_false', al_ne, Bool.not_not, al_nn] at hb21p
        have hoN : o = 91 := by omega
        have hin : (0 : Int) ≤ f.sp := by omega
        refine W_skip ?_
        refine inBlk_normal ?_
        refine thn_normal ?_
        refine W_seq ?_
        refine W_seq ?_
        refine W_region rfl ?_
        refine WO_p (PS_move_int rfl) ?_
        refine WO_p (PS_eql rfl rfl) ?_
        refine WO_p (PS_move_bool rfl) ?_
        refine WO_if (t := 27) rfl (fun hb34 => ?_) (fun hb34 => ?_)
        · have hb34p := hb34.h; try simp only [al_ete, al_dfn, Bool.not_eq_true', Bool.not_eq_false', al_ne, Bool.not_not, al_nn] at hb34p
          refine WO_guardF rfl rfl hb34.h ?_
          refine WO_guardF rfl rfl hb34.h ?_
          refine WO_p (PS_pickT rfl hb34.h rfl) ?_
          refine WO_nil ?_
          refine thn_normal ?_
          refine W_condT rfl rfl ?_
          refine W_seq ?_
          refine W_region rfl ?_
          refine WO_p (PS_move_ptr rfl) ?_
          refine WO_p (PS_move_ptr rfl) ?_
          refine WO_p (PS_move_int rfl) ?_
          refine WO_p (PS_buildI (k := .u64) (zs := [0, 0, 0, 0]) (ps := []) (L := [0, 0, 0, 0]) Hvac.zeroValue61 Hvac.runUnderlying61 Hvac.sizeOf26 rfl rfl rfl rfl) ?_
          refine WO_call Hvac.call235 (by rfl) (Ret.mono (settle_ex C c v B m t f _ _ _ _ _ (MS.ext hM (by repeat (first | assumption | exact Ext.refl _ | refine Ext.alloc ?_ _ | refine Ext.drew ?_ | refine Ext.setB ?_ (by first | omega | (simp only [size_alloc, size_setB, size_drew]; omega)) _ | exact Ext.trans (by assumption) (by assumption) | refine Ext.trans ?_ (by assumption)))) hA (by omega) (by first | (intro _; omega) | (intro h; cases h)) (by first | assumption | exact argW_wd hM.ty _ _ | exact Wd0 | exact flagW_wd _ | exact Wd1 | exact limb_wd (by omega)) (by omega)) ?_)
          rintro _ wS ⟨hRS, hKS⟩
          have hRS2 := MRet.pre (w := w) (by repeat (first | assumption | exact Ext.refl _ | refine Ext.alloc ?_ _ | refine Ext.drew ?_ | refine Ext.setB ?_ (by first | omega | (simp only [size_alloc, size_setB, size_drew]; omega)) _ | exact Ext.trans (by assumption) (by assumption) | refine Ext.trans ?_ (by assumption))) hRS
          have hKC := KC.pre (a := w) (by repeat (first | assumption | exact Ext.refl _ | refine Ext.alloc ?_ _ | refine Ext.drew ?_ | refine Ext.setB ?_ (by first | omega | (simp only [size_alloc, size_setB, size_drew]; omega)) _ | exact Ext.trans (by assumption) (by assumption) | refine Ext.trans ?_ (by assumption))) hKS
          have hK5 : KT 5 w wS := KC.kt hKC hblk (by decide)
          have hK28 : KT 28 w wS := KC.kt hKC hblk (by decide)
          refine WO_nil ?_
          refine thn_normal ?_
          refine W_ret ?_
          refine thn_ret ?_
          first | refine bodyQ_ret0 Hvac.results185 ?_ | refine bodyQ_end0 Hvac.results185 ?_
          first
          | (exfalso; omega)
          | (exact ⟨v, _, hRS2, (hI.settle hf hI.rw0 hvi (fun _ h => h) (Int.le_refl _) (by omega) (by first | (intro _; omega) | (intro h; cases h)) (by omega) hc).2, hRl.fin_eff hM hMI hf hK5 hK28 hoN (by decide) (by simp [yisj]) (by decide) (k := 0) (by decide) rfl rfl (by decide) rfl (by omega)⟩)
        · have hb34p := hb34.h; try simp only [al_ete, al_dfn, Bool.not_eq_true', Bool.not_eq_false', al_ne, Bool.not_not, al_nn] at hb34p
          have hq91 : o = 86 ∨ o = 87 := by first | omega | (exfalso; simp at hb34p)
          refine WO_guardT rfl rfl hb34.h ?_
          refine WO_loadA _ Hvac.isAgg61 Hvac.sizeOf61 rfl (Hb.h (by repeat (first | assumption | exact Hb.newY _ _ | refine Hb.alloc ?_ | refine Hb.drew ?_ | refine Hb.ext (by assumption) ?_ | exact Hb.setSameL (by first | omega | (simp only [size_alloc, size_setB, size_drew]; omega)) | exact Hb.setSame (by assumption) | refine Hb.set (by first | omega | (simp only [size_alloc, size_setB, size_drew]; omega)) ?_ ))) (by first | omega | assumption | rfl | decide | exact Nat.le_refl _ | (simp only [size_ic, Value.cells]; omega) | (simp; omega) | simp) (Xt.h (by first | assumption | exact Xt.whole rfl rfl | exact Xt.whole rfl (by assumption) | exact Xt.whole rfl (by simp only [size_ic, Value.cells]; omega) | exact ⟨rfl⟩)) ?_
          refine WO_guardT rfl rfl hb34.h ?_
          refine WO_call Hvac.call223 (by rfl) (Ret.mono (isz_spec _ _ (by first | exact hwdA _ | exact Wd1)) ?_)
          rintro _ w223_35 ⟨rfl, hE223_35⟩
          have hz223_35 := hE223_35.1
          try simp only [size_alloc, size_setB, size_drew] at hz223_35
          refine WO_p (PS_pickF rfl hb34.h rfl) ?_
          refine WO_nil ?_
          refine thn_normal ?_
          refine W_if rfl (fun hb37 => ?_) (fun hb37 => ?_)
          · have hb37p := hb37.h; try simp only [al_ete, al_dfn, Bool.not_eq_true', Bool.not_eq_false', al_ne, Bool.not_not, al_nn] at hb37p
            refine W_seq ?_
            refine W_region rfl ?_
            refine WO_p (PS_move_ptr rfl) ?_
            refine WO_p (PS_move_ptr rfl) ?_
            refine WO_p (PS_move_int rfl) ?_
            refine WO_p (PS_buildI (k := .u64) (zs := [0, 0, 0, 0]) (ps := []) (L := [0, 0, 0, 0]) Hvac.zeroValue61 Hvac.runUnderlying61 Hvac.sizeOf26 rfl rfl rfl rfl) ?_
            refine WO_call Hvac.call235 (by rfl) (Ret.mono (settle_ex C c v B m t f _ _ _ _ _ (MS.ext hM (by repeat (first | assumption | exact Ext.refl _ | refine Ext.alloc ?_ _ | refine Ext.drew ?_ | refine Ext.setB ?_ (by first | omega | (simp only [size_alloc, size_setB, size_drew]; omega)) _ | exact Ext.trans (by assumption) (by assumption) | refine Ext.trans ?_ (by assumption)))) hA (by omega) (by first | (intro _; omega) | (intro h; cases h)) (by first | assumption | exact argW_wd hM.ty _ _ | exact Wd0 | exact flagW_wd _ | exact Wd1 | exact limb_wd (by omega)) (by omega)) ?_)
            rintro _ wS ⟨hRS, hKS⟩
            have hRS2 := MRet.pre (w := w) (by repeat (first | assumption | exact Ext.refl _ | refine Ext.alloc ?_ _ | refine Ext.drew ?_ | refine Ext.setB ?_ (by first | omega | (simp only [size_alloc, size_setB, size_drew]; omega)) _ | exact Ext.trans (by assumption) (by assumption) | refine Ext.trans ?_ (by assumption))) hRS
            have hKC := KC.pre (a := w) (by repeat (first | assumption | exact Ext.refl _ | refine Ext.alloc ?_ _ | refine Ext.drew ?_ | refine Ext.setB ?_ (by first | omega | (simp only [size_alloc, size_setB, size_drew]; omega)) _ | exact Ext.trans (by assumption) (by assumption) | refine Ext.trans ?_ (by assumption))) hKS
            have hK5 : KT 5 w wS := KC.kt hKC hblk (by decide)
            have hK28 : KT 28 w wS := KC.kt hKC hblk (by decide)
            refine WO_nil ?_
            refine thn_normal ?_
            refine W_ret ?_
            refine thn_ret ?_
            first | refine bodyQ_ret0 Hvac.results185 ?_ | refine bodyQ_end0 Hvac.results185 ?_
            first
            | (exfalso; omega)
            | (exact ⟨v, _, hRS2, (hI.settle hf hI.rw0 hvi (fun _ h => h) (Int.le_refl _) (by omega) (by first | (intro _; omega) | (intro h; cases h)) (by omega) hc).2, hRl.fin_eff hM hMI hf hK5 hK28 hoN (by decide) (by simp [yisj]) (by decide) (k := 0) (by decide) rfl rfl (by decide) rfl (by omega)⟩)
          · have hb37p := hb37.h; try simp only [al_ete, al_dfn, Bool.not_eq_true', Bool.not_eq_false', al_ne, Bool.not_not, al_nn] at hb37p
            refine W_skip ?_
            refine thn_normal ?_
            refine W_seq ?_
            have hjk : wv (m.argW f 0) < f.cb.length ∧ wv (m.argW f 0) < 512 := by first | (exfalso; omega) | exact hj1 (by omega) | exact hj2 (by omega) (by omega)
            refine W_region rfl ?_
            refine WO_loadA _ Hvac.isAgg61 Hvac.sizeOf61 rfl (Hb.h (by repeat (first | assumption | exact Hb.newY _ _ | refine Hb.alloc ?_ | refine Hb.drew ?_ | refine Hb.ext (by assumption) ?_ | exact Hb.setSameL (by first | omega | (simp only [size_alloc, size_setB, size_drew]; omega)) | exact Hb.setSame (by assumption) | refine Hb.set (by first | omega | (simp only [size_alloc, size_setB, size_drew]; omega)) ?_ ))) (by first | omega | assumption | rfl | decide | exact Nat.le_refl _ | (simp only [size_ic, Value.cells]; omega) | (simp; omega) | simp) (Xt.h (by first | assumption | exact Xt.whole rfl rfl | exact Xt.whole rfl (by assumption) | exact Xt.whole rfl (by simp only [size_ic, Value.cells]; omega) | exact ⟨rfl⟩)) ?_
            refine WO_call Hvac.call274 (by rfl) (Ret.mono (u64x_spec _ _ (hwdA _)) ?_)
            rintro _ w274_38 ⟨hE274_38, xq, rfl, hxq, hxqb⟩
            have hz274_38 := hE274_38.1
            try simp only [size_alloc, size_setB, size_drew] at hz274_38
            refine WO_p (PS_move_tuple rfl) ?_
            refine WO_p (PS_extract_int rfl rfl) ?_
            refine WO_p (PS_extract_bool rfl rfl) ?_
            refine WO_p (PS_assign_int rfl) ?_
            refine WO_p (PS_assign_bool rfl) ?_
            refine WO_nil ?_
            refine thn_normal ?_
            refine W_seq ?_
            refine W_seq ?_
            refine W_region rfl ?_
            refine WO_p (PS_move_int rfl) ?_
            refine WO_p (PS_geq rfl rfl) ?_
            refine WO_nil ?_
            refine thn_normal ?_
            refine W_if rfl (fun hb42 => ?_) (fun hb42 => ?_)
            · have hb42p := hb42.h; try simp only [al_ete, al_dfn, Bool.not_eq_true', Bool.not_eq_false', al_ne, Bool.not_not, al_nn] at hb42p
              omega --END
            · have hb42p := hb42.h; try simp only [al_ete, al_dfn, Bool.not_eq_true', Bool.not_eq_false', al_ne, Bool.not_not, al_nn] at hb42p
              refine W_skip ?_
              refine thn_normal ?_
              refine W_seq ?_
              refine W_region rfl ?_
              refine WO_p (PS_move_ptr rfl) ?_
              refine WO_p (PS_move_ptr rfl) ?_
              refine WO_p (PS_move_int rfl) ?_
              refine WO_p (PS_buildI (k := .u64) (zs := [0, 0, 0, 0]) (ps := []) (L := [0, 0, 0, 0]) Hvac.zeroValue61 Hvac.runUnderlying61 Hvac.sizeOf26 rfl rfl rfl rfl) ?_
              refine WO_call Hvac.call235 (by rfl) (Ret.mono (settle_ex C c v B m t f _ _ _ _ _ (MS.ext hM (by repeat (first | assumption | exact Ext.refl _ | refine Ext.alloc ?_ _ | refine Ext.drew ?_ | refine Ext.setB ?_ (by first | omega | (simp only [size_alloc, size_setB, size_drew]; omega)) _ | exact Ext.trans (by assumption) (by assumption) | refine Ext.trans ?_ (by assumption)))) hA (by omega) (by first | (intro _; omega) | (intro h; cases h)) Wd0 (by omega)) ?_)
              rintro _ wS ⟨hRS, hKS⟩
              have hKC := KC.pre (a := w) (by repeat (first | assumption | exact Ext.refl _ | refine Ext.alloc ?_ _ | refine Ext.drew ?_ | refine Ext.setB ?_ (by first | omega | (simp only [size_alloc, size_setB, size_drew]; omega)) _ | exact Ext.trans (by assumption) (by assumption) | refine Ext.trans ?_ (by assumption))) hKS
              obtain ⟨c8, B8, hM8, hS8⟩ := MRet.pre (w := w) (by repeat (first | assumption | exact Ext.refl _ | refine Ext.alloc ?_ _ | refine Ext.drew ?_ | refine Ext.setB ?_ (by first | omega | (simp only [size_alloc, size_setB, size_drew]; omega)) _ | exact Ext.trans (by assumption) (by assumption) | refine Ext.trans ?_ (by assumption))) hRS
              have hblk8 := hM8.vs.blk
              have hcs8 := hM8.sz
              have hf8 : (m.settle t f 0 false [0, 0, 0, 0] 0).frames[t]? = some { f with sp := f.sp - 0 + 0, pc := f.pc + 0 } := by show (m.frames.set t _)[t]? = _; rw [List.getElem?_set_self (lt_of_getElem? hf)]; rfl
              obtain ⟨_, _, hF8⟩ := hM8.openF hf8
              refine WO_nil ?_
              refine thn_normal ?_
              refine W_region rfl ?_
              refine WO_p (PS_move_ptr rfl) ?_
              refine WO_p (PS_move_int rfl) ?_
              refine WO_p (PS_conv_u16n Hvac.runUnderlying26 Hvac.runUnderlying42 rfl (by omega) (by omega)) ?_
              refine WO_p (PS_nilCheck rfl) ?_
              refine WO_p (PS_fieldAddr 4 Hvac.runUnderlying66 rfl Hvac.sizeOf42 rfl rfl) ?_
              refine WO_store1 Hvac.sizeOf42 rfl (v := (.int _ _)) rfl (Hb.h (by repeat (first | assumption | exact Hb.newY _ _ | refine Hb.alloc ?_ | refine Hb.drew ?_ | refine Hb.ext (by assumption) ?_ | exact Hb.setSameL (by first | omega | (simp only [size_alloc, size_setB, size_drew]; omega)) | exact Hb.setSame (by assumption) | refine Hb.set (by first | omega | (simp only [size_alloc, size_setB, size_drew]; omega)) ?_ ))) rfl (by first | omega | assumption | rfl | decide | exact Nat.le_refl _ | (simp only [size_ic, Value.cells]; omega) | (simp; omega) | simp) rfl ?_
              refine WO_nil ?_
              first | refine bodyQ_ret0 Hvac.results185 ?_ | refine bodyQ_end0 Hvac.results185 ?_
              first
              | (exfalso; omega)
              | ((obtain ⟨hM9, hS9⟩ := hM8.putF_pc hf8 xq (by omega)); (have hst := hI.set (v' := v) (f' := { f with sp := f.sp - 0 + 0, pc := xq }) (stk := m.stack) (ret' := m.ret) hf hI.rw0 hvi (fun _ h => h) (Int.le_refl _) hI.ti.rt rfl rfl rfl { hFk with sp := by show f.sp - 0 + 0 ≤ 64; have := hFk.sp; omega, pc := by show xq ≤ (f.cb.length : Int) + 33; omega }); (have e9 : ({ m.settle t f 0 false [0, 0, 0, 0] 0 with frames := (m.settle t f 0 false [0, 0, 0, 0] 0).frames.set t { f with sp := f.sp - 0 + 0, pc := xq } } : Mc) = { m with stack := m.stack, ret := m.ret, frames := m.frames.set t { f with sp := f.sp - 0 + 0, pc := xq } } := by unfold Mc.settle; simp [List.set_set]); (have hKf := KC.setC hKC (.cells (c8.setIfInBounds (1803 + t * 65 + 4) (.int .u16 xq)) 87 (0, 0))); exact ⟨v, { m with stack := m.stack, ret := m.ret, frames := m.frames.set t { f with sp := f.sp - 0 + 0, pc := xq } }, ⟨_, _, e9 ▸ hM9, hS8.trans (e9 ▸ hS9)⟩, Or.inl ⟨t, hst.1, Or.inl (by show gasTo (m.frames.set t _) (t + 1) < _; rw [hst.2]; omega)⟩, hRl.jump hM hMI hf (KC.kt hKf hblk (by decide)) (KC.kt hKf hblk (by decide)) (Or.inl (by omega)) (k := 0) (by rw [hoN]; decide) rfl (by rw [hy0]; omega) (by omega)⟩)

set_option maxRecDepth 10000 in
set_option maxHeartbeats 4000000 in
theorem opSwap_ex [Om] (scan : List Int → List Int) (C : Nat) (c : Array Value) (v : V) (B : VB) (m : Mc) (t : Nat) (f : Fm) (o c' S : Int) (w : World) (hM : MS w C c v B m) (hop : Mc.opc f = o) (hAd : Adm scan v m t f o (infoW o).2.2.1 c' S) (hk : (infoW o).1 ≤ f.sp ∧ f.sp - (infoW o).1 + (infoW o).2.1 ≤ 64) (hc : 0 < c') (y : PSt) (rest : List PF) (g : PF) (hRl : Rel w v m (y, rest ++ [g])) (ho : 144 ≤ o ∧ o ≤ 159) : Ret Hvac.prog 292 #[.pointer (some ⟨C, 0, none⟩)] w fun _ w' => ∃ v' m', MRet w C B m w' v' m' ∧ OpP scan m t c' S v' m' ∧ Rel w' v' m' (yplain khash y rest g o) := by
  have hI := hAd.ri
  have hf := hAd.fr
  have hR := hI.run hf
  have hA := hR.fa
  have hblk := hM.vs.blk
  have hCl := hblk.lt
  have hcs := hM.sz
  have hc_s := hM.rep.s
  obtain ⟨ht7, hfty, hF⟩ := hM.openF hf
  have hFk := hI.fr t f (Nat.le_refl _) hf
  have hvi := hI.ti.vi
  have hcbl := (hM.code f (List.mem_of_getElem? hf)).1.len
  have hcb5 := hFk.cl
  have hcl : f.code.2.1 ≤ 100000 := by omega
  have hpct := hfty.pc
  have hspt := hfty.sp
  have hwdA := fun i => argW_wd hM.ty f i
  have hMI := hI.mi
  have hAr := fun i => hRl.arg hM hMI hf i
  have htl := hRl.len hMI
  have hy0 : yarg g 0 = wn (m.argW f 0) := hAr 0
  have hy1 : yarg g 1 = wn (m.argW f 1) := hAr 1
  have hy2 : yarg g 2 = wn (m.argW f 2) := hAr 2
  have hy3 : yarg g 3 = wn (m.argW f 3) := hAr 3
  have hy4 : yarg g 4 = wn (m.argW f 4) := hAr 4
  have hy5 : yarg g 5 = wn (m.argW f 5) := hAr 5
  have hy6 : yarg g 6 = wn (m.argW f 6) := hAr 6
  have hpcl : f.pc < (f.cb.length : Int) := opc_pc (by rw [hop]; omega)
  
  have e : infoW o = (o - 144 + 2, o - 144 + 2, 3, true) := by unfold infoW; rw [if_neg (by omega), if_neg (by omega), if_pos (by omega)]
  have hin := hk
  rw [e] at hin
  replace hin : o - 144 + 2 ≤ f.sp ∧ f.sp - (o - 144 + 2) + (o - 144 + 2) ≤ 64 := hin
  have hsb := hA.sb
  have ht6 := hA.t6
  have hf_sb := hF.sbase
  have hf_sp := hF.sp
  have hstl := hM.ty.stack.1
  obtain ⟨x1, hx1⟩ : ∃ x, m.stack[(f.sbase + f.sp - 1).toNat]? = some x := ⟨_, List.getElem?_eq_getElem (by omega)⟩
  obtain ⟨x2, hx2⟩ : ∃ x, m.stack[(f.sbase + f.sp - 1 - (o - 144) - 1).toNat]? = some x := ⟨_, List.getElem?_eq_getElem (by omega)⟩
  obtain ⟨hxt1, hwd1, _⟩ := hM.openW hx1
  obtain ⟨hxt2, hwd2, _⟩ := hM.openW hx2
  have hl1 := hwd1.1
  have hl2 := hwd2.1
  
  refine Ret_of_W Hvac.func292 rfl rfl ?_
  refine W_seq ?_
  refine W_region rfl ?_
  refine WO_p (PS_move_ptr rfl) ?_
  refine WO_call Hvac.call95 (by rfl) (Ret.mono (running_spec C c v B m t f _ (MS.ext hM (by repeat (first | assumption | exact Ext.refl _ | refine Ext.alloc ?_ _ | refine Ext.drew ?_ | refine Ext.setB ?_ (by first | omega | (simp only [size_alloc, size_setB, size_drew]; omega)) _ | exact Ext.trans (by assumption) (by assumption) | refine Ext.trans ?_ (by assumption)))) hR) ?_)
  rintro _ w95_0 ⟨hE95_0, rfl⟩
  have hz95_0 := hE95_0.1
  try simp only [size_alloc, size_setB, size_drew] at hz95_0
  refine WO_p (PS_assign_ptr rfl) ?_
  refine WO_nil ?_
  refine thn_normal ?_
  refine W_seq ?_
  refine W_seq ?_
  refine W_region rfl ?_
  refine WO_p (PS_move_ptr rfl) ?_
  refine WO_p (PS_eqlnil Hvac.underlying187 rfl) ?_
  refine WO_nil ?_
  refine thn_normal ?_
  refine W_if rfl (fun hb3 => ?_) (fun hb3 => ?_)
  · have hb3p := hb3.h; try simp only [al_ete, al_dfn, Bool.not_eq_true', Bool.not_eq_false', al_ne, Bool.not_not, al_nn] at hb3p
    simp at hb3p --END
  · have hb3p := hb3.h; try simp only [al_ete, al_dfn, Bool.not_eq_true', Bool.not_eq_false', al_ne, Bool.not_not, al_nn] at hb3p
    refine W_skip ?_
    refine thn_normal ?_
    refine W_seq ?_
    refine W_drawE [false, false, false, false, false, false, false, false, false, false, false, false, false] hmix (by kernel_rfl) rfl ?_
    refine WH_p (PS_move_ptr rfl) rfl ?_
    refine WH_p (PS_nilCheck rfl) rfl ?_
    refine WH_p (PS_fieldAddr 5 Hvac.runUnderlying66 rfl Hvac.sizeOf42 rfl rfl) rfl ?_
    refine WH_load (.int _ _) Hvac.isAgg42 rfl (Hb.h (by repeat (first | assumption | exact Hb.newY _ _ | refine Hb.alloc ?_ | refine Hb.drew ?_ | refine Hb.ext (by assumption) ?_ | exact Hb.setSameL (by first | omega | (simp only [size_alloc, size_setB, size_drew]; omega)) | exact Hb.setSame (by assumption) | refine Hb.set (by first | omega | (simp only [size_alloc, size_setB, size_drew]; omega)) ?_ ))) (Ce.h (by first | assumption | exact ⟨rfl⟩)) ?_
    refine WH_p (PS_conv_i64n Hvac.runUnderlying42 Hvac.runUnderlying3 rfl (by omega) (by omega)) rfl ?_
    refine WH_p (PS_move_ptr rfl) rfl ?_
    refine WH_p (PS_nilCheck rfl) rfl ?_
    refine WH_p (PS_fieldAddr 6 Hvac.runUnderlying66 rfl Hvac.sizeOf42 rfl rfl) rfl ?_
    refine WH_load (.int _ _) Hvac.isAgg42 rfl (Hb.h (by repeat (first | assumption | exact Hb.newY _ _ | refine Hb.alloc ?_ | refine Hb.drew ?_ | refine Hb.ext (by assumption) ?_ | exact Hb.setSameL (by first | omega | (simp only [size_alloc, size_setB, size_drew]; omega)) | exact Hb.setSame (by assumption) | refine Hb.set (by first | omega | (simp only [size_alloc, size_setB, size_drew]; omega)) ?_ ))) (Ce.h (by first | assumption | exact ⟨rfl⟩)) ?_
    refine WH_p (PS_conv_i64n Hvac.runUnderlying42 Hvac.runUnderlying3 rfl (by omega) (by omega)) rfl ?_
    refine WH_p (PS_add_i64n rfl rfl (by omega) (by omega)) rfl ?_
    refine WH_p (PS_sub_i64n rfl rfl (by omega) (by omega)) rfl ?_
    refine WH_p (PS_assign_int rfl) rfl ?_
    refine WH_nil ?_
    refine thn_normal ?_
    refine W_seq ?_
    refine W_region rfl ?_
    refine WO_p (PS_move_int rfl) ?_
    refine WO_p (PS_move_ptr rfl) ?_
    refine WO_call Hvac.call104 (by rfl) (Ret.mono (opcode_spec C c v B m t f _ (MS.ext hM (by repeat (first | assumption | exact Ext.refl _ | refine Ext.alloc ?_ _ | refine Ext.drew ?_ | refine Ext.setB ?_ (by first | omega | (simp only [size_alloc, size_setB, size_drew]; omega)) _ | exact Ext.trans (by assumption) (by assumption) | refine Ext.trans ?_ (by assumption)))) hR hcl) ?_)
    rintro _ w104_3 ⟨hE104_3, rfl⟩
    have hz104_3 := hE104_3.1
    try simp only [size_alloc, size_setB, size_drew] at hz104_3
    try rw [hop]
    refine WO_p (PS_sub_u8n rfl rfl (by omega) (by omega)) ?_
    refine WO_p (PS_conv_i64n Hvac.runUnderlying5 Hvac.runUnderlying3 rfl (by omega) (by omega)) ?_
    refine WO_p (PS_sub_i64n rfl rfl (by omega) (by omega)) ?_
    refine WO_p (PS_sub_i64n rfl rfl (by omega) (by omega)) ?_
    refine WO_p (PS_assign_int rfl) ?_
    refine WO_nil ?_
    refine thn_normal ?_
    refine W_seq ?_
    refine W_seq ?_
    refine W_region rfl ?_
    refine WO_p (PS_move_int rfl) ?_
    refine WO_p (PS_lss rfl rfl) ?_
    refine WO_p (PS_move_bool rfl) ?_
    refine WO_if (t := 31) rfl (fun hb6 => ?_) (fun hb6 => ?_)
    · have hb6p := hb6.h; try simp only [al_ete, al_dfn, Bool.not_eq_true', Bool.not_eq_false', al_ne, Bool.not_not, al_nn] at hb6p
      omega --END
    · have hb6p := hb6.h; try simp only [al_ete, al_dfn, Bool.not_eq_true', Bool.not_eq_false', al_ne, Bool.not_not, al_nn] at hb6p
      refine WO_guardT rfl rfl hb6.h ?_
      refine WO_p (PS_move_int rfl) ?_
      refine WO_guardT rfl rfl hb6.h ?_
      refine WO_p (PS_geq rfl rfl) ?_
      refine WO_p (PS_pickF rfl hb6.h rfl) ?_
      refine WO_nil ?_
      refine thn_normal ?_
      refine W_if rfl (fun hb8 => ?_) (fun hb8 => ?_)
      · have hb8p := hb8.h; try simp only [al_ete, al_dfn, Bool.not_eq_true', Bool.not_eq_false', al_ne, Bool.not_not, al_nn] at hb8p
        omega --END
      · have hb8p := hb8.h; try simp only [al_ete, al_dfn, Bool.not_eq_true', Bool.not_eq_false', al_ne, Bool.not_not, al_nn] at hb8p
        refine W_skip ?_
        refine thn_normal ?_
        refine W_seq ?_
        refine W_region rfl ?_
        refine WO_p (PS_move_ptr rfl) ?_
        refine WO_p (PS_move_int rfl) ?_
        refine WO_p (PS_nilCheck rfl) ?_
        refine WO_p (PS_fieldAddr 11 Hvac.runUnderlying70 rfl Hvac.sizeOf62 rfl rfl) ?_
        refine WO_p (PS_indexA Hvac.runUnderlying62 Hvac.sizeOf61 rfl rfl (by omega) (by omega)) ?_
        refine WO_loadA _ Hvac.isAgg61 Hvac.sizeOf61 rfl (Hb.h (by repeat (first | assumption | exact Hb.newY _ _ | refine Hb.alloc ?_ | refine Hb.drew ?_ | refine Hb.ext (by assumption) ?_ | exact Hb.setSameL (by first | omega | (simp only [size_alloc, size_setB, size_drew]; omega)) | exact Hb.setSame (by assumption) | refine Hb.set (by first | omega | (simp only [size_alloc, size_setB, size_drew]; omega)) ?_ ))) (by first | omega | assumption | rfl | decide | exact Nat.le_refl _ | (simp only [size_ic, Value.cells]; omega) | (simp; omega) | simp) (Xt.h (by first | assumption | exact Xt.whole rfl rfl | exact Xt.whole rfl (by assumption) | exact Xt.whole rfl (by simp only [size_ic, Value.cells]; omega) | exact ⟨rfl⟩)) ?_
        refine WO_allocG Hvac.zeroValue61 ?_
        intro b5 v5 hg5 hE5 hH5 hl5
        try simp only [size_alloc, size_setB, size_drew] at hg5
        have hzz5 := hE5.1
        try simp only [size_alloc, size_setB, size_drew] at hzz5
        first | refine WO_storeW Hvac.sizeOf61 rfl (v := .agg _) rfl (Hb.h (by repeat (first | assumption | exact Hb.newY _ _ | refine Hb.alloc ?_ | refine Hb.drew ?_ | refine Hb.ext (by assumption) ?_ | exact Hb.setSameL (by first | omega | (simp only [size_alloc, size_setB, size_drew]; omega)) | exact Hb.setSame (by assumption) | refine Hb.set (by first | omega | (simp only [size_alloc, size_setB, size_drew]; omega)) ?_ ))) rfl (by first | omega | assumption | rfl | decide | exact Nat.le_refl _ | (simp only [size_ic, Value.cells]; omega) | (simp; omega) | simp) (by first | omega | assumption | rfl | decide | exact Nat.le_refl _ | (simp only [size_ic, Value.cells]; omega) | (simp; omega) | simp) (by first | exact oneCell_ic | assumption | exact one_Ws2 _ | exact one_YA2 _ | exact one_YSl2 _ | exact one_YM2 _ | exact one_YT2 _ | exact one_L2 _) ?_ | refine WO_store Hvac.sizeOf61 rfl (v := .agg _) rfl (Hb.h (by repeat (first | assumption | exact Hb.newY _ _ | refine Hb.alloc ?_ | refine Hb.drew ?_ | refine Hb.ext (by assumption) ?_ | exact Hb.setSameL (by first | omega | (simp only [size_alloc, size_setB, size_drew]; omega)) | exact Hb.setSame (by assumption) | refine Hb.set (by first | omega | (simp only [size_alloc, size_setB, size_drew]; omega)) ?_ ))) (by first | omega | assumption | rfl | decide | exact Nat.le_refl _ | (simp only [size_ic, Value.cells]; omega) | (simp; omega) | simp) (by first | omega | assumption | rfl | decide | exact Nat.le_refl _ | (simp only [size_ic, Value.cells]; omega) | (simp; omega) | simp) (by first | exact oneCell_ic | assumption | exact one_Ws2 _ | exact one_YA2 _ | exact one_YSl2 _ | exact one_YM2 _ | exact one_YT2 _ | exact one_L2 _) ?_
        refine WO_nil ?_
        refine thn_normal ?_
        refine W_seq ?_
        have hP1 := fun W (hW : Ext w W) => (hM.ext hW).put_stack hx1 x2 hwd2
        have hcs1 : (splice c (0 + 11 + (f.sbase + f.sp - 1).toNat * 4) (Value.agg (ic .u64 x2)).cells.toList).size = 27024 := (by rw [Nat.zero_add]; exact ((hP1 w (Ext.refl w)).1).sz)
        refine W_drawE [false, false, false, false, false, false, false, false, false, false, false, false] hmix (by kernel_rfl) rfl ?_
        refine WH_p (PS_move_ptr rfl) rfl ?_
        refine WH_p (PS_move_int rfl) rfl ?_
        refine WH_p (PS_move_ptr rfl) rfl ?_
        refine WH_p (PS_move_int rfl) rfl ?_
        refine WH_p (PS_nilCheck rfl) rfl ?_
        refine WH_p (PS_fieldAddr 11 Hvac.runUnderlying70 rfl Hvac.sizeOf62 rfl rfl) rfl ?_
        refine WH_p (PS_indexA Hvac.runUnderlying62 Hvac.sizeOf61 rfl rfl (by omega) (by omega)) rfl ?_
        refine WH_loadA _ Hvac.isAgg61 Hvac.sizeOf61 rfl (Hb.h (by repeat (first | assumption | exact Hb.newY _ _ | refine Hb.alloc ?_ | refine Hb.drew ?_ | refine Hb.ext (by assumption) ?_ | exact Hb.setSameL (by first | omega | (simp only [size_alloc, size_setB, size_drew]; omega)) | exact Hb.setSame (by assumption) | refine Hb.set (by first | omega | (simp only [size_alloc, size_setB, size_drew]; omega)) ?_ ))) (by first | omega | assumption | rfl | decide | exact Nat.le_refl _ | (simp only [size_ic, Value.cells]; omega) | (simp; omega) | simp) (Xt.h (by first | assumption | exact Xt.whole rfl rfl | exact Xt.whole rfl (by assumption) | exact Xt.whole rfl (by simp only [size_ic, Value.cells]; omega) | exact ⟨rfl⟩)) ?_
        refine WH_p (PS_nilCheck rfl) rfl ?_
        refine WH_p (PS_fieldAddr 11 Hvac.runUnderlying70 rfl Hvac.sizeOf62 rfl rfl) rfl ?_
        refine WH_p (PS_indexA Hvac.runUnderlying62 Hvac.sizeOf61 rfl rfl (by omega) (by omega)) rfl ?_
        first | refine WH_storeW Hvac.sizeOf61 rfl (v := .agg _) rfl (Hb.h (by repeat (first | assumption | exact Hb.newY _ _ | refine Hb.alloc ?_ | refine Hb.drew ?_ | refine Hb.ext (by assumption) ?_ | exact Hb.setSameL (by first | omega | (simp only [size_alloc, size_setB, size_drew]; omega)) | exact Hb.setSame (by assumption) | refine Hb.set (by first | omega | (simp only [size_alloc, size_setB, size_drew]; omega)) ?_ ))) rfl (by first | omega | assumption | rfl | decide | exact Nat.le_refl _ | (simp only [size_ic, Value.cells]; omega) | (simp; omega) | simp) (by first | omega | assumption | rfl | decide | exact Nat.le_refl _ | (simp only [size_ic, Value.cells]; omega) | (simp; omega) | simp) (by first | exact oneCell_ic | assumption | exact one_Ws2 _ | exact one_YA2 _ | exact one_YSl2 _ | exact one_YM2 _ | exact one_YT2 _ | exact one_L2 _) (fun h => by cases h) ?_ | refine WH_store Hvac.sizeOf61 rfl (v := .agg _) rfl (Hb.h (by repeat (first | assumption | exact Hb.newY _ _ | refine Hb.alloc ?_ | refine Hb.drew ?_ | refine Hb.ext (by assumption) ?_ | exact Hb.setSameL (by first | omega | (simp only [size_alloc, size_setB, size_drew]; omega)) | exact Hb.setSame (by assumption) | refine Hb.set (by first | omega | (simp only [size_alloc, size_setB, size_drew]; omega)) ?_ ))) (by first | omega | assumption | rfl | decide | exact Nat.le_refl _ | (simp only [size_ic, Value.cells]; omega) | (simp; omega) | simp) (by first | omega | assumption | rfl | decide | exact Nat.le_refl _ | (simp only [size_ic, Value.cells]; omega) | (simp; omega) | simp) (by first | exact oneCell_ic | assumption | exact one_Ws2 _ | exact one_YA2 _ | exact one_YSl2 _ | exact one_YM2 _ | exact one_YT2 _ | exact one_L2 _) (fun h => by cases h) ?_
        refine WH_nil ?_
        refine thn_normal ?_
        refine W_seq ?_
        obtain ⟨x3, hx3⟩ : ∃ x, (m.stack.set (f.sbase + f.sp - 1).toNat x2)[(f.sbase + f.sp - 1 - (o - 144) - 1).toNat]? = some x := ⟨_, List.getElem?_eq_getElem (by simp; omega)⟩
        have hP2 := fun W W' (hW : Ext w W) (hW' : Ext _ W') => ((hP1 W hW).1.ext hW').put_stack hx3 x1 hwd1
        have hM2 := (hP2 w _ (Ext.refl w) (Ext.refl _)).1
        have hcs2 : (splice (splice c (0 + 11 + (f.sbase + f.sp - 1).toNat * 4) (Value.agg (ic .u64 x2)).cells.toList) (0 + 11 + (f.sbase + f.sp - 1 - (o - 144) - 1).toNat * 4) (Value.agg (Value.agg (ic .u64 x1)).cells).cells.toList).size = 27024 := (by rw [Nat.zero_add]; exact hM2.sz)
        obtain ⟨_, _, hF2⟩ := hM2.openF (show ({ m with stack := _ } : Mc).frames[t]? = some f from hf)
        have hf_pc2 : Ce (splice (splice c (0 + 11 + (f.sbase + f.sp - 1).toNat * 4) (Value.agg (ic .u64 x2)).cells.toList) (0 + 11 + (f.sbase + f.sp - 1 - (o - 144) - 1).toNat * 4) (Value.agg (Value.agg (ic .u64 x1)).cells).cells.toList) (1803 + t * 65 + 4) (.int .u16 f.pc) := (by rw [Nat.zero_add]; exact hF2.pc)
        refine W_drawE [false, false, false, false, false, false, false] hmix (by kernel_rfl) rfl ?_
        refine WH_p (PS_move_ptr rfl) rfl ?_
        refine WH_p (PS_move_int rfl) rfl ?_
        refine WH_loadA _ Hvac.isAgg61 Hvac.sizeOf61 rfl (Hb.h (by repeat (first | assumption | exact Hb.newY _ _ | refine Hb.alloc ?_ | refine Hb.drew ?_ | refine Hb.ext (by assumption) ?_ | exact Hb.setSameL (by first | omega | (simp only [size_alloc, size_setB, size_drew]; omega)) | exact Hb.setSame (by assumption) | refine Hb.set (by first | omega | (simp only [size_alloc, size_setB, size_drew]; omega)) ?_ ))) (by first | omega | assumption | rfl | decide | exact Nat.le_refl _ | (simp only [size_ic, Value.cells]; omega) | (simp; omega) | simp) (Xt.h (by first | assumption | exact Xt.whole rfl rfl | exact Xt.whole rfl (by assumption) | exact Xt.whole rfl (by simp only [size_ic, Value.cells]; omega) | exact ⟨rfl⟩)) ?_
        refine WH_p (PS_nilCheck rfl) rfl ?_
        refine WH_p (PS_fieldAddr 11 Hvac.runUnderlying70 rfl Hvac.sizeOf62 rfl rfl) rfl ?_
        refine WH_p (PS_indexA Hvac.runUnderlying62 Hvac.sizeOf61 rfl rfl (by omega) (by omega)) rfl ?_
        first | refine WH_storeW Hvac.sizeOf61 rfl (v := .agg _) rfl (Hb.h (by repeat (first | assumption | exact Hb.newY _ _ | refine Hb.alloc ?_ | refine Hb.drew ?_ | refine Hb.ext (by assumption) ?_ | exact Hb.setSameL (by first | omega | (simp only [size_alloc, size_setB, size_drew]; omega)) | exact Hb.setSame (by assumption) | refine Hb.set (by first | omega | (simp only [size_alloc, size_setB, size_drew]; omega)) ?_ ))) rfl (by first | omega | assumption | rfl | decide | exact Nat.le_refl _ | (simp only [size_ic, Value.cells]; omega) | (simp; omega) | simp) (by first | omega | assumption | rfl | decide | exact Nat.le_refl _ | (simp only [size_ic, Value.cells]; omega) | (simp; omega) | simp) (by first | exact oneCell_ic | assumption | exact one_Ws2 _ | exact one_YA2 _ | exact one_YSl2 _ | exact one_YM2 _ | exact one_YT2 _ | exact one_L2 _) (fun h => by cases h) ?_ | refine WH_store Hvac.sizeOf61 rfl (v := .agg _) rfl (Hb.h (by repeat (first | assumption | exact Hb.newY _ _ | refine Hb.alloc ?_ | refine Hb.drew ?_ | refine Hb.ext (by assumption) ?_ | exact Hb.setSameL (by first | omega | (simp only [size_alloc, size_setB, size_drew]; omega)) | exact Hb.setSame (by assumption) | refine Hb.set (by first | omega | (simp only [size_alloc, size_setB, size_drew]; omega)) ?_ ))) (by first | omega | assumption | rfl | decide | exact Nat.le_refl _ | (simp only [size_ic, Value.cells]; omega) | (simp; omega) | simp) (by first | omega | assumption | rfl | decide | exact Nat.le_refl _ | (simp only [size_ic, Value.cells]; omega) | (simp; omega) | simp) (by first | exact oneCell_ic | assumption | exact one_Ws2 _ | exact one_YA2 _ | exact one_YSl2 _ | exact one_YM2 _ | exact one_YT2 _ | exact one_L2 _) (fun h => by cases h) ?_
        refine WH_nil ?_
        refine thn_normal ?_
        refine W_region rfl ?_
        refine WO_p (PS_move_ptr rfl) ?_
        refine WO_p (PS_nilCheck rfl) ?_
        refine WO_p (PS_fieldAddr 4 Hvac.runUnderlying66 rfl Hvac.sizeOf42 rfl rfl) ?_
        refine WO_load (.int _ _) Hvac.isAgg42 rfl (Hb.h (by repeat (first | assumption | exact Hb.newY _ _ | refine Hb.alloc ?_ | refine Hb.drew ?_ | refine Hb.ext (by assumption) ?_ | exact Hb.setSameL (by first | omega | (simp only [size_alloc, size_setB, size_drew]; omega)) | exact Hb.setSame (by assumption) | refine Hb.set (by first | omega | (simp only [size_alloc, size_setB, size_drew]; omega)) ?_ ))) (Ce.h (by first | assumption | exact ⟨rfl⟩)) ?_
        refine WO_p (PS_add_u16n rfl rfl (by omega) (by omega)) ?_
        refine WO_p (PS_nilCheck rfl) ?_
        refine WO_p (PS_fieldAddr 4 Hvac.runUnderlying66 rfl Hvac.sizeOf42 rfl rfl) ?_
        refine WO_store1 Hvac.sizeOf42 rfl (v := (.int _ _)) rfl (Hb.h (by repeat (first | assumption | exact Hb.newY _ _ | refine Hb.alloc ?_ | refine Hb.drew ?_ | refine Hb.ext (by assumption) ?_ | exact Hb.setSameL (by first | omega | (simp only [size_alloc, size_setB, size_drew]; omega)) | exact Hb.setSame (by assumption) | refine Hb.set (by first | omega | (simp only [size_alloc, size_setB, size_drew]; omega)) ?_ ))) rfl (by first | omega | assumption | rfl | decide | exact Nat.le_refl _ | (simp only [size_ic, Value.cells]; omega) | (simp; omega) | simp) rfl ?_
        refine WO_nil ?_
        first | refine bodyQ_ret0 Hvac.results292 ?_ | refine bodyQ_end0 Hvac.results292 ?_
        have hP3 := fun W W' (hW : Ext w W) (hW' : Ext _ W') => (hP2 W W' hW hW').1.putF_pc (show ({ m with stack := _ } : Mc).frames[t]? = some f from hf) (f.pc + 1) (by omega)
        rw [Nat.zero_add]
        have hst := hI.set (v' := v) (f' := { f with pc := f.pc + 1 }) (stk := (m.stack.set (f.sbase + f.sp - 1).toNat x2).set (f.sbase + f.sp - 1 - (o - 144) - 1).toNat x1) (ret' := m.ret) hf hI.rw0 hvi (fun _ h => h) (Int.le_refl _) hI.ti.rt rfl rfl rfl { hFk with pc := by show f.pc + 1 ≤ (f.cb.length : Int) + 33; omega }
        have hQ3 := fun W W' (hW : Ext w W) (hW' : Ext _ W') => (show MRet w C B m _ v _ from ⟨_, _, (hP3 W W' hW hW').1, (((MStep.ext hW).trans (hP1 W hW).2).trans ((MStep.ext hW').trans (hP2 W W' hW hW').2)).trans (hP3 W W' hW hW').2⟩)
        refine ⟨v, _, hQ3 (setB v5 b5 (Obj.cells (Value.agg (ic .u64 x1)).cells 61 (0, 0))).drew _ ?h1 ?h2, Or.inl ⟨t, hst.1, Or.inl (by show gasTo (m.frames.set t _) (t + 1) < _; rw [hst.2]; omega)⟩, ?h3⟩
        case h2 => exact Ext.drew (Ext.refl _)
        case h1 => exact (by repeat (first | assumption | exact Ext.refl _ | refine Ext.alloc ?_ _ | refine Ext.drew ?_ | refine Ext.setB ?_ (by first | omega | (simp only [size_alloc, size_setB, size_drew]; omega)) _ | refine Ext.trans ?_ (by assumption)))
        refine hRl.swap hM hMI hf (KC.kt (C := C) ?h4 hblk (by decide)) (KC.kt (C := C) ?h4 hblk (by decide)) ho (by omega) hx1 hx2
        have hEv : Ext w v5 := (by repeat (first | assumption | exact Ext.refl _ | refine Ext.alloc ?_ _ | refine Ext.drew ?_ | refine Ext.setB ?_ (by first | omega | (simp only [size_alloc, size_setB, size_drew]; omega)) _ | refine Ext.trans ?_ (by assumption)))
        exact KC.setC (KC.setC (KC.drew (KC.setC (KC.pre (b := (setB v5 b5 (Obj.cells (Value.agg (ic .u64 x1)).cells 61 (0, 0))).drew) (by repeat (first | assumption | exact Ext.refl _ | refine Ext.alloc ?_ _ | refine Ext.drew ?_ | refine Ext.setB ?_ (by first | omega | (simp only [size_alloc, size_setB, size_drew]; omega)) _ | refine Ext.trans ?_ (by assumption))) (KeepO.refl _ _)) _)) _) _

set_option maxRecDepth 10000 in
set_option maxHeartbeats 4000000 in
theorem opPush_ex [Om] (scan : List Int → List Int) (C : Nat) (c : Array Value) (v : V) (B : VB) (m : Mc) (t : Nat) (f : Fm) (o c' S : Int) (w : World) (hM : MS w C c v B m) (hop : Mc.opc f = o) (hAd : Adm scan v m t f o (infoW o).2.2.1 c' S) (hk : (infoW o).1 ≤ f.sp ∧ f.sp - (infoW o).1 + (infoW o).2.1 ≤ 64) (hc : 0 < c') (y : PSt) (rest : List PF) (g : PF) (hRl : Rel w v m (y, rest ++ [g])) (ho : 95 ≤ o ∧ o ≤ 127) : Ret Hvac.prog 290 #[.pointer (some ⟨C, 0, none⟩)] w fun _ w' => ∃ v' m', MRet w C B m w' v' m' ∧ OpP scan m t c' S v' m' ∧ Rel w' v' m' (yplain khash y rest g o) := by
  have hI := hAd.ri
  have hf := hAd.fr
  have hR := hI.run hf
  have hA := hR.fa
  have hblk := hM.vs.blk
  have hCl := hblk.lt
  have hcs := hM.sz
  have hc_s := hM.rep.s
  obtain ⟨ht7, hfty, hF⟩ := hM.openF hf
  have hFk := hI.fr t f (Nat.le_refl _) hf
  have hvi := hI.ti.vi
  have hcbl := (hM.code f (List.mem_of_getElem? hf)).1.len
  have hcb5 := hFk.cl
  have hcl : f.code.2.1 ≤ 100000 := by omega
  have hpct := hfty.pc
  have hspt := hfty.sp
  have hwdA := fun i => argW_wd hM.ty f i
  have hMI := hI.mi
  have hAr := fun i => hRl.arg hM hMI hf i
  have htl := hRl.len hMI
  have hy0 : yarg g 0 = wn (m.argW f 0) := hAr 0
  have hy1 : yarg g 1 = wn (m.argW f 1) := hAr 1
  have hy2 : yarg g 2 = wn (m.argW f 2) := hAr 2
  have hy3 : yarg g 3 = wn (m.argW f 3) := hAr 3
  have hy4 : yarg g 4 = wn (m.argW f 4) := hAr 4
  have hy5 : yarg g 5 = wn (m.argW f 5) := hAr 5
  have hy6 : yarg g 6 = wn (m.argW f 6) := hAr 6
  have hpcl : f.pc < (f.cb.length : Int) := opc_pc (by rw [hop]; omega)
  obtain ⟨Lm, hLm, hFP, hRP⟩ := hRl.top hMI hf
  have hgc := hFP.code
  have hgp := hFP.pc
  have hyv : yval khash y g o (yargs g 0) = bvY (ycut f.cb (f.pc + 1).toNat (immOf o).toNat) := by rw [yval_push ho, hgc, show (f.pc + 1).toNat = g.pc + 1 by omega]
  
  have hn33 : 0 ≤ immOf o ∧ immOf o ≤ 32 := by unfold immOf; split <;> omega
  have hin : f.sp < 64 := by
    by_cases h95 : o = 95
    · subst h95; have h := hk; simp [infoW] at h; omega
    · have e : infoW o = (0, 1, 3, true) := by unfold infoW; rw [if_pos (by omega)]
      have h := hk; rw [e] at h; replace h : (0 : Int) ≤ f.sp ∧ f.sp - 0 + 1 ≤ 64 := h; omega
  have hf_pc := hF.pc
  have hf_code := hF.code
  have hcb := (hM.code f (List.mem_of_getElem? hf)).1
  have hcc := hFk.cc
  have hcby := hcb.by_
  generalize hn0 : immOf o = n at *
  rcases hcb with ⟨_, h2, _⟩ | ⟨b, r, fz, h1, h2, h3, h4, h5, h6, h7⟩
  · omega
  rw [h1] at hf_code
  have hsc : SC w .u8 1 (some ⟨b, 0, none⟩, f.code.2.1, f.code.2.2) f.cb := by have := (hM.code f (List.mem_of_getElem? hf)).1.sc; unfold SC at this ⊢; rw [h1] at this; exact this
  
  refine Ret_of_W Hvac.func290 rfl rfl ?_
  refine W_seq ?_
  refine W_region rfl ?_
  refine WO_p (PS_move_ptr rfl) ?_
  refine WO_call Hvac.call95 (by rfl) (Ret.mono (running_spec C c v B m t f _ (MS.ext hM (by repeat (first | assumption | exact Ext.refl _ | refine Ext.alloc ?_ _ | refine Ext.drew ?_ | refine Ext.setB ?_ (by first | omega | (simp only [size_alloc, size_setB, size_drew]; omega)) _ | exact Ext.trans (by assumption) (by assumption) | refine Ext.trans ?_ (by assumption)))) hR) ?_)
  rintro _ w95_0 ⟨hE95_0, rfl⟩
  have hz95_0 := hE95_0.1
  try simp only [size_alloc, size_setB, size_drew] at hz95_0
  refine WO_p (PS_assign_ptr rfl) ?_
  refine WO_nil ?_
  refine thn_normal ?_
  refine W_seq ?_
  refine W_seq ?_
  refine W_region rfl ?_
  refine WO_p (PS_move_ptr rfl) ?_
  refine WO_p (PS_eqlnil Hvac.underlying187 rfl) ?_
  refine WO_nil ?_
  refine thn_normal ?_
  refine W_if rfl (fun hb3 => ?_) (fun hb3 => ?_)
  · have hb3p := hb3.h; try simp only [al_ete, al_dfn, Bool.not_eq_true', Bool.not_eq_false', al_ne, Bool.not_not, al_nn] at hb3p
    simp at hb3p --END
  · have hb3p := hb3.h; try simp only [al_ete, al_dfn, Bool.not_eq_true', Bool.not_eq_false', al_ne, Bool.not_not, al_nn] at hb3p
    refine W_skip ?_
    refine thn_normal ?_
    refine W_seq ?_
    refine W_region rfl ?_
    refine WO_p (PS_move_ptr rfl) ?_
    refine WO_call Hvac.call104 (by rfl) (Ret.mono (opcode_spec C c v B m t f _ (MS.ext hM (by repeat (first | assumption | exact Ext.refl _ | refine Ext.alloc ?_ _ | refine Ext.drew ?_ | refine Ext.setB ?_ (by first | omega | (simp only [size_alloc, size_setB, size_drew]; omega)) _ | exact Ext.trans (by assumption) (by assumption) | refine Ext.trans ?_ (by assumption)))) hR hcl) ?_)
    rintro _ w104_3 ⟨hE104_3, rfl⟩
    have hz104_3 := hE104_3.1
    try simp only [size_alloc, size_setB, size_drew] at hz104_3
    try rw [hop]
    refine WO_call Hvac.call125 (by rfl) (Ret.mono (imm_spec _ _ (by omega)) ?_)
    rintro _ w125_4 ⟨hE125_4, rfl⟩
    have hz125_4 := hE125_4.1
    try simp only [size_alloc, size_setB, size_drew] at hz125_4
    rw [hn0]
    refine WO_p (PS_conv_i64n Hvac.runUnderlying5 Hvac.runUnderlying3 rfl (by omega) (by omega)) ?_
    refine WO_p (PS_assign_int rfl) ?_
    refine WO_nil ?_
    refine thn_normal ?_
    refine W_seq ?_
    refine W_seq ?_
    refine W_region rfl ?_
    refine WO_p (PS_move_ptr rfl) ?_
    refine WO_p (PS_nilCheck rfl) ?_
    refine WO_p (PS_fieldAddr 4 Hvac.runUnderlying66 rfl Hvac.sizeOf42 rfl rfl) ?_
    refine WO_load (.int _ _) Hvac.isAgg42 rfl (Hb.h (by repeat (first | assumption | exact Hb.newY _ _ | refine Hb.alloc ?_ | refine Hb.drew ?_ | refine Hb.ext (by assumption) ?_ | exact Hb.setSameL (by first | omega | (simp only [size_alloc, size_setB, size_drew]; omega)) | exact Hb.setSame (by assumption) | refine Hb.set (by first | omega | (simp only [size_alloc, size_setB, size_drew]; omega)) ?_ ))) (Ce.h (by first | assumption | exact ⟨rfl⟩)) ?_
    refine WO_p (PS_conv_i64n Hvac.runUnderlying42 Hvac.runUnderlying3 rfl (by omega) (by omega)) ?_
    refine WO_p (PS_add_i64n rfl rfl (by omega) (by omega)) ?_
    refine WO_p (PS_move_int rfl) ?_
    refine WO_p (PS_add_i64n rfl rfl (by omega) (by omega)) ?_
    refine WO_p (PS_assign_int rfl) ?_
    refine WO_nil ?_
    refine thn_normal ?_
    refine W_seq ?_
    refine W_region rfl ?_
    refine WO_p (PS_move_int rfl) ?_
    refine WO_p (PS_leq rfl rfl) ?_
    refine WO_p (PS_move_bool rfl) ?_
    refine WO_if (t := 28) rfl (fun hb7 => ?_) (fun hb7 => ?_)
    · have hb7p := hb7.h; try simp only [al_ete, al_dfn, Bool.not_eq_true', Bool.not_eq_false', al_ne, Bool.not_not, al_nn] at hb7p
      refine WO_guardT rfl rfl hb7.h ?_
      refine WO_p (PS_move_int rfl) ?_
      refine WO_guardT rfl rfl hb7.h ?_
      refine WO_p (PS_move_ptr rfl) ?_
      refine WO_guardT rfl rfl hb7.h ?_
      refine WO_p (PS_nilCheck rfl) ?_
      refine WO_guardT rfl rfl hb7.h ?_
      refine WO_p (PS_fieldAddr 53 Hvac.runUnderlying66 rfl Hvac.sizeOf32 rfl rfl) ?_
      refine WO_guardT rfl rfl hb7.h ?_
      refine WO_load (.slice _ _ _) Hvac.isAgg32 rfl (Hb.h (by repeat (first | assumption | exact Hb.newY _ _ | refine Hb.alloc ?_ | refine Hb.drew ?_ | refine Hb.ext (by assumption) ?_ | exact Hb.setSameL (by first | omega | (simp only [size_alloc, size_setB, size_drew]; omega)) | exact Hb.setSame (by assumption) | refine Hb.set (by first | omega | (simp only [size_alloc, size_setB, size_drew]; omega)) ?_ ))) (Ce.h (by first | assumption | exact ⟨rfl⟩)) ?_
      refine WO_guardT rfl rfl hb7.h ?_
      refine WO_p (PS_lenS Hvac.runUnderlying32 rfl) ?_
      refine WO_guardT rfl rfl hb7.h ?_
      refine WO_p (PS_leq rfl rfl) ?_
      refine WO_p (PS_pickT rfl hb7.h rfl) ?_
      refine WO_nil ?_
      refine thn_normal ?_
      refine W_if rfl (fun hb9 => ?_) (fun hb9 => ?_)
      · have hb9p := hb9.h; try simp only [al_ete, al_dfn, Bool.not_eq_true', Bool.not_eq_false', al_ne, Bool.not_not, al_nn] at hb9p
        refine W_seq ?_
        refine W_region rfl ?_
        refine WO_p (PS_assign_int rfl) ?_
        refine WO_nil ?_
        refine thn_normal ?_
        refine W_seq ?_
        refine W_seq ?_
        refine W_region rfl ?_
        refine WO_p (PS_move_ptr rfl) ?_
        refine WO_p (PS_nilCheck rfl) ?_
        refine WO_p (PS_fieldAddr 53 Hvac.runUnderlying66 rfl Hvac.sizeOf32 rfl rfl) ?_
        refine WO_load (.slice _ _ _) Hvac.isAgg32 rfl (Hb.h (by repeat (first | assumption | exact Hb.newY _ _ | refine Hb.alloc ?_ | refine Hb.drew ?_ | refine Hb.ext (by assumption) ?_ | exact Hb.setSameL (by first | omega | (simp only [size_alloc, size_setB, size_drew]; omega)) | exact Hb.setSame (by assumption) | refine Hb.set (by first | omega | (simp only [size_alloc, size_setB, size_drew]; omega)) ?_ ))) (Ce.h (by first | assumption | exact ⟨rfl⟩)) ?_
        refine WO_p (PS_move_int rfl) ?_
        refine WO_p (PS_move_int rfl) ?_
        refine WO_p (PS_sub_i64n rfl rfl (by omega) (by omega)) ?_
        refine WO_p (PS_move_int rfl) ?_
        refine WO_p (PS_slG_lh Hvac.runUnderlying32 Hvac.sizeOf5 rfl rfl rfl (by omega) (by omega) (by omega) (by omega)) ?_
        rw [show f.pc + 1 + n - n = f.pc + 1 from by omega, show (f.pc + 1 + n).toNat - (f.pc + 1).toNat = n.toNat from by omega]
        refine WO_p (PS_lenS Hvac.runUnderlying32 rfl) ?_
        refine WO_p (PS_move_int rfl) ?_
        refine WO_nil ?_
        refine thn_normal ?_
        refine W_block ?_
        refine W_loopN (fun k ρ w' => ∃ (i : Nat) (x : Int) (P : Option Addr) (cp : Nat), k + i = n.toNat ∧ (0 ≤ x ∧ x ≤ 18446744073709551615) ∧ (x = (bvY (ycut f.cb (f.pc + 1).toNat i) : Int)) ∧ (0 < n → P = some ⟨b, (f.pc + 1).toNat, none⟩) ∧ Fr [(0, .pointer (some ⟨C, 0, none⟩)), (2, .pointer (some ⟨C, 1803 + t * 65, none⟩)), (3, .int .i64 n), (5, .int .u64 x), (45, .slice P n.toNat cp), (46, .int .i64 (n.toNat : Int)), (47, .int .i64 i)] ρ ∧ Ext w w') n.toNat ?_ ?_
        · refine ⟨0, 0, slp' (some ⟨b, 0, none⟩) (f.pc + 1).toNat f.code.2.2 1, _, by omega, by omega, rfl, ?_, ⟨rfl, rfl, rfl, rfl, rfl, rfl, rfl, trivial⟩, (by repeat (first | assumption | exact Ext.refl _ | refine Ext.alloc ?_ _ | refine Ext.drew ?_ | refine Ext.setB ?_ (by first | omega | (simp only [size_alloc, size_setB, size_drew]; omega)) _ | refine Ext.trans ?_ (by assumption)))⟩
          intro hn1; rw [slp'_some (by omega)]; simp
        intro k ρ w2 hI2
        obtain ⟨i, x, P, cp, hki, hx, hxv, hP, hFr, hE2⟩ := hI2
        refine W_env _ hFr ?_
        have hz2 := hE2.1
        refine W_seq ?_
        refine W_region rfl ?_
        refine WO_p (PS_lss rfl rfl) ?_
        refine WO_nil ?_
        refine thn_normal ?_
        refine W_seq ?_
        refine W_if rfl (fun hb11 => ?_) (fun hb11 => ?_)
        · have hb11p := hb11.h; try simp only [al_ete, al_dfn, Bool.not_eq_true', Bool.not_eq_false', al_ne, Bool.not_not, al_nn] at hb11p
          obtain rfl := hP (by omega)
          have hlt : (f.pc + 1).toNat + i < f.cb.length := by omega
          have hcx : Ce r ((f.pc + 1).toNat + i * 1) (.int .u8 (f.cb.getD ((f.pc + 1).toNat + i) 0)) := ⟨by rw [Nat.mul_one, h7 _ (by omega), List.getD_eq_getElem?_getD, List.getElem?_eq_getElem hlt]; rfl⟩
          have hcv := hcby (f.cb.getD ((f.pc + 1).toNat + i) 0) (by rw [List.getD_eq_getElem?_getD, List.getElem?_eq_getElem hlt]; simp)
          refine W_skip ?_
          refine thn_normal ?_
          refine W_seq ?_
          refine W_block ?_
          refine W_seq ?_
          refine W_region rfl ?_
          refine WO_p (PS_indexS Hvac.runUnderlying32 Hvac.sizeOf5 rfl rfl (by omega) (by omega)) ?_
          refine WO_load (.int _ _) Hvac.isAgg5 rfl (Hb.h (by repeat (first | assumption | exact Hb.newY _ _ | refine Hb.alloc ?_ | refine Hb.drew ?_ | refine Hb.ext (by assumption) ?_ | exact Hb.setSameL (by first | omega | (simp only [size_alloc, size_setB, size_drew]; omega)) | exact Hb.setSame (by assumption) | refine Hb.set (by first | omega | (simp only [size_alloc, size_setB, size_drew]; omega)) ?_ ))) (Ce.h (by first | assumption | exact ⟨rfl⟩)) ?_
          refine WO_p (PS_assign_int rfl) ?_
          refine WO_nil ?_
          refine thn_normal ?_
          refine W_region rfl ?_
          refine WO_p (PS_move_int rfl) ?_
          refine WO_p (PS_shl_u64 8 rfl rfl (by decide) rfl) ?_
          refine WO_p (PS_move_int rfl) ?_
          refine WO_p (PS_conv_u64n Hvac.runUnderlying5 Hvac.runUnderlying26 rfl (by omega) (by omega)) ?_
          refine WO_p (PS_or_u64 rfl rfl) ?_
          refine WO_p (PS_assign_int rfl) ?_
          refine WO_nil ?_
          refine inBlk_normal ?_
          refine thn_normal ?_
          refine W_region rfl ?_
          refine WO_p (PS_add_i64n rfl rfl (by omega) (by omega)) ?_
          refine WO_p (PS_move_int rfl) ?_
          refine WO_nil ?_
          refine thn_normal ?_
          refine ⟨k - 1, by omega, i + 1, _, _, _, by omega, bOr_bd _ _, push_step hcby (by omega) hxv rfl hcv, hP, ⟨rfl, rfl, rfl, rfl, rfl, rfl, congrArg (Value.int .i64) (by omega), trivial⟩, (by repeat (first | assumption | exact Ext.refl _ | refine Ext.alloc ?_ _ | refine Ext.drew ?_ | refine Ext.setB ?_ (by first | omega | (simp only [size_alloc, size_setB, size_drew]; omega)) _ | refine Ext.trans ?_ (by assumption)))⟩
        · have hb11p := hb11.h; try simp only [al_ete, al_dfn, Bool.not_eq_true', Bool.not_eq_false', al_ne, Bool.not_not, al_nn] at hb11p
          have hni : n.toNat = i := by omega
          refine W_exit ?_
          refine thn_exit ?_
          refine thn_exit ?_
          refine inBlk_exit ?_
          refine thn_normal ?_
          refine W_seq ?_
          refine W_region rfl ?_
          refine WO_p (PS_move_ptr rfl) ?_
          refine WO_p (PS_move_ptr rfl) ?_
          refine WO_p (PS_move_int rfl) ?_
          refine WO_p (PS_buildI (k := .u64) (zs := [0, 0, 0, 0]) (ps := [(0, _)]) (L := [_, 0, 0, 0]) Hvac.zeroValue61 Hvac.runUnderlying61 Hvac.sizeOf26 rfl rfl rfl rfl) ?_
          refine WO_p (PS_move_int rfl) ?_
          refine WO_p (PS_add_i64n rfl rfl (by omega) (by omega)) ?_
          refine WO_p (PS_conv_u16n Hvac.runUnderlying3 Hvac.runUnderlying42 rfl (by omega) (by omega)) ?_
          refine WO_call Hvac.call235 (by rfl) (Ret.mono (settle_ex C c v B m t f _ _ _ _ _ (MS.ext hM (by repeat (first | assumption | exact Ext.refl _ | refine Ext.alloc ?_ _ | refine Ext.drew ?_ | refine Ext.setB ?_ (by first | omega | (simp only [size_alloc, size_setB, size_drew]; omega)) _ | exact Ext.trans (by assumption) (by assumption) | refine Ext.trans ?_ (by assumption)))) hA (by omega) (by first | (intro _; omega) | (intro h; cases h)) (by first | assumption | exact argW_wd hM.ty _ _ | exact Wd0 | exact flagW_wd _ | exact Wd1 | exact limb_wd (by omega)) (by omega)) ?_)
          rintro _ wS ⟨hRS, hKS⟩
          have hRS2 := MRet.pre (w := w) (by repeat (first | assumption | exact Ext.refl _ | refine Ext.alloc ?_ _ | refine Ext.drew ?_ | refine Ext.setB ?_ (by first | omega | (simp only [size_alloc, size_setB, size_drew]; omega)) _ | exact Ext.trans (by assumption) (by assumption) | refine Ext.trans ?_ (by assumption))) hRS
          have hKC := KC.pre (a := w) (by repeat (first | assumption | exact Ext.refl _ | refine Ext.alloc ?_ _ | refine Ext.drew ?_ | refine Ext.setB ?_ (by first | omega | (simp only [size_alloc, size_setB, size_drew]; omega)) _ | exact Ext.trans (by assumption) (by assumption) | refine Ext.trans ?_ (by assumption))) hKS
          have hK5 : KT 5 w wS := KC.kt hKC hblk (by decide)
          have hK28 : KT 28 w wS := KC.kt hKC hblk (by decide)
          refine WO_nil ?_
          refine thn_normal ?_
          refine W_ret ?_
          refine thn_ret ?_
          first | refine bodyQ_ret0 Hvac.results290 ?_ | refine bodyQ_end0 Hvac.results290 ?_
          exact ⟨v, _, hRS2, (hI.settle hf hI.rw0 hvi (fun _ h => h) (Int.le_refl _) (by omega) (by first | (intro _; omega) | (intro h; cases h)) (by omega) hc).2, hRl.fin_val hM hMI hf hK5 hK28 (n := o) rfl (ygives_push ho).1 (k := 0) (ygives_push ho).2 rfl (by rw [hn0]) (by omega) (yvst_q (by omega) (by omega) _) (by rw [wn_one (by omega), hyv, hni, hxv]; rfl) (by omega) (by omega)⟩
      · have hb9p := hb9.h; try simp only [al_ete, al_dfn, Bool.not_eq_true', Bool.not_eq_false', al_ne, Bool.not_not, al_nn] at hb9p
        refine W_skip ?_
        refine thn_normal ?_
        refine W_seq ?_
        refine W_region rfl ?_
        refine WO_allocG Hvac.zeroValue27 ?_
        intro b8 v8 hg8 hE8 hH8 hl8
        try simp only [size_alloc, size_setB, size_drew] at hg8
        have hzz8 := hE8.1
        try simp only [size_alloc, size_setB, size_drew] at hzz8
        replace hH8 : Hb v8 b8 (.cells (ic .u8 (List.replicate 32 0)) 27 (0, 0)) := hH8
        refine WO_nil ?_
        refine thn_normal ?_
        refine W_seq ?_
        refine W_seq ?_
        refine W_region rfl ?_
        refine WO_p (PS_move_ptr rfl) ?_
        refine WO_p (PS_nilCheck rfl) ?_
        refine WO_p (PS_fieldAddr 4 Hvac.runUnderlying66 rfl Hvac.sizeOf42 rfl rfl) ?_
        refine WO_load (.int _ _) Hvac.isAgg42 rfl (Hb.h (by repeat (first | assumption | exact Hb.newY _ _ | refine Hb.alloc ?_ | refine Hb.drew ?_ | refine Hb.ext (by assumption) ?_ | exact Hb.setSameL (by first | omega | (simp only [size_alloc, size_setB, size_drew]; omega)) | exact Hb.setSame (by assumption) | refine Hb.set (by first | omega | (simp only [size_alloc, size_setB, size_drew]; omega)) ?_ ))) (Ce.h (by first | assumption | exact ⟨rfl⟩)) ?_
        refine WO_p (PS_conv_i64n Hvac.runUnderlying42 Hvac.runUnderlying3 rfl (by omega) (by omega)) ?_
        refine WO_p (PS_add_i64n rfl rfl (by omega) (by omega)) ?_
        refine WO_p (PS_assign_int rfl) ?_
        refine WO_nil ?_
        refine thn_normal ?_
        refine W_seq ?_
        refine W_region rfl ?_
        refine WO_p (PS_move_int rfl) ?_
        refine WO_p (PS_move_ptr rfl) ?_
        refine WO_p (PS_nilCheck rfl) ?_
        refine WO_p (PS_fieldAddr 53 Hvac.runUnderlying66 rfl Hvac.sizeOf32 rfl rfl) ?_
        refine WO_load (.slice _ _ _) Hvac.isAgg32 rfl (Hb.h (by repeat (first | assumption | exact Hb.newY _ _ | refine Hb.alloc ?_ | refine Hb.drew ?_ | refine Hb.ext (by assumption) ?_ | exact Hb.setSameL (by first | omega | (simp only [size_alloc, size_setB, size_drew]; omega)) | exact Hb.setSame (by assumption) | refine Hb.set (by first | omega | (simp only [size_alloc, size_setB, size_drew]; omega)) ?_ ))) (Ce.h (by first | assumption | exact ⟨rfl⟩)) ?_
        refine WO_p (PS_lenS Hvac.runUnderlying32 rfl) ?_
        refine WO_p (PS_lss rfl rfl) ?_
        refine WO_nil ?_
        refine thn_normal ?_
        refine W_if rfl (fun hb14 => ?_) (fun hb14 => ?_)
        · have hb14p := hb14.h; try simp only [al_ete, al_dfn, Bool.not_eq_true', Bool.not_eq_false', al_ne, Bool.not_not, al_nn] at hb14p
          refine W_drawE [false, false, false, false, false, false, false, false, false, false] hmix (by kernel_rfl) rfl ?_
          refine WH_p (PS_move_int rfl) rfl ?_
          refine WH_p (PS_sub_i64n rfl rfl (by omega) (by omega)) rfl ?_
          refine WH_p (PS_slA_l Hvac.runUnderlying27 Hvac.sizeOf5 rfl rfl (by omega) (by omega) (by omega)) rfl ?_
          refine WH_p (PS_move_ptr rfl) rfl ?_
          refine WH_p (PS_nilCheck rfl) rfl ?_
          refine WH_p (PS_fieldAddr 53 Hvac.runUnderlying66 rfl Hvac.sizeOf32 rfl rfl) rfl ?_
          refine WH_load (.slice _ _ _) Hvac.isAgg32 rfl (Hb.h (by repeat (first | assumption | exact Hb.newY _ _ | refine Hb.alloc ?_ | refine Hb.drew ?_ | refine Hb.ext (by assumption) ?_ | exact Hb.setSameL (by first | omega | (simp only [size_alloc, size_setB, size_drew]; omega)) | exact Hb.setSame (by assumption) | refine Hb.set (by first | omega | (simp only [size_alloc, size_setB, size_drew]; omega)) ?_ ))) (Ce.h (by first | assumption | exact ⟨rfl⟩)) ?_
          refine WH_p (PS_move_int rfl) rfl ?_
          refine WH_p (PS_slG_l Hvac.runUnderlying32 Hvac.sizeOf5 rfl rfl (by omega) (by omega)) rfl ?_
          refine WH_copyTX (b2 := 0) (b := b8) (o := 0 + (32 - n).toNat * 1) Hvac.runUnderlying32 Hvac.sizeOf5 rfl rfl (fun _ => rfl) (Hb.drew hH8) (by simp; omega) (SC.tail (SC.ext hsc (by repeat (first | assumption | exact Ext.refl _ | refine Ext.alloc ?_ _ | refine Ext.drew ?_ | refine Ext.setB ?_ (by first | omega | (simp only [size_alloc, size_setB, size_drew]; omega)) _ | exact Ext.trans (by assumption) (by assumption) | refine Ext.trans ?_ (by assumption)))) (f.pc + 1).toNat (by simp; omega) (by simp; omega)) (fun z hz => hcby z (List.mem_of_mem_drop hz)) (by omega) ?_
          intro w4 L4 hT4 hL4y
          refine ⟨(fun h => by cases h), ?_⟩
          have hC4 := hT4.hb
          have hL4 : By L4 32 := ⟨by rw [hT4.len]; simp, hT4.ty (by_zero 32)⟩
          have hL4x : L4 = List.replicate (32 - n.toNat) 0 ++ ycut f.cb (f.pc + 1).toNat n.toNat := by
            rw [hL4y, show 0 + (32 - n).toNat * 1 = 32 - n.toNat by omega]
            exact push_cut (by omega) (q := f.cb.length - (f.pc + 1).toNat) rfl (by congr 1 <;> omega)
          have hX4 : Ext w w4 := hT4.ext (by repeat (first | assumption | exact Ext.refl _ | refine Ext.alloc ?_ _ | refine Ext.drew ?_ | refine Ext.setB ?_ (by first | omega | (simp only [size_alloc, size_setB, size_drew]; omega)) _ | exact Ext.trans (by assumption) (by assumption) | refine Ext.trans ?_ (by assumption))) (by omega)
          have hzX4 := hX4.1
          have hl4 := hL4.1
          refine WH_nil ?_
          refine thn_normal ?_
          refine W_region rfl ?_
          refine WO_p (PS_move_ptr rfl) ?_
          refine WO_p (PS_move_ptr rfl) ?_
          refine WO_loadA _ Hvac.isAgg27 Hvac.sizeOf27 rfl (Hb.h (by repeat (first | assumption | exact Hb.newY _ _ | refine Hb.alloc ?_ | refine Hb.drew ?_ | refine Hb.ext (by assumption) ?_ | exact Hb.setSameL (by first | omega | (simp only [size_alloc, size_setB, size_drew]; omega)) | exact Hb.setSame (by assumption) | refine Hb.set (by first | omega | (simp only [size_alloc, size_setB, size_drew]; omega)) ?_ ))) (by first | omega | assumption | rfl | decide | exact Nat.le_refl _ | (simp only [size_ic, Value.cells]; omega) | (simp; omega) | simp) (Xt.h (by first | assumption | exact Xt.whole rfl rfl | exact Xt.whole rfl (by assumption) | exact Xt.whole rfl (by simp only [size_ic, Value.cells]; omega) | exact ⟨rfl⟩)) ?_
          refine WO_call Hvac.call69 (by rfl) (Ret.mono (fromBytes_spec _ _ (by assumption)) ?_)
          rintro _ w69_14 ⟨rfl, hE69_14⟩
          have hz69_14 := hE69_14.1
          try simp only [size_alloc, size_setB, size_drew] at hz69_14
          have hff := fromB_wd hL4.2
          have hff1 := hff.1
          refine WO_p (PS_move_int rfl) ?_
          refine WO_p (PS_add_i64n rfl rfl (by omega) (by omega)) ?_
          refine WO_p (PS_conv_u16n Hvac.runUnderlying3 Hvac.runUnderlying42 rfl (by omega) (by omega)) ?_
          refine WO_call Hvac.call235 (by rfl) (Ret.mono (settle_ex C c v B m t f _ _ _ _ _ (MS.ext hM (by repeat (first | assumption | exact Ext.refl _ | refine Ext.alloc ?_ _ | refine Ext.drew ?_ | refine Ext.setB ?_ (by first | omega | (simp only [size_alloc, size_setB, size_drew]; omega)) _ | exact Ext.trans (by assumption) (by assumption) | refine Ext.trans ?_ (by assumption)))) hA (by omega) (by first | (intro _; omega) | (intro h; cases h)) (by first | assumption | exact argW_wd hM.ty _ _ | exact Wd0 | exact flagW_wd _ | exact Wd1 | exact limb_wd (by omega)) (by omega)) ?_)
          rintro _ wS ⟨hRS, hKS⟩
          have hRS2 := MRet.pre (w := w) (by repeat (first | assumption | exact Ext.refl _ | refine Ext.alloc ?_ _ | refine Ext.drew ?_ | refine Ext.setB ?_ (by first | omega | (simp only [size_alloc, size_setB, size_drew]; omega)) _ | exact Ext.trans (by assumption) (by assumption) | refine Ext.trans ?_ (by assumption))) hRS
          have hKC := KC.pre (a := w) (by repeat (first | assumption | exact Ext.refl _ | refine Ext.alloc ?_ _ | refine Ext.drew ?_ | refine Ext.setB ?_ (by first | omega | (simp only [size_alloc, size_setB, size_drew]; omega)) _ | exact Ext.trans (by assumption) (by assumption) | refine Ext.trans ?_ (by assumption))) hKS
          have hK5 : KT 5 w wS := KC.kt hKC hblk (by decide)
          have hK28 : KT 28 w wS := KC.kt hKC hblk (by decide)
          refine WO_nil ?_
          first | refine bodyQ_ret0 Hvac.results290 ?_ | refine bodyQ_end0 Hvac.results290 ?_
          exact ⟨v, _, hRS2, (hI.settle hf hI.rw0 hvi (fun _ h => h) (Int.le_refl _) (by omega) (by first | (intro _; omega) | (intro h; cases h)) (by omega) hc).2, hRl.fin_val hM hMI hf hK5 hK28 (n := o) rfl (ygives_push ho).1 (k := 0) (ygives_push ho).2 rfl (by rw [hn0]) (by omega) (yvst_q (by omega) (by omega) _) (by rw [wn_fromB hL4, hL4x, bv_zeros_app, hyv]) (by omega) (by omega)⟩
        · have hb14p := hb14.h; try simp only [al_ete, al_dfn, Bool.not_eq_true', Bool.not_eq_false', al_ne, Bool.not_not, al_nn] at hb14p
          have hL4 : By (List.replicate 32 (0 : Int)) 32 := ⟨by simp, by_zero 32⟩
          have hL4x := push_cut0 (L := f.cb) (f := (f.pc + 1).toNat) (n := n.toNat) (by omega) (by omega)
          have hC4 := hH8
          have hl4 := hL4.1
          refine W_skip ?_
          refine thn_normal ?_
          refine W_region rfl ?_
          refine WO_p (PS_move_ptr rfl) ?_
          refine WO_p (PS_move_ptr rfl) ?_
          refine WO_loadA _ Hvac.isAgg27 Hvac.sizeOf27 rfl (Hb.h (by repeat (first | assumption | exact Hb.newY _ _ | refine Hb.alloc ?_ | refine Hb.drew ?_ | refine Hb.ext (by assumption) ?_ | exact Hb.setSameL (by first | omega | (simp only [size_alloc, size_setB, size_drew]; omega)) | exact Hb.setSame (by assumption) | refine Hb.set (by first | omega | (simp only [size_alloc, size_setB, size_drew]; omega)) ?_ ))) (by first | omega | assumption | rfl | decide | exact Nat.le_refl _ | (simp only [size_ic, Value.cells]; omega) | (simp; omega) | simp) (Xt.h (by first | assumption | exact Xt.whole rfl rfl | exact Xt.whole rfl (by assumption) | exact Xt.whole rfl (by simp only [size_ic, Value.cells]; omega) | exact ⟨rfl⟩)) ?_
          refine WO_call Hvac.call69 (by rfl) (Ret.mono (fromBytes_spec _ _ (by assumption)) ?_)
          rintro _ w69_16 ⟨rfl, hE69_16⟩
          have hz69_16 := hE69_16.1
          try simp only [size_alloc, size_setB, size_drew] at hz69_16
          have hff := fromB_wd hL4.2
          have hff1 := hff.1
          refine WO_p (PS_move_int rfl) ?_
          refine WO_p (PS_add_i64n rfl rfl (by omega) (by omega)) ?_
          refine WO_p (PS_conv_u16n Hvac.runUnderlying3 Hvac.runUnderlying42 rfl (by omega) (by omega)) ?_
          refine WO_call Hvac.call235 (by rfl) (Ret.mono (settle_ex C c v B m t f _ _ _ _ _ (MS.ext hM (by repeat (first | assumption | exact Ext.refl _ | refine Ext.alloc ?_ _ | refine Ext.drew ?_ | refine Ext.setB ?_ (by first | omega | (simp only [size_alloc, size_setB, size_drew]; omega)) _ | exact Ext.trans (by assumption) (by assumption) | refine Ext.trans ?_ (by assumption)))) hA (by omega) (by first | (intro _; omega) | (intro h; cases h)) (by first | assumption | exact argW_wd hM.ty _ _ | exact Wd0 | exact flagW_wd _ | exact Wd1 | exact limb_wd (by omega)) (by omega)) ?_)
          rintro _ wS ⟨hRS, hKS⟩
          have hRS2 := MRet.pre (w := w) (by repeat (first | assumption | exact Ext.refl _ | refine Ext.alloc ?_ _ | refine Ext.drew ?_ | refine Ext.setB ?_ (by first | omega | (simp only [size_alloc, size_setB, size_drew]; omega)) _ | exact Ext.trans (by assumption) (by assumption) | refine Ext.trans ?_ (by assumption))) hRS
          have hKC := KC.pre (a := w) (by repeat (first | assumption | exact Ext.refl _ | refine Ext.alloc ?_ _ | refine Ext.drew ?_ | refine Ext.setB ?_ (by first | omega | (simp only [size_alloc, size_setB, size_drew]; omega)) _ | exact Ext.trans (by assumption) (by assumption) | refine Ext.trans ?_ (by assumption))) hKS
          have hK5 : KT 5 w wS := KC.kt hKC hblk (by decide)
          have hK28 : KT 28 w wS := KC.kt hKC hblk (by decide)
          refine WO_nil ?_
          first | refine bodyQ_ret0 Hvac.results290 ?_ | refine bodyQ_end0 Hvac.results290 ?_
          exact ⟨v, _, hRS2, (hI.settle hf hI.rw0 hvi (fun _ h => h) (Int.le_refl _) (by omega) (by first | (intro _; omega) | (intro h; cases h)) (by omega) hc).2, hRl.fin_val hM hMI hf hK5 hK28 (n := o) rfl (ygives_push ho).1 (k := 0) (ygives_push ho).2 rfl (by rw [hn0]) (by omega) (yvst_q (by omega) (by omega) _) (by rw [wn_fromB hL4, hL4x, bv_zeros_app, hyv]) (by omega) (by omega)⟩
    · have hb7p := hb7.h; try simp only [al_ete, al_dfn, Bool.not_eq_true', Bool.not_eq_false', al_ne, Bool.not_not, al_nn] at hb7p
      refine WO_guardF rfl rfl hb7.h ?_
      refine WO_guardF rfl rfl hb7.h ?_
      refine WO_guardF rfl rfl hb7.h ?_
      refine WO_guardF rfl rfl hb7.h ?_
      refine WO_guardF rfl rfl hb7.h ?_
      refine WO_guardF rfl rfl hb7.h ?_
      refine WO_guardF rfl rfl hb7.h ?_
      refine WO_p (PS_pickF rfl hb7.h rfl) ?_
      refine WO_nil ?_
      refine thn_normal ?_
      refine W_condF rfl rfl ?_
      refine W_skip ?_
      refine thn_normal ?_
      refine W_seq ?_
      refine W_region rfl ?_
      refine WO_allocG Hvac.zeroValue27 ?_
      intro b8 v8 hg8 hE8 hH8 hl8
      try simp only [size_alloc, size_setB, size_drew] at hg8
      have hzz8 := hE8.1
      try simp only [size_alloc, size_setB, size_drew] at hzz8
      replace hH8 : Hb v8 b8 (.cells (ic .u8 (List.replicate 32 0)) 27 (0, 0)) := hH8
      refine WO_nil ?_
      refine thn_normal ?_
      refine W_seq ?_
      refine W_seq ?_
      refine W_region rfl ?_
      refine WO_p (PS_move_ptr rfl) ?_
      refine WO_p (PS_nilCheck rfl) ?_
      refine WO_p (PS_fieldAddr 4 Hvac.runUnderlying66 rfl Hvac.sizeOf42 rfl rfl) ?_
      refine WO_load (.int _ _) Hvac.isAgg42 rfl (Hb.h (by repeat (first | assumption | exact Hb.newY _ _ | refine Hb.alloc ?_ | refine Hb.drew ?_ | refine Hb.ext (by assumption) ?_ | exact Hb.setSameL (by first | omega | (simp only [size_alloc, size_setB, size_drew]; omega)) | exact Hb.setSame (by assumption) | refine Hb.set (by first | omega | (simp only [size_alloc, size_setB, size_drew]; omega)) ?_ ))) (Ce.h (by first | assumption | exact ⟨rfl⟩)) ?_
      refine WO_p (PS_conv_i64n Hvac.runUnderlying42 Hvac.runUnderlying3 rfl (by omega) (by omega)) ?_
      refine WO_p (PS_add_i64n rfl rfl (by omega) (by omega)) ?_
      refine WO_p (PS_assign_int rfl) ?_
      refine WO_nil ?_
      refine thn_normal ?_
      refine W_seq ?_
      refine W_region rfl ?_
      refine WO_p (PS_move_int rfl) ?_
      refine WO_p (PS_move_ptr rfl) ?_
      refine WO_p (PS_nilCheck rfl) ?_
      refine WO_p (PS_fieldAddr 53 Hvac.runUnderlying66 rfl Hvac.sizeOf32 rfl rfl) ?_
      refine WO_load (.slice _ _ _) Hvac.isAgg32 rfl (Hb.h (by repeat (first | assumption | exact Hb.newY _ _ | refine Hb.alloc ?_ | refine Hb.drew ?_ | refine Hb.ext (by assumption) ?_ | exact Hb.setSameL (by first | omega | (simp only [size_alloc, size_setB, size_drew]; omega)) | exact Hb.setSame (by assumption) | refine Hb.set (by first | omega | (simp only [size_alloc, size_setB, size_drew]; omega)) ?_ ))) (Ce.h (by first | assumption | exact ⟨rfl⟩)) ?_
      refine WO_p (PS_lenS Hvac.runUnderlying32 rfl) ?_
      refine WO_p (PS_lss rfl rfl) ?_
      refine WO_nil ?_
      refine thn_normal ?_
      refine W_if rfl (fun hb20 => ?_) (fun hb20 => ?_)
      · have hb20p := hb20.h; try simp only [al_ete, al_dfn, Bool.not_eq_true', Bool.not_eq_false', al_ne, Bool.not_not, al_nn] at hb20p
        refine W_drawE [false, false, false, false, false, false, false, false, false, false] hmix (by kernel_rfl) rfl ?_
        refine WH_p (PS_move_int rfl) rfl ?_
        refine WH_p (PS_sub_i64n rfl rfl (by omega) (by omega)) rfl ?_
        refine WH_p (PS_slA_l Hvac.runUnderlying27 Hvac.sizeOf5 rfl rfl (by omega) (by omega) (by omega)) rfl ?_
        refine WH_p (PS_move_ptr rfl) rfl ?_
        refine WH_p (PS_nilCheck rfl) rfl ?_
        refine WH_p (PS_fieldAddr 53 Hvac.runUnderlying66 rfl Hvac.sizeOf32 rfl rfl) rfl ?_
        refine WH_load (.slice _ _ _) Hvac.isAgg32 rfl (Hb.h (by repeat (first | assumption | exact Hb.newY _ _ | refine Hb.alloc ?_ | refine Hb.drew ?_ | refine Hb.ext (by assumption) ?_ | exact Hb.setSameL (by first | omega | (simp only [size_alloc, size_setB, size_drew]; omega)) | exact Hb.setSame (by assumption) | refine Hb.set (by first | omega | (simp only [size_alloc, size_setB, size_drew]; omega)) ?_ ))) (Ce.h (by first | assumption | exact ⟨rfl⟩)) ?_
        refine WH_p (PS_move_int rfl) rfl ?_
        refine WH_p (PS_slG_l Hvac.runUnderlying32 Hvac.sizeOf5 rfl rfl (by omega) (by omega)) rfl ?_
        refine WH_copyTX (b2 := 0) (b := b8) (o := 0 + (32 - n).toNat * 1) Hvac.runUnderlying32 Hvac.sizeOf5 rfl rfl (fun _ => rfl) (Hb.drew hH8) (by simp; omega) (SC.tail (SC.ext hsc (by repeat (first | assumption | exact Ext.refl _ | refine Ext.alloc ?_ _ | refine Ext.drew ?_ | refine Ext.setB ?_ (by first | omega | (simp only [size_alloc, size_setB, size_drew]; omega)) _ | exact Ext.trans (by assumption) (by assumption) | refine Ext.trans ?_ (by assumption)))) (f.pc + 1).toNat (by simp; omega) (by simp; omega)) (fun z hz => hcby z (List.mem_of_mem_drop hz)) (by omega) ?_
        intro w4 L4 hT4 hL4y
        refine ⟨(fun h => by cases h), ?_⟩
        have hC4 := hT4.hb
        have hL4 : By L4 32 := ⟨by rw [hT4.len]; simp, hT4.ty (by_zero 32)⟩
        have hL4x : L4 = List.replicate (32 - n.toNat) 0 ++ ycut f.cb (f.pc + 1).toNat n.toNat := by
          rw [hL4y, show 0 + (32 - n).toNat * 1 = 32 - n.toNat by omega]
          exact push_cut (by omega) (q := f.cb.length - (f.pc + 1).toNat) rfl (by congr 1 <;> omega)
        have hX4 : Ext w w4 := hT4.ext (by repeat (first | assumption | exact Ext.refl _ | refine Ext.alloc ?_ _ | refine Ext.drew ?_ | refine Ext.setB ?_ (by first | omega | (simp only [size_alloc, size_setB, size_drew]; omega)) _ | exact Ext.trans (by assumption) (by assumption) | refine Ext.trans ?_ (by assumption))) (by omega)
        have hzX4 := hX4.1
        have hl4 := hL4.1
        refine WH_nil ?_
        refine thn_normal ?_
        refine W_region rfl ?_
        refine WO_p (PS_move_ptr rfl) ?_
        refine WO_p (PS_move_ptr rfl) ?_
        refine WO_loadA _ Hvac.isAgg27 Hvac.sizeOf27 rfl (Hb.h (by repeat (first | assumption | exact Hb.newY _ _ | refine Hb.alloc ?_ | refine Hb.drew ?_ | refine Hb.ext (by assumption) ?_ | exact Hb.setSameL (by first | omega | (simp only [size_alloc, size_setB, size_drew]; omega)) | exact Hb.setSame (by assumption) | refine Hb.set (by first | omega | (simp only [size_alloc, size_setB, size_drew]; omega)) ?_ ))) (by first | omega | assumption | rfl | decide | exact Nat.le_refl _ | (simp only [size_ic, Value.cells]; omega) | (simp; omega) | simp) (Xt.h (by first | assumption | exact Xt.whole rfl rfl | exact Xt.whole rfl (by assumption) | exact Xt.whole rfl (by simp only [size_ic, Value.cells]; omega) | exact ⟨rfl⟩)) ?_
        refine WO_call Hvac.call69 (by rfl) (Ret.mono (fromBytes_spec _ _ (by assumption)) ?_)
        rintro _ w69_20 ⟨rfl, hE69_20⟩
        have hz69_20 := hE69_20.1
        try simp only [size_alloc, size_setB, size_drew] at hz69_20
        have hff := fromB_wd hL4.2
        have hff1 := hff.1
        refine WO_p (PS_move_int rfl) ?_
        refine WO_p (PS_add_i64n rfl rfl (by omega) (by omega)) ?_
        refine WO_p (PS_conv_u16n Hvac.runUnderlying3 Hvac.runUnderlying42 rfl (by omega) (by omega)) ?_
        refine WO_call Hvac.call235 (by rfl) (Ret.mono (settle_ex C c v B m t f _ _ _ _ _ (MS.ext hM (by repeat (first | assumption | exact Ext.refl _ | refine Ext.alloc ?_ _ | refine Ext.drew ?_ | refine Ext.setB ?_ (by first | omega | (simp only [size_alloc, size_setB, size_drew]; omega)) _ | exact Ext.trans (by assumption) (by assumption) | refine Ext.trans ?_ (by assumption)))) hA (by omega) (by first | (intro _; omega) | (intro h; cases h)) (by first | assumption | exact argW_wd hM.ty _ _ | exact Wd0 | exact flagW_wd _ | exact Wd1 | exact limb_wd (by omega)) (by omega)) ?_)
        rintro _ wS ⟨hRS, hKS⟩
        have hRS2 := MRet.pre (w := w) (by repeat (first | assumption | exact Ext.refl _ | refine Ext.alloc ?_ _ | refine Ext.drew ?_ | refine Ext.setB ?_ (by first | omega | (simp only [size_alloc, size_setB, size_drew]; omega)) _ | exact Ext.trans (by assumption) (by assumption) | refine Ext.trans ?_ (by assumption))) hRS
        have hKC := KC.pre (a := w) (by repeat (first | assumption | exact Ext.refl _ | refine Ext.alloc ?_ _ | refine Ext.drew ?_ | refine Ext.setB ?_ (by first | omega | (simp only [size_alloc, size_setB, size_drew]; omega)) _ | exact Ext.trans (by assumption) (by assumption) | refine Ext.trans ?_ (by assumption))) hKS
        have hK5 : KT 5 w wS := KC.kt hKC hblk (by decide)
        have hK28 : KT 28 w wS := KC.kt hKC hblk (by decide)
        refine WO_nil ?_
        first | refine bodyQ_ret0 Hvac.results290 ?_ | refine bodyQ_end0 Hvac.results290 ?_
        exact ⟨v, _, hRS2, (hI.settle hf hI.rw0 hvi (fun _ h => h) (Int.le_refl _) (by omega) (by first | (intro _; omega) | (intro h; cases h)) (by omega) hc).2, hRl.fin_val hM hMI hf hK5 hK28 (n := o) rfl (ygives_push ho).1 (k := 0) (ygives_push ho).2 rfl (by rw [hn0]) (by omega) (yvst_q (by omega) (by omega) _) (by rw [wn_fromB hL4, hL4x, bv_zeros_app, hyv]) (by omega) (by omega)⟩
      · have hb20p := hb20.h; try simp only [al_ete, al_dfn, Bool.not_eq_true', Bool.not_eq_false', al_ne, Bool.not_not, al_nn] at hb20p
        have hL4 : By (List.replicate 32 (0 : Int)) 32 := ⟨by simp, by_zero 32⟩
        have hL4x := push_cut0 (L := f.cb) (f := (f.pc + 1).toNat) (n := n.toNat) (by omega) (by omega)
        have hC4 := hH8
        have hl4 := hL4.1
        refine W_skip ?_
        refine thn_normal ?_
        refine W_region rfl ?_
        refine WO_p (PS_move_ptr rfl) ?_
        refine WO_p (PS_move_ptr rfl) ?_
        refine WO_loadA _ Hvac.isAgg27 Hvac.sizeOf27 rfl (Hb.h (by repeat (first | assumption | exact Hb.newY _ _ | refine Hb.alloc ?_ | refine Hb.drew ?_ | refine Hb.ext (by assumption) ?_ | exact Hb.setSameL (by first | omega | (simp only [size_alloc, size_setB, size_drew]; omega)) | exact Hb.setSame (by assumption) | refine Hb.set (by first | omega | (simp only [size_alloc, size_setB, size_drew]; omega)) ?_ ))) (by first | omega | assumption | rfl | decide | exact Nat.le_refl _ | (simp only [size_ic, Value.cells]; omega) | (simp; omega) | simp) (Xt.h (by first | assumption | exact Xt.whole rfl rfl | exact Xt.whole rfl (by assumption) | exact Xt.whole rfl (by simp only [size_ic, Value.cells]; omega) | exact ⟨rfl⟩)) ?_
        refine WO_call Hvac.call69 (by rfl) (Ret.mono (fromBytes_spec _ _ (by assumption)) ?_)
        rintro _ w69_22 ⟨rfl, hE69_22⟩
        have hz69_22 := hE69_22.1
        try simp only [size_alloc, size_setB, size_drew] at hz69_22
        have hff := fromB_wd hL4.2
        have hff1 := hff.1
        refine WO_p (PS_move_int rfl) ?_
        refine WO_p (PS_add_i64n rfl rfl (by omega) (by omega)) ?_
        refine WO_p (PS_conv_u16n Hvac.runUnderlying3 Hvac.runUnderlying42 rfl (by omega) (by omega)) ?_
        refine WO_call Hvac.call235 (by rfl) (Ret.mono (settle_ex C c v B m t f _ _ _ _ _ (MS.ext hM (by repeat (first | assumption | exact Ext.refl _ | refine Ext.alloc ?_ _ | refine Ext.drew ?_ | refine Ext.setB ?_ (by first | omega | (simp only [size_alloc, size_setB, size_drew]; omega)) _ | exact Ext.trans (by assumption) (by assumption) | refine Ext.trans ?_ (by assumption)))) hA (by omega) (by first | (intro _; omega) | (intro h; cases h)) (by first | assumption | exact argW_wd hM.ty _ _ | exact Wd0 | exact flagW_wd _ | exact Wd1 | exact limb_wd (by omega)) (by omega)) ?_)
        rintro _ wS ⟨hRS, hKS⟩
        have hRS2 := MRet.pre (w := w) (by repeat (first | assumption | exact Ext.refl _ | refine Ext.alloc ?_ _ | refine Ext.drew ?_ | refine Ext.setB ?_ (by first | omega | (simp only [size_alloc, size_setB, size_drew]; omega)) _ | exact Ext.trans (by assumption) (by assumption) | refine Ext.trans ?_ (by assumption))) hRS
        have hKC := KC.pre (a := w) (by repeat (first | assumption | exact Ext.refl _ | refine Ext.alloc ?_ _ | refine Ext.drew ?_ | refine Ext.setB ?_ (by first | omega | (simp only [size_alloc, size_setB, size_drew]; omega)) _ | exact Ext.trans (by assumption) (by assumption) | refine Ext.trans ?_ (by assumption))) hKS
        have hK5 : KT 5 w wS := KC.kt hKC hblk (by decide)
        have hK28 : KT 28 w wS := KC.kt hKC hblk (by decide)
        refine WO_nil ?_
        first | refine bodyQ_ret0 Hvac.results290 ?_ | refine bodyQ_end0 Hvac.results290 ?_
        exact ⟨v, _, hRS2, (hI.settle hf hI.rw0 hvi (fun _ h => h) (Int.le_refl _) (by omega) (by first | (intro _; omega) | (intro h; cases h)) (by omega) hc).2, hRl.fin_val hM hMI hf hK5 hK28 (n := o) rfl (ygives_push ho).1 (k := 0) (ygives_push ho).2 rfl (by rw [hn0]) (by omega) (yvst_q (by omega) (by omega) _) (by rw [wn_fromB hL4, hL4x, bv_zeros_app, hyv]) (by omega) (by omega)⟩

end Go.Proofs.YgvacwGreat
