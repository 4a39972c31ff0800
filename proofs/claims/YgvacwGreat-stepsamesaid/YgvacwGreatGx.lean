import Derived.Test.YgvacwGreatGw
namespace Go.Proofs.YgvacwGreat
set_option linter.unusedSimpArgs false
set_option linter.unusedVariables false
/-! memory -/
theorem setB_self {w : World} {b : Nat} {o : Obj} (h : hp w b = some o) : setB w b o = w := by
  unfold setB
  have h2 : w.heap[b]? = some o := h
  have e : w.heap.setIfInBounds b o = w.heap := by
    refine Array.ext_getElem? fun i => ?_
    rw [Array.getElem?_setIfInBounds]
    split
    · rename_i hi; subst hi
      split
      · exact h2.symm
      · rename_i h3; rw [Array.getElem?_eq_none (by omega)]
    · rfl
  rw [e]
/-- M laid in L from o on, cut at the end -/
def ywr (L : List Int) (o : Nat) (M : List Int) : List Int := (List.range L.length).map fun i => if o ≤ i ∧ i < o + M.length then M.getD (i - o) 0 else L.getD i 0
theorem ywr_len (L : List Int) (o : Nat) (M : List Int) : (ywr L o M).length = L.length := by simp [ywr]
theorem ywr_get {L : List Int} {o : Nat} {M : List Int} {i : Nat} (h : i < L.length) : (ywr L o M)[i]? = some (if o ≤ i ∧ i < o + M.length then M.getD (i - o) 0 else L.getD i 0) := by simp [ywr, h]
theorem ywr_gd {L : List Int} {o : Nat} {M : List Int} {i : Nat} (h : i < L.length) : (ywr L o M).getD i 0 = (if o ≤ i ∧ i < o + M.length then M.getD (i - o) 0 else L.getD i 0) := by rw [List.getD_eq_getElem?_getD, ywr_get h]; rfl
theorem ycut_gd {src : List Int} {off n i : Nat} (h : i < n) : (ycut src off n).getD i 0 = src.getD (off + i) 0 := by rw [List.getD_eq_getElem?_getD, ycut_get h]; rfl
theorem ywr_by {L : List Int} {o : Nat} {M : List Int} (h : ∀ x ∈ L, 0 ≤ x ∧ x ≤ 255) (h2 : ∀ x ∈ M, 0 ≤ x ∧ x ≤ 255) : ∀ x ∈ ywr L o M, 0 ≤ x ∧ x ≤ 255 := by
  intro x hx
  simp only [ywr, List.mem_map, List.mem_range] at hx
  obtain ⟨i, _, rfl⟩ := hx
  split
  · exact gd_by h2 _
  · exact gd_by h _
theorem ywr_past {L : List Int} {o : Nat} {M : List Int} (h : L.length ≤ o ∨ M = []) : ywr L o M = L := by
  refine gd_ext (ywr_len L o M) fun i hi => ?_
  rw [ywr_len] at hi
  rw [ywr_gd hi, if_neg]
  · rcases h with h | h
    · omega
    · subst h; intro h9; simp at h9; omega
theorem ywr_copy {L M : List Int} {o m : Nat} (ho : o ≤ L.length) (hm : Nat.min M.length (L.length - o) = m) : L.take o ++ M.take m ++ L.drop (o + (M.take m).length) = ywr L o M := by
  have hm' : m ≤ M.length ∧ m ≤ L.length - o ∧ (m = M.length ∨ m = L.length - o) := by
    have : Nat.min M.length (L.length - o) = min M.length (L.length - o) := rfl
    omega
  have hl : (M.take m).length = m := by rw [List.length_take]; omega
  have hlo : (L.take o).length = o := by rw [List.length_take]; omega
  rw [hl]
  refine List.ext_getElem? fun i => ?_
  rcases Nat.lt_or_ge i L.length with hi | hi
  · rw [ywr_get hi]
    rcases Nat.lt_or_ge i o with h1 | h1
    · rw [if_neg (by omega), List.append_assoc, List.getElem?_append_left (by omega), List.getElem?_take, if_pos h1, List.getD_eq_getElem?_getD, List.getElem?_eq_getElem hi]; rfl
    · rw [List.append_assoc, List.getElem?_append_right (by omega), hlo]
      rcases Nat.lt_or_ge i (o + m) with h2 | h2
      · rw [if_pos (by omega), List.getElem?_append_left (by omega), List.getElem?_take, if_pos (by omega), List.getD_eq_getElem?_getD, List.getElem?_eq_getElem (by omega)]; rfl
      · rw [if_neg (by omega), List.getElem?_append_right (by omega), hl, List.getElem?_drop, List.getD_eq_getElem?_getD, show o + m + (i - o - m) = i by omega, List.getElem?_eq_getElem hi]; rfl
  · rw [List.getElem?_eq_none (by simp only [List.length_append, List.length_drop, hl, hlo]; omega), List.getElem?_eq_none (by rw [ywr_len]; exact hi)]
theorem ywr_zero (M : List Int) (n : Nat) : ywr (List.replicate n 0) 0 M = ycut M 0 n := by
  refine gd_ext (by rw [ywr_len, ycut_len, List.length_replicate]) fun i hi => ?_
  rw [ywr_len, List.length_replicate] at hi
  rw [ywr_gd (by simpa using hi), ycut_gd hi, Nat.zero_add, Nat.zero_add, Nat.sub_zero]
  split
  · rfl
  · rw [gd_rep, gd_ge (by omega)]
section
variable {P : Program} {ops : Array Oper} {Q : Post} {ty e : TypeId} {pos : String} {af : Array Edge} {os : List Oper} {ρ : Nat → Value} {w : World} {x y : Operand} {dd : Option Nat} {dT sT : TypeId}
theorem WO_copyA {b o dl dc n2 c2 : Nat} {p2 : Option Addr} {T : TypeId} {L M : List Int} (hU : ∀ w, (underlying dT).run P w = .ok (.slice e) w) (hS : ∀ w, (Go.sizeOf e).run P w = .ok 1 w) (hd : Hb w b (.cells (ic .u8 L) T (0, 0))) (hM : AB w (p2, n2, c2) M) (hol : o + dl = L.length)
    (hx : ev ρ x = .slice (some ⟨b, o, none⟩) dl dc) (hy : ev ρ y = .slice p2 n2 c2)
    (h : WO P ops Q os (updo ρ dd (Value.int .i64 (Nat.min n2 dl))) (setB w b (.cells (ic .u8 (ywr L o M)) T (0, 0)))) : WO P ops Q (⟨dd, .call ⟨.builtin .copy, #[x, y], #[dT, sT]⟩, ty, pos, af, none⟩ :: os) ρ w := by
  have hMl := hM.len
  dsimp only at hMl
  rcases Nat.eq_zero_or_pos n2 with h0 | h0
  · subst h0
    have hM0 : M = [] := List.length_eq_zero_iff.1 hMl
    refine WO_copyZ hU hS hx hy ?_
    rw [ywr_past (Or.inr hM0), setB_self hd.h, show Nat.min 0 dl = 0 from Nat.zero_min dl] at h
    exact h
  · obtain ⟨b2, o2, r2, T2, fz2, hp2, hb2, hrs2, hX2⟩ := hM.row h0
    dsimp only at hp2 hrs2 hX2
    subst hp2
    obtain ⟨m, hm⟩ : ∃ m, Nat.min n2 dl = m := ⟨_, rfl⟩
    have hmin0 : m ≤ n2 ∧ m ≤ dl := by rw [← hm]; exact ⟨Nat.min_le_left _ _, Nat.min_le_right _ _⟩
    have hx2 := xt_part2 (k := 0) (m := m) hX2 hMl (by omega)
    refine WO_copy m (vs := ic .u8 (M.take m)) hU hS hx hy hd.h hb2.h hm (by rw [size_ic]; omega) (by omega) (by rw [Nat.mul_one]; simpa using hx2) oneCell_ic ?_
    rw [show (ic .u8 (M.take m)).toList = (M.take m).map (Value.int .u8) from rfl, splice_ic _ _ _ _ (by rw [List.length_take]; omega), ywr_copy (by omega) (by rw [hMl, show L.length - o = dl by omega]; exact hm)]
    rw [hm] at h
    exact h
end
/-- memory that may be written -/
structure MW [Om] (w : World) (s : SV) (L : List Int) : Prop where
  len : L.length = s.2.1
  row : 0 < s.2.1 → ∃ b, s.1 = some ⟨b, 0, none⟩ ∧ Om.p b ∧ Hb w b (.cells (ic .u8 L) 5 (0, 0))
theorem MW.keep [Om] {w w' : World} {s : SV} {L : List Int} (h : MW w s L) (hk : ∀ b r, s.1 = some ⟨b, 0, none⟩ → Hb w b (.cells r 5 (0, 0)) → Hb w' b (.cells r 5 (0, 0))) : MW w' s L := ⟨h.len, fun h0 => by obtain ⟨b, h1, h2, h3⟩ := h.row h0; exact ⟨b, h1, h2, hk b _ h1 h3⟩⟩
theorem MW.ext [Om] {w w' : World} {s : SV} {L : List Int} (h : MW w s L) (he : Ext w w') : MW w' s L := h.keep fun _ _ _ hb => hb.ext he
theorem MW.fs [Om] {w w' : World} {F : Nat} {r : Array Value} {s : SV} {L : List Int} (h : MW w s L) (hF : Hb w F (.cells r 121 (0, 0))) (hk : KeepO (fun b => b = F) w w') : MW w' s L :=
  h.keep fun b r2 _ hb => hb.keepO hk fun e => by have h9 := Hb.type_eq hF (e ▸ hb); exact absurd h9 (by decide)
theorem MW.om {O O' : Om} {w : World} {s : SV} {L : List Int} (h : @MW O w s L) (ho : ∀ b, (@Om.p O) b → (@Om.p O') b) : @MW O' w s L := by obtain ⟨h4, h5⟩ := h; exact ⟨h4, fun h0 => by obtain ⟨b, h1, h2, h3⟩ := h5 h0; exact ⟨b, h1, ho b h2, h3⟩⟩
theorem MW.nil [Om] (w : World) : MW w (none, 0, 0) [] := ⟨rfl, fun h => absurd h (Nat.lt_irrefl 0)⟩
/-- the block of a slice -/
def sblk (s : SV) (b : Nat) : Prop := ∃ o, s.1 = some ⟨b, o, none⟩ ∧ 0 < s.2.1
theorem KT.kf {w w' : World} {F T T' : Nat} {r : Array Value} (hF : Hb w F (.cells r T (0, 0))) (hk : KeepO (fun b => b = F) w w') (hT : T ≠ T') : KT T' w w' := fun b r2 fz hb => hb.keepO hk fun e => hT (Hb.type_eq hF (e ▸ hb))
theorem MW.kt277 [Om] {w w' : World} {s : SV} {L : List Int} (h : MW w s L) (hk : KeepO (sblk s) w w') : KT 277 w w' := fun b r fz hb => hb.keepO hk fun hs => by
  obtain ⟨o, h1, h2⟩ := hs
  obtain ⟨b', h3, _, h4⟩ := h.row h2
  rw [h1] at h3
  injection h3 with h3
  injection h3 with h3 _
  subst h3
  exact absurd (Hb.type_eq h4 hb) (by decide)
def ygrow (f : PF) (to : Nat) : PF := if f.mem.length / 32 < ywords to then { f with mem := ycut f.mem 0 (32 * ywords to) } else f
def ywrite (f : PF) (a : Nat) (M : List Int) : PF := { f with mem := ywr f.mem a M }
def ycopied (f : PF) (d : Nat) (src : List Int) (a n : Nat) : PF := if n = 0 then f else ywrite f d (ycut src a n)
/-- what a write to a frame's memory leaves -/
structure WStep [Om] (w w' : World) (F fo : Nat) (r : Array Value) (x : YFr) (f' : PF) : Prop where
  keep : KeepO (sblk x.mem) w w'
  m : FrM w' F fo r x f'
  mw : MW w' x.mem f'.mem
theorem WStep.mk2 [Om] {w w1 : World} {F fo b : Nat} {r : Array Value} {x : YFr} {f : PF} {M : List Int} {a : Nat} (hE : Ext w w1) (hF : FrM w F fo r x f) (h0 : 0 < x.mem.2.1) (hx : x.mem.1 = some ⟨b, 0, none⟩) (ho : Om.p b) (hb : Hb w b (.cells (ic .u8 f.mem) 5 (0, 0))) (hMb : ∀ x ∈ M, 0 ≤ x ∧ x ≤ 255) :
    WStep w (setB w1 b (.cells (ic .u8 (ywr f.mem a M)) 5 (0, 0))) F fo r x (ywrite f a M) := by
  have hk : KeepO (sblk x.mem) w (setB w1 b (.cells (ic .u8 (ywr f.mem a M)) 5 (0, 0))) := KeepO.setB (O := sblk x.mem) (hE.keepO _) (fun _ => ⟨0, hx, h0⟩) _
  have hko : KeepO Om.p w (setB w1 b (.cells (ic .u8 (ywr f.mem a M)) 5 (0, 0))) := keepSO hE ho _
  have hbF : b ≠ F := fun e => by have h9 := Hb.type_eq hF.blk (e ▸ hb); exact absurd h9 (by decide)
  have hb2 : Hb (setB w1 b (.cells (ic .u8 (ywr f.mem a M)) 5 (0, 0))) b (.cells (ic .u8 (ywr f.mem a M)) 5 (0, 0)) := Hb.setSame (hb.ext hE)
  have hr := hF.rel
  have hl := hr.mem.len
  refine ⟨hk, ⟨Hb.set hbF (hF.blk.ext hE), hF.fc, ?_, hF.om⟩, ⟨?_, fun _ => ⟨b, hx, ho, hb2⟩⟩⟩
  · have hm : MB (setB w1 b (.cells (ic .u8 (ywr f.mem a M)) 5 (0, 0))) x.mem (ywr f.mem a M) := ⟨by rw [ywr_len]; exact hl, hr.mem.cap, ywr_by hr.mem.by_ hMb, fun _ => ⟨b, _, (0, 0), hx, hb2, by rw [size_ic, ywr_len]; omega, Xt.whole rfl (by rw [size_ic, ywr_len]; omega)⟩⟩
    exact { hr with pc := hr.pc.keep hko, gas := hr.gas.keep hko, value := hr.value.keep hko, outOff := hr.outOff.keep hko, outLen := hr.outLen.keep hko, stack := hr.stack.keep hko, code := hr.code.keep hko, inputY := hr.inputY.keep hko, saved := hr.saved.keep hko, mem := hm }
  · show (ywr f.mem a M).length = _; rw [ywr_len]; exact hl
theorem WStep.pre [Om] {w w1 w2 : World} {F fo : Nat} {r : Array Value} {x : YFr} {f' : PF} (hE : Ext w w1) (h : WStep w1 w2 F fo r x f') : WStep w w2 F fo r x f' := ⟨(hE.keepO _).trans h.keep (fun _ _ e => e), h.m, h.mw⟩
theorem WStep.same [Om] {w w1 : World} {F fo : Nat} {r : Array Value} {x : YFr} {f : PF} (hE : Ext w w1) (h : FrM w F fo r x f) (hm : MW w x.mem f.mem) : WStep w w1 F fo r x f := ⟨hE.keepO _, h.ext hE, hm.ext hE⟩
theorem WStep.castY [Om] {w w1 : World} {F fo : Nat} {r : Array Value} {x : YFr} {f f' : PF} (h : WStep w w1 F fo r x f) (e : f = f') : WStep w w1 F fo r x f' := e ▸ h

set_option maxRecDepth 10000 in
set_option maxHeartbeats 4000000 in
theorem yWrite_spec [Om] (w : World) (hO : OmB w) (F fo : Nat) (r : Array Value) (x : YFr) (f : PF) (hF : FrM w F fo r x f) (hP : PFB f) (hMW : MW w x.mem f.mem) (ap : Option Addr) (an acY a : Nat) (ha : NN w (ap, an, acY) a) (za : sz a ≤ 1000)(p : Option Addr) (sn sc : Nat) (L : List Int) (hs : AB w (p, sn, sc) L) (hsn : sn ≤ 100000000) : Ret Hvac.prog 116 #[.pointer (some ⟨F, fo, none⟩), .slice ap an acY, .slice p sn sc] w fun u w' => u = .tuple #[] ∧ WStep w w' F fo r x (ywrite f a L) := by
  have hFR := hF.rel
  have hFb := hF.blk
  have hFC := hF.fc
  have hFo := hF.om
  have hFl := hFb.lt
  have hFsz := hFC.size
  have hk9 := hFC.mem
  have hml := hP.ml
  have hmlen := hMW.len
  have hmcap := hFR.mem.cap
  refine Ret_of_W Hvac.func116 rfl rfl ?_
  refine W_seq ?_
  refine W_region rfl ?_
  refine WO_p (PS_move_slice rfl) ?_
  refine WO_p (PS_move_ptr rfl) ?_
  refine WO_p (PS_nilCheck rfl) ?_
  refine WO_p (PS_fieldAddr 9 Hvac.runUnderlying121 rfl Hvac.sizeOf32 rfl rfl) ?_
  refine WO_load (.slice _ _ _) Hvac.isAgg32 rfl (Hb.h (by repeat (first | assumption | exact Hb.newY _ _ | refine Hb.alloc ?_ | refine Hb.drew ?_ | refine Hb.ext (by assumption) ?_ | exact Hb.setSameL (by first | omega | (simp only [size_alloc, size_setB, size_drew]; omega)) | exact Hb.setSame (by assumption) | refine Hb.set (by first | omega | (simp only [size_alloc, size_setB, size_drew]; omega)) ?_ ))) (Ce.h (by first | assumption | exact ⟨rfl⟩)) ?_
  refine WO_p (PS_lenS Hvac.runUnderlying32 rfl) ?_
  refine WO_call Hvac.call110 (by rfl) (Ret.mono (place_spec _ (OmB.ext hO (by repeat (first | assumption | exact Ext.refl _ | refine Ext.alloc ?_ _ | refine Ext.drew ?_ | refine Ext.setB ?_ (by first | omega | (simp only [size_alloc, size_setB, size_drew]; omega)) _ | exact Ext.trans (by assumption) (by assumption) | refine Ext.trans ?_ (by assumption)))) _ _ _ _ (by first | exact NN.nil _ | assumption | exact NN.ext (by assumption) (by repeat (first | assumption | exact Ext.refl _ | refine Ext.alloc ?_ _ | refine Ext.drew ?_ | refine Ext.setB ?_ (by first | omega | (simp only [size_alloc, size_setB, size_drew]; omega)) _ | exact Ext.trans (by assumption) (by assumption) | refine Ext.trans ?_ (by assumption)))) (by first | assumption | omega | (rw [sz_zero]; omega)) _ (by omega)) ?_)
  rintro _ w110_0 ⟨hE110_0, rfl⟩
  have hz110_0 := hE110_0.1
  try simp only [size_alloc, size_setB, size_drew] at hz110_0
  refine WO_p (PS_move_tuple rfl) ?_
  refine WO_p (PS_extract_int rfl rfl) ?_
  refine WO_p (PS_extract_bool rfl rfl) ?_
  refine WO_p (PS_assign_int rfl) ?_
  refine WO_p (PS_assign_bool rfl) ?_
  refine WO_nil ?_
  refine thn_normal ?_
  refine W_seq ?_
  refine W_region rfl ?_
  refine WO_p (PS_move_bool rfl) ?_
  refine WO_nil ?_
  refine thn_normal ?_
  refine W_if rfl (fun hb3 => ?_) (fun hb3 => ?_)
  · have hb3p := hb3.h; try simp only [al_ete, al_dfn, Bool.not_eq_true', Bool.not_eq_false', al_ne, Bool.not_not, al_nn] at hb3p
    have hal : a < x.mem.2.1 := by simpa using hb3p
    have hif : (if a < x.mem.2.1 then (a : Int) else 0) = a := if_pos hal
    rw [hif]
    obtain ⟨b, hmp, hmo, hmb⟩ := hMW.row (by omega)
    obtain ⟨xm1, hxm1⟩ : ∃ xm1, xm1 = x.mem.1 := ⟨_, rfl⟩
    rw [← hxm1] at hk9 hmp
    subst hmp
    refine W_region rfl ?_
    refine WO_p (PS_move_ptr rfl) ?_
    refine WO_p (PS_nilCheck rfl) ?_
    refine WO_p (PS_fieldAddr 9 Hvac.runUnderlying121 rfl Hvac.sizeOf32 rfl rfl) ?_
    refine WO_load (.slice _ _ _) Hvac.isAgg32 rfl (Hb.h (by repeat (first | assumption | exact Hb.newY _ _ | refine Hb.alloc ?_ | refine Hb.drew ?_ | refine Hb.ext (by assumption) ?_ | exact Hb.setSameL (by first | omega | (simp only [size_alloc, size_setB, size_drew]; omega)) | exact Hb.setSame (by assumption) | refine Hb.set (by first | omega | (simp only [size_alloc, size_setB, size_drew]; omega)) ?_ ))) (Ce.h (by first | assumption | exact ⟨rfl⟩)) ?_
    refine WO_p (PS_move_int rfl) ?_
    refine WO_p (PS_slS_l Hvac.runUnderlying32 Hvac.sizeOf5 rfl rfl (by omega) (by omega) (by omega)) ?_
    refine WO_p (PS_move_slice rfl) ?_
    refine WO_copyA (L := f.mem) (M := L) Hvac.runUnderlying32 Hvac.sizeOf5 (Hb.mk (Hb.h (by repeat (first | assumption | exact Hb.newY _ _ | refine Hb.alloc ?_ | refine Hb.drew ?_ | refine Hb.ext (by assumption) ?_ | exact Hb.setSameL (by first | omega | (simp only [size_alloc, size_setB, size_drew]; omega)) | exact Hb.setSame (by assumption) | refine Hb.set (by first | omega | (simp only [size_alloc, size_setB, size_drew]; omega)) ?_ )))) (AB.ext hs (by repeat (first | assumption | exact Ext.refl _ | refine Ext.alloc ?_ _ | refine Ext.drew ?_ | refine Ext.setB ?_ (by first | omega | (simp only [size_alloc, size_setB, size_drew]; omega)) _ | exact Ext.trans (by assumption) (by assumption) | refine Ext.trans ?_ (by assumption)))) (by simp only [Int.toNat_natCast]; omega) rfl rfl ?_
    refine WO_nil ?_
    first | refine bodyQ_ret0 Hvac.results116 ?_ | refine bodyQ_end0 Hvac.results116 ?_
    first
    | (refine ⟨rfl, ?_⟩
       have e9 : (0 + ((a : Int)).toNat * 1) = a := by omega
       rw [e9]
       exact WStep.mk2 (by repeat (first | assumption | exact Ext.refl _ | refine Ext.alloc ?_ _ | refine Ext.drew ?_ | refine Ext.setB ?_ (by first | omega | (simp only [size_alloc, size_setB, size_drew]; omega)) _ | refine Ext.trans ?_ (by assumption))) hF (by omega) hxm1.symm hmo hmb hs.by_)
    | exact ⟨rfl, (WStep.same (by repeat (first | assumption | exact Ext.refl _ | refine Ext.alloc ?_ _ | refine Ext.drew ?_ | refine Ext.setB ?_ (by first | omega | (simp only [size_alloc, size_setB, size_drew]; omega)) _ | refine Ext.trans ?_ (by assumption))) hF hMW).castY (by unfold ywrite; rw [ywr_past (Or.inl (by omega))])⟩
  · have hb3p := hb3.h; try simp only [al_ete, al_dfn, Bool.not_eq_true', Bool.not_eq_false', al_ne, Bool.not_not, al_nn] at hb3p
    have hal : ¬ a < x.mem.2.1 := by simpa using hb3p
    refine W_skip ?_
    first | refine bodyQ_ret0 Hvac.results116 ?_ | refine bodyQ_end0 Hvac.results116 ?_
    first
    | (refine ⟨rfl, ?_⟩
       have e9 : (0 + ((a : Int)).toNat * 1) = a := by omega
       rw [e9]
       exact WStep.mk2 (by repeat (first | assumption | exact Ext.refl _ | refine Ext.alloc ?_ _ | refine Ext.drew ?_ | refine Ext.setB ?_ (by first | omega | (simp only [size_alloc, size_setB, size_drew]; omega)) _ | refine Ext.trans ?_ (by assumption))) hF (by omega) hxm1.symm hmo hmb hs.by_)
    | exact ⟨rfl, (WStep.same (by repeat (first | assumption | exact Ext.refl _ | refine Ext.alloc ?_ _ | refine Ext.drew ?_ | refine Ext.setB ?_ (by first | omega | (simp only [size_alloc, size_setB, size_drew]; omega)) _ | refine Ext.trans ?_ (by assumption))) hF hMW).castY (by unfold ywrite; rw [ywr_past (Or.inl (by omega))])⟩

set_option maxRecDepth 10000 in
set_option maxHeartbeats 4000000 in
theorem yGrow_spec [Om] (w : World) (hO : OmB w) (F fo : Nat) (r : Array Value) (x : YFr) (f : PF) (hF : FrM w F fo r x f) (hP : PFB f) (ap : Option Addr) (an acY a : Nat) (ha : NN w (ap, an, acY) a) (za : sz a ≤ 900)(ha8 : a ≤ 100000000) : Ret Hvac.prog 44 #[.pointer (some ⟨F, fo, none⟩), .slice ap an acY] w fun u w' => u = .tuple #[] ∧ ∃ (r' : Array Value) (s' : SV), FStep w w' F fo r (ygrow f a) r' { x with mem := s' } ∧ ((s' = x.mem ∧ ygrow f a = f) ∨ ∃ c, w.heap.size ≤ c ∧ s' = (some ⟨c, 0, none⟩, (ygrow f a).mem.length, (ygrow f a).mem.length) ∧ Hb w' c (.cells (ic .u8 (ygrow f a).mem) 5 (0, 0))) := by
  have hFR := hF.rel
  have hFb := hF.blk
  have hFC := hF.fc
  have hFo := hF.om
  have hFl := hFb.lt
  have hFsz := hFC.size
  have hk9 := hFC.mem
  have hml := hP.ml
  have hmlen := hFR.mem.len
  have hmcap := hFR.mem.cap
  have hwb : ywords a ≤ 10000000 := by unfold ywords; omega
  have hsm : ysmall (ywords a) = ywords a := ysmall_eq (by omega)
  refine Ret_of_W Hvac.func44 rfl rfl ?_
  refine W_seq ?_
  refine W_region rfl ?_
  refine WO_p (PS_move_slice rfl) ?_
  refine WO_call Hvac.call83 (by rfl) (Ret.mono (words_spec2 _ (OmB.ext hO (by repeat (first | assumption | exact Ext.refl _ | refine Ext.alloc ?_ _ | refine Ext.drew ?_ | refine Ext.setB ?_ (by first | omega | (simp only [size_alloc, size_setB, size_drew]; omega)) _ | exact Ext.trans (by assumption) (by assumption) | refine Ext.trans ?_ (by assumption)))) _ _ _ _ (by first | exact NN.nil _ | assumption | exact NN.ext (by assumption) (by repeat (first | assumption | exact Ext.refl _ | refine Ext.alloc ?_ _ | refine Ext.drew ?_ | refine Ext.setB ?_ (by first | omega | (simp only [size_alloc, size_setB, size_drew]; omega)) _ | exact Ext.trans (by assumption) (by assumption) | refine Ext.trans ?_ (by assumption)))) (by first | assumption | omega | (rw [sz_zero]; omega))) ?_)
  rintro _ w83_0 ⟨hE83_0, s83_0, rfl, hN83_0⟩
  have hz83_0 := hE83_0.1
  try simp only [size_alloc, size_setB, size_drew] at hz83_0
  have hs83_0 := sz_ywords a
  refine WO_call Hvac.call37 (by rfl) (Ret.mono (small_spec2 _ (OmB.ext hO (by repeat (first | assumption | exact Ext.refl _ | refine Ext.alloc ?_ _ | refine Ext.drew ?_ | refine Ext.setB ?_ (by first | omega | (simp only [size_alloc, size_setB, size_drew]; omega)) _ | exact Ext.trans (by assumption) (by assumption) | refine Ext.trans ?_ (by assumption)))) _ _ _ _ (by first | exact NN.nil _ | assumption | exact NN.ext (by assumption) (by repeat (first | assumption | exact Ext.refl _ | refine Ext.alloc ?_ _ | refine Ext.drew ?_ | refine Ext.setB ?_ (by first | omega | (simp only [size_alloc, size_setB, size_drew]; omega)) _ | exact Ext.trans (by assumption) (by assumption) | refine Ext.trans ?_ (by assumption)))) (by first | assumption | omega | (rw [sz_zero]; omega))) ?_)
  rintro _ w37_1 ⟨hE37_1, rfl⟩
  have hz37_1 := hE37_1.1
  try simp only [size_alloc, size_setB, size_drew] at hz37_1
  refine WO_p (PS_assign_int rfl) ?_
  refine WO_nil ?_
  refine thn_normal ?_
  refine W_seq ?_
  rw [hsm]
  refine W_region rfl ?_
  refine WO_p (PS_move_int rfl) ?_
  refine WO_p (PS_move_ptr rfl) ?_
  refine WO_p (PS_nilCheck rfl) ?_
  refine WO_p (PS_fieldAddr 9 Hvac.runUnderlying121 rfl Hvac.sizeOf32 rfl rfl) ?_
  refine WO_load (.slice _ _ _) Hvac.isAgg32 rfl (Hb.h (by repeat (first | assumption | exact Hb.newY _ _ | refine Hb.alloc ?_ | refine Hb.drew ?_ | refine Hb.ext (by assumption) ?_ | exact Hb.setSameL (by first | omega | (simp only [size_alloc, size_setB, size_drew]; omega)) | exact Hb.setSame (by assumption) | refine Hb.set (by first | omega | (simp only [size_alloc, size_setB, size_drew]; omega)) ?_ ))) (Ce.h (by first | assumption | exact ⟨rfl⟩)) ?_
  refine WO_p (PS_lenS Hvac.runUnderlying32 rfl) ?_
  refine WO_p (PS_quo_i64 rfl rfl (by omega) (by omega) (by omega)) ?_
  refine WO_p (PS_conv_u64n Hvac.runUnderlying3 Hvac.runUnderlying26 rfl (by omega) (by omega)) ?_
  refine WO_p (PS_gtr rfl rfl) ?_
  refine WO_nil ?_
  refine thn_normal ?_
  refine W_if rfl (fun hb4 => ?_) (fun hb4 => ?_)
  · have hb4p := hb4.h; try simp only [al_ete, al_dfn, Bool.not_eq_true', Bool.not_eq_false', al_ne, Bool.not_not, al_nn] at hb4p
    have hgt : f.mem.length / 32 < ywords a := by omega
    refine W_seq ?_
    refine W_region rfl ?_
    refine WO_p (PS_move_int rfl) ?_
    refine WO_p (PS_mul_u64n rfl rfl (by omega) (by omega)) ?_
    refine WO_make (z := .int .u8 0) Hvac.underlying32 info5 rfl rfl rfl (by omega) (by omega) (by show (1:Int) * _ ≤ _; omega) (by omega) ?_
    rw [show (((32 * ywords a):Int)).toNat = (32 * ywords a) from Int.toNat_natCast _, show madeCells (Value.int IntKind.u8 0).cells ((32 * ywords a) * Hvac.t5.size) = ic .u8 (List.replicate (32 * ywords a) 0) from by rw [show Hvac.t5.size = 1 from rfl, Nat.mul_one]; exact made_ic .u8 _]
    refine WO_p (PS_assign_slice rfl) ?_
    refine WO_nil ?_
    refine thn_normal ?_
    refine W_seq ?_
    refine W_region rfl ?_
    refine WO_p (PS_move_slice rfl) ?_
    refine WO_p (PS_move_ptr rfl) ?_
    refine WO_p (PS_nilCheck rfl) ?_
    refine WO_p (PS_fieldAddr 9 Hvac.runUnderlying121 rfl Hvac.sizeOf32 rfl rfl) ?_
    refine WO_load (.slice _ _ _) Hvac.isAgg32 rfl (Hb.h (by repeat (first | assumption | exact Hb.newY _ _ | refine Hb.alloc ?_ | refine Hb.drew ?_ | refine Hb.ext (by assumption) ?_ | exact Hb.setSameL (by first | omega | (simp only [size_alloc, size_setB, size_drew]; omega)) | exact Hb.setSame (by assumption) | refine Hb.set (by first | omega | (simp only [size_alloc, size_setB, size_drew]; omega)) ?_ ))) (Ce.h (by first | assumption | exact ⟨rfl⟩)) ?_
    refine WO_copyA (M := f.mem) Hvac.runUnderlying32 Hvac.sizeOf5 (Hb.mk (Hb.h (by repeat (first | assumption | exact Hb.newY _ _ | refine Hb.alloc ?_ | refine Hb.drew ?_ | refine Hb.ext (by assumption) ?_ | exact Hb.setSameL (by first | omega | (simp only [size_alloc, size_setB, size_drew]; omega)) | exact Hb.setSame (by assumption) | refine Hb.set (by first | omega | (simp only [size_alloc, size_setB, size_drew]; omega)) ?_ )))) (AB.ext hFR.mem.ab (by repeat (first | assumption | exact Ext.refl _ | refine Ext.alloc ?_ _ | refine Ext.drew ?_ | refine Ext.setB ?_ (by first | omega | (simp only [size_alloc, size_setB, size_drew]; omega)) _ | exact Ext.trans (by assumption) (by assumption) | refine Ext.trans ?_ (by assumption)))) (by simp) rfl rfl ?_
    rw [ywr_zero]
    refine WO_nil ?_
    refine thn_normal ?_
    refine W_region rfl ?_
    refine WO_p (PS_move_ptr rfl) ?_
    refine WO_p (PS_move_slice rfl) ?_
    refine WO_p (PS_nilCheck rfl) ?_
    refine WO_p (PS_fieldAddr 9 Hvac.runUnderlying121 rfl Hvac.sizeOf32 rfl rfl) ?_
    refine WO_store1 Hvac.sizeOf32 rfl (v := (.slice _ _ _)) rfl (Hb.h (by repeat (first | assumption | exact Hb.newY _ _ | refine Hb.alloc ?_ | refine Hb.drew ?_ | refine Hb.ext (by assumption) ?_ | exact Hb.setSameL (by first | omega | (simp only [size_alloc, size_setB, size_drew]; omega)) | exact Hb.setSame (by assumption) | refine Hb.set (by first | omega | (simp only [size_alloc, size_setB, size_drew]; omega)) ?_ ))) rfl (by first | omega | assumption | rfl | decide | exact Nat.le_refl _ | (simp only [size_ic, Value.cells]; omega) | (simp [encWs]; done) | (simp; omega) | simp | exact encYA_sz (by assumption) | exact encYT_sz (by assumption) | exact encYM_sz (by assumption)) rfl ?_
    refine WO_nil ?_
    first | refine bodyQ_ret0 Hvac.results44 ?_ | refine bodyQ_end0 Hvac.results44 ?_
    first
    | (have hg9 : f.mem.length / 32 < ywords a := hgt
       have e9 : ygrow f a = { f with mem := ycut f.mem 0 (32 * ywords a) } := by unfold ygrow; rw [if_pos hg9]
       have hcb : ∀ x ∈ ycut f.mem 0 (32 * ywords a), 0 ≤ x ∧ x ≤ 255 := ycut_by hFR.mem.by_ _ _
       have hcl := ycut_len f.mem 0 (32 * ywords a)
       rw [e9]
       refine ⟨rfl, _, (some ⟨_, 0, none⟩, 32 * ywords a, 32 * ywords a), FStep.put (f' := { f with mem := ycut f.mem 0 (32 * ywords a) }) rfl hF (by repeat (first | assumption | exact Ext.refl _ | refine Ext.alloc ?_ _ | refine Ext.drew ?_ | refine Ext.setB ?_ (by first | omega | (simp only [size_alloc, size_setB, size_drew]; omega)) _ | refine Ext.trans ?_ (by assumption))) (hFC.mem_ (some ⟨_, 0, none⟩, 32 * ywords a, 32 * ywords a)) ?_, Or.inr ⟨w37_1.heap.size, ?_, ?_, ?_⟩⟩
       · have hE9 := hFR
         exact { FrR.ext hFR (by repeat (first | assumption | exact Ext.refl _ | refine Ext.alloc ?_ _ | refine Ext.drew ?_ | refine Ext.setB ?_ (by first | omega | (simp only [size_alloc, size_setB, size_drew]; omega)) _ | refine Ext.trans ?_ (by assumption))) with mem := ⟨hcl, Nat.le_refl _, hcb, fun _ => ⟨_, _, (0, 0), rfl, Hb.mk (Hb.h (by repeat (first | assumption | exact Hb.newY _ _ | refine Hb.alloc ?_ | refine Hb.drew ?_ | refine Hb.ext (by assumption) ?_ | exact Hb.setSameL (by first | omega | (simp only [size_alloc, size_setB, size_drew]; omega)) | exact Hb.setSame (by assumption) | refine Hb.set (by first | omega | (simp only [size_alloc, size_setB, size_drew]; omega)) ?_ ))), by rw [size_ic, hcl]; show 0 + 32 * ywords a ≤ _; omega, Xt.whole rfl (by rw [size_ic, hcl])⟩⟩ }
       · omega
       · show _ = (_, (ycut f.mem 0 (32 * ywords a)).length, (ycut f.mem 0 (32 * ywords a)).length); rw [hcl]
       · show Hb _ _ (.cells (ic .u8 (ycut f.mem 0 (32 * ywords a))) 5 (0, 0)); exact Hb.mk (Hb.h (by repeat (first | assumption | exact Hb.newY _ _ | refine Hb.alloc ?_ | refine Hb.drew ?_ | refine Hb.ext (by assumption) ?_ | exact Hb.setSameL (by first | omega | (simp only [size_alloc, size_setB, size_drew]; omega)) | exact Hb.setSame (by assumption) | refine Hb.set (by first | omega | (simp only [size_alloc, size_setB, size_drew]; omega)) ?_ ))))
    | (have e9 : ygrow f a = f := by unfold ygrow; rw [if_neg hgt]
       rw [e9]
       exact ⟨rfl, r, x.mem, ⟨Ext.keepO (by repeat (first | assumption | exact Ext.refl _ | refine Ext.alloc ?_ _ | refine Ext.drew ?_ | refine Ext.setB ?_ (by first | omega | (simp only [size_alloc, size_setB, size_drew]; omega)) _ | refine Ext.trans ?_ (by assumption))) _, hFb.ext (by repeat (first | assumption | exact Ext.refl _ | refine Ext.alloc ?_ _ | refine Ext.drew ?_ | refine Ext.setB ?_ (by first | omega | (simp only [size_alloc, size_setB, size_drew]; omega)) _ | refine Ext.trans ?_ (by assumption))), FT.refl hFC, hFR.ext (by repeat (first | assumption | exact Ext.refl _ | refine Ext.alloc ?_ _ | refine Ext.drew ?_ | refine Ext.setB ?_ (by first | omega | (simp only [size_alloc, size_setB, size_drew]; omega)) _ | refine Ext.trans ?_ (by assumption)))⟩, Or.inl ⟨rfl, rfl⟩⟩)
  · have hb4p := hb4.h; try simp only [al_ete, al_dfn, Bool.not_eq_true', Bool.not_eq_false', al_ne, Bool.not_not, al_nn] at hb4p
    have hgt : ¬ f.mem.length / 32 < ywords a := by omega
    refine W_skip ?_
    first | refine bodyQ_ret0 Hvac.results44 ?_ | refine bodyQ_end0 Hvac.results44 ?_
    first
    | (have hg9 : f.mem.length / 32 < ywords a := hgt
       have e9 : ygrow f a = { f with mem := ycut f.mem 0 (32 * ywords a) } := by unfold ygrow; rw [if_pos hg9]
       have hcb : ∀ x ∈ ycut f.mem 0 (32 * ywords a), 0 ≤ x ∧ x ≤ 255 := ycut_by hFR.mem.by_ _ _
       have hcl := ycut_len f.mem 0 (32 * ywords a)
       rw [e9]
       refine ⟨rfl, _, (some ⟨_, 0, none⟩, 32 * ywords a, 32 * ywords a), FStep.put (f' := { f with mem := ycut f.mem 0 (32 * ywords a) }) rfl hF (by repeat (first | assumption | exact Ext.refl _ | refine Ext.alloc ?_ _ | refine Ext.drew ?_ | refine Ext.setB ?_ (by first | omega | (simp only [size_alloc, size_setB, size_drew]; omega)) _ | refine Ext.trans ?_ (by assumption))) (hFC.mem_ (some ⟨_, 0, none⟩, 32 * ywords a, 32 * ywords a)) ?_, Or.inr ⟨w37_1.heap.size, ?_, ?_, ?_⟩⟩
       · have hE9 := hFR
         exact { FrR.ext hFR (by repeat (first | assumption | exact Ext.refl _ | refine Ext.alloc ?_ _ | refine Ext.drew ?_ | refine Ext.setB ?_ (by first | omega | (simp only [size_alloc, size_setB, size_drew]; omega)) _ | refine Ext.trans ?_ (by assumption))) with mem := ⟨hcl, Nat.le_refl _, hcb, fun _ => ⟨_, _, (0, 0), rfl, Hb.mk (Hb.h (by repeat (first | assumption | exact Hb.newY _ _ | refine Hb.alloc ?_ | refine Hb.drew ?_ | refine Hb.ext (by assumption) ?_ | exact Hb.setSameL (by first | omega | (simp only [size_alloc, size_setB, size_drew]; omega)) | exact Hb.setSame (by assumption) | refine Hb.set (by first | omega | (simp only [size_alloc, size_setB, size_drew]; omega)) ?_ ))), by rw [size_ic, hcl]; show 0 + 32 * ywords a ≤ _; omega, Xt.whole rfl (by rw [size_ic, hcl])⟩⟩ }
       · omega
       · show _ = (_, (ycut f.mem 0 (32 * ywords a)).length, (ycut f.mem 0 (32 * ywords a)).length); rw [hcl]
       · show Hb _ _ (.cells (ic .u8 (ycut f.mem 0 (32 * ywords a))) 5 (0, 0)); exact Hb.mk (Hb.h (by repeat (first | assumption | exact Hb.newY _ _ | refine Hb.alloc ?_ | refine Hb.drew ?_ | refine Hb.ext (by assumption) ?_ | exact Hb.setSameL (by first | omega | (simp only [size_alloc, size_setB, size_drew]; omega)) | exact Hb.setSame (by assumption) | refine Hb.set (by first | omega | (simp only [size_alloc, size_setB, size_drew]; omega)) ?_ ))))
    | (have e9 : ygrow f a = f := by unfold ygrow; rw [if_neg hgt]
       rw [e9]
       exact ⟨rfl, r, x.mem, ⟨Ext.keepO (by repeat (first | assumption | exact Ext.refl _ | refine Ext.alloc ?_ _ | refine Ext.drew ?_ | refine Ext.setB ?_ (by first | omega | (simp only [size_alloc, size_setB, size_drew]; omega)) _ | refine Ext.trans ?_ (by assumption))) _, hFb.ext (by repeat (first | assumption | exact Ext.refl _ | refine Ext.alloc ?_ _ | refine Ext.drew ?_ | refine Ext.setB ?_ (by first | omega | (simp only [size_alloc, size_setB, size_drew]; omega)) _ | refine Ext.trans ?_ (by assumption))), FT.refl hFC, hFR.ext (by repeat (first | assumption | exact Ext.refl _ | refine Ext.alloc ?_ _ | refine Ext.drew ?_ | refine Ext.setB ?_ (by first | omega | (simp only [size_alloc, size_setB, size_drew]; omega)) _ | refine Ext.trans ?_ (by assumption)))⟩, Or.inl ⟨rfl, rfl⟩⟩)

set_option maxRecDepth 10000 in
set_option maxHeartbeats 4000000 in
theorem yCopied_spec [Om] (w : World) (hO : OmB w) (F fo : Nat) (r : Array Value) (x : YFr) (f : PF) (hF : FrM w F fo r x f) (hP : PFB f) (hMW : MW w x.mem f.mem) (dp : Option Addr) (dn dc d : Nat) (hd : NN w (dp, dn, dc) d) (zd : sz d ≤ 1000)(p : Option Addr) (sn sc : Nat) (L : List Int) (hs : AB w (p, sn, sc) L) (hsn : sn ≤ 100000000) (ap : Option Addr) (an acY a : Nat) (ha : NN w (ap, an, acY) a) (za : sz a ≤ 1000) (np : Option Addr) (nn nc n : Nat) (hn : NN w (np, nn, nc) n) (zn : sz n ≤ 1000)(hn8 : n ≤ 100000000) : Ret Hvac.prog 208 #[.pointer (some ⟨F, fo, none⟩), .slice dp dn dc, .slice p sn sc, .slice ap an acY, .slice np nn nc] w fun u w' => u = .tuple #[] ∧ WStep w w' F fo r x (ycopied f d L a n) := by
  have hFR := hF.rel
  have hFb := hF.blk
  have hFC := hF.fc
  have hFo := hF.om
  have hFl := hFb.lt
  have hFsz := hFC.size
  have hk9 := hFC.mem
  have hml := hP.ml
  have hmlen := hMW.len
  have hmcap := hFR.mem.cap
  refine Ret_of_W Hvac.func208 rfl rfl ?_
  refine W_seq ?_
  refine W_region rfl ?_
  refine WO_p (PS_move_slice rfl) ?_
  refine WO_call Hvac.call91 (by rfl) (Ret.mono (yIsZero_spec _ (OmB.ext hO (by repeat (first | assumption | exact Ext.refl _ | refine Ext.alloc ?_ _ | refine Ext.drew ?_ | refine Ext.setB ?_ (by first | omega | (simp only [size_alloc, size_setB, size_drew]; omega)) _ | exact Ext.trans (by assumption) (by assumption) | refine Ext.trans ?_ (by assumption)))) _ _ _ _ (by first | exact NN.nil _ | assumption | exact NN.ext (by assumption) (by repeat (first | assumption | exact Ext.refl _ | refine Ext.alloc ?_ _ | refine Ext.drew ?_ | refine Ext.setB ?_ (by first | omega | (simp only [size_alloc, size_setB, size_drew]; omega)) _ | exact Ext.trans (by assumption) (by assumption) | refine Ext.trans ?_ (by assumption)))) (by first | assumption | omega | (rw [sz_zero]; omega))) ?_)
  rintro _ w91_0 ⟨hE91_0, rfl⟩
  have hz91_0 := hE91_0.1
  try simp only [size_alloc, size_setB, size_drew] at hz91_0
  refine WO_p (PS_not rfl) ?_
  refine WO_nil ?_
  refine thn_normal ?_
  refine W_if rfl (fun hb4 => ?_) (fun hb4 => ?_)
  · have hb4p := hb4.h; try simp only [al_ete, al_dfn, Bool.not_eq_true', Bool.not_eq_false', al_ne, Bool.not_not, al_nn] at hb4p
    have hn0 : n ≠ 0 := by simpa using hb4p
    refine W_region rfl ?_
    refine WO_p (PS_move_ptr rfl) ?_
    refine WO_p (PS_move_slice rfl) ?_
    refine WO_p (PS_move_slice rfl) ?_
    refine WO_p (PS_move_slice rfl) ?_
    refine WO_p (PS_move_slice rfl) ?_
    refine WO_call Hvac.call120 (by rfl) (Ret.mono (yCut_spec _ (OmB.ext hO (by repeat (first | assumption | exact Ext.refl _ | refine Ext.alloc ?_ _ | refine Ext.drew ?_ | refine Ext.setB ?_ (by first | omega | (simp only [size_alloc, size_setB, size_drew]; omega)) _ | exact Ext.trans (by assumption) (by assumption) | refine Ext.trans ?_ (by assumption)))) _ _ _ _ (by first | assumption | exact AB.ext (by assumption) (by repeat (first | assumption | exact Ext.refl _ | refine Ext.alloc ?_ _ | refine Ext.drew ?_ | refine Ext.setB ?_ (by first | omega | (simp only [size_alloc, size_setB, size_drew]; omega)) _ | exact Ext.trans (by assumption) (by assumption) | refine Ext.trans ?_ (by assumption))) | exact PB.ab (by assumption) | exact PB.ab (PB.ext (by assumption) (by repeat (first | assumption | exact Ext.refl _ | refine Ext.alloc ?_ _ | refine Ext.drew ?_ | refine Ext.setB ?_ (by first | omega | (simp only [size_alloc, size_setB, size_drew]; omega)) _ | exact Ext.trans (by assumption) (by assumption) | refine Ext.trans ?_ (by assumption))))) (by omega) _ _ _ _ (by first | exact NN.nil _ | assumption | exact NN.ext (by assumption) (by repeat (first | assumption | exact Ext.refl _ | refine Ext.alloc ?_ _ | refine Ext.drew ?_ | refine Ext.setB ?_ (by first | omega | (simp only [size_alloc, size_setB, size_drew]; omega)) _ | exact Ext.trans (by assumption) (by assumption) | refine Ext.trans ?_ (by assumption)))) (by first | assumption | omega | (rw [sz_zero]; omega)) _ _ _ _ (by first | exact NN.nil _ | assumption | exact NN.ext (by assumption) (by repeat (first | assumption | exact Ext.refl _ | refine Ext.alloc ?_ _ | refine Ext.drew ?_ | refine Ext.setB ?_ (by first | omega | (simp only [size_alloc, size_setB, size_drew]; omega)) _ | exact Ext.trans (by assumption) (by assumption) | refine Ext.trans ?_ (by assumption)))) (by first | assumption | omega | (rw [sz_zero]; omega)) (by omega)) ?_)
    rintro _ w120_4 ⟨hE120_4, s120_4, rfl, hN120_4⟩
    have hz120_4 := hE120_4.1
    try simp only [size_alloc, size_setB, size_drew] at hz120_4
    have hl120_4 := PB.len hN120_4
    rw [ycut_len] at hl120_4
    refine WO_call Hvac.call116 (by rfl) (Ret.mono (yWrite_spec _ (OmB.ext hO (by repeat (first | assumption | exact Ext.refl _ | refine Ext.alloc ?_ _ | refine Ext.drew ?_ | refine Ext.setB ?_ (by first | omega | (simp only [size_alloc, size_setB, size_drew]; omega)) _ | exact Ext.trans (by assumption) (by assumption) | refine Ext.trans ?_ (by assumption)))) _ _ _ _ _ (FrM.ext hF (by repeat (first | assumption | exact Ext.refl _ | refine Ext.alloc ?_ _ | refine Ext.drew ?_ | refine Ext.setB ?_ (by first | omega | (simp only [size_alloc, size_setB, size_drew]; omega)) _ | exact Ext.trans (by assumption) (by assumption) | refine Ext.trans ?_ (by assumption)))) hP (MW.ext hMW (by repeat (first | assumption | exact Ext.refl _ | refine Ext.alloc ?_ _ | refine Ext.drew ?_ | refine Ext.setB ?_ (by first | omega | (simp only [size_alloc, size_setB, size_drew]; omega)) _ | exact Ext.trans (by assumption) (by assumption) | refine Ext.trans ?_ (by assumption)))) _ _ _ _ (by first | exact NN.nil _ | assumption | exact NN.ext (by assumption) (by repeat (first | assumption | exact Ext.refl _ | refine Ext.alloc ?_ _ | refine Ext.drew ?_ | refine Ext.setB ?_ (by first | omega | (simp only [size_alloc, size_setB, size_drew]; omega)) _ | exact Ext.trans (by assumption) (by assumption) | refine Ext.trans ?_ (by assumption)))) (by first | assumption | omega | (rw [sz_zero]; omega)) _ _ _ _ (PB.ab (by first | exact PB.nil _ | assumption | exact PB.ext (by assumption) (by repeat (first | assumption | exact Ext.refl _ | refine Ext.alloc ?_ _ | refine Ext.drew ?_ | refine Ext.setB ?_ (by first | omega | (simp only [size_alloc, size_setB, size_drew]; omega)) _ | exact Ext.trans (by assumption) (by assumption) | refine Ext.trans ?_ (by assumption))))) (by omega)) ?_)
    rintro _ w16 ⟨rfl, hW16⟩
    refine WO_nil ?_
    first | refine bodyQ_ret0 Hvac.results208 ?_ | refine bodyQ_end0 Hvac.results208 ?_
    first
    | (have h9 : n ≠ 0 := hn0
       exact ⟨rfl, (WStep.pre (by repeat (first | assumption | exact Ext.refl _ | refine Ext.alloc ?_ _ | refine Ext.drew ?_ | refine Ext.setB ?_ (by first | omega | (simp only [size_alloc, size_setB, size_drew]; omega)) _ | refine Ext.trans ?_ (by assumption))) hW16).castY (by unfold ycopied; rw [if_neg h9])⟩)
    | exact ⟨rfl, (WStep.same (by repeat (first | assumption | exact Ext.refl _ | refine Ext.alloc ?_ _ | refine Ext.drew ?_ | refine Ext.setB ?_ (by first | omega | (simp only [size_alloc, size_setB, size_drew]; omega)) _ | refine Ext.trans ?_ (by assumption))) hF hMW).castY (by unfold ycopied; rw [if_pos hn0])⟩
  · have hb4p := hb4.h; try simp only [al_ete, al_dfn, Bool.not_eq_true', Bool.not_eq_false', al_ne, Bool.not_not, al_nn] at hb4p
    have hn0 : n = 0 := by simpa using hb4p
    refine W_skip ?_
    first | refine bodyQ_ret0 Hvac.results208 ?_ | refine bodyQ_end0 Hvac.results208 ?_
    first
    | (have h9 : n ≠ 0 := hn0
       exact ⟨rfl, (WStep.pre (by repeat (first | assumption | exact Ext.refl _ | refine Ext.alloc ?_ _ | refine Ext.drew ?_ | refine Ext.setB ?_ (by first | omega | (simp only [size_alloc, size_setB, size_drew]; omega)) _ | refine Ext.trans ?_ (by assumption))) hW16).castY (by unfold ycopied; rw [if_neg h9])⟩)
    | exact ⟨rfl, (WStep.same (by repeat (first | assumption | exact Ext.refl _ | refine Ext.alloc ?_ _ | refine Ext.drew ?_ | refine Ext.setB ?_ (by first | omega | (simp only [size_alloc, size_setB, size_drew]; omega)) _ | refine Ext.trans ?_ (by assumption))) hF hMW).castY (by unfold ycopied; rw [if_pos hn0])⟩

end Go.Proofs.YgvacwGreat
