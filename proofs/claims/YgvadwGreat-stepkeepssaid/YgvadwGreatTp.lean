import Derived.Test.YgvadwGreatTo
import Derived.Test.YgvadwGreatTi
import Derived.Test.YgvadwGreatFwR
namespace Go.Proofs.YgvadwGreat
set_option linter.unusedSimpArgs false
set_option linter.unusedVariables false
theorem info59 : Hvad.prog.info? 59 = some Hvad.t59 := by kernel_rfl
theorem flat_rep (n : Nat) : (List.replicate n ([0, 0, 0, 0] : List Int)).flatten = List.replicate (n * 4) 0 := by
  induction n with
  | zero => rfl
  | succ n ih => rw [List.replicate_succ, List.flatten_cons, ih, show (n + 1) * 4 = 4 + n * 4 by omega, ← List.replicate_append_replicate]; rfl
theorem made_4 (n : Nat) : madeCells (Value.agg (List.replicate 4 (Value.int .u64 0)).toArray).cells (n * 4) = ic .u64 (List.replicate n [0, 0, 0, 0]).flatten := by
  rw [made_rep _ 4 (n * 4) (by decide) (.int .u64 0) rfl, flat_rep]; simp [ic]
section
variable {ops : Array Oper} {S : World → Prop} {Q : Post} {d : Nat} {ty : TypeId} {pos : String} {af : Array Edge} {os' : List TOp} {ρ : Nat → Value} {w : World} {x : Operand} {tg : Bool}
theorem WH_makeW {n : Nat} (hx : ev ρ x = .int .i64 n) (hn : n ≤ 2560) (h : ∀ b w', w.heap.size ≤ b → Ext w w' → Hb w' b (.cells (ic .u64 (List.replicate n [0, 0, 0, 0]).flatten) 59 (0, 0)) → b < w'.heap.size → (tg = true → S w') ∧ WH Hvad.prog ops S Q os' (upd ρ d (.slice (some ⟨b, 0, none⟩) n n)) w') :
    WH Hvad.prog ops S Q ((⟨some d, .makeSlice 269 x x, ty, pos, af, none⟩, tg) :: os') ρ w := by
  have e : Hvad.t59.size = 4 := rfl
  have h1 := h w.heap.size (w.alloc (.cells (ic .u64 (List.replicate n [0, 0, 0, 0]).flatten) 59)) (Nat.le_refl _) (Ext.alloc (Ext.refl w) _) (Hb.newY _ _) (by rw [size_alloc]; omega)
  refine WH_make (z := .agg (List.replicate 4 (Value.int .u64 0)).toArray) Hvad.underlying269 info59 rfl hx hx (by omega) (Int.le_refl _) (by show (32 : Int) * _ ≤ _; omega) (by omega) ?_ ?_
  · rw [Int.toNat_natCast, e, made_4]; exact h1.1
  · rw [Int.toNat_natCast, e, made_4]; exact h1.2
end
theorem PS_b271 {ρ : Nat → Value} {x0 x1 x2 x5 : Operand} {C Ba Bv na nv : Nat} {r : Int} (h0 : ev ρ x0 = .pointer (some ⟨C, 2435, none⟩)) (h1 : ev ρ x1 = .slice (some ⟨Ba, 0, none⟩) na na) (h2 : ev ρ x2 = .slice (some ⟨Bv, 0, none⟩) nv nv) (h5 : ev ρ x5 = .int .u64 r) : PS Hvad.prog (.build 271 #[(0, x0), (1, x1), (2, x2), (5, x5)]) ρ (.agg (encD C Ba Bv na nv [0, 0, 0, 0] 0 r 0)) := by
  exact PS_buildS Hvad.zeroValue271 Hvad.runUnderlying271 (places_run (pl := [(0, 1), (1, 1), (2, 1), (3, 4), (7, 1), (8, 1), (9, 1)]) ⟨rfl, Hvad.sizeOf53, rfl, Hvad.sizeOf269, rfl, Hvad.sizeOf269, rfl, Hvad.sizeOf59, rfl, Hvad.sizeOf26, rfl, Hvad.sizeOf26, rfl, Hvad.sizeOf2, trivial⟩) (ps := [(0, .pointer (some ⟨C, 2435, none⟩)), (1, .slice (some ⟨Ba, 0, none⟩) na na), (2, .slice (some ⟨Bv, 0, none⟩) nv nv), (5, .int .u64 r)]) (by simp only [List.map, h0, h1, h2, h5]) (by kernel_rfl)
theorem one_encD {C Ba Bv na nv : Nat} {W : List Int} {q r k : Int} : ∀ u ∈ (Value.agg (encD C Ba Bv na nv W q r k)).cells.toList, u.oneCell' = true := by
  intro u hu
  have hu : u ∈ ([Value.pointer (some ⟨C, 2435, none⟩), Value.slice (some ⟨Ba, 0, none⟩) na na, Value.slice (some ⟨Bv, 0, none⟩) nv nv] ++ W.map (Value.int .u64) ++ [Value.int .u64 q, Value.int .u64 r, Value.int .i64 k]) := hu
  simp only [List.mem_cons, List.mem_append, List.mem_map, List.not_mem_nil, al_of] at hu
  rcases hu with ((h | h | h) | ⟨_, _, h⟩) | h | h | h <;> (subst h; rfl)
theorem rep_wd (n : Nat) : ∀ x ∈ List.replicate n ([0, 0, 0, 0] : List Int), Wd x := fun x hx => by rw [List.eq_of_mem_replicate hx]; exact Wd0
theorem scAt_pred {v : V} {n : Nat} {e : Entry} (h : v.journal[n - 1]? = some e) (h0 : 0 < n) : v.scAt (n - 1) = Sc.back e (v.scAt n) := by
  have hl := lt_of_getElem? h
  unfold V.scAt
  have e1 : v.journal.drop (n - 1) = e :: v.journal.drop n := by
    rw [List.drop_eq_getElem_cons hl, show n - 1 + 1 = n by omega]
    rw [List.getElem?_eq_getElem hl] at h; injection h with h; rw [h]
  rw [e1]; rfl
theorem scAt_lens (v : V) (k : Nat) : (v.scAt k).bals.length = v.accts.length ∧ (v.scAt k).vals.length = v.slots.length := by
  unfold V.scAt; rw [(foldr_len _ _).1, (foldr_len _ _).2]; simp [V.sc]
theorem cleared_self : ∀ l : List Slot, (∀ x ∈ l, x.orig = x.val) → cleared (l.map (·.val)) (l.map (·.orig)) = 0
  | [], _ => rfl
  | x :: l, h => by
    have h1 := cleared_self l (fun y hy => h y (List.mem_cons_of_mem _ hy))
    have h2 := h x List.mem_cons_self
    simp only [List.map_cons, cleared, h1, h2]
    rw [if_neg (fun e => e.2 e.1)]; rfl
theorem Ck.weigh {v : V} {m : Mc} {n : Nat} {S : Int} (h : Ck v m n S) (hty : MTy m) : ∃ S', S' < 115792089237316195423570985008687907853269984665640564039457584007913129639936 ∧ WPast v S' (m.txgas - gOf m n) ∧ WNow v S' (m.txgas - gOf m n) ∧ (m.phase ≠ 0 → S' + wv m.held < 115792089237316195423570985008687907853269984665640564039457584007913129639936) := by
  by_cases hp : m.phase = 0
  · have hid := h.id0 hp
    have hg : gOf m n = 0 := by unfold gOf; rw [if_neg (by rw [hp]; decide), if_neg (by rw [hp]; decide)]
    refine ⟨sumW v.sc.bals, hid.sm, ⟨fun i hi => by rw [hid.nm] at hi; omega⟩, ⟨rfl, ?_, ?_⟩, fun hh => absurd hp hh⟩
    · have := cleared_self v.slots (fun x hx => (hid.sl x hx).2)
      show 4800 * cleared (v.slots.map (·.val)) (v.slots.map (·.orig)) ≤ v.ref
      rw [this, hid.rf]; decide
    · show v.ref ≤ _
      rw [hid.rf, hid.tx, hg]; decide
  · obtain ⟨h1, _, _, h4⟩ := h.rw_ hp
    have hb := wv_bd hty.held
    exact ⟨S, by omega, h1.wp, h1.wn, fun _ => h4⟩

set_option maxRecDepth 10000 in
set_option maxHeartbeats 4000000 in
theorem weightOK_spec (C : Nat) (c : Array Value) (v : V) (B : VB) (m : Mc) (D Ba Bv : Nat) (bl vl : List (List Int)) (T r k : Int) (i : Int) (W0 Wi : List Int) (sp : Int) (w w9 : World) (hM : MS w C c v B m) (hs : SRep w w9 C D Ba Bv bl vl T r k) (hi : 0 ≤ i) (hW0 : Wd W0) (hWi : Wd Wi) (hph : m.phase ≠ 0 → Wi = W0 ∧ wv Wi + wv m.held < 115792089237316195423570985008687907853269984665640564039457584007913129639936 ∧ ∀ f, m.frames[0]? = some f → f.snap = 0) (hk0 : 0 ≤ k ∧ k ≤ 5000) (hcl : 4800 * k ≤ r) (hrg : r ≤ 199 * sp) (hsp : sp ≤ 2000000) : Ret Hvad.prog 233 #[.pointer (some ⟨C, 0, none⟩), .int .i32 i, .agg (ic .u64 W0), .agg (ic .u64 Wi), .int .u64 sp, .pointer (some ⟨D, 0, none⟩)] w9 fun u w' => u = .bool true ∧ Ext w9 w' := by
  obtain ⟨hE9, hDg, hAg, hBg, ⟨hn1, hn2, hn3⟩, ⟨W, q, hW, hq0, hsum, hHD⟩, hHA, hHV, hbw, hvw, hla, hlv⟩ := hs
  have hWl := hW.1
  have hWb := wv_bd hW
  have hDl := hHD.lt
  have hAl := hHA.lt
  have hVl := hHV.lt
  have hz9 := hE9.1
  have hsz : (encD C Ba Bv bl.length vl.length W q r k).size = 10 := size_encD hWl
  have hblk := hM.vs.blk
  have hCl := hblk.lt
  have hcs := hM.sz
  have hc_s := hM.rep.s
  have hc_phase := hM.rep.phase
  have hc_held := hM.rep.held
  have hhd := hM.ty.held
  have hhl := hhd.1
  have hc_nm : Ce c (2435 + 24579) (.int .i32 v.nmarks) := hM.vs.rep.nmarks
  have hpt := hM.ty.phase
  obtain ⟨f0, hf0⟩ := frames_lt hM.ty (i := 0) (by decide)
  obtain ⟨_, hfty0, hF0⟩ := hM.openF hf0
  have hf_snap : Ce c (1803 + 0 * 65 + 8) (.int .i32 f0.snap) := hF0.snap
  have hW0l := hW0.1
  have hWil := hWi.1
  refine Ret_of_W Hvad.func233 rfl rfl ?_
  refine W_seq ?_
  refine W_region rfl ?_
  refine WO_boxG (.agg _) rfl ?_
  intro b8 v8 hg8 hE8 hH8 hl8
  try simp only [size_alloc, size_setB, size_drew] at hg8
  have hzz8 := hE8.1
  try simp only [size_alloc, size_setB, size_drew] at hzz8
  refine WO_boxG (.agg _) rfl ?_
  intro b9 v9 hg9 hE9 hH9 hl9
  try simp only [size_alloc, size_setB, size_drew] at hg9
  have hzz9 := hE9.1
  try simp only [size_alloc, size_setB, size_drew] at hzz9
  refine WO_p (PS_assign_bool rfl) ?_
  refine WO_nil ?_
  refine thn_normal ?_
  refine W_seq ?_
  refine W_seq ?_
  refine W_region rfl ?_
  refine WO_p (PS_move_ptr rfl) ?_
  refine WO_p (PS_nilCheck rfl) ?_
  refine WO_p (PS_fieldAddr 2404 Hvad.runUnderlying69 rfl Hvad.sizeOf5 rfl rfl) ?_
  refine WO_load (.int _ _) Hvad.isAgg5 rfl (Hb.h (by repeat (first | assumption | exact Hb.newY _ _ | refine Hb.alloc ?_ | refine Hb.drew ?_ | refine Hb.ext (by assumption) ?_ | exact Hb.setSameL (by first | omega | (simp only [size_alloc, size_setB, size_drew]; omega)) | exact Hb.setSame (by assumption) | refine Hb.set (by first | omega | (simp only [size_alloc, size_setB, size_drew]; omega)) ?_ ))) (Ce.h (by first | assumption | exact ed0 | exact ed1 | exact ed2 | exact ed7 (by assumption) | exact ed8 (by assumption) | exact ed9 (by assumption) | exact ⟨rfl⟩)) ?_
  refine WO_p (PS_neq rfl rfl) ?_
  refine WO_p (PS_move_bool rfl) ?_
  refine WO_if (t := 21) rfl (fun hb2 => ?_) (fun hb2 => ?_)
  · have hb2p := hb2.h; try simp only [al_ete, al_dfn, Bool.not_eq_true', Bool.not_eq_false', al_ne, Bool.not_not, al_nn] at hb2p
    obtain ⟨hwe, hwh, hsn⟩ := hph hb2p
    have hsn0 := hsn f0 hf0
    refine WO_guardT rfl rfl hb2.h ?_
    refine WO_p (PS_move_int rfl) ?_
    refine WO_guardT rfl rfl hb2.h ?_
    refine WO_p (PS_move_ptr rfl) ?_
    refine WO_guardT rfl rfl hb2.h ?_
    refine WO_p (PS_nilCheck rfl) ?_
    refine WO_guardT rfl rfl hb2.h ?_
    refine WO_p (PS_fieldAddr 0 Hvad.runUnderlying69 rfl Hvad.sizeOf53 rfl rfl) ?_
    refine WO_guardT rfl rfl hb2.h ?_
    refine WO_load (.pointer _) Hvad.isAgg53 rfl (Hb.h (by repeat (first | assumption | exact Hb.newY _ _ | refine Hb.alloc ?_ | refine Hb.drew ?_ | refine Hb.ext (by assumption) ?_ | exact Hb.setSameL (by first | omega | (simp only [size_alloc, size_setB, size_drew]; omega)) | exact Hb.setSame (by assumption) | refine Hb.set (by first | omega | (simp only [size_alloc, size_setB, size_drew]; omega)) ?_ ))) (Ce.h (by first | assumption | exact ed0 | exact ed1 | exact ed2 | exact ed7 (by assumption) | exact ed8 (by assumption) | exact ed9 (by assumption) | exact ⟨rfl⟩)) ?_
    refine WO_guardT rfl rfl hb2.h ?_
    refine WO_p (PS_nilCheck rfl) ?_
    refine WO_guardT rfl rfl hb2.h ?_
    refine WO_p (PS_fieldAddr 24579 Hvad.runUnderlying79 rfl Hvad.sizeOf21 rfl rfl) ?_
    refine WO_guardT rfl rfl hb2.h ?_
    refine WO_load (.int _ _) Hvad.isAgg21 rfl (Hb.h (by repeat (first | assumption | exact Hb.newY _ _ | refine Hb.alloc ?_ | refine Hb.drew ?_ | refine Hb.ext (by assumption) ?_ | exact Hb.setSameL (by first | omega | (simp only [size_alloc, size_setB, size_drew]; omega)) | exact Hb.setSame (by assumption) | refine Hb.set (by first | omega | (simp only [size_alloc, size_setB, size_drew]; omega)) ?_ ))) (Ce.h (by first | assumption | exact ed0 | exact ed1 | exact ed2 | exact ed7 (by assumption) | exact ed8 (by assumption) | exact ed9 (by assumption) | exact ⟨rfl⟩)) ?_
    refine WO_guardT rfl rfl hb2.h ?_
    refine WO_p (PS_eql rfl rfl) ?_
    refine WO_guardT rfl rfl hb2.h ?_
    refine WO_p (PS_move_bool rfl) ?_
    refine WO_if (t := 31) rfl (fun hb4 => ?_) (fun hb4 => ?_)
    · have hb4p := hb4.h; try simp only [al_ete, al_dfn, Bool.not_eq_true', Bool.not_eq_false', al_ne, Bool.not_not, al_nn] at hb4p
      refine WO_guardF rfl rfl hb4.h ?_
      refine WO_guardF rfl rfl hb4.h ?_
      refine WO_guardF rfl rfl hb4.h ?_
      refine WO_guardF rfl rfl hb4.h ?_
      refine WO_guardF rfl rfl hb4.h ?_
      refine WO_guardF rfl rfl hb4.h ?_
      refine WO_guardF rfl rfl hb4.h ?_
      refine WO_guardF rfl rfl hb4.h ?_
      refine WO_guardT rfl rfl hb2.h ?_
      refine WO_p (PS_pickT rfl hb4.h rfl) ?_
      refine WO_p (PS_pickT rfl hb2.h rfl) ?_
      refine WO_nil ?_
      refine thn_normal ?_
      refine W_condT rfl rfl ?_
      refine W_seq ?_
      refine W_drawF [false, false, false, false, false, false, false, false, false, true, false, false] [9] [0, 1, 2, 3, 4, 5, 6, 7, 8, 10, 11] hmix (by kernel_rfl) rfl rfl rfl ?_
      refine F_q (i := 0) rfl (by kernel_rfl) ?_
      refine WH_loadA _ Hvad.isAgg59 Hvad.sizeOf59 rfl (Hb.h (by repeat (first | assumption | exact Hb.newY _ _ | refine Hb.alloc ?_ | refine Hb.drew ?_ | refine Hb.ext (by assumption) ?_ | exact Hb.setSameL (by first | omega | (simp only [size_alloc, size_setB, size_drew]; omega)) | exact Hb.setSame (by assumption) | refine Hb.set (by first | omega | (simp only [size_alloc, size_setB, size_drew]; omega)) ?_ ))) (by first | omega | assumption | rfl | decide | exact Nat.le_refl _ | (simp only [size_ic, Value.cells]; omega) | simp) (Xt.h (by first | assumption | exact Xt.whole rfl rfl | exact ed3 (by assumption) | exact Xt.whole rfl (by simp only [size_ic, Value.cells]; omega) | exact ⟨rfl⟩)) ?_
      refine WH_nil ?_
      refine F_q (i := 1) rfl (by kernel_rfl) ?_
      refine WH_p (PS_move_ptr rfl) rfl ?_
      refine WH_nil ?_
      refine F_q (i := 2) rfl (by kernel_rfl) ?_
      refine WH_p (PS_nilCheck rfl) rfl ?_
      refine WH_nil ?_
      refine F_q (i := 3) rfl (by kernel_rfl) ?_
      refine WH_p (PS_fieldAddr 2409 Hvad.runUnderlying69 rfl Hvad.sizeOf59 rfl rfl) rfl ?_
      refine WH_nil ?_
      refine F_q (i := 4) rfl (by kernel_rfl) ?_
      refine WH_loadA _ Hvad.isAgg59 Hvad.sizeOf59 rfl (Hb.h (by repeat (first | assumption | exact Hb.newY _ _ | refine Hb.alloc ?_ | refine Hb.drew ?_ | refine Hb.ext (by assumption) ?_ | exact Hb.setSameL (by first | omega | (simp only [size_alloc, size_setB, size_drew]; omega)) | exact Hb.setSame (by assumption) | refine Hb.set (by first | omega | (simp only [size_alloc, size_setB, size_drew]; omega)) ?_ ))) (by first | omega | assumption | rfl | decide | exact Nat.le_refl _ | (simp only [size_ic, Value.cells]; omega) | simp) (Xt.h (by first | assumption | exact Xt.whole rfl rfl | exact ed3 (by assumption) | exact Xt.whole rfl (by simp only [size_ic, Value.cells]; omega) | exact ⟨rfl⟩)) ?_
      refine WH_nil ?_
      refine F_fork1 (i := 5) rfl rfl ?_ ?_
      · refine WH_call Hvad.call65 (by rfl) (Ret.mono (addOver_spec Wi m.held _ hWi hhd) ?_)
        rintro _ w65_4 ⟨rfl, hE65_4⟩
        refine ⟨(fun h => by cases h), ?_⟩
        have hz65_4 := hE65_4.1
        try simp only [size_alloc, size_setB, size_drew] at hz65_4
        refine WH_nil ?_
        refine F_q (i := 6) rfl (by kernel_rfl) ?_
        refine WH_p (PS_move_tuple rfl) rfl ?_
        refine WH_nil ?_
        refine F_q (i := 7) rfl (by kernel_rfl) ?_
        refine WH_p (PS_extract_agg rfl rfl) rfl ?_
        refine WH_nil ?_
        refine F_q (i := 8) rfl (by kernel_rfl) ?_
        refine WH_p (PS_extract_bool rfl rfl) rfl ?_
        refine WH_nil ?_
        refine F_fork1B (i := 10) (by kernel_rfl) rfl ?_
        · refine WH_allocG Hvad.zeroValue59 ?_
          intro b13 v13 hg13 hE13 hH13 hl13
          try simp only [size_alloc, size_setB, size_drew] at hg13
          have hzz13 := hE13.1
          try simp only [size_alloc, size_setB, size_drew] at hzz13
          replace hH13 : Hb v13 b13 (.cells (ic .u64 [0, 0, 0, 0]) 59 (0, 0)) := hH13
          refine ⟨fun _ => (by repeat (first | assumption | exact Ext.refl _ | refine Ext.alloc ?_ _ | refine Ext.drew ?_ | refine Ext.setB ?_ (by first | omega | (simp only [size_alloc, size_setB, size_drew]; omega)) _ | exact Ext.trans (by assumption) (by assumption) | refine Ext.trans ?_ (by assumption))), ?_⟩
          refine WH_nil ?_
          refine F_q (i := 10) rfl (by kernel_rfl) ?_
          first | refine WH_storeW Hvad.sizeOf59 rfl (v := .agg _) rfl (Hb.h (by repeat (first | assumption | exact Hb.newY _ _ | refine Hb.alloc ?_ | refine Hb.drew ?_ | refine Hb.ext (by assumption) ?_ | exact Hb.setSameL (by first | omega | (simp only [size_alloc, size_setB, size_drew]; omega)) | exact Hb.setSame (by assumption) | refine Hb.set (by first | omega | (simp only [size_alloc, size_setB, size_drew]; omega)) ?_ ))) rfl (by first | omega | assumption | rfl | decide | exact Nat.le_refl _ | (simp only [size_ic, Value.cells]; omega) | simp) (by first | omega | assumption | rfl | decide | exact Nat.le_refl _ | (simp only [size_ic, Value.cells]; omega) | simp) (by first | exact oneCell_ic | assumption) (fun h => by cases h) ?_ | refine WH_store Hvad.sizeOf59 rfl (v := .agg _) rfl (Hb.h (by repeat (first | assumption | exact Hb.newY _ _ | refine Hb.alloc ?_ | refine Hb.drew ?_ | refine Hb.ext (by assumption) ?_ | exact Hb.setSameL (by first | omega | (simp only [size_alloc, size_setB, size_drew]; omega)) | exact Hb.setSame (by assumption) | refine Hb.set (by first | omega | (simp only [size_alloc, size_setB, size_drew]; omega)) ?_ ))) (by first | omega | assumption | rfl | decide | exact Nat.le_refl _ | (simp only [size_ic, Value.cells]; omega) | simp) (by first | omega | assumption | rfl | decide | exact Nat.le_refl _ | (simp only [size_ic, Value.cells]; omega) | simp) (by first | exact oneCell_ic | assumption) (fun h => by cases h) ?_
          refine WH_nil ?_
          refine F_q (i := 11) rfl (by kernel_rfl) ?_
          refine WH_p (PS_assign_bool rfl) rfl ?_
          refine WH_nil ?_
          refine F_end ?_
          refine thn_normal ?_
          refine W_seq ?_
          refine W_region rfl ?_
          refine WO_p (PS_move_bool rfl) ?_
          refine WO_p (PS_move_bool rfl) ?_
          refine WO_if (t := 52) rfl (fun hb7 => ?_) (fun hb7 => ?_)
          · have hb7p := hb7.h; try simp only [al_ete, al_dfn, Bool.not_eq_true', Bool.not_eq_false', al_ne, Bool.not_not, al_nn] at hb7p
            (exfalso; omega) --END
          · have hb7p := hb7.h; try simp only [al_ete, al_dfn, Bool.not_eq_true', Bool.not_eq_false', al_ne, Bool.not_not, al_nn] at hb7p
            refine WO_guardT rfl rfl hb7.h ?_
            refine WO_loadA _ Hvad.isAgg59 Hvad.sizeOf59 rfl (Hb.h (by repeat (first | assumption | exact Hb.newY _ _ | refine Hb.alloc ?_ | refine Hb.drew ?_ | refine Hb.ext (by assumption) ?_ | exact Hb.setSameL (by first | omega | (simp only [size_alloc, size_setB, size_drew]; omega)) | exact Hb.setSame (by assumption) | refine Hb.set (by first | omega | (simp only [size_alloc, size_setB, size_drew]; omega)) ?_ ))) (by first | omega | assumption | rfl | decide | exact Nat.le_refl _ | (simp only [size_ic, Value.cells]; omega) | simp) (Xt.h (by first | assumption | exact Xt.whole rfl rfl | exact ed3 (by assumption) | exact Xt.whole rfl (by simp only [size_ic, Value.cells]; omega) | exact ⟨rfl⟩)) ?_
            refine WO_guardT rfl rfl hb7.h ?_
            refine WO_loadA _ Hvad.isAgg59 Hvad.sizeOf59 rfl (Hb.h (by repeat (first | assumption | exact Hb.newY _ _ | refine Hb.alloc ?_ | refine Hb.drew ?_ | refine Hb.ext (by assumption) ?_ | exact Hb.setSameL (by first | omega | (simp only [size_alloc, size_setB, size_drew]; omega)) | exact Hb.setSame (by assumption) | refine Hb.set (by first | omega | (simp only [size_alloc, size_setB, size_drew]; omega)) ?_ ))) (by first | omega | assumption | rfl | decide | exact Nat.le_refl _ | (simp only [size_ic, Value.cells]; omega) | simp) (Xt.h (by first | assumption | exact Xt.whole rfl rfl | exact ed3 (by assumption) | exact Xt.whole rfl (by simp only [size_ic, Value.cells]; omega) | exact ⟨rfl⟩)) ?_
            refine WO_guardT rfl rfl hb7.h ?_
            refine WO_p (PS_neqA Hvad.underlying59 Hvad.underlying26 Hvad.sizeOf26 Hvad.eqGuardType59 rfl rfl (by first | omega | assumption | rfl | decide | exact Nat.le_refl _ | (simp only [size_ic, Value.cells]; omega) | simp) (by first | omega | assumption | rfl | decide | exact Nat.le_refl _ | (simp only [size_ic, Value.cells]; omega) | simp)) ?_
            refine WO_p (PS_pickF rfl hb7.h rfl) ?_
            refine WO_nil ?_
            refine thn_normal ?_
            refine W_if rfl (fun hb9 => ?_) (fun hb9 => ?_)
            · have hb9p := hb9.h; try simp only [al_ete, al_dfn, Bool.not_eq_true', Bool.not_eq_false', al_ne, Bool.not_not, al_nn] at hb9p
              (exfalso; first | omega | (simp at hb9p; exact hb9p hwe) | exact hb9p hwe) --END
            · have hb9p := hb9.h; try simp only [al_ete, al_dfn, Bool.not_eq_true', Bool.not_eq_false', al_ne, Bool.not_not, al_nn] at hb9p
              refine W_skip ?_
              refine thn_normal ?_
              refine W_seq ?_
              refine W_region rfl ?_
              refine WO_p (PS_move_ptr rfl) ?_
              refine WO_p (PS_nilCheck rfl) ?_
              refine WO_p (PS_fieldAddr 8 Hvad.runUnderlying271 rfl Hvad.sizeOf26 rfl rfl) ?_
              refine WO_load (.int _ _) Hvad.isAgg26 rfl (Hb.h (by repeat (first | assumption | exact Hb.newY _ _ | refine Hb.alloc ?_ | refine Hb.drew ?_ | refine Hb.ext (by assumption) ?_ | exact Hb.setSameL (by first | omega | (simp only [size_alloc, size_setB, size_drew]; omega)) | exact Hb.setSame (by assumption) | refine Hb.set (by first | omega | (simp only [size_alloc, size_setB, size_drew]; omega)) ?_ ))) (Ce.h (by first | assumption | exact ed0 | exact ed1 | exact ed2 | exact ed7 (by assumption) | exact ed8 (by assumption) | exact ed9 (by assumption) | exact ⟨rfl⟩)) ?_
              refine WO_p (PS_quo_u64 rfl rfl (by omega) (by omega) (by omega)) ?_
              refine WO_p (PS_assign_int rfl) ?_
              refine WO_nil ?_
              refine thn_normal ?_
              refine W_seq ?_
              refine W_seq ?_
              refine W_region rfl ?_
              refine WO_p (PS_move_ptr rfl) ?_
              refine WO_p (PS_nilCheck rfl) ?_
              refine WO_p (PS_fieldAddr 8 Hvad.runUnderlying271 rfl Hvad.sizeOf26 rfl rfl) ?_
              refine WO_load (.int _ _) Hvad.isAgg26 rfl (Hb.h (by repeat (first | assumption | exact Hb.newY _ _ | refine Hb.alloc ?_ | refine Hb.drew ?_ | refine Hb.ext (by assumption) ?_ | exact Hb.setSameL (by first | omega | (simp only [size_alloc, size_setB, size_drew]; omega)) | exact Hb.setSame (by assumption) | refine Hb.set (by first | omega | (simp only [size_alloc, size_setB, size_drew]; omega)) ?_ ))) (Ce.h (by first | assumption | exact ed0 | exact ed1 | exact ed2 | exact ed7 (by assumption) | exact ed8 (by assumption) | exact ed9 (by assumption) | exact ⟨rfl⟩)) ?_
              refine WO_p (PS_rem_u64 rfl rfl (by omega) (by omega)) ?_
              refine WO_p (PS_neq rfl rfl) ?_
              refine WO_nil ?_
              refine thn_normal ?_
              refine W_if rfl (fun hb11 => ?_) (fun hb11 => ?_)
              · have hb11p := hb11.h; try simp only [al_ete, al_dfn, Bool.not_eq_true', Bool.not_eq_false', al_ne, Bool.not_not, al_nn] at hb11p
                refine W_region rfl ?_
                refine WO_p (PS_move_int rfl) ?_
                refine WO_p (PS_add_u64n rfl rfl (by omega) (by omega)) ?_
                refine WO_p (PS_assign_int rfl) ?_
                refine WO_nil ?_
                refine thn_normal ?_
                refine W_seq ?_
                refine W_drawE [false, false, false, false, false, false, false, false, false, false, false, false, false, false, false, false, false] hmix (by kernel_rfl) rfl ?_
                refine WH_p (PS_move_ptr rfl) rfl ?_
                refine WH_p (PS_nilCheck rfl) rfl ?_
                refine WH_p (PS_fieldAddr 8 Hvad.runUnderlying271 rfl Hvad.sizeOf26 rfl rfl) rfl ?_
                refine WH_load (.int _ _) Hvad.isAgg26 rfl (Hb.h (by repeat (first | assumption | exact Hb.newY _ _ | refine Hb.alloc ?_ | refine Hb.drew ?_ | refine Hb.ext (by assumption) ?_ | exact Hb.setSameL (by first | omega | (simp only [size_alloc, size_setB, size_drew]; omega)) | exact Hb.setSame (by assumption) | refine Hb.set (by first | omega | (simp only [size_alloc, size_setB, size_drew]; omega)) ?_ ))) (Ce.h (by first | assumption | exact ed0 | exact ed1 | exact ed2 | exact ed7 (by assumption) | exact ed8 (by assumption) | exact ed9 (by assumption) | exact ⟨rfl⟩)) ?_
                refine WH_p (PS_move_ptr rfl) rfl ?_
                refine WH_p (PS_nilCheck rfl) rfl ?_
                refine WH_p (PS_fieldAddr 9 Hvad.runUnderlying271 rfl Hvad.sizeOf2 rfl rfl) rfl ?_
                refine WH_load (.int _ _) Hvad.isAgg2 rfl (Hb.h (by repeat (first | assumption | exact Hb.newY _ _ | refine Hb.alloc ?_ | refine Hb.drew ?_ | refine Hb.ext (by assumption) ?_ | exact Hb.setSameL (by first | omega | (simp only [size_alloc, size_setB, size_drew]; omega)) | exact Hb.setSame (by assumption) | refine Hb.set (by first | omega | (simp only [size_alloc, size_setB, size_drew]; omega)) ?_ ))) (Ce.h (by first | assumption | exact ed0 | exact ed1 | exact ed2 | exact ed7 (by assumption) | exact ed8 (by assumption) | exact ed9 (by assumption) | exact ⟨rfl⟩)) ?_
                refine WH_p (PS_conv_u64n Hvad.runUnderlying2 Hvad.runUnderlying26 rfl (by omega) (by omega)) rfl ?_
                refine WH_p (PS_mul_u64n rfl rfl (by omega) (by omega)) rfl ?_
                refine WH_p (PS_geq rfl rfl) rfl ?_
                refine WH_p (PS_move_bool rfl) rfl ?_
                refine WH_if (t := 81) rfl (fun hb13 => ?_) (fun hb13 => ?_)
                · have hb13p := hb13.h; try simp only [al_ete, al_dfn, Bool.not_eq_true', Bool.not_eq_false', al_ne, Bool.not_not, al_nn] at hb13p
                  refine WH_guardT rfl rfl hb13.h ?_
                  refine WH_p (PS_move_int rfl) rfl ?_
                  refine WH_guardT rfl rfl hb13.h ?_
                  refine WH_p (PS_move_int rfl) rfl ?_
                  refine WH_guardT rfl rfl hb13.h ?_
                  refine WH_p (PS_leq rfl rfl) rfl ?_
                  refine WH_p (PS_pickT rfl hb13.h rfl) rfl ?_
                  refine WH_p (PS_assign_bool rfl) rfl ?_
                  refine WH_nil ?_
                  refine thn_normal ?_
                  refine W_ret ?_
                  refine bodyQ_ret1 Hvad.results233 rfl (.bool _) rfl ?_
                  exact ⟨congrArg Value.bool (al_et (by omega)), (by repeat (first | assumption | exact Ext.refl _ | refine Ext.alloc ?_ _ | refine Ext.drew ?_ | refine Ext.setB ?_ (by first | omega | (simp only [size_alloc, size_setB, size_drew]; omega)) _ | refine Ext.trans ?_ (by assumption)))⟩
                · have hb13p := hb13.h; try simp only [al_ete, al_dfn, Bool.not_eq_true', Bool.not_eq_false', al_ne, Bool.not_not, al_nn] at hb13p
                  (exfalso; omega) --END
              · have hb11p := hb11.h; try simp only [al_ete, al_dfn, Bool.not_eq_true', Bool.not_eq_false', al_ne, Bool.not_not, al_nn] at hb11p
                refine W_skip ?_
                refine thn_normal ?_
                refine W_seq ?_
                refine W_drawE [false, false, false, false, false, false, false, false, false, false, false, false, false, false, false, false, false] hmix (by kernel_rfl) rfl ?_
                refine WH_p (PS_move_ptr rfl) rfl ?_
                refine WH_p (PS_nilCheck rfl) rfl ?_
                refine WH_p (PS_fieldAddr 8 Hvad.runUnderlying271 rfl Hvad.sizeOf26 rfl rfl) rfl ?_
                refine WH_load (.int _ _) Hvad.isAgg26 rfl (Hb.h (by repeat (first | assumption | exact Hb.newY _ _ | refine Hb.alloc ?_ | refine Hb.drew ?_ | refine Hb.ext (by assumption) ?_ | exact Hb.setSameL (by first | omega | (simp only [size_alloc, size_setB, size_drew]; omega)) | exact Hb.setSame (by assumption) | refine Hb.set (by first | omega | (simp only [size_alloc, size_setB, size_drew]; omega)) ?_ ))) (Ce.h (by first | assumption | exact ed0 | exact ed1 | exact ed2 | exact ed7 (by assumption) | exact ed8 (by assumption) | exact ed9 (by assumption) | exact ⟨rfl⟩)) ?_
                refine WH_p (PS_move_ptr rfl) rfl ?_
                refine WH_p (PS_nilCheck rfl) rfl ?_
                refine WH_p (PS_fieldAddr 9 Hvad.runUnderlying271 rfl Hvad.sizeOf2 rfl rfl) rfl ?_
                refine WH_load (.int _ _) Hvad.isAgg2 rfl (Hb.h (by repeat (first | assumption | exact Hb.newY _ _ | refine Hb.alloc ?_ | refine Hb.drew ?_ | refine Hb.ext (by assumption) ?_ | exact Hb.setSameL (by first | omega | (simp only [size_alloc, size_setB, size_drew]; omega)) | exact Hb.setSame (by assumption) | refine Hb.set (by first | omega | (simp only [size_alloc, size_setB, size_drew]; omega)) ?_ ))) (Ce.h (by first | assumption | exact ed0 | exact ed1 | exact ed2 | exact ed7 (by assumption) | exact ed8 (by assumption) | exact ed9 (by assumption) | exact ⟨rfl⟩)) ?_
                refine WH_p (PS_conv_u64n Hvad.runUnderlying2 Hvad.runUnderlying26 rfl (by omega) (by omega)) rfl ?_
                refine WH_p (PS_mul_u64n rfl rfl (by omega) (by omega)) rfl ?_
                refine WH_p (PS_geq rfl rfl) rfl ?_
                refine WH_p (PS_move_bool rfl) rfl ?_
                refine WH_if (t := 81) rfl (fun hb16 => ?_) (fun hb16 => ?_)
                · have hb16p := hb16.h; try simp only [al_ete, al_dfn, Bool.not_eq_true', Bool.not_eq_false', al_ne, Bool.not_not, al_nn] at hb16p
                  refine WH_guardT rfl rfl hb16.h ?_
                  refine WH_p (PS_move_int rfl) rfl ?_
                  refine WH_guardT rfl rfl hb16.h ?_
                  refine WH_p (PS_move_int rfl) rfl ?_
                  refine WH_guardT rfl rfl hb16.h ?_
                  refine WH_p (PS_leq rfl rfl) rfl ?_
                  refine WH_p (PS_pickT rfl hb16.h rfl) rfl ?_
                  refine WH_p (PS_assign_bool rfl) rfl ?_
                  refine WH_nil ?_
                  refine thn_normal ?_
                  refine W_ret ?_
                  refine bodyQ_ret1 Hvad.results233 rfl (.bool _) rfl ?_
                  exact ⟨congrArg Value.bool (al_et (by omega)), (by repeat (first | assumption | exact Ext.refl _ | refine Ext.alloc ?_ _ | refine Ext.drew ?_ | refine Ext.setB ?_ (by first | omega | (simp only [size_alloc, size_setB, size_drew]; omega)) _ | refine Ext.trans ?_ (by assumption)))⟩
                · have hb16p := hb16.h; try simp only [al_ete, al_dfn, Bool.not_eq_true', Bool.not_eq_false', al_ne, Bool.not_not, al_nn] at hb16p
                  (exfalso; omega) --END
      · refine WH_allocG Hvad.zeroValue59 ?_
        intro b13 v13 hg13 hE13 hH13 hl13
        try simp only [size_alloc, size_setB, size_drew] at hg13
        have hzz13 := hE13.1
        try simp only [size_alloc, size_setB, size_drew] at hzz13
        replace hH13 : Hb v13 b13 (.cells (ic .u64 [0, 0, 0, 0]) 59 (0, 0)) := hH13
        refine ⟨fun _ => (by repeat (first | assumption | exact Ext.refl _ | refine Ext.alloc ?_ _ | refine Ext.drew ?_ | refine Ext.setB ?_ (by first | omega | (simp only [size_alloc, size_setB, size_drew]; omega)) _ | exact Ext.trans (by assumption) (by assumption) | refine Ext.trans ?_ (by assumption))), ?_⟩
        refine WH_nil ?_
        refine F_q (i := 5) rfl (by kernel_rfl) ?_
        refine WH_call Hvad.call65 (by rfl) (Ret.mono (addOver_spec Wi m.held _ hWi hhd) ?_)
        rintro _ w65_17 ⟨rfl, hE65_17⟩
        refine ⟨(fun h => by cases h), ?_⟩
        have hz65_17 := hE65_17.1
        try simp only [size_alloc, size_setB, size_drew] at hz65_17
        refine WH_nil ?_
        refine F_q (i := 6) rfl (by kernel_rfl) ?_
        refine WH_p (PS_move_tuple rfl) rfl ?_
        refine WH_nil ?_
        refine F_q (i := 7) rfl (by kernel_rfl) ?_
        refine WH_p (PS_extract_agg rfl rfl) rfl ?_
        refine WH_nil ?_
        refine F_q (i := 8) rfl (by kernel_rfl) ?_
        refine WH_p (PS_extract_bool rfl rfl) rfl ?_
        refine WH_nil ?_
        refine F_q (i := 10) rfl (by kernel_rfl) ?_
        first | refine WH_storeW Hvad.sizeOf59 rfl (v := .agg _) rfl (Hb.h (by repeat (first | assumption | exact Hb.newY _ _ | refine Hb.alloc ?_ | refine Hb.drew ?_ | refine Hb.ext (by assumption) ?_ | exact Hb.setSameL (by first | omega | (simp only [size_alloc, size_setB, size_drew]; omega)) | exact Hb.setSame (by assumption) | refine Hb.set (by first | omega | (simp only [size_alloc, size_setB, size_drew]; omega)) ?_ ))) rfl (by first | omega | assumption | rfl | decide | exact Nat.le_refl _ | (simp only [size_ic, Value.cells]; omega) | simp) (by first | omega | assumption | rfl | decide | exact Nat.le_refl _ | (simp only [size_ic, Value.cells]; omega) | simp) (by first | exact oneCell_ic | assumption) (fun h => by cases h) ?_ | refine WH_store Hvad.sizeOf59 rfl (v := .agg _) rfl (Hb.h (by repeat (first | assumption | exact Hb.newY _ _ | refine Hb.alloc ?_ | refine Hb.drew ?_ | refine Hb.ext (by assumption) ?_ | exact Hb.setSameL (by first | omega | (simp only [size_alloc, size_setB, size_drew]; omega)) | exact Hb.setSame (by assumption) | refine Hb.set (by first | omega | (simp only [size_alloc, size_setB, size_drew]; omega)) ?_ ))) (by first | omega | assumption | rfl | decide | exact Nat.le_refl _ | (simp only [size_ic, Value.cells]; omega) | simp) (by first | omega | assumption | rfl | decide | exact Nat.le_refl _ | (simp only [size_ic, Value.cells]; omega) | simp) (by first | exact oneCell_ic | assumption) (fun h => by cases h) ?_
        refine WH_nil ?_
        refine F_q (i := 11) rfl (by kernel_rfl) ?_
        refine WH_p (PS_assign_bool rfl) rfl ?_
        refine WH_nil ?_
        refine F_end ?_
        refine thn_normal ?_
        refine W_seq ?_
        refine W_region rfl ?_
        refine WO_p (PS_move_bool rfl) ?_
        refine WO_p (PS_move_bool rfl) ?_
        refine WO_if (t := 52) rfl (fun hb20 => ?_) (fun hb20 => ?_)
        · have hb20p := hb20.h; try simp only [al_ete, al_dfn, Bool.not_eq_true', Bool.not_eq_false', al_ne, Bool.not_not, al_nn] at hb20p
          (exfalso; omega) --END
        · have hb20p := hb20.h; try simp only [al_ete, al_dfn, Bool.not_eq_true', Bool.not_eq_false', al_ne, Bool.not_not, al_nn] at hb20p
          refine WO_guardT rfl rfl hb20.h ?_
          refine WO_loadA _ Hvad.isAgg59 Hvad.sizeOf59 rfl (Hb.h (by repeat (first | assumption | exact Hb.newY _ _ | refine Hb.alloc ?_ | refine Hb.drew ?_ | refine Hb.ext (by assumption) ?_ | exact Hb.setSameL (by first | omega | (simp only [size_alloc, size_setB, size_drew]; omega)) | exact Hb.setSame (by assumption) | refine Hb.set (by first | omega | (simp only [size_alloc, size_setB, size_drew]; omega)) ?_ ))) (by first | omega | assumption | rfl | decide | exact Nat.le_refl _ | (simp only [size_ic, Value.cells]; omega) | simp) (Xt.h (by first | assumption | exact Xt.whole rfl rfl | exact ed3 (by assumption) | exact Xt.whole rfl (by simp only [size_ic, Value.cells]; omega) | exact ⟨rfl⟩)) ?_
          refine WO_guardT rfl rfl hb20.h ?_
          refine WO_loadA _ Hvad.isAgg59 Hvad.sizeOf59 rfl (Hb.h (by repeat (first | assumption | exact Hb.newY _ _ | refine Hb.alloc ?_ | refine Hb.drew ?_ | refine Hb.ext (by assumption) ?_ | exact Hb.setSameL (by first | omega | (simp only [size_alloc, size_setB, size_drew]; omega)) | exact Hb.setSame (by assumption) | refine Hb.set (by first | omega | (simp only [size_alloc, size_setB, size_drew]; omega)) ?_ ))) (by first | omega | assumption | rfl | decide | exact Nat.le_refl _ | (simp only [size_ic, Value.cells]; omega) | simp) (Xt.h (by first | assumption | exact Xt.whole rfl rfl | exact ed3 (by assumption) | exact Xt.whole rfl (by simp only [size_ic, Value.cells]; omega) | exact ⟨rfl⟩)) ?_
          refine WO_guardT rfl rfl hb20.h ?_
          refine WO_p (PS_neqA Hvad.underlying59 Hvad.underlying26 Hvad.sizeOf26 Hvad.eqGuardType59 rfl rfl (by first | omega | assumption | rfl | decide | exact Nat.le_refl _ | (simp only [size_ic, Value.cells]; omega) | simp) (by first | omega | assumption | rfl | decide | exact Nat.le_refl _ | (simp only [size_ic, Value.cells]; omega) | simp)) ?_
          refine WO_p (PS_pickF rfl hb20.h rfl) ?_
          refine WO_nil ?_
          refine thn_normal ?_
          refine W_if rfl (fun hb22 => ?_) (fun hb22 => ?_)
          · have hb22p := hb22.h; try simp only [al_ete, al_dfn, Bool.not_eq_true', Bool.not_eq_false', al_ne, Bool.not_not, al_nn] at hb22p
            (exfalso; first | omega | (simp at hb22p; exact hb22p hwe) | exact hb22p hwe) --END
          · have hb22p := hb22.h; try simp only [al_ete, al_dfn, Bool.not_eq_true', Bool.not_eq_false', al_ne, Bool.not_not, al_nn] at hb22p
            refine W_skip ?_
            refine thn_normal ?_
            refine W_seq ?_
            refine W_region rfl ?_
            refine WO_p (PS_move_ptr rfl) ?_
            refine WO_p (PS_nilCheck rfl) ?_
            refine WO_p (PS_fieldAddr 8 Hvad.runUnderlying271 rfl Hvad.sizeOf26 rfl rfl) ?_
            refine WO_load (.int _ _) Hvad.isAgg26 rfl (Hb.h (by repeat (first | assumption | exact Hb.newY _ _ | refine Hb.alloc ?_ | refine Hb.drew ?_ | refine Hb.ext (by assumption) ?_ | exact Hb.setSameL (by first | omega | (simp only [size_alloc, size_setB, size_drew]; omega)) | exact Hb.setSame (by assumption) | refine Hb.set (by first | omega | (simp only [size_alloc, size_setB, size_drew]; omega)) ?_ ))) (Ce.h (by first | assumption | exact ed0 | exact ed1 | exact ed2 | exact ed7 (by assumption) | exact ed8 (by assumption) | exact ed9 (by assumption) | exact ⟨rfl⟩)) ?_
            refine WO_p (PS_quo_u64 rfl rfl (by omega) (by omega) (by omega)) ?_
            refine WO_p (PS_assign_int rfl) ?_
            refine WO_nil ?_
            refine thn_normal ?_
            refine W_seq ?_
            refine W_seq ?_
            refine W_region rfl ?_
            refine WO_p (PS_move_ptr rfl) ?_
            refine WO_p (PS_nilCheck rfl) ?_
            refine WO_p (PS_fieldAddr 8 Hvad.runUnderlying271 rfl Hvad.sizeOf26 rfl rfl) ?_
            refine WO_load (.int _ _) Hvad.isAgg26 rfl (Hb.h (by repeat (first | assumption | exact Hb.newY _ _ | refine Hb.alloc ?_ | refine Hb.drew ?_ | refine Hb.ext (by assumption) ?_ | exact Hb.setSameL (by first | omega | (simp only [size_alloc, size_setB, size_drew]; omega)) | exact Hb.setSame (by assumption) | refine Hb.set (by first | omega | (simp only [size_alloc, size_setB, size_drew]; omega)) ?_ ))) (Ce.h (by first | assumption | exact ed0 | exact ed1 | exact ed2 | exact ed7 (by assumption) | exact ed8 (by assumption) | exact ed9 (by assumption) | exact ⟨rfl⟩)) ?_
            refine WO_p (PS_rem_u64 rfl rfl (by omega) (by omega)) ?_
            refine WO_p (PS_neq rfl rfl) ?_
            refine WO_nil ?_
            refine thn_normal ?_
            refine W_if rfl (fun hb24 => ?_) (fun hb24 => ?_)
            · have hb24p := hb24.h; try simp only [al_ete, al_dfn, Bool.not_eq_true', Bool.not_eq_false', al_ne, Bool.not_not, al_nn] at hb24p
              refine W_region rfl ?_
              refine WO_p (PS_move_int rfl) ?_
              refine WO_p (PS_add_u64n rfl rfl (by omega) (by omega)) ?_
              refine WO_p (PS_assign_int rfl) ?_
              refine WO_nil ?_
              refine thn_normal ?_
              refine W_seq ?_
              refine W_drawE [false, false, false, false, false, false, false, false, false, false, false, false, false, false, false, false, false] hmix (by kernel_rfl) rfl ?_
              refine WH_p (PS_move_ptr rfl) rfl ?_
              refine WH_p (PS_nilCheck rfl) rfl ?_
              refine WH_p (PS_fieldAddr 8 Hvad.runUnderlying271 rfl Hvad.sizeOf26 rfl rfl) rfl ?_
              refine WH_load (.int _ _) Hvad.isAgg26 rfl (Hb.h (by repeat (first | assumption | exact Hb.newY _ _ | refine Hb.alloc ?_ | refine Hb.drew ?_ | refine Hb.ext (by assumption) ?_ | exact Hb.setSameL (by first | omega | (simp only [size_alloc, size_setB, size_drew]; omega)) | exact Hb.setSame (by assumption) | refine Hb.set (by first | omega | (simp only [size_alloc, size_setB, size_drew]; omega)) ?_ ))) (Ce.h (by first | assumption | exact ed0 | exact ed1 | exact ed2 | exact ed7 (by assumption) | exact ed8 (by assumption) | exact ed9 (by assumption) | exact ⟨rfl⟩)) ?_
              refine WH_p (PS_move_ptr rfl) rfl ?_
              refine WH_p (PS_nilCheck rfl) rfl ?_
              refine WH_p (PS_fieldAddr 9 Hvad.runUnderlying271 rfl Hvad.sizeOf2 rfl rfl) rfl ?_
              refine WH_load (.int _ _) Hvad.isAgg2 rfl (Hb.h (by repeat (first | assumption | exact Hb.newY _ _ | refine Hb.alloc ?_ | refine Hb.drew ?_ | refine Hb.ext (by assumption) ?_ | exact Hb.setSameL (by first | omega | (simp only [size_alloc, size_setB, size_drew]; omega)) | exact Hb.setSame (by assumption) | refine Hb.set (by first | omega | (simp only [size_alloc, size_setB, size_drew]; omega)) ?_ ))) (Ce.h (by first | assumption | exact ed0 | exact ed1 | exact ed2 | exact ed7 (by assumption) | exact ed8 (by assumption) | exact ed9 (by assumption) | exact ⟨rfl⟩)) ?_
              refine WH_p (PS_conv_u64n Hvad.runUnderlying2 Hvad.runUnderlying26 rfl (by omega) (by omega)) rfl ?_
              refine WH_p (PS_mul_u64n rfl rfl (by omega) (by omega)) rfl ?_
              refine WH_p (PS_geq rfl rfl) rfl ?_
              refine WH_p (PS_move_bool rfl) rfl ?_
              refine WH_if (t := 81) rfl (fun hb26 => ?_) (fun hb26 => ?_)
              · have hb26p := hb26.h; try simp only [al_ete, al_dfn, Bool.not_eq_true', Bool.not_eq_false', al_ne, Bool.not_not, al_nn] at hb26p
                refine WH_guardT rfl rfl hb26.h ?_
                refine WH_p (PS_move_int rfl) rfl ?_
                refine WH_guardT rfl rfl hb26.h ?_
                refine WH_p (PS_move_int rfl) rfl ?_
                refine WH_guardT rfl rfl hb26.h ?_
                refine WH_p (PS_leq rfl rfl) rfl ?_
                refine WH_p (PS_pickT rfl hb26.h rfl) rfl ?_
                refine WH_p (PS_assign_bool rfl) rfl ?_
                refine WH_nil ?_
                refine thn_normal ?_
                refine W_ret ?_
                refine bodyQ_ret1 Hvad.results233 rfl (.bool _) rfl ?_
                exact ⟨congrArg Value.bool (al_et (by omega)), (by repeat (first | assumption | exact Ext.refl _ | refine Ext.alloc ?_ _ | refine Ext.drew ?_ | refine Ext.setB ?_ (by first | omega | (simp only [size_alloc, size_setB, size_drew]; omega)) _ | refine Ext.trans ?_ (by assumption)))⟩
              · have hb26p := hb26.h; try simp only [al_ete, al_dfn, Bool.not_eq_true', Bool.not_eq_false', al_ne, Bool.not_not, al_nn] at hb26p
                (exfalso; omega) --END
            · have hb24p := hb24.h; try simp only [al_ete, al_dfn, Bool.not_eq_true', Bool.not_eq_false', al_ne, Bool.not_not, al_nn] at hb24p
              refine W_skip ?_
              refine thn_normal ?_
              refine W_seq ?_
              refine W_drawE [false, false, false, false, false, false, false, false, false, false, false, false, false, false, false, false, false] hmix (by kernel_rfl) rfl ?_
              refine WH_p (PS_move_ptr rfl) rfl ?_
              refine WH_p (PS_nilCheck rfl) rfl ?_
              refine WH_p (PS_fieldAddr 8 Hvad.runUnderlying271 rfl Hvad.sizeOf26 rfl rfl) rfl ?_
              refine WH_load (.int _ _) Hvad.isAgg26 rfl (Hb.h (by repeat (first | assumption | exact Hb.newY _ _ | refine Hb.alloc ?_ | refine Hb.drew ?_ | refine Hb.ext (by assumption) ?_ | exact Hb.setSameL (by first | omega | (simp only [size_alloc, size_setB, size_drew]; omega)) | exact Hb.setSame (by assumption) | refine Hb.set (by first | omega | (simp only [size_alloc, size_setB, size_drew]; omega)) ?_ ))) (Ce.h (by first | assumption | exact ed0 | exact ed1 | exact ed2 | exact ed7 (by assumption) | exact ed8 (by assumption) | exact ed9 (by assumption) | exact ⟨rfl⟩)) ?_
              refine WH_p (PS_move_ptr rfl) rfl ?_
              refine WH_p (PS_nilCheck rfl) rfl ?_
              refine WH_p (PS_fieldAddr 9 Hvad.runUnderlying271 rfl Hvad.sizeOf2 rfl rfl) rfl ?_
              refine WH_load (.int _ _) Hvad.isAgg2 rfl (Hb.h (by repeat (first | assumption | exact Hb.newY _ _ | refine Hb.alloc ?_ | refine Hb.drew ?_ | refine Hb.ext (by assumption) ?_ | exact Hb.setSameL (by first | omega | (simp only [size_alloc, size_setB, size_drew]; omega)) | exact Hb.setSame (by assumption) | refine Hb.set (by first | omega | (simp only [size_alloc, size_setB, size_drew]; omega)) ?_ ))) (Ce.h (by first | assumption | exact ed0 | exact ed1 | exact ed2 | exact ed7 (by assumption) | exact ed8 (by assumption) | exact ed9 (by assumption) | exact ⟨rfl⟩)) ?_
              refine WH_p (PS_conv_u64n Hvad.runUnderlying2 Hvad.runUnderlying26 rfl (by omega) (by omega)) rfl ?_
              refine WH_p (PS_mul_u64n rfl rfl (by omega) (by omega)) rfl ?_
              refine WH_p (PS_geq rfl rfl) rfl ?_
              refine WH_p (PS_move_bool rfl) rfl ?_
              refine WH_if (t := 81) rfl (fun hb29 => ?_) (fun hb29 => ?_)
              · have hb29p := hb29.h; try simp only [al_ete, al_dfn, Bool.not_eq_true', Bool.not_eq_false', al_ne, Bool.not_not, al_nn] at hb29p
                refine WH_guardT rfl rfl hb29.h ?_
                refine WH_p (PS_move_int rfl) rfl ?_
                refine WH_guardT rfl rfl hb29.h ?_
                refine WH_p (PS_move_int rfl) rfl ?_
                refine WH_guardT rfl rfl hb29.h ?_
                refine WH_p (PS_leq rfl rfl) rfl ?_
                refine WH_p (PS_pickT rfl hb29.h rfl) rfl ?_
                refine WH_p (PS_assign_bool rfl) rfl ?_
                refine WH_nil ?_
                refine thn_normal ?_
                refine W_ret ?_
                refine bodyQ_ret1 Hvad.results233 rfl (.bool _) rfl ?_
                exact ⟨congrArg Value.bool (al_et (by omega)), (by repeat (first | assumption | exact Ext.refl _ | refine Ext.alloc ?_ _ | refine Ext.drew ?_ | refine Ext.setB ?_ (by first | omega | (simp only [size_alloc, size_setB, size_drew]; omega)) _ | refine Ext.trans ?_ (by assumption)))⟩
              · have hb29p := hb29.h; try simp only [al_ete, al_dfn, Bool.not_eq_true', Bool.not_eq_false', al_ne, Bool.not_not, al_nn] at hb29p
                (exfalso; omega) --END
    · have hb4p := hb4.h; try simp only [al_ete, al_dfn, Bool.not_eq_true', Bool.not_eq_false', al_ne, Bool.not_not, al_nn] at hb4p
      refine WO_guardT rfl rfl hb4.h ?_
      refine WO_p (PS_move_int rfl) ?_
      refine WO_guardT rfl rfl hb4.h ?_
      refine WO_p (PS_move_ptr rfl) ?_
      refine WO_guardT rfl rfl hb4.h ?_
      refine WO_p (PS_nilCheck rfl) ?_
      refine WO_guardT rfl rfl hb4.h ?_
      refine WO_p (PS_fieldAddr 1803 Hvad.runUnderlying69 rfl Hvad.sizeOf66 rfl rfl) ?_
      refine WO_guardT rfl rfl hb4.h ?_
      refine WO_p (PS_indexA Hvad.runUnderlying66 Hvad.sizeOf65 rfl rfl (by omega) (by omega)) ?_
      refine WO_guardT rfl rfl hb4.h ?_
      refine WO_p (PS_fieldAddr 8 Hvad.runUnderlying65 rfl Hvad.sizeOf21 rfl rfl) ?_
      refine WO_guardT rfl rfl hb4.h ?_
      refine WO_load (.int _ _) Hvad.isAgg21 rfl (Hb.h (by repeat (first | assumption | exact Hb.newY _ _ | refine Hb.alloc ?_ | refine Hb.drew ?_ | refine Hb.ext (by assumption) ?_ | exact Hb.setSameL (by first | omega | (simp only [size_alloc, size_setB, size_drew]; omega)) | exact Hb.setSame (by assumption) | refine Hb.set (by first | omega | (simp only [size_alloc, size_setB, size_drew]; omega)) ?_ ))) (Ce.h (by first | assumption | exact ed0 | exact ed1 | exact ed2 | exact ed7 (by assumption) | exact ed8 (by assumption) | exact ed9 (by assumption) | exact ⟨rfl⟩)) ?_
      refine WO_guardT rfl rfl hb4.h ?_
      refine WO_p (PS_geq rfl rfl) ?_
      refine WO_guardT rfl rfl hb2.h ?_
      refine WO_p (PS_pickF rfl hb4.h rfl) ?_
      refine WO_p (PS_pickT rfl hb2.h rfl) ?_
      refine WO_nil ?_
      refine thn_normal ?_
      refine W_if rfl (fun hb32 => ?_) (fun hb32 => ?_)
      · have hb32p := hb32.h; try simp only [al_ete, al_dfn, Bool.not_eq_true', Bool.not_eq_false', al_ne, Bool.not_not, al_nn] at hb32p
        refine W_seq ?_
        refine W_drawF [false, false, false, false, false, false, false, false, false, true, false, false] [9] [0, 1, 2, 3, 4, 5, 6, 7, 8, 10, 11] hmix (by kernel_rfl) rfl rfl rfl ?_
        refine F_q (i := 0) rfl (by kernel_rfl) ?_
        refine WH_loadA _ Hvad.isAgg59 Hvad.sizeOf59 rfl (Hb.h (by repeat (first | assumption | exact Hb.newY _ _ | refine Hb.alloc ?_ | refine Hb.drew ?_ | refine Hb.ext (by assumption) ?_ | exact Hb.setSameL (by first | omega | (simp only [size_alloc, size_setB, size_drew]; omega)) | exact Hb.setSame (by assumption) | refine Hb.set (by first | omega | (simp only [size_alloc, size_setB, size_drew]; omega)) ?_ ))) (by first | omega | assumption | rfl | decide | exact Nat.le_refl _ | (simp only [size_ic, Value.cells]; omega) | simp) (Xt.h (by first | assumption | exact Xt.whole rfl rfl | exact ed3 (by assumption) | exact Xt.whole rfl (by simp only [size_ic, Value.cells]; omega) | exact ⟨rfl⟩)) ?_
        refine WH_nil ?_
        refine F_q (i := 1) rfl (by kernel_rfl) ?_
        refine WH_p (PS_move_ptr rfl) rfl ?_
        refine WH_nil ?_
        refine F_q (i := 2) rfl (by kernel_rfl) ?_
        refine WH_p (PS_nilCheck rfl) rfl ?_
        refine WH_nil ?_
        refine F_q (i := 3) rfl (by kernel_rfl) ?_
        refine WH_p (PS_fieldAddr 2409 Hvad.runUnderlying69 rfl Hvad.sizeOf59 rfl rfl) rfl ?_
        refine WH_nil ?_
        refine F_q (i := 4) rfl (by kernel_rfl) ?_
        refine WH_loadA _ Hvad.isAgg59 Hvad.sizeOf59 rfl (Hb.h (by repeat (first | assumption | exact Hb.newY _ _ | refine Hb.alloc ?_ | refine Hb.drew ?_ | refine Hb.ext (by assumption) ?_ | exact Hb.setSameL (by first | omega | (simp only [size_alloc, size_setB, size_drew]; omega)) | exact Hb.setSame (by assumption) | refine Hb.set (by first | omega | (simp only [size_alloc, size_setB, size_drew]; omega)) ?_ ))) (by first | omega | assumption | rfl | decide | exact Nat.le_refl _ | (simp only [size_ic, Value.cells]; omega) | simp) (Xt.h (by first | assumption | exact Xt.whole rfl rfl | exact ed3 (by assumption) | exact Xt.whole rfl (by simp only [size_ic, Value.cells]; omega) | exact ⟨rfl⟩)) ?_
        refine WH_nil ?_
        refine F_fork1 (i := 5) rfl rfl ?_ ?_
        · refine WH_call Hvad.call65 (by rfl) (Ret.mono (addOver_spec Wi m.held _ hWi hhd) ?_)
          rintro _ w65_32 ⟨rfl, hE65_32⟩
          refine ⟨(fun h => by cases h), ?_⟩
          have hz65_32 := hE65_32.1
          try simp only [size_alloc, size_setB, size_drew] at hz65_32
          refine WH_nil ?_
          refine F_q (i := 6) rfl (by kernel_rfl) ?_
          refine WH_p (PS_move_tuple rfl) rfl ?_
          refine WH_nil ?_
          refine F_q (i := 7) rfl (by kernel_rfl) ?_
          refine WH_p (PS_extract_agg rfl rfl) rfl ?_
          refine WH_nil ?_
          refine F_q (i := 8) rfl (by kernel_rfl) ?_
          refine WH_p (PS_extract_bool rfl rfl) rfl ?_
          refine WH_nil ?_
          refine F_fork1B (i := 10) (by kernel_rfl) rfl ?_
          · refine WH_allocG Hvad.zeroValue59 ?_
            intro b13 v13 hg13 hE13 hH13 hl13
            try simp only [size_alloc, size_setB, size_drew] at hg13
            have hzz13 := hE13.1
            try simp only [size_alloc, size_setB, size_drew] at hzz13
            replace hH13 : Hb v13 b13 (.cells (ic .u64 [0, 0, 0, 0]) 59 (0, 0)) := hH13
            refine ⟨fun _ => (by repeat (first | assumption | exact Ext.refl _ | refine Ext.alloc ?_ _ | refine Ext.drew ?_ | refine Ext.setB ?_ (by first | omega | (simp only [size_alloc, size_setB, size_drew]; omega)) _ | exact Ext.trans (by assumption) (by assumption) | refine Ext.trans ?_ (by assumption))), ?_⟩
            refine WH_nil ?_
            refine F_q (i := 10) rfl (by kernel_rfl) ?_
            first | refine WH_storeW Hvad.sizeOf59 rfl (v := .agg _) rfl (Hb.h (by repeat (first | assumption | exact Hb.newY _ _ | refine Hb.alloc ?_ | refine Hb.drew ?_ | refine Hb.ext (by assumption) ?_ | exact Hb.setSameL (by first | omega | (simp only [size_alloc, size_setB, size_drew]; omega)) | exact Hb.setSame (by assumption) | refine Hb.set (by first | omega | (simp only [size_alloc, size_setB, size_drew]; omega)) ?_ ))) rfl (by first | omega | assumption | rfl | decide | exact Nat.le_refl _ | (simp only [size_ic, Value.cells]; omega) | simp) (by first | omega | assumption | rfl | decide | exact Nat.le_refl _ | (simp only [size_ic, Value.cells]; omega) | simp) (by first | exact oneCell_ic | assumption) (fun h => by cases h) ?_ | refine WH_store Hvad.sizeOf59 rfl (v := .agg _) rfl (Hb.h (by repeat (first | assumption | exact Hb.newY _ _ | refine Hb.alloc ?_ | refine Hb.drew ?_ | refine Hb.ext (by assumption) ?_ | exact Hb.setSameL (by first | omega | (simp only [size_alloc, size_setB, size_drew]; omega)) | exact Hb.setSame (by assumption) | refine Hb.set (by first | omega | (simp only [size_alloc, size_setB, size_drew]; omega)) ?_ ))) (by first | omega | assumption | rfl | decide | exact Nat.le_refl _ | (simp only [size_ic, Value.cells]; omega) | simp) (by first | omega | assumption | rfl | decide | exact Nat.le_refl _ | (simp only [size_ic, Value.cells]; omega) | simp) (by first | exact oneCell_ic | assumption) (fun h => by cases h) ?_
            refine WH_nil ?_
            refine F_q (i := 11) rfl (by kernel_rfl) ?_
            refine WH_p (PS_assign_bool rfl) rfl ?_
            refine WH_nil ?_
            refine F_end ?_
            refine thn_normal ?_
            refine W_seq ?_
            refine W_region rfl ?_
            refine WO_p (PS_move_bool rfl) ?_
            refine WO_p (PS_move_bool rfl) ?_
            refine WO_if (t := 52) rfl (fun hb35 => ?_) (fun hb35 => ?_)
            · have hb35p := hb35.h; try simp only [al_ete, al_dfn, Bool.not_eq_true', Bool.not_eq_false', al_ne, Bool.not_not, al_nn] at hb35p
              (exfalso; omega) --END
            · have hb35p := hb35.h; try simp only [al_ete, al_dfn, Bool.not_eq_true', Bool.not_eq_false', al_ne, Bool.not_not, al_nn] at hb35p
              refine WO_guardT rfl rfl hb35.h ?_
              refine WO_loadA _ Hvad.isAgg59 Hvad.sizeOf59 rfl (Hb.h (by repeat (first | assumption | exact Hb.newY _ _ | refine Hb.alloc ?_ | refine Hb.drew ?_ | refine Hb.ext (by assumption) ?_ | exact Hb.setSameL (by first | omega | (simp only [size_alloc, size_setB, size_drew]; omega)) | exact Hb.setSame (by assumption) | refine Hb.set (by first | omega | (simp only [size_alloc, size_setB, size_drew]; omega)) ?_ ))) (by first | omega | assumption | rfl | decide | exact Nat.le_refl _ | (simp only [size_ic, Value.cells]; omega) | simp) (Xt.h (by first | assumption | exact Xt.whole rfl rfl | exact ed3 (by assumption) | exact Xt.whole rfl (by simp only [size_ic, Value.cells]; omega) | exact ⟨rfl⟩)) ?_
              refine WO_guardT rfl rfl hb35.h ?_
              refine WO_loadA _ Hvad.isAgg59 Hvad.sizeOf59 rfl (Hb.h (by repeat (first | assumption | exact Hb.newY _ _ | refine Hb.alloc ?_ | refine Hb.drew ?_ | refine Hb.ext (by assumption) ?_ | exact Hb.setSameL (by first | omega | (simp only [size_alloc, size_setB, size_drew]; omega)) | exact Hb.setSame (by assumption) | refine Hb.set (by first | omega | (simp only [size_alloc, size_setB, size_drew]; omega)) ?_ ))) (by first | omega | assumption | rfl | decide | exact Nat.le_refl _ | (simp only [size_ic, Value.cells]; omega) | simp) (Xt.h (by first | assumption | exact Xt.whole rfl rfl | exact ed3 (by assumption) | exact Xt.whole rfl (by simp only [size_ic, Value.cells]; omega) | exact ⟨rfl⟩)) ?_
              refine WO_guardT rfl rfl hb35.h ?_
              refine WO_p (PS_neqA Hvad.underlying59 Hvad.underlying26 Hvad.sizeOf26 Hvad.eqGuardType59 rfl rfl (by first | omega | assumption | rfl | decide | exact Nat.le_refl _ | (simp only [size_ic, Value.cells]; omega) | simp) (by first | omega | assumption | rfl | decide | exact Nat.le_refl _ | (simp only [size_ic, Value.cells]; omega) | simp)) ?_
              refine WO_p (PS_pickF rfl hb35.h rfl) ?_
              refine WO_nil ?_
              refine thn_normal ?_
              refine W_if rfl (fun hb37 => ?_) (fun hb37 => ?_)
              · have hb37p := hb37.h; try simp only [al_ete, al_dfn, Bool.not_eq_true', Bool.not_eq_false', al_ne, Bool.not_not, al_nn] at hb37p
                (exfalso; first | omega | (simp at hb37p; exact hb37p hwe) | exact hb37p hwe) --END
              · have hb37p := hb37.h; try simp only [al_ete, al_dfn, Bool.not_eq_true', Bool.not_eq_false', al_ne, Bool.not_not, al_nn] at hb37p
                refine W_skip ?_
                refine thn_normal ?_
                refine W_seq ?_
                refine W_region rfl ?_
                refine WO_p (PS_move_ptr rfl) ?_
                refine WO_p (PS_nilCheck rfl) ?_
                refine WO_p (PS_fieldAddr 8 Hvad.runUnderlying271 rfl Hvad.sizeOf26 rfl rfl) ?_
                refine WO_load (.int _ _) Hvad.isAgg26 rfl (Hb.h (by repeat (first | assumption | exact Hb.newY _ _ | refine Hb.alloc ?_ | refine Hb.drew ?_ | refine Hb.ext (by assumption) ?_ | exact Hb.setSameL (by first | omega | (simp only [size_alloc, size_setB, size_drew]; omega)) | exact Hb.setSame (by assumption) | refine Hb.set (by first | omega | (simp only [size_alloc, size_setB, size_drew]; omega)) ?_ ))) (Ce.h (by first | assumption | exact ed0 | exact ed1 | exact ed2 | exact ed7 (by assumption) | exact ed8 (by assumption) | exact ed9 (by assumption) | exact ⟨rfl⟩)) ?_
                refine WO_p (PS_quo_u64 rfl rfl (by omega) (by omega) (by omega)) ?_
                refine WO_p (PS_assign_int rfl) ?_
                refine WO_nil ?_
                refine thn_normal ?_
                refine W_seq ?_
                refine W_seq ?_
                refine W_region rfl ?_
                refine WO_p (PS_move_ptr rfl) ?_
                refine WO_p (PS_nilCheck rfl) ?_
                refine WO_p (PS_fieldAddr 8 Hvad.runUnderlying271 rfl Hvad.sizeOf26 rfl rfl) ?_
                refine WO_load (.int _ _) Hvad.isAgg26 rfl (Hb.h (by repeat (first | assumption | exact Hb.newY _ _ | refine Hb.alloc ?_ | refine Hb.drew ?_ | refine Hb.ext (by assumption) ?_ | exact Hb.setSameL (by first | omega | (simp only [size_alloc, size_setB, size_drew]; omega)) | exact Hb.setSame (by assumption) | refine Hb.set (by first | omega | (simp only [size_alloc, size_setB, size_drew]; omega)) ?_ ))) (Ce.h (by first | assumption | exact ed0 | exact ed1 | exact ed2 | exact ed7 (by assumption) | exact ed8 (by assumption) | exact ed9 (by assumption) | exact ⟨rfl⟩)) ?_
                refine WO_p (PS_rem_u64 rfl rfl (by omega) (by omega)) ?_
                refine WO_p (PS_neq rfl rfl) ?_
                refine WO_nil ?_
                refine thn_normal ?_
                refine W_if rfl (fun hb39 => ?_) (fun hb39 => ?_)
                · have hb39p := hb39.h; try simp only [al_ete, al_dfn, Bool.not_eq_true', Bool.not_eq_false', al_ne, Bool.not_not, al_nn] at hb39p
                  refine W_region rfl ?_
                  refine WO_p (PS_move_int rfl) ?_
                  refine WO_p (PS_add_u64n rfl rfl (by omega) (by omega)) ?_
                  refine WO_p (PS_assign_int rfl) ?_
                  refine WO_nil ?_
                  refine thn_normal ?_
                  refine W_seq ?_
                  refine W_drawE [false, false, false, false, false, false, false, false, false, false, false, false, false, false, false, false, false] hmix (by kernel_rfl) rfl ?_
                  refine WH_p (PS_move_ptr rfl) rfl ?_
                  refine WH_p (PS_nilCheck rfl) rfl ?_
                  refine WH_p (PS_fieldAddr 8 Hvad.runUnderlying271 rfl Hvad.sizeOf26 rfl rfl) rfl ?_
                  refine WH_load (.int _ _) Hvad.isAgg26 rfl (Hb.h (by repeat (first | assumption | exact Hb.newY _ _ | refine Hb.alloc ?_ | refine Hb.drew ?_ | refine Hb.ext (by assumption) ?_ | exact Hb.setSameL (by first | omega | (simp only [size_alloc, size_setB, size_drew]; omega)) | exact Hb.setSame (by assumption) | refine Hb.set (by first | omega | (simp only [size_alloc, size_setB, size_drew]; omega)) ?_ ))) (Ce.h (by first | assumption | exact ed0 | exact ed1 | exact ed2 | exact ed7 (by assumption) | exact ed8 (by assumption) | exact ed9 (by assumption) | exact ⟨rfl⟩)) ?_
                  refine WH_p (PS_move_ptr rfl) rfl ?_
                  refine WH_p (PS_nilCheck rfl) rfl ?_
                  refine WH_p (PS_fieldAddr 9 Hvad.runUnderlying271 rfl Hvad.sizeOf2 rfl rfl) rfl ?_
                  refine WH_load (.int _ _) Hvad.isAgg2 rfl (Hb.h (by repeat (first | assumption | exact Hb.newY _ _ | refine Hb.alloc ?_ | refine Hb.drew ?_ | refine Hb.ext (by assumption) ?_ | exact Hb.setSameL (by first | omega | (simp only [size_alloc, size_setB, size_drew]; omega)) | exact Hb.setSame (by assumption) | refine Hb.set (by first | omega | (simp only [size_alloc, size_setB, size_drew]; omega)) ?_ ))) (Ce.h (by first | assumption | exact ed0 | exact ed1 | exact ed2 | exact ed7 (by assumption) | exact ed8 (by assumption) | exact ed9 (by assumption) | exact ⟨rfl⟩)) ?_
                  refine WH_p (PS_conv_u64n Hvad.runUnderlying2 Hvad.runUnderlying26 rfl (by omega) (by omega)) rfl ?_
                  refine WH_p (PS_mul_u64n rfl rfl (by omega) (by omega)) rfl ?_
                  refine WH_p (PS_geq rfl rfl) rfl ?_
                  refine WH_p (PS_move_bool rfl) rfl ?_
                  refine WH_if (t := 81) rfl (fun hb41 => ?_) (fun hb41 => ?_)
                  · have hb41p := hb41.h; try simp only [al_ete, al_dfn, Bool.not_eq_true', Bool.not_eq_false', al_ne, Bool.not_not, al_nn] at hb41p
                    refine WH_guardT rfl rfl hb41.h ?_
                    refine WH_p (PS_move_int rfl) rfl ?_
                    refine WH_guardT rfl rfl hb41.h ?_
                    refine WH_p (PS_move_int rfl) rfl ?_
                    refine WH_guardT rfl rfl hb41.h ?_
                    refine WH_p (PS_leq rfl rfl) rfl ?_
                    refine WH_p (PS_pickT rfl hb41.h rfl) rfl ?_
                    refine WH_p (PS_assign_bool rfl) rfl ?_
                    refine WH_nil ?_
                    refine thn_normal ?_
                    refine W_ret ?_
                    refine bodyQ_ret1 Hvad.results233 rfl (.bool _) rfl ?_
                    exact ⟨congrArg Value.bool (al_et (by omega)), (by repeat (first | assumption | exact Ext.refl _ | refine Ext.alloc ?_ _ | refine Ext.drew ?_ | refine Ext.setB ?_ (by first | omega | (simp only [size_alloc, size_setB, size_drew]; omega)) _ | refine Ext.trans ?_ (by assumption)))⟩
                  · have hb41p := hb41.h; try simp only [al_ete, al_dfn, Bool.not_eq_true', Bool.not_eq_false', al_ne, Bool.not_not, al_nn] at hb41p
                    (exfalso; omega) --END
                · have hb39p := hb39.h; try simp only [al_ete, al_dfn, Bool.not_eq_true', Bool.not_eq_false', al_ne, Bool.not_not, al_nn] at hb39p
                  refine W_skip ?_
                  refine thn_normal ?_
                  refine W_seq ?_
                  refine W_drawE [false, false, false, false, false, false, false, false, false, false, false, false, false, false, false, false, false] hmix (by kernel_rfl) rfl ?_
                  refine WH_p (PS_move_ptr rfl) rfl ?_
                  refine WH_p (PS_nilCheck rfl) rfl ?_
                  refine WH_p (PS_fieldAddr 8 Hvad.runUnderlying271 rfl Hvad.sizeOf26 rfl rfl) rfl ?_
                  refine WH_load (.int _ _) Hvad.isAgg26 rfl (Hb.h (by repeat (first | assumption | exact Hb.newY _ _ | refine Hb.alloc ?_ | refine Hb.drew ?_ | refine Hb.ext (by assumption) ?_ | exact Hb.setSameL (by first | omega | (simp only [size_alloc, size_setB, size_drew]; omega)) | exact Hb.setSame (by assumption) | refine Hb.set (by first | omega | (simp only [size_alloc, size_setB, size_drew]; omega)) ?_ ))) (Ce.h (by first | assumption | exact ed0 | exact ed1 | exact ed2 | exact ed7 (by assumption) | exact ed8 (by assumption) | exact ed9 (by assumption) | exact ⟨rfl⟩)) ?_
                  refine WH_p (PS_move_ptr rfl) rfl ?_
                  refine WH_p (PS_nilCheck rfl) rfl ?_
                  refine WH_p (PS_fieldAddr 9 Hvad.runUnderlying271 rfl Hvad.sizeOf2 rfl rfl) rfl ?_
                  refine WH_load (.int _ _) Hvad.isAgg2 rfl (Hb.h (by repeat (first | assumption | exact Hb.newY _ _ | refine Hb.alloc ?_ | refine Hb.drew ?_ | refine Hb.ext (by assumption) ?_ | exact Hb.setSameL (by first | omega | (simp only [size_alloc, size_setB, size_drew]; omega)) | exact Hb.setSame (by assumption) | refine Hb.set (by first | omega | (simp only [size_alloc, size_setB, size_drew]; omega)) ?_ ))) (Ce.h (by first | assumption | exact ed0 | exact ed1 | exact ed2 | exact ed7 (by assumption) | exact ed8 (by assumption) | exact ed9 (by assumption) | exact ⟨rfl⟩)) ?_
                  refine WH_p (PS_conv_u64n Hvad.runUnderlying2 Hvad.runUnderlying26 rfl (by omega) (by omega)) rfl ?_
                  refine WH_p (PS_mul_u64n rfl rfl (by omega) (by omega)) rfl ?_
                  refine WH_p (PS_geq rfl rfl) rfl ?_
                  refine WH_p (PS_move_bool rfl) rfl ?_
                  refine WH_if (t := 81) rfl (fun hb44 => ?_) (fun hb44 => ?_)
                  · have hb44p := hb44.h; try simp only [al_ete, al_dfn, Bool.not_eq_true', Bool.not_eq_false', al_ne, Bool.not_not, al_nn] at hb44p
                    refine WH_guardT rfl rfl hb44.h ?_
                    refine WH_p (PS_move_int rfl) rfl ?_
                    refine WH_guardT rfl rfl hb44.h ?_
                    refine WH_p (PS_move_int rfl) rfl ?_
                    refine WH_guardT rfl rfl hb44.h ?_
                    refine WH_p (PS_leq rfl rfl) rfl ?_
                    refine WH_p (PS_pickT rfl hb44.h rfl) rfl ?_
                    refine WH_p (PS_assign_bool rfl) rfl ?_
                    refine WH_nil ?_
                    refine thn_normal ?_
                    refine W_ret ?_
                    refine bodyQ_ret1 Hvad.results233 rfl (.bool _) rfl ?_
                    exact ⟨congrArg Value.bool (al_et (by omega)), (by repeat (first | assumption | exact Ext.refl _ | refine Ext.alloc ?_ _ | refine Ext.drew ?_ | refine Ext.setB ?_ (by first | omega | (simp only [size_alloc, size_setB, size_drew]; omega)) _ | refine Ext.trans ?_ (by assumption)))⟩
                  · have hb44p := hb44.h; try simp only [al_ete, al_dfn, Bool.not_eq_true', Bool.not_eq_false', al_ne, Bool.not_not, al_nn] at hb44p
                    (exfalso; omega) --END
        · refine WH_allocG Hvad.zeroValue59 ?_
          intro b13 v13 hg13 hE13 hH13 hl13
          try simp only [size_alloc, size_setB, size_drew] at hg13
          have hzz13 := hE13.1
          try simp only [size_alloc, size_setB, size_drew] at hzz13
          replace hH13 : Hb v13 b13 (.cells (ic .u64 [0, 0, 0, 0]) 59 (0, 0)) := hH13
          refine ⟨fun _ => (by repeat (first | assumption | exact Ext.refl _ | refine Ext.alloc ?_ _ | refine Ext.drew ?_ | refine Ext.setB ?_ (by first | omega | (simp only [size_alloc, size_setB, size_drew]; omega)) _ | exact Ext.trans (by assumption) (by assumption) | refine Ext.trans ?_ (by assumption))), ?_⟩
          refine WH_nil ?_
          refine F_q (i := 5) rfl (by kernel_rfl) ?_
          refine WH_call Hvad.call65 (by rfl) (Ret.mono (addOver_spec Wi m.held _ hWi hhd) ?_)
          rintro _ w65_45 ⟨rfl, hE65_45⟩
          refine ⟨(fun h => by cases h), ?_⟩
          have hz65_45 := hE65_45.1
          try simp only [size_alloc, size_setB, size_drew] at hz65_45
          refine WH_nil ?_
          refine F_q (i := 6) rfl (by kernel_rfl) ?_
          refine WH_p (PS_move_tuple rfl) rfl ?_
          refine WH_nil ?_
          refine F_q (i := 7) rfl (by kernel_rfl) ?_
          refine WH_p (PS_extract_agg rfl rfl) rfl ?_
          refine WH_nil ?_
          refine F_q (i := 8) rfl (by kernel_rfl) ?_
          refine WH_p (PS_extract_bool rfl rfl) rfl ?_
          refine WH_nil ?_
          refine F_q (i := 10) rfl (by kernel_rfl) ?_
          first | refine WH_storeW Hvad.sizeOf59 rfl (v := .agg _) rfl (Hb.h (by repeat (first | assumption | exact Hb.newY _ _ | refine Hb.alloc ?_ | refine Hb.drew ?_ | refine Hb.ext (by assumption) ?_ | exact Hb.setSameL (by first | omega | (simp only [size_alloc, size_setB, size_drew]; omega)) | exact Hb.setSame (by assumption) | refine Hb.set (by first | omega | (simp only [size_alloc, size_setB, size_drew]; omega)) ?_ ))) rfl (by first | omega | assumption | rfl | decide | exact Nat.le_refl _ | (simp only [size_ic, Value.cells]; omega) | simp) (by first | omega | assumption | rfl | decide | exact Nat.le_refl _ | (simp only [size_ic, Value.cells]; omega) | simp) (by first | exact oneCell_ic | assumption) (fun h => by cases h) ?_ | refine WH_store Hvad.sizeOf59 rfl (v := .agg _) rfl (Hb.h (by repeat (first | assumption | exact Hb.newY _ _ | refine Hb.alloc ?_ | refine Hb.drew ?_ | refine Hb.ext (by assumption) ?_ | exact Hb.setSameL (by first | omega | (simp only [size_alloc, size_setB, size_drew]; omega)) | exact Hb.setSame (by assumption) | refine Hb.set (by first | omega | (simp only [size_alloc, size_setB, size_drew]; omega)) ?_ ))) (by first | omega | assumption | rfl | decide | exact Nat.le_refl _ | (simp only [size_ic, Value.cells]; omega) | simp) (by first | omega | assumption | rfl | decide | exact Nat.le_refl _ | (simp only [size_ic, Value.cells]; omega) | simp) (by first | exact oneCell_ic | assumption) (fun h => by cases h) ?_
          refine WH_nil ?_
          refine F_q (i := 11) rfl (by kernel_rfl) ?_
          refine WH_p (PS_assign_bool rfl) rfl ?_
          refine WH_nil ?_
          refine F_end ?_
          refine thn_normal ?_
          refine W_seq ?_
          refine W_region rfl ?_
          refine WO_p (PS_move_bool rfl) ?_
          refine WO_p (PS_move_bool rfl) ?_
          refine WO_if (t := 52) rfl (fun hb48 => ?_) (fun hb48 => ?_)
          · have hb48p := hb48.h; try simp only [al_ete, al_dfn, Bool.not_eq_true', Bool.not_eq_false', al_ne, Bool.not_not, al_nn] at hb48p
            (exfalso; omega) --END
          · have hb48p := hb48.h; try simp only [al_ete, al_dfn, Bool.not_eq_true', Bool.not_eq_false', al_ne, Bool.not_not, al_nn] at hb48p
            refine WO_guardT rfl rfl hb48.h ?_
            refine WO_loadA _ Hvad.isAgg59 Hvad.sizeOf59 rfl (Hb.h (by repeat (first | assumption | exact Hb.newY _ _ | refine Hb.alloc ?_ | refine Hb.drew ?_ | refine Hb.ext (by assumption) ?_ | exact Hb.setSameL (by first | omega | (simp only [size_alloc, size_setB, size_drew]; omega)) | exact Hb.setSame (by assumption) | refine Hb.set (by first | omega | (simp only [size_alloc, size_setB, size_drew]; omega)) ?_ ))) (by first | omega | assumption | rfl | decide | exact Nat.le_refl _ | (simp only [size_ic, Value.cells]; omega) | simp) (Xt.h (by first | assumption | exact Xt.whole rfl rfl | exact ed3 (by assumption) | exact Xt.whole rfl (by simp only [size_ic, Value.cells]; omega) | exact ⟨rfl⟩)) ?_
            refine WO_guardT rfl rfl hb48.h ?_
            refine WO_loadA _ Hvad.isAgg59 Hvad.sizeOf59 rfl (Hb.h (by repeat (first | assumption | exact Hb.newY _ _ | refine Hb.alloc ?_ | refine Hb.drew ?_ | refine Hb.ext (by assumption) ?_ | exact Hb.setSameL (by first | omega | (simp only [size_alloc, size_setB, size_drew]; omega)) | exact Hb.setSame (by assumption) | refine Hb.set (by first | omega | (simp only [size_alloc, size_setB, size_drew]; omega)) ?_ ))) (by first | omega | assumption | rfl | decide | exact Nat.le_refl _ | (simp only [size_ic, Value.cells]; omega) | simp) (Xt.h (by first | assumption | exact Xt.whole rfl rfl | exact ed3 (by assumption) | exact Xt.whole rfl (by simp only [size_ic, Value.cells]; omega) | exact ⟨rfl⟩)) ?_
            refine WO_guardT rfl rfl hb48.h ?_
            refine WO_p (PS_neqA Hvad.underlying59 Hvad.underlying26 Hvad.sizeOf26 Hvad.eqGuardType59 rfl rfl (by first | omega | assumption | rfl | decide | exact Nat.le_refl _ | (simp only [size_ic, Value.cells]; omega) | simp) (by first | omega | assumption | rfl | decide | exact Nat.le_refl _ | (simp only [size_ic, Value.cells]; omega) | simp)) ?_
            refine WO_p (PS_pickF rfl hb48.h rfl) ?_
            refine WO_nil ?_
            refine thn_normal ?_
            refine W_if rfl (fun hb50 => ?_) (fun hb50 => ?_)
            · have hb50p := hb50.h; try simp only [al_ete, al_dfn, Bool.not_eq_true', Bool.not_eq_false', al_ne, Bool.not_not, al_nn] at hb50p
              (exfalso; first | omega | (simp at hb50p; exact hb50p hwe) | exact hb50p hwe) --END
            · have hb50p := hb50.h; try simp only [al_ete, al_dfn, Bool.not_eq_true', Bool.not_eq_false', al_ne, Bool.not_not, al_nn] at hb50p
              refine W_skip ?_
              refine thn_normal ?_
              refine W_seq ?_
              refine W_region rfl ?_
              refine WO_p (PS_move_ptr rfl) ?_
              refine WO_p (PS_nilCheck rfl) ?_
              refine WO_p (PS_fieldAddr 8 Hvad.runUnderlying271 rfl Hvad.sizeOf26 rfl rfl) ?_
              refine WO_load (.int _ _) Hvad.isAgg26 rfl (Hb.h (by repeat (first | assumption | exact Hb.newY _ _ | refine Hb.alloc ?_ | refine Hb.drew ?_ | refine Hb.ext (by assumption) ?_ | exact Hb.setSameL (by first | omega | (simp only [size_alloc, size_setB, size_drew]; omega)) | exact Hb.setSame (by assumption) | refine Hb.set (by first | omega | (simp only [size_alloc, size_setB, size_drew]; omega)) ?_ ))) (Ce.h (by first | assumption | exact ed0 | exact ed1 | exact ed2 | exact ed7 (by assumption) | exact ed8 (by assumption) | exact ed9 (by assumption) | exact ⟨rfl⟩)) ?_
              refine WO_p (PS_quo_u64 rfl rfl (by omega) (by omega) (by omega)) ?_
              refine WO_p (PS_assign_int rfl) ?_
              refine WO_nil ?_
              refine thn_normal ?_
              refine W_seq ?_
              refine W_seq ?_
              refine W_region rfl ?_
              refine WO_p (PS_move_ptr rfl) ?_
              refine WO_p (PS_nilCheck rfl) ?_
              refine WO_p (PS_fieldAddr 8 Hvad.runUnderlying271 rfl Hvad.sizeOf26 rfl rfl) ?_
              refine WO_load (.int _ _) Hvad.isAgg26 rfl (Hb.h (by repeat (first | assumption | exact Hb.newY _ _ | refine Hb.alloc ?_ | refine Hb.drew ?_ | refine Hb.ext (by assumption) ?_ | exact Hb.setSameL (by first | omega | (simp only [size_alloc, size_setB, size_drew]; omega)) | exact Hb.setSame (by assumption) | refine Hb.set (by first | omega | (simp only [size_alloc, size_setB, size_drew]; omega)) ?_ ))) (Ce.h (by first | assumption | exact ed0 | exact ed1 | exact ed2 | exact ed7 (by assumption) | exact ed8 (by assumption) | exact ed9 (by assumption) | exact ⟨rfl⟩)) ?_
              refine WO_p (PS_rem_u64 rfl rfl (by omega) (by omega)) ?_
              refine WO_p (PS_neq rfl rfl) ?_
              refine WO_nil ?_
              refine thn_normal ?_
              refine W_if rfl (fun hb52 => ?_) (fun hb52 => ?_)
              · have hb52p := hb52.h; try simp only [al_ete, al_dfn, Bool.not_eq_true', Bool.not_eq_false', al_ne, Bool.not_not, al_nn] at hb52p
                refine W_region rfl ?_
                refine WO_p (PS_move_int rfl) ?_
                refine WO_p (PS_add_u64n rfl rfl (by omega) (by omega)) ?_
                refine WO_p (PS_assign_int rfl) ?_
                refine WO_nil ?_
                refine thn_normal ?_
                refine W_seq ?_
                refine W_drawE [false, false, false, false, false, false, false, false, false, false, false, false, false, false, false, false, false] hmix (by kernel_rfl) rfl ?_
                refine WH_p (PS_move_ptr rfl) rfl ?_
                refine WH_p (PS_nilCheck rfl) rfl ?_
                refine WH_p (PS_fieldAddr 8 Hvad.runUnderlying271 rfl Hvad.sizeOf26 rfl rfl) rfl ?_
                refine WH_load (.int _ _) Hvad.isAgg26 rfl (Hb.h (by repeat (first | assumption | exact Hb.newY _ _ | refine Hb.alloc ?_ | refine Hb.drew ?_ | refine Hb.ext (by assumption) ?_ | exact Hb.setSameL (by first | omega | (simp only [size_alloc, size_setB, size_drew]; omega)) | exact Hb.setSame (by assumption) | refine Hb.set (by first | omega | (simp only [size_alloc, size_setB, size_drew]; omega)) ?_ ))) (Ce.h (by first | assumption | exact ed0 | exact ed1 | exact ed2 | exact ed7 (by assumption) | exact ed8 (by assumption) | exact ed9 (by assumption) | exact ⟨rfl⟩)) ?_
                refine WH_p (PS_move_ptr rfl) rfl ?_
                refine WH_p (PS_nilCheck rfl) rfl ?_
                refine WH_p (PS_fieldAddr 9 Hvad.runUnderlying271 rfl Hvad.sizeOf2 rfl rfl) rfl ?_
                refine WH_load (.int _ _) Hvad.isAgg2 rfl (Hb.h (by repeat (first | assumption | exact Hb.newY _ _ | refine Hb.alloc ?_ | refine Hb.drew ?_ | refine Hb.ext (by assumption) ?_ | exact Hb.setSameL (by first | omega | (simp only [size_alloc, size_setB, size_drew]; omega)) | exact Hb.setSame (by assumption) | refine Hb.set (by first | omega | (simp only [size_alloc, size_setB, size_drew]; omega)) ?_ ))) (Ce.h (by first | assumption | exact ed0 | exact ed1 | exact ed2 | exact ed7 (by assumption) | exact ed8 (by assumption) | exact ed9 (by assumption) | exact ⟨rfl⟩)) ?_
                refine WH_p (PS_conv_u64n Hvad.runUnderlying2 Hvad.runUnderlying26 rfl (by omega) (by omega)) rfl ?_
                refine WH_p (PS_mul_u64n rfl rfl (by omega) (by omega)) rfl ?_
                refine WH_p (PS_geq rfl rfl) rfl ?_
                refine WH_p (PS_move_bool rfl) rfl ?_
                refine WH_if (t := 81) rfl (fun hb54 => ?_) (fun hb54 => ?_)
                · have hb54p := hb54.h; try simp only [al_ete, al_dfn, Bool.not_eq_true', Bool.not_eq_false', al_ne, Bool.not_not, al_nn] at hb54p
                  refine WH_guardT rfl rfl hb54.h ?_
                  refine WH_p (PS_move_int rfl) rfl ?_
                  refine WH_guardT rfl rfl hb54.h ?_
                  refine WH_p (PS_move_int rfl) rfl ?_
                  refine WH_guardT rfl rfl hb54.h ?_
                  refine WH_p (PS_leq rfl rfl) rfl ?_
                  refine WH_p (PS_pickT rfl hb54.h rfl) rfl ?_
                  refine WH_p (PS_assign_bool rfl) rfl ?_
                  refine WH_nil ?_
                  refine thn_normal ?_
                  refine W_ret ?_
                  refine bodyQ_ret1 Hvad.results233 rfl (.bool _) rfl ?_
                  exact ⟨congrArg Value.bool (al_et (by omega)), (by repeat (first | assumption | exact Ext.refl _ | refine Ext.alloc ?_ _ | refine Ext.drew ?_ | refine Ext.setB ?_ (by first | omega | (simp only [size_alloc, size_setB, size_drew]; omega)) _ | refine Ext.trans ?_ (by assumption)))⟩
                · have hb54p := hb54.h; try simp only [al_ete, al_dfn, Bool.not_eq_true', Bool.not_eq_false', al_ne, Bool.not_not, al_nn] at hb54p
                  (exfalso; omega) --END
              · have hb52p := hb52.h; try simp only [al_ete, al_dfn, Bool.not_eq_true', Bool.not_eq_false', al_ne, Bool.not_not, al_nn] at hb52p
                refine W_skip ?_
                refine thn_normal ?_
                refine W_seq ?_
                refine W_drawE [false, false, false, false, false, false, false, false, false, false, false, false, false, false, false, false, false] hmix (by kernel_rfl) rfl ?_
                refine WH_p (PS_move_ptr rfl) rfl ?_
                refine WH_p (PS_nilCheck rfl) rfl ?_
                refine WH_p (PS_fieldAddr 8 Hvad.runUnderlying271 rfl Hvad.sizeOf26 rfl rfl) rfl ?_
                refine WH_load (.int _ _) Hvad.isAgg26 rfl (Hb.h (by repeat (first | assumption | exact Hb.newY _ _ | refine Hb.alloc ?_ | refine Hb.drew ?_ | refine Hb.ext (by assumption) ?_ | exact Hb.setSameL (by first | omega | (simp only [size_alloc, size_setB, size_drew]; omega)) | exact Hb.setSame (by assumption) | refine Hb.set (by first | omega | (simp only [size_alloc, size_setB, size_drew]; omega)) ?_ ))) (Ce.h (by first | assumption | exact ed0 | exact ed1 | exact ed2 | exact ed7 (by assumption) | exact ed8 (by assumption) | exact ed9 (by assumption) | exact ⟨rfl⟩)) ?_
                refine WH_p (PS_move_ptr rfl) rfl ?_
                refine WH_p (PS_nilCheck rfl) rfl ?_
                refine WH_p (PS_fieldAddr 9 Hvad.runUnderlying271 rfl Hvad.sizeOf2 rfl rfl) rfl ?_
                refine WH_load (.int _ _) Hvad.isAgg2 rfl (Hb.h (by repeat (first | assumption | exact Hb.newY _ _ | refine Hb.alloc ?_ | refine Hb.drew ?_ | refine Hb.ext (by assumption) ?_ | exact Hb.setSameL (by first | omega | (simp only [size_alloc, size_setB, size_drew]; omega)) | exact Hb.setSame (by assumption) | refine Hb.set (by first | omega | (simp only [size_alloc, size_setB, size_drew]; omega)) ?_ ))) (Ce.h (by first | assumption | exact ed0 | exact ed1 | exact ed2 | exact ed7 (by assumption) | exact ed8 (by assumption) | exact ed9 (by assumption) | exact ⟨rfl⟩)) ?_
                refine WH_p (PS_conv_u64n Hvad.runUnderlying2 Hvad.runUnderlying26 rfl (by omega) (by omega)) rfl ?_
                refine WH_p (PS_mul_u64n rfl rfl (by omega) (by omega)) rfl ?_
                refine WH_p (PS_geq rfl rfl) rfl ?_
                refine WH_p (PS_move_bool rfl) rfl ?_
                refine WH_if (t := 81) rfl (fun hb57 => ?_) (fun hb57 => ?_)
                · have hb57p := hb57.h; try simp only [al_ete, al_dfn, Bool.not_eq_true', Bool.not_eq_false', al_ne, Bool.not_not, al_nn] at hb57p
                  refine WH_guardT rfl rfl hb57.h ?_
                  refine WH_p (PS_move_int rfl) rfl ?_
                  refine WH_guardT rfl rfl hb57.h ?_
                  refine WH_p (PS_move_int rfl) rfl ?_
                  refine WH_guardT rfl rfl hb57.h ?_
                  refine WH_p (PS_leq rfl rfl) rfl ?_
                  refine WH_p (PS_pickT rfl hb57.h rfl) rfl ?_
                  refine WH_p (PS_assign_bool rfl) rfl ?_
                  refine WH_nil ?_
                  refine thn_normal ?_
                  refine W_ret ?_
                  refine bodyQ_ret1 Hvad.results233 rfl (.bool _) rfl ?_
                  exact ⟨congrArg Value.bool (al_et (by omega)), (by repeat (first | assumption | exact Ext.refl _ | refine Ext.alloc ?_ _ | refine Ext.drew ?_ | refine Ext.setB ?_ (by first | omega | (simp only [size_alloc, size_setB, size_drew]; omega)) _ | refine Ext.trans ?_ (by assumption)))⟩
                · have hb57p := hb57.h; try simp only [al_ete, al_dfn, Bool.not_eq_true', Bool.not_eq_false', al_ne, Bool.not_not, al_nn] at hb57p
                  (exfalso; omega) --END
      · have hb32p := hb32.h; try simp only [al_ete, al_dfn, Bool.not_eq_true', Bool.not_eq_false', al_ne, Bool.not_not, al_nn] at hb32p
        (exfalso; omega) --END
  · have hb2p := hb2.h; try simp only [al_ete, al_dfn, Bool.not_eq_true', Bool.not_eq_false', al_ne, Bool.not_not, al_nn] at hb2p
    refine WO_guardF rfl rfl hb2.h ?_
    refine WO_guardF rfl rfl hb2.h ?_
    refine WO_guardF rfl rfl hb2.h ?_
    refine WO_guardF rfl rfl hb2.h ?_
    refine WO_guardF rfl rfl hb2.h ?_
    refine WO_guardF rfl rfl hb2.h ?_
    refine WO_guardF rfl rfl hb2.h ?_
    refine WO_guardF rfl rfl hb2.h ?_
    refine WO_guardF rfl rfl hb2.h ?_
    refine WO_guardF rfl rfl hb2.h ?_
    refine WO_guardU rfl rfl ?_
    refine WO_guardU rfl rfl ?_
    refine WO_guardU rfl rfl ?_
    refine WO_guardU rfl rfl ?_
    refine WO_guardU rfl rfl ?_
    refine WO_guardU rfl rfl ?_
    refine WO_guardU rfl rfl ?_
    refine WO_guardU rfl rfl ?_
    refine WO_guardF rfl rfl hb2.h ?_
    refine WO_p (PS_pickF rfl hb2.h rfl) ?_
    refine WO_nil ?_
    refine thn_normal ?_
    refine W_condF rfl rfl ?_
    refine W_skip ?_
    refine thn_normal ?_
    refine W_seq ?_
    refine W_region rfl ?_
    refine WO_p (PS_move_ptr rfl) ?_
    refine WO_p (PS_nilCheck rfl) ?_
    refine WO_p (PS_fieldAddr 8 Hvad.runUnderlying271 rfl Hvad.sizeOf26 rfl rfl) ?_
    refine WO_load (.int _ _) Hvad.isAgg26 rfl (Hb.h (by repeat (first | assumption | exact Hb.newY _ _ | refine Hb.alloc ?_ | refine Hb.drew ?_ | refine Hb.ext (by assumption) ?_ | exact Hb.setSameL (by first | omega | (simp only [size_alloc, size_setB, size_drew]; omega)) | exact Hb.setSame (by assumption) | refine Hb.set (by first | omega | (simp only [size_alloc, size_setB, size_drew]; omega)) ?_ ))) (Ce.h (by first | assumption | exact ed0 | exact ed1 | exact ed2 | exact ed7 (by assumption) | exact ed8 (by assumption) | exact ed9 (by assumption) | exact ⟨rfl⟩)) ?_
    refine WO_p (PS_quo_u64 rfl rfl (by omega) (by omega) (by omega)) ?_
    refine WO_p (PS_assign_int rfl) ?_
    refine WO_nil ?_
    refine thn_normal ?_
    refine W_seq ?_
    refine W_seq ?_
    refine W_region rfl ?_
    refine WO_p (PS_move_ptr rfl) ?_
    refine WO_p (PS_nilCheck rfl) ?_
    refine WO_p (PS_fieldAddr 8 Hvad.runUnderlying271 rfl Hvad.sizeOf26 rfl rfl) ?_
    refine WO_load (.int _ _) Hvad.isAgg26 rfl (Hb.h (by repeat (first | assumption | exact Hb.newY _ _ | refine Hb.alloc ?_ | refine Hb.drew ?_ | refine Hb.ext (by assumption) ?_ | exact Hb.setSameL (by first | omega | (simp only [size_alloc, size_setB, size_drew]; omega)) | exact Hb.setSame (by assumption) | refine Hb.set (by first | omega | (simp only [size_alloc, size_setB, size_drew]; omega)) ?_ ))) (Ce.h (by first | assumption | exact ed0 | exact ed1 | exact ed2 | exact ed7 (by assumption) | exact ed8 (by assumption) | exact ed9 (by assumption) | exact ⟨rfl⟩)) ?_
    refine WO_p (PS_rem_u64 rfl rfl (by omega) (by omega)) ?_
    refine WO_p (PS_neq rfl rfl) ?_
    refine WO_nil ?_
    refine thn_normal ?_
    refine W_if rfl (fun hb60 => ?_) (fun hb60 => ?_)
    · have hb60p := hb60.h; try simp only [al_ete, al_dfn, Bool.not_eq_true', Bool.not_eq_false', al_ne, Bool.not_not, al_nn] at hb60p
      refine W_region rfl ?_
      refine WO_p (PS_move_int rfl) ?_
      refine WO_p (PS_add_u64n rfl rfl (by omega) (by omega)) ?_
      refine WO_p (PS_assign_int rfl) ?_
      refine WO_nil ?_
      refine thn_normal ?_
      refine W_seq ?_
      refine W_drawE [false, false, false, false, false, false, false, false, false, false, false, false, false, false, false, false, false] hmix (by kernel_rfl) rfl ?_
      refine WH_p (PS_move_ptr rfl) rfl ?_
      refine WH_p (PS_nilCheck rfl) rfl ?_
      refine WH_p (PS_fieldAddr 8 Hvad.runUnderlying271 rfl Hvad.sizeOf26 rfl rfl) rfl ?_
      refine WH_load (.int _ _) Hvad.isAgg26 rfl (Hb.h (by repeat (first | assumption | exact Hb.newY _ _ | refine Hb.alloc ?_ | refine Hb.drew ?_ | refine Hb.ext (by assumption) ?_ | exact Hb.setSameL (by first | omega | (simp only [size_alloc, size_setB, size_drew]; omega)) | exact Hb.setSame (by assumption) | refine Hb.set (by first | omega | (simp only [size_alloc, size_setB, size_drew]; omega)) ?_ ))) (Ce.h (by first | assumption | exact ed0 | exact ed1 | exact ed2 | exact ed7 (by assumption) | exact ed8 (by assumption) | exact ed9 (by assumption) | exact ⟨rfl⟩)) ?_
      refine WH_p (PS_move_ptr rfl) rfl ?_
      refine WH_p (PS_nilCheck rfl) rfl ?_
      refine WH_p (PS_fieldAddr 9 Hvad.runUnderlying271 rfl Hvad.sizeOf2 rfl rfl) rfl ?_
      refine WH_load (.int _ _) Hvad.isAgg2 rfl (Hb.h (by repeat (first | assumption | exact Hb.newY _ _ | refine Hb.alloc ?_ | refine Hb.drew ?_ | refine Hb.ext (by assumption) ?_ | exact Hb.setSameL (by first | omega | (simp only [size_alloc, size_setB, size_drew]; omega)) | exact Hb.setSame (by assumption) | refine Hb.set (by first | omega | (simp only [size_alloc, size_setB, size_drew]; omega)) ?_ ))) (Ce.h (by first | assumption | exact ed0 | exact ed1 | exact ed2 | exact ed7 (by assumption) | exact ed8 (by assumption) | exact ed9 (by assumption) | exact ⟨rfl⟩)) ?_
      refine WH_p (PS_conv_u64n Hvad.runUnderlying2 Hvad.runUnderlying26 rfl (by omega) (by omega)) rfl ?_
      refine WH_p (PS_mul_u64n rfl rfl (by omega) (by omega)) rfl ?_
      refine WH_p (PS_geq rfl rfl) rfl ?_
      refine WH_p (PS_move_bool rfl) rfl ?_
      refine WH_if (t := 81) rfl (fun hb62 => ?_) (fun hb62 => ?_)
      · have hb62p := hb62.h; try simp only [al_ete, al_dfn, Bool.not_eq_true', Bool.not_eq_false', al_ne, Bool.not_not, al_nn] at hb62p
        refine WH_guardT rfl rfl hb62.h ?_
        refine WH_p (PS_move_int rfl) rfl ?_
        refine WH_guardT rfl rfl hb62.h ?_
        refine WH_p (PS_move_int rfl) rfl ?_
        refine WH_guardT rfl rfl hb62.h ?_
        refine WH_p (PS_leq rfl rfl) rfl ?_
        refine WH_p (PS_pickT rfl hb62.h rfl) rfl ?_
        refine WH_p (PS_assign_bool rfl) rfl ?_
        refine WH_nil ?_
        refine thn_normal ?_
        refine W_ret ?_
        refine bodyQ_ret1 Hvad.results233 rfl (.bool _) rfl ?_
        exact ⟨congrArg Value.bool (al_et (by omega)), (by repeat (first | assumption | exact Ext.refl _ | refine Ext.alloc ?_ _ | refine Ext.drew ?_ | refine Ext.setB ?_ (by first | omega | (simp only [size_alloc, size_setB, size_drew]; omega)) _ | refine Ext.trans ?_ (by assumption)))⟩
      · have hb62p := hb62.h; try simp only [al_ete, al_dfn, Bool.not_eq_true', Bool.not_eq_false', al_ne, Bool.not_not, al_nn] at hb62p
        (exfalso; omega) --END
    · have hb60p := hb60.h; try simp only [al_ete, al_dfn, Bool.not_eq_true', Bool.not_eq_false', al_ne, Bool.not_not, al_nn] at hb60p
      refine W_skip ?_
      refine thn_normal ?_
      refine W_seq ?_
      refine W_drawE [false, false, false, false, false, false, false, false, false, false, false, false, false, false, false, false, false] hmix (by kernel_rfl) rfl ?_
      refine WH_p (PS_move_ptr rfl) rfl ?_
      refine WH_p (PS_nilCheck rfl) rfl ?_
      refine WH_p (PS_fieldAddr 8 Hvad.runUnderlying271 rfl Hvad.sizeOf26 rfl rfl) rfl ?_
      refine WH_load (.int _ _) Hvad.isAgg26 rfl (Hb.h (by repeat (first | assumption | exact Hb.newY _ _ | refine Hb.alloc ?_ | refine Hb.drew ?_ | refine Hb.ext (by assumption) ?_ | exact Hb.setSameL (by first | omega | (simp only [size_alloc, size_setB, size_drew]; omega)) | exact Hb.setSame (by assumption) | refine Hb.set (by first | omega | (simp only [size_alloc, size_setB, size_drew]; omega)) ?_ ))) (Ce.h (by first | assumption | exact ed0 | exact ed1 | exact ed2 | exact ed7 (by assumption) | exact ed8 (by assumption) | exact ed9 (by assumption) | exact ⟨rfl⟩)) ?_
      refine WH_p (PS_move_ptr rfl) rfl ?_
      refine WH_p (PS_nilCheck rfl) rfl ?_
      refine WH_p (PS_fieldAddr 9 Hvad.runUnderlying271 rfl Hvad.sizeOf2 rfl rfl) rfl ?_
      refine WH_load (.int _ _) Hvad.isAgg2 rfl (Hb.h (by repeat (first | assumption | exact Hb.newY _ _ | refine Hb.alloc ?_ | refine Hb.drew ?_ | refine Hb.ext (by assumption) ?_ | exact Hb.setSameL (by first | omega | (simp only [size_alloc, size_setB, size_drew]; omega)) | exact Hb.setSame (by assumption) | refine Hb.set (by first | omega | (simp only [size_alloc, size_setB, size_drew]; omega)) ?_ ))) (Ce.h (by first | assumption | exact ed0 | exact ed1 | exact ed2 | exact ed7 (by assumption) | exact ed8 (by assumption) | exact ed9 (by assumption) | exact ⟨rfl⟩)) ?_
      refine WH_p (PS_conv_u64n Hvad.runUnderlying2 Hvad.runUnderlying26 rfl (by omega) (by omega)) rfl ?_
      refine WH_p (PS_mul_u64n rfl rfl (by omega) (by omega)) rfl ?_
      refine WH_p (PS_geq rfl rfl) rfl ?_
      refine WH_p (PS_move_bool rfl) rfl ?_
      refine WH_if (t := 81) rfl (fun hb65 => ?_) (fun hb65 => ?_)
      · have hb65p := hb65.h; try simp only [al_ete, al_dfn, Bool.not_eq_true', Bool.not_eq_false', al_ne, Bool.not_not, al_nn] at hb65p
        refine WH_guardT rfl rfl hb65.h ?_
        refine WH_p (PS_move_int rfl) rfl ?_
        refine WH_guardT rfl rfl hb65.h ?_
        refine WH_p (PS_move_int rfl) rfl ?_
        refine WH_guardT rfl rfl hb65.h ?_
        refine WH_p (PS_leq rfl rfl) rfl ?_
        refine WH_p (PS_pickT rfl hb65.h rfl) rfl ?_
        refine WH_p (PS_assign_bool rfl) rfl ?_
        refine WH_nil ?_
        refine thn_normal ?_
        refine W_ret ?_
        refine bodyQ_ret1 Hvad.results233 rfl (.bool _) rfl ?_
        exact ⟨congrArg Value.bool (al_et (by omega)), (by repeat (first | assumption | exact Ext.refl _ | refine Ext.alloc ?_ _ | refine Ext.drew ?_ | refine Ext.setB ?_ (by first | omega | (simp only [size_alloc, size_setB, size_drew]; omega)) _ | refine Ext.trans ?_ (by assumption)))⟩
      · have hb65p := hb65.h; try simp only [al_ete, al_dfn, Bool.not_eq_true', Bool.not_eq_false', al_ne, Bool.not_not, al_nn] at hb65p
        (exfalso; omega) --END

set_option maxRecDepth 10000 in
set_option maxHeartbeats 4000000 in
theorem weightsOK_spec (C : Nat) (c : Array Value) (v : V) (B : VB) (m : Mc) (n : Nat) (S : Int) (w : World) (hM : MS w C c v B m) (hk : Ck v m n S) : Ret Hvad.prog 142 #[.pointer (some ⟨C, 0, none⟩)] w fun u w' => u = .bool true ∧ Ext w w' := by
  have hblk := hM.vs.blk
  have hCl := hblk.lt
  have hcs := hM.sz
  have hc_s := hM.rep.s
  have hc_top := hM.rep.top
  rw [hk.top] at hc_top
  have hc_phase := hM.rep.phase
  have hn7 := hk.n7
  have hph := hk.ph
  have hpt := hM.ty.phase
  have hc_nm : Ce c (2435 + 24579) (.int .i32 v.nmarks) := hM.vs.rep.nmarks
  have hc_ac : Ce c (2435 + 0) (.slice (slp B.a) v.accts.length (slc B.a)) := hM.vs.rep.accts
  have hc_sl : Ce c (2435 + 1) (.slice (slp B.s) v.slots.length (slc B.s)) := hM.vs.rep.slots
  have hc_jo : Ce c (2435 + 8194) (.slice (slp B.j) v.journal.length (slc B.j)) := hM.vs.rep.journal
  have hc_rf : Ce c (2435 + 24580) (.int .u64 v.ref) := hM.vs.rep.ref
  have hnm1 := hk.vi.nm.1
  have hnm2 := hk.vi.nm.2
  have h_la := hk.vi.la
  have h_ls := hk.vi.ls
  have h_lj := hk.vi.lj
  have h_tx := hk.tx
  have h_lm := hk.lm
  have h_g0 := hk.g0
  obtain ⟨S', hS'b, hwp, hwn, hwh⟩ := hk.weigh hM.ty
  refine Ret_of_W Hvad.func142 rfl rfl ?_
  refine W_seq ?_
  refine W_region rfl ?_
  refine WO_p (PS_assign_bool rfl) ?_
  refine WO_nil ?_
  refine thn_normal ?_
  refine W_seq ?_
  refine W_region rfl ?_
  refine WO_p (PS_move_ptr rfl) ?_
  refine WO_call Hvad.call230 (by rfl) (Ret.mono (spent_spec C c v B m n S _ (MS.ext hM (by repeat (first | assumption | exact Ext.refl _ | refine Ext.alloc ?_ _ | refine Ext.drew ?_ | refine Ext.setB ?_ (by first | omega | (simp only [size_alloc, size_setB, size_drew]; omega)) _ | exact Ext.trans (by assumption) (by assumption) | refine Ext.trans ?_ (by assumption)))) hk) ?_)
  rintro _ w230_0 ⟨rfl, hE230_0⟩
  have hz230_0 := hE230_0.1
  try simp only [size_alloc, size_setB, size_drew] at hz230_0
  refine WO_p (PS_move_tuple rfl) ?_
  refine WO_p (PS_extract_int rfl rfl) ?_
  refine WO_p (PS_extract_bool rfl rfl) ?_
  refine WO_p (PS_assign_int rfl) ?_
  refine WO_p (PS_assign_bool rfl) ?_
  refine WO_nil ?_
  refine thn_normal ?_
  refine W_seq ?_
  refine W_seq ?_
  refine W_region rfl ?_
  refine WO_p (PS_move_bool rfl) ?_
  refine WO_p (PS_not rfl) ?_
  refine WO_p (PS_move_bool rfl) ?_
  refine WO_if (t := 20) rfl (fun hb4 => ?_) (fun hb4 => ?_)
  · have hb4p := hb4.h; try simp only [al_ete, al_dfn, Bool.not_eq_true', Bool.not_eq_false', al_ne, Bool.not_not, al_nn] at hb4p
    simp at hb4p --END
  · have hb4p := hb4.h; try simp only [al_ete, al_dfn, Bool.not_eq_true', Bool.not_eq_false', al_ne, Bool.not_not, al_nn] at hb4p
    refine WO_guardT rfl rfl hb4.h ?_
    refine WO_p (PS_move_ptr rfl) ?_
    refine WO_guardT rfl rfl hb4.h ?_
    refine WO_p (PS_nilCheck rfl) ?_
    refine WO_guardT rfl rfl hb4.h ?_
    refine WO_p (PS_fieldAddr 0 Hvad.runUnderlying69 rfl Hvad.sizeOf53 rfl rfl) ?_
    refine WO_guardT rfl rfl hb4.h ?_
    refine WO_load (.pointer _) Hvad.isAgg53 rfl (Hb.h (by repeat (first | assumption | exact Hb.newY _ _ | refine Hb.alloc ?_ | refine Hb.drew ?_ | refine Hb.ext (by assumption) ?_ | exact Hb.setSameL (by first | omega | (simp only [size_alloc, size_setB, size_drew]; omega)) | exact Hb.setSame (by assumption) | refine Hb.set (by first | omega | (simp only [size_alloc, size_setB, size_drew]; omega)) ?_ ))) (Ce.h (by first | assumption | exact ed0 | exact ed1 | exact ed2 | exact ed7 (by assumption) | exact ed8 (by assumption) | exact ed9 (by assumption) | exact ⟨rfl⟩)) ?_
    refine WO_guardT rfl rfl hb4.h ?_
    refine WO_p (PS_nilCheck rfl) ?_
    refine WO_guardT rfl rfl hb4.h ?_
    refine WO_p (PS_fieldAddr 24579 Hvad.runUnderlying79 rfl Hvad.sizeOf21 rfl rfl) ?_
    refine WO_guardT rfl rfl hb4.h ?_
    refine WO_load (.int _ _) Hvad.isAgg21 rfl (Hb.h (by repeat (first | assumption | exact Hb.newY _ _ | refine Hb.alloc ?_ | refine Hb.drew ?_ | refine Hb.ext (by assumption) ?_ | exact Hb.setSameL (by first | omega | (simp only [size_alloc, size_setB, size_drew]; omega)) | exact Hb.setSame (by assumption) | refine Hb.set (by first | omega | (simp only [size_alloc, size_setB, size_drew]; omega)) ?_ ))) (Ce.h (by first | assumption | exact ed0 | exact ed1 | exact ed2 | exact ed7 (by assumption) | exact ed8 (by assumption) | exact ed9 (by assumption) | exact ⟨rfl⟩)) ?_
    refine WO_guardT rfl rfl hb4.h ?_
    refine WO_p (PS_lss rfl rfl) ?_
    refine WO_p (PS_pickF rfl hb4.h rfl) ?_
    refine WO_p (PS_move_bool rfl) ?_
    refine WO_if (t := 30) rfl (fun hb6 => ?_) (fun hb6 => ?_)
    · have hb6p := hb6.h; try simp only [al_ete, al_dfn, Bool.not_eq_true', Bool.not_eq_false', al_ne, Bool.not_not, al_nn] at hb6p
      (exfalso; omega) --END
    · have hb6p := hb6.h; try simp only [al_ete, al_dfn, Bool.not_eq_true', Bool.not_eq_false', al_ne, Bool.not_not, al_nn] at hb6p
      refine WO_guardT rfl rfl hb6.h ?_
      refine WO_p (PS_move_ptr rfl) ?_
      refine WO_guardT rfl rfl hb6.h ?_
      refine WO_p (PS_nilCheck rfl) ?_
      refine WO_guardT rfl rfl hb6.h ?_
      refine WO_p (PS_fieldAddr 0 Hvad.runUnderlying69 rfl Hvad.sizeOf53 rfl rfl) ?_
      refine WO_guardT rfl rfl hb6.h ?_
      refine WO_load (.pointer _) Hvad.isAgg53 rfl (Hb.h (by repeat (first | assumption | exact Hb.newY _ _ | refine Hb.alloc ?_ | refine Hb.drew ?_ | refine Hb.ext (by assumption) ?_ | exact Hb.setSameL (by first | omega | (simp only [size_alloc, size_setB, size_drew]; omega)) | exact Hb.setSame (by assumption) | refine Hb.set (by first | omega | (simp only [size_alloc, size_setB, size_drew]; omega)) ?_ ))) (Ce.h (by first | assumption | exact ed0 | exact ed1 | exact ed2 | exact ed7 (by assumption) | exact ed8 (by assumption) | exact ed9 (by assumption) | exact ⟨rfl⟩)) ?_
      refine WO_guardT rfl rfl hb6.h ?_
      refine WO_p (PS_nilCheck rfl) ?_
      refine WO_guardT rfl rfl hb6.h ?_
      refine WO_p (PS_fieldAddr 24579 Hvad.runUnderlying79 rfl Hvad.sizeOf21 rfl rfl) ?_
      refine WO_guardT rfl rfl hb6.h ?_
      refine WO_load (.int _ _) Hvad.isAgg21 rfl (Hb.h (by repeat (first | assumption | exact Hb.newY _ _ | refine Hb.alloc ?_ | refine Hb.drew ?_ | refine Hb.ext (by assumption) ?_ | exact Hb.setSameL (by first | omega | (simp only [size_alloc, size_setB, size_drew]; omega)) | exact Hb.setSame (by assumption) | refine Hb.set (by first | omega | (simp only [size_alloc, size_setB, size_drew]; omega)) ?_ ))) (Ce.h (by first | assumption | exact ed0 | exact ed1 | exact ed2 | exact ed7 (by assumption) | exact ed8 (by assumption) | exact ed9 (by assumption) | exact ⟨rfl⟩)) ?_
      refine WO_guardT rfl rfl hb6.h ?_
      refine WO_p (PS_gtr rfl rfl) ?_
      refine WO_p (PS_pickF rfl hb6.h rfl) ?_
      refine WO_nil ?_
      refine thn_normal ?_
      refine W_if rfl (fun hb8 => ?_) (fun hb8 => ?_)
      · have hb8p := hb8.h; try simp only [al_ete, al_dfn, Bool.not_eq_true', Bool.not_eq_false', al_ne, Bool.not_not, al_nn] at hb8p
        (exfalso; omega) --END
      · have hb8p := hb8.h; try simp only [al_ete, al_dfn, Bool.not_eq_true', Bool.not_eq_false', al_ne, Bool.not_not, al_nn] at hb8p
        refine W_skip ?_
        refine thn_normal ?_
        refine W_seqJ (fun ρ w' => ∃ D Ba Bv, Fr [(0, .pointer (some ⟨C, 0, none⟩)), (3, .int .u64 (m.txgas - gOf m n)), (5, .pointer (some ⟨D, 0, none⟩))] ρ ∧ SRep w w' C D Ba Bv (List.replicate v.accts.length [0, 0, 0, 0]) (List.replicate v.slots.length [0, 0, 0, 0]) 0 v.ref 0) ?_ ?_
        · skip
          refine W_drawN [true, true, true, true, true, true, true, true, true, true, true, true, true, true, true, true, true, true, true, true, true, true, true, true, true, true, true, true, true, true, true, true] 5 [0, 1, 2, 3, 4, 5, 6, 7, 8, 9, 10, 11, 13, 14, 15, 16, 17, 18, 19, 20, 22, 23, 24, 25, 26, 27, 28] hmix (by kernel_rfl) rfl rfl rfl ?_
          refine N_q (i := 0) rfl ?_
          refine WH_p (PS_move_ptr rfl) rfl ?_
          refine WH_nil ?_
          refine N_q (i := 1) rfl ?_
          refine WH_p (PS_nilCheck rfl) rfl ?_
          refine WH_nil ?_
          refine N_q (i := 2) rfl ?_
          refine WH_p (PS_fieldAddr 0 Hvad.runUnderlying69 rfl Hvad.sizeOf53 rfl rfl) rfl ?_
          refine WH_nil ?_
          refine N_q (i := 3) rfl ?_
          refine WH_load (.pointer _) Hvad.isAgg53 rfl (Hb.h (by repeat (first | assumption | exact Hb.newY _ _ | refine Hb.alloc ?_ | refine Hb.drew ?_ | refine Hb.ext (by assumption) ?_ | exact Hb.setSameL (by first | omega | (simp only [size_alloc, size_setB, size_drew]; omega)) | exact Hb.setSame (by assumption) | refine Hb.set (by first | omega | (simp only [size_alloc, size_setB, size_drew]; omega)) ?_ ))) (Ce.h (by first | assumption | exact ed0 | exact ed1 | exact ed2 | exact ed7 (by assumption) | exact ed8 (by assumption) | exact ed9 (by assumption) | exact ⟨rfl⟩)) ?_
          refine WH_nil ?_
          refine N_q (i := 4) rfl ?_
          refine WH_p (PS_move_ptr rfl) rfl ?_
          refine WH_nil ?_
          refine N_q (i := 5) rfl ?_
          refine WH_p (PS_nilCheck rfl) rfl ?_
          refine WH_nil ?_
          refine N_q (i := 6) rfl ?_
          refine WH_p (PS_fieldAddr 0 Hvad.runUnderlying69 rfl Hvad.sizeOf53 rfl rfl) rfl ?_
          refine WH_nil ?_
          refine N_q (i := 7) rfl ?_
          refine WH_load (.pointer _) Hvad.isAgg53 rfl (Hb.h (by repeat (first | assumption | exact Hb.newY _ _ | refine Hb.alloc ?_ | refine Hb.drew ?_ | refine Hb.ext (by assumption) ?_ | exact Hb.setSameL (by first | omega | (simp only [size_alloc, size_setB, size_drew]; omega)) | exact Hb.setSame (by assumption) | refine Hb.set (by first | omega | (simp only [size_alloc, size_setB, size_drew]; omega)) ?_ ))) (Ce.h (by first | assumption | exact ed0 | exact ed1 | exact ed2 | exact ed7 (by assumption) | exact ed8 (by assumption) | exact ed9 (by assumption) | exact ⟨rfl⟩)) ?_
          refine WH_nil ?_
          refine N_q (i := 8) rfl ?_
          refine WH_p (PS_nilCheck rfl) rfl ?_
          refine WH_nil ?_
          refine N_q (i := 9) rfl ?_
          refine WH_p (PS_fieldAddr 0 Hvad.runUnderlying79 rfl Hvad.sizeOf70 rfl rfl) rfl ?_
          refine WH_nil ?_
          refine N_q (i := 10) rfl ?_
          refine WH_load (.slice _ _ _) Hvad.isAgg70 rfl (Hb.h (by repeat (first | assumption | exact Hb.newY _ _ | refine Hb.alloc ?_ | refine Hb.drew ?_ | refine Hb.ext (by assumption) ?_ | exact Hb.setSameL (by first | omega | (simp only [size_alloc, size_setB, size_drew]; omega)) | exact Hb.setSame (by assumption) | refine Hb.set (by first | omega | (simp only [size_alloc, size_setB, size_drew]; omega)) ?_ ))) (Ce.h (by first | assumption | exact ed0 | exact ed1 | exact ed2 | exact ed7 (by assumption) | exact ed8 (by assumption) | exact ed9 (by assumption) | exact ⟨rfl⟩)) ?_
          refine WH_nil ?_
          refine N_q (i := 11) rfl ?_
          refine WH_p (PS_lenS Hvad.runUnderlying70 rfl) rfl ?_
          refine WH_nil ?_
          refine N_q (i := 13) rfl ?_
          refine WH_p (PS_move_ptr rfl) rfl ?_
          refine WH_nil ?_
          refine N_q (i := 14) rfl ?_
          refine WH_p (PS_nilCheck rfl) rfl ?_
          refine WH_nil ?_
          refine N_q (i := 15) rfl ?_
          refine WH_p (PS_fieldAddr 0 Hvad.runUnderlying69 rfl Hvad.sizeOf53 rfl rfl) rfl ?_
          refine WH_nil ?_
          refine N_q (i := 16) rfl ?_
          refine WH_load (.pointer _) Hvad.isAgg53 rfl (Hb.h (by repeat (first | assumption | exact Hb.newY _ _ | refine Hb.alloc ?_ | refine Hb.drew ?_ | refine Hb.ext (by assumption) ?_ | exact Hb.setSameL (by first | omega | (simp only [size_alloc, size_setB, size_drew]; omega)) | exact Hb.setSame (by assumption) | refine Hb.set (by first | omega | (simp only [size_alloc, size_setB, size_drew]; omega)) ?_ ))) (Ce.h (by first | assumption | exact ed0 | exact ed1 | exact ed2 | exact ed7 (by assumption) | exact ed8 (by assumption) | exact ed9 (by assumption) | exact ⟨rfl⟩)) ?_
          refine WH_nil ?_
          refine N_q (i := 17) rfl ?_
          refine WH_p (PS_nilCheck rfl) rfl ?_
          refine WH_nil ?_
          refine N_q (i := 18) rfl ?_
          refine WH_p (PS_fieldAddr 1 Hvad.runUnderlying79 rfl Hvad.sizeOf71 rfl rfl) rfl ?_
          refine WH_nil ?_
          refine N_q (i := 19) rfl ?_
          refine WH_load (.slice _ _ _) Hvad.isAgg71 rfl (Hb.h (by repeat (first | assumption | exact Hb.newY _ _ | refine Hb.alloc ?_ | refine Hb.drew ?_ | refine Hb.ext (by assumption) ?_ | exact Hb.setSameL (by first | omega | (simp only [size_alloc, size_setB, size_drew]; omega)) | exact Hb.setSame (by assumption) | refine Hb.set (by first | omega | (simp only [size_alloc, size_setB, size_drew]; omega)) ?_ ))) (Ce.h (by first | assumption | exact ed0 | exact ed1 | exact ed2 | exact ed7 (by assumption) | exact ed8 (by assumption) | exact ed9 (by assumption) | exact ⟨rfl⟩)) ?_
          refine WH_nil ?_
          refine N_q (i := 20) rfl ?_
          refine WH_p (PS_lenS Hvad.runUnderlying71 rfl) rfl ?_
          refine WH_nil ?_
          refine N_q (i := 22) rfl ?_
          refine WH_p (PS_move_ptr rfl) rfl ?_
          refine WH_nil ?_
          refine N_q (i := 23) rfl ?_
          refine WH_p (PS_nilCheck rfl) rfl ?_
          refine WH_nil ?_
          refine N_q (i := 24) rfl ?_
          refine WH_p (PS_fieldAddr 0 Hvad.runUnderlying69 rfl Hvad.sizeOf53 rfl rfl) rfl ?_
          refine WH_nil ?_
          refine N_q (i := 25) rfl ?_
          refine WH_load (.pointer _) Hvad.isAgg53 rfl (Hb.h (by repeat (first | assumption | exact Hb.newY _ _ | refine Hb.alloc ?_ | refine Hb.drew ?_ | refine Hb.ext (by assumption) ?_ | exact Hb.setSameL (by first | omega | (simp only [size_alloc, size_setB, size_drew]; omega)) | exact Hb.setSame (by assumption) | refine Hb.set (by first | omega | (simp only [size_alloc, size_setB, size_drew]; omega)) ?_ ))) (Ce.h (by first | assumption | exact ed0 | exact ed1 | exact ed2 | exact ed7 (by assumption) | exact ed8 (by assumption) | exact ed9 (by assumption) | exact ⟨rfl⟩)) ?_
          refine WH_nil ?_
          refine N_q (i := 26) rfl ?_
          refine WH_p (PS_nilCheck rfl) rfl ?_
          refine WH_nil ?_
          refine N_q (i := 27) rfl ?_
          refine WH_p (PS_fieldAddr 24580 Hvad.runUnderlying79 rfl Hvad.sizeOf26 rfl rfl) rfl ?_
          refine WH_nil ?_
          refine N_q (i := 28) rfl ?_
          refine WH_load (.int _ _) Hvad.isAgg26 rfl (Hb.h (by repeat (first | assumption | exact Hb.newY _ _ | refine Hb.alloc ?_ | refine Hb.drew ?_ | refine Hb.ext (by assumption) ?_ | exact Hb.setSameL (by first | omega | (simp only [size_alloc, size_setB, size_drew]; omega)) | exact Hb.setSame (by assumption) | refine Hb.set (by first | omega | (simp only [size_alloc, size_setB, size_drew]; omega)) ?_ ))) (Ce.h (by first | assumption | exact ed0 | exact ed1 | exact ed2 | exact ed7 (by assumption) | exact ed8 (by assumption) | exact ed9 (by assumption) | exact ⟨rfl⟩)) ?_
          refine WH_nil ?_
          refine N_go ?_
          refine N_f3 (a := 12) (b := 21) (c := 30) (by kernel_rfl) rfl rfl rfl ?_ ?_ ?_
          · refine WH_makeW rfl (by omega) ?_
            intro b52 v52 hg52 hE52 hH52 hl52
            try simp only [size_alloc, size_setB, size_drew] at hg52
            have hzz52 := hE52.1
            try simp only [size_alloc, size_setB, size_drew] at hzz52
            refine ⟨fun _ => (by repeat (first | assumption | exact Ext.refl _ | refine Ext.alloc ?_ _ | refine Ext.drew ?_ | refine Ext.setB ?_ (by first | omega | (simp only [size_alloc, size_setB, size_drew]; omega)) _ | exact Ext.trans (by assumption) (by assumption) | refine Ext.trans ?_ (by assumption))), ?_⟩
            refine WH_nil ?_
            refine N_f2 (a := 21) (b := 30) (by kernel_rfl) rfl rfl ?_ ?_
            · refine WH_makeW rfl (by omega) ?_
              intro b61 v61 hg61 hE61 hH61 hl61
              try simp only [size_alloc, size_setB, size_drew] at hg61
              have hzz61 := hE61.1
              try simp only [size_alloc, size_setB, size_drew] at hzz61
              refine ⟨fun _ => (by repeat (first | assumption | exact Ext.refl _ | refine Ext.alloc ?_ _ | refine Ext.drew ?_ | refine Ext.setB ?_ (by first | omega | (simp only [size_alloc, size_setB, size_drew]; omega)) _ | exact Ext.trans (by assumption) (by assumption) | refine Ext.trans ?_ (by assumption))), ?_⟩
              refine WH_nil ?_
              refine N_f2 (a := 29) (b := 30) (by kernel_rfl) rfl rfl ?_ ?_
              · refine WH_p (PS_b271 rfl rfl rfl rfl) rfl ?_
                refine WH_nil ?_
                refine N_f1 (a := 30) (by kernel_rfl) rfl ?_
                refine WH_allocG Hvad.zeroValue271 ?_
                intro b5 v5 hg5 hE5 hH5 hl5
                try simp only [size_alloc, size_setB, size_drew] at hg5
                have hzz5 := hE5.1
                try simp only [size_alloc, size_setB, size_drew] at hzz5
                refine ⟨fun _ => (by repeat (first | assumption | exact Ext.refl _ | refine Ext.alloc ?_ _ | refine Ext.drew ?_ | refine Ext.setB ?_ (by first | omega | (simp only [size_alloc, size_setB, size_drew]; omega)) _ | exact Ext.trans (by assumption) (by assumption) | refine Ext.trans ?_ (by assumption))), ?_⟩
                refine WH_nil ?_
                refine N_f1 (a := 31) (by kernel_rfl) rfl ?_
                refine WH_storeW Hvad.sizeOf271 rfl (v := .agg (encD C b52 b61 v.accts.length v.slots.length [0, 0, 0, 0] 0 v.ref 0)) rfl (Hb.h (by repeat (first | assumption | exact Hb.newY _ _ | refine Hb.alloc ?_ | refine Hb.drew ?_ | refine Hb.ext (by assumption) ?_ | exact Hb.setSameL (by first | omega | (simp only [size_alloc, size_setB, size_drew]; omega)) | exact Hb.setSame (by assumption) | refine Hb.set (by first | omega | (simp only [size_alloc, size_setB, size_drew]; omega)) ?_ ))) rfl rfl rfl one_encD (fun _ => (by repeat (first | assumption | exact Ext.refl _ | refine Ext.alloc ?_ _ | refine Ext.drew ?_ | refine Ext.setB ?_ (by first | omega | (simp only [size_alloc, size_setB, size_drew]; omega)) _ | exact Ext.trans (by assumption) (by assumption) | refine Ext.trans ?_ (by assumption)))) ?_
                refine WH_nil ?_
                refine N_end (by kernel_rfl) ?_
                refine thn_normal ?_
                exact ⟨b5, b52, b61, ⟨rfl, rfl, rfl, trivial⟩, (by repeat (first | assumption | exact Ext.refl _ | refine Ext.alloc ?_ _ | refine Ext.drew ?_ | refine Ext.setB ?_ (by first | omega | (simp only [size_alloc, size_setB, size_drew]; omega)) _ | exact Ext.trans (by assumption) (by assumption) | refine Ext.trans ?_ (by assumption))), by omega, by omega, by omega, ⟨by omega, by omega, by omega⟩, ⟨[0, 0, 0, 0], 0, Wd0, Int.le_refl _, by decide, by rw [List.length_replicate, List.length_replicate]; exact Hb.mk (Hb.h (by repeat (first | assumption | exact Hb.newY _ _ | refine Hb.alloc ?_ | refine Hb.drew ?_ | refine Hb.ext (by assumption) ?_ | exact Hb.setSameL (by first | omega | (simp only [size_alloc, size_setB, size_drew]; omega)) | exact Hb.setSame (by assumption) | refine Hb.set (by first | omega | (simp only [size_alloc, size_setB, size_drew]; omega)) ?_ )))⟩, Hb.mk (Hb.h (by repeat (first | assumption | exact Hb.newY _ _ | refine Hb.alloc ?_ | refine Hb.drew ?_ | refine Hb.ext (by assumption) ?_ | exact Hb.setSameL (by first | omega | (simp only [size_alloc, size_setB, size_drew]; omega)) | exact Hb.setSame (by assumption) | refine Hb.set (by first | omega | (simp only [size_alloc, size_setB, size_drew]; omega)) ?_ ))), Hb.mk (Hb.h (by repeat (first | assumption | exact Hb.newY _ _ | refine Hb.alloc ?_ | refine Hb.drew ?_ | refine Hb.ext (by assumption) ?_ | exact Hb.setSameL (by first | omega | (simp only [size_alloc, size_setB, size_drew]; omega)) | exact Hb.setSame (by assumption) | refine Hb.set (by first | omega | (simp only [size_alloc, size_setB, size_drew]; omega)) ?_ ))), rep_wd _, rep_wd _, by rw [List.length_replicate]; exact h_la, by rw [List.length_replicate]; exact h_ls⟩
              · refine WH_allocG Hvad.zeroValue271 ?_
                intro b5 v5 hg5 hE5 hH5 hl5
                try simp only [size_alloc, size_setB, size_drew] at hg5
                have hzz5 := hE5.1
                try simp only [size_alloc, size_setB, size_drew] at hzz5
                refine ⟨fun _ => (by repeat (first | assumption | exact Ext.refl _ | refine Ext.alloc ?_ _ | refine Ext.drew ?_ | refine Ext.setB ?_ (by first | omega | (simp only [size_alloc, size_setB, size_drew]; omega)) _ | exact Ext.trans (by assumption) (by assumption) | refine Ext.trans ?_ (by assumption))), ?_⟩
                refine WH_nil ?_
                refine N_f1 (a := 29) (by kernel_rfl) rfl ?_
                refine WH_p (PS_b271 rfl rfl rfl rfl) rfl ?_
                refine WH_nil ?_
                refine N_f1 (a := 31) (by kernel_rfl) rfl ?_
                refine WH_storeW Hvad.sizeOf271 rfl (v := .agg (encD C b52 b61 v.accts.length v.slots.length [0, 0, 0, 0] 0 v.ref 0)) rfl (Hb.h (by repeat (first | assumption | exact Hb.newY _ _ | refine Hb.alloc ?_ | refine Hb.drew ?_ | refine Hb.ext (by assumption) ?_ | exact Hb.setSameL (by first | omega | (simp only [size_alloc, size_setB, size_drew]; omega)) | exact Hb.setSame (by assumption) | refine Hb.set (by first | omega | (simp only [size_alloc, size_setB, size_drew]; omega)) ?_ ))) rfl rfl rfl one_encD (fun _ => (by repeat (first | assumption | exact Ext.refl _ | refine Ext.alloc ?_ _ | refine Ext.drew ?_ | refine Ext.setB ?_ (by first | omega | (simp only [size_alloc, size_setB, size_drew]; omega)) _ | exact Ext.trans (by assumption) (by assumption) | refine Ext.trans ?_ (by assumption)))) ?_
                refine WH_nil ?_
                refine N_end (by kernel_rfl) ?_
                refine thn_normal ?_
                exact ⟨b5, b52, b61, ⟨rfl, rfl, rfl, trivial⟩, (by repeat (first | assumption | exact Ext.refl _ | refine Ext.alloc ?_ _ | refine Ext.drew ?_ | refine Ext.setB ?_ (by first | omega | (simp only [size_alloc, size_setB, size_drew]; omega)) _ | exact Ext.trans (by assumption) (by assumption) | refine Ext.trans ?_ (by assumption))), by omega, by omega, by omega, ⟨by omega, by omega, by omega⟩, ⟨[0, 0, 0, 0], 0, Wd0, Int.le_refl _, by decide, by rw [List.length_replicate, List.length_replicate]; exact Hb.mk (Hb.h (by repeat (first | assumption | exact Hb.newY _ _ | refine Hb.alloc ?_ | refine Hb.drew ?_ | refine Hb.ext (by assumption) ?_ | exact Hb.setSameL (by first | omega | (simp only [size_alloc, size_setB, size_drew]; omega)) | exact Hb.setSame (by assumption) | refine Hb.set (by first | omega | (simp only [size_alloc, size_setB, size_drew]; omega)) ?_ )))⟩, Hb.mk (Hb.h (by repeat (first | assumption | exact Hb.newY _ _ | refine Hb.alloc ?_ | refine Hb.drew ?_ | refine Hb.ext (by assumption) ?_ | exact Hb.setSameL (by first | omega | (simp only [size_alloc, size_setB, size_drew]; omega)) | exact Hb.setSame (by assumption) | refine Hb.set (by first | omega | (simp only [size_alloc, size_setB, size_drew]; omega)) ?_ ))), Hb.mk (Hb.h (by repeat (first | assumption | exact Hb.newY _ _ | refine Hb.alloc ?_ | refine Hb.drew ?_ | refine Hb.ext (by assumption) ?_ | exact Hb.setSameL (by first | omega | (simp only [size_alloc, size_setB, size_drew]; omega)) | exact Hb.setSame (by assumption) | refine Hb.set (by first | omega | (simp only [size_alloc, size_setB, size_drew]; omega)) ?_ ))), rep_wd _, rep_wd _, by rw [List.length_replicate]; exact h_la, by rw [List.length_replicate]; exact h_ls⟩
            · refine WH_allocG Hvad.zeroValue271 ?_
              intro b5 v5 hg5 hE5 hH5 hl5
              try simp only [size_alloc, size_setB, size_drew] at hg5
              have hzz5 := hE5.1
              try simp only [size_alloc, size_setB, size_drew] at hzz5
              refine ⟨fun _ => (by repeat (first | assumption | exact Ext.refl _ | refine Ext.alloc ?_ _ | refine Ext.drew ?_ | refine Ext.setB ?_ (by first | omega | (simp only [size_alloc, size_setB, size_drew]; omega)) _ | exact Ext.trans (by assumption) (by assumption) | refine Ext.trans ?_ (by assumption))), ?_⟩
              refine WH_nil ?_
              refine N_f1 (a := 21) (by kernel_rfl) rfl ?_
              refine WH_makeW rfl (by omega) ?_
              intro b61 v61 hg61 hE61 hH61 hl61
              try simp only [size_alloc, size_setB, size_drew] at hg61
              have hzz61 := hE61.1
              try simp only [size_alloc, size_setB, size_drew] at hzz61
              refine ⟨fun _ => (by repeat (first | assumption | exact Ext.refl _ | refine Ext.alloc ?_ _ | refine Ext.drew ?_ | refine Ext.setB ?_ (by first | omega | (simp only [size_alloc, size_setB, size_drew]; omega)) _ | exact Ext.trans (by assumption) (by assumption) | refine Ext.trans ?_ (by assumption))), ?_⟩
              refine WH_nil ?_
              refine N_f1 (a := 29) (by kernel_rfl) rfl ?_
              refine WH_p (PS_b271 rfl rfl rfl rfl) rfl ?_
              refine WH_nil ?_
              refine N_f1 (a := 31) (by kernel_rfl) rfl ?_
              refine WH_storeW Hvad.sizeOf271 rfl (v := .agg (encD C b52 b61 v.accts.length v.slots.length [0, 0, 0, 0] 0 v.ref 0)) rfl (Hb.h (by repeat (first | assumption | exact Hb.newY _ _ | refine Hb.alloc ?_ | refine Hb.drew ?_ | refine Hb.ext (by assumption) ?_ | exact Hb.setSameL (by first | omega | (simp only [size_alloc, size_setB, size_drew]; omega)) | exact Hb.setSame (by assumption) | refine Hb.set (by first | omega | (simp only [size_alloc, size_setB, size_drew]; omega)) ?_ ))) rfl rfl rfl one_encD (fun _ => (by repeat (first | assumption | exact Ext.refl _ | refine Ext.alloc ?_ _ | refine Ext.drew ?_ | refine Ext.setB ?_ (by first | omega | (simp only [size_alloc, size_setB, size_drew]; omega)) _ | exact Ext.trans (by assumption) (by assumption) | refine Ext.trans ?_ (by assumption)))) ?_
              refine WH_nil ?_
              refine N_end (by kernel_rfl) ?_
              refine thn_normal ?_
              exact ⟨b5, b52, b61, ⟨rfl, rfl, rfl, trivial⟩, (by repeat (first | assumption | exact Ext.refl _ | refine Ext.alloc ?_ _ | refine Ext.drew ?_ | refine Ext.setB ?_ (by first | omega | (simp only [size_alloc, size_setB, size_drew]; omega)) _ | exact Ext.trans (by assumption) (by assumption) | refine Ext.trans ?_ (by assumption))), by omega, by omega, by omega, ⟨by omega, by omega, by omega⟩, ⟨[0, 0, 0, 0], 0, Wd0, Int.le_refl _, by decide, by rw [List.length_replicate, List.length_replicate]; exact Hb.mk (Hb.h (by repeat (first | assumption | exact Hb.newY _ _ | refine Hb.alloc ?_ | refine Hb.drew ?_ | refine Hb.ext (by assumption) ?_ | exact Hb.setSameL (by first | omega | (simp only [size_alloc, size_setB, size_drew]; omega)) | exact Hb.setSame (by assumption) | refine Hb.set (by first | omega | (simp only [size_alloc, size_setB, size_drew]; omega)) ?_ )))⟩, Hb.mk (Hb.h (by repeat (first | assumption | exact Hb.newY _ _ | refine Hb.alloc ?_ | refine Hb.drew ?_ | refine Hb.ext (by assumption) ?_ | exact Hb.setSameL (by first | omega | (simp only [size_alloc, size_setB, size_drew]; omega)) | exact Hb.setSame (by assumption) | refine Hb.set (by first | omega | (simp only [size_alloc, size_setB, size_drew]; omega)) ?_ ))), Hb.mk (Hb.h (by repeat (first | assumption | exact Hb.newY _ _ | refine Hb.alloc ?_ | refine Hb.drew ?_ | refine Hb.ext (by assumption) ?_ | exact Hb.setSameL (by first | omega | (simp only [size_alloc, size_setB, size_drew]; omega)) | exact Hb.setSame (by assumption) | refine Hb.set (by first | omega | (simp only [size_alloc, size_setB, size_drew]; omega)) ?_ ))), rep_wd _, rep_wd _, by rw [List.length_replicate]; exact h_la, by rw [List.length_replicate]; exact h_ls⟩
          · refine WH_makeW rfl (by omega) ?_
            intro b61 v61 hg61 hE61 hH61 hl61
            try simp only [size_alloc, size_setB, size_drew] at hg61
            have hzz61 := hE61.1
            try simp only [size_alloc, size_setB, size_drew] at hzz61
            refine ⟨fun _ => (by repeat (first | assumption | exact Ext.refl _ | refine Ext.alloc ?_ _ | refine Ext.drew ?_ | refine Ext.setB ?_ (by first | omega | (simp only [size_alloc, size_setB, size_drew]; omega)) _ | exact Ext.trans (by assumption) (by assumption) | refine Ext.trans ?_ (by assumption))), ?_⟩
            refine WH_nil ?_
            refine N_f2 (a := 12) (b := 30) (by kernel_rfl) rfl rfl ?_ ?_
            · refine WH_makeW rfl (by omega) ?_
              intro b52 v52 hg52 hE52 hH52 hl52
              try simp only [size_alloc, size_setB, size_drew] at hg52
              have hzz52 := hE52.1
              try simp only [size_alloc, size_setB, size_drew] at hzz52
              refine ⟨fun _ => (by repeat (first | assumption | exact Ext.refl _ | refine Ext.alloc ?_ _ | refine Ext.drew ?_ | refine Ext.setB ?_ (by first | omega | (simp only [size_alloc, size_setB, size_drew]; omega)) _ | exact Ext.trans (by assumption) (by assumption) | refine Ext.trans ?_ (by assumption))), ?_⟩
              refine WH_nil ?_
              refine N_f2 (a := 29) (b := 30) (by kernel_rfl) rfl rfl ?_ ?_
              · refine WH_p (PS_b271 rfl rfl rfl rfl) rfl ?_
                refine WH_nil ?_
                refine N_f1 (a := 30) (by kernel_rfl) rfl ?_
                refine WH_allocG Hvad.zeroValue271 ?_
                intro b5 v5 hg5 hE5 hH5 hl5
                try simp only [size_alloc, size_setB, size_drew] at hg5
                have hzz5 := hE5.1
                try simp only [size_alloc, size_setB, size_drew] at hzz5
                refine ⟨fun _ => (by repeat (first | assumption | exact Ext.refl _ | refine Ext.alloc ?_ _ | refine Ext.drew ?_ | refine Ext.setB ?_ (by first | omega | (simp only [size_alloc, size_setB, size_drew]; omega)) _ | exact Ext.trans (by assumption) (by assumption) | refine Ext.trans ?_ (by assumption))), ?_⟩
                refine WH_nil ?_
                refine N_f1 (a := 31) (by kernel_rfl) rfl ?_
                refine WH_storeW Hvad.sizeOf271 rfl (v := .agg (encD C b52 b61 v.accts.length v.slots.length [0, 0, 0, 0] 0 v.ref 0)) rfl (Hb.h (by repeat (first | assumption | exact Hb.newY _ _ | refine Hb.alloc ?_ | refine Hb.drew ?_ | refine Hb.ext (by assumption) ?_ | exact Hb.setSameL (by first | omega | (simp only [size_alloc, size_setB, size_drew]; omega)) | exact Hb.setSame (by assumption) | refine Hb.set (by first | omega | (simp only [size_alloc, size_setB, size_drew]; omega)) ?_ ))) rfl rfl rfl one_encD (fun _ => (by repeat (first | assumption | exact Ext.refl _ | refine Ext.alloc ?_ _ | refine Ext.drew ?_ | refine Ext.setB ?_ (by first | omega | (simp only [size_alloc, size_setB, size_drew]; omega)) _ | exact Ext.trans (by assumption) (by assumption) | refine Ext.trans ?_ (by assumption)))) ?_
                refine WH_nil ?_
                refine N_end (by kernel_rfl) ?_
                refine thn_normal ?_
                exact ⟨b5, b52, b61, ⟨rfl, rfl, rfl, trivial⟩, (by repeat (first | assumption | exact Ext.refl _ | refine Ext.alloc ?_ _ | refine Ext.drew ?_ | refine Ext.setB ?_ (by first | omega | (simp only [size_alloc, size_setB, size_drew]; omega)) _ | exact Ext.trans (by assumption) (by assumption) | refine Ext.trans ?_ (by assumption))), by omega, by omega, by omega, ⟨by omega, by omega, by omega⟩, ⟨[0, 0, 0, 0], 0, Wd0, Int.le_refl _, by decide, by rw [List.length_replicate, List.length_replicate]; exact Hb.mk (Hb.h (by repeat (first | assumption | exact Hb.newY _ _ | refine Hb.alloc ?_ | refine Hb.drew ?_ | refine Hb.ext (by assumption) ?_ | exact Hb.setSameL (by first | omega | (simp only [size_alloc, size_setB, size_drew]; omega)) | exact Hb.setSame (by assumption) | refine Hb.set (by first | omega | (simp only [size_alloc, size_setB, size_drew]; omega)) ?_ )))⟩, Hb.mk (Hb.h (by repeat (first | assumption | exact Hb.newY _ _ | refine Hb.alloc ?_ | refine Hb.drew ?_ | refine Hb.ext (by assumption) ?_ | exact Hb.setSameL (by first | omega | (simp only [size_alloc, size_setB, size_drew]; omega)) | exact Hb.setSame (by assumption) | refine Hb.set (by first | omega | (simp only [size_alloc, size_setB, size_drew]; omega)) ?_ ))), Hb.mk (Hb.h (by repeat (first | assumption | exact Hb.newY _ _ | refine Hb.alloc ?_ | refine Hb.drew ?_ | refine Hb.ext (by assumption) ?_ | exact Hb.setSameL (by first | omega | (simp only [size_alloc, size_setB, size_drew]; omega)) | exact Hb.setSame (by assumption) | refine Hb.set (by first | omega | (simp only [size_alloc, size_setB, size_drew]; omega)) ?_ ))), rep_wd _, rep_wd _, by rw [List.length_replicate]; exact h_la, by rw [List.length_replicate]; exact h_ls⟩
              · refine WH_allocG Hvad.zeroValue271 ?_
                intro b5 v5 hg5 hE5 hH5 hl5
                try simp only [size_alloc, size_setB, size_drew] at hg5
                have hzz5 := hE5.1
                try simp only [size_alloc, size_setB, size_drew] at hzz5
                refine ⟨fun _ => (by repeat (first | assumption | exact Ext.refl _ | refine Ext.alloc ?_ _ | refine Ext.drew ?_ | refine Ext.setB ?_ (by first | omega | (simp only [size_alloc, size_setB, size_drew]; omega)) _ | exact Ext.trans (by assumption) (by assumption) | refine Ext.trans ?_ (by assumption))), ?_⟩
                refine WH_nil ?_
                refine N_f1 (a := 29) (by kernel_rfl) rfl ?_
                refine WH_p (PS_b271 rfl rfl rfl rfl) rfl ?_
                refine WH_nil ?_
                refine N_f1 (a := 31) (by kernel_rfl) rfl ?_
                refine WH_storeW Hvad.sizeOf271 rfl (v := .agg (encD C b52 b61 v.accts.length v.slots.length [0, 0, 0, 0] 0 v.ref 0)) rfl (Hb.h (by repeat (first | assumption | exact Hb.newY _ _ | refine Hb.alloc ?_ | refine Hb.drew ?_ | refine Hb.ext (by assumption) ?_ | exact Hb.setSameL (by first | omega | (simp only [size_alloc, size_setB, size_drew]; omega)) | exact Hb.setSame (by assumption) | refine Hb.set (by first | omega | (simp only [size_alloc, size_setB, size_drew]; omega)) ?_ ))) rfl rfl rfl one_encD (fun _ => (by repeat (first | assumption | exact Ext.refl _ | refine Ext.alloc ?_ _ | refine Ext.drew ?_ | refine Ext.setB ?_ (by first | omega | (simp only [size_alloc, size_setB, size_drew]; omega)) _ | exact Ext.trans (by assumption) (by assumption) | refine Ext.trans ?_ (by assumption)))) ?_
                refine WH_nil ?_
                refine N_end (by kernel_rfl) ?_
                refine thn_normal ?_
                exact ⟨b5, b52, b61, ⟨rfl, rfl, rfl, trivial⟩, (by repeat (first | assumption | exact Ext.refl _ | refine Ext.alloc ?_ _ | refine Ext.drew ?_ | refine Ext.setB ?_ (by first | omega | (simp only [size_alloc, size_setB, size_drew]; omega)) _ | exact Ext.trans (by assumption) (by assumption) | refine Ext.trans ?_ (by assumption))), by omega, by omega, by omega, ⟨by omega, by omega, by omega⟩, ⟨[0, 0, 0, 0], 0, Wd0, Int.le_refl _, by decide, by rw [List.length_replicate, List.length_replicate]; exact Hb.mk (Hb.h (by repeat (first | assumption | exact Hb.newY _ _ | refine Hb.alloc ?_ | refine Hb.drew ?_ | refine Hb.ext (by assumption) ?_ | exact Hb.setSameL (by first | omega | (simp only [size_alloc, size_setB, size_drew]; omega)) | exact Hb.setSame (by assumption) | refine Hb.set (by first | omega | (simp only [size_alloc, size_setB, size_drew]; omega)) ?_ )))⟩, Hb.mk (Hb.h (by repeat (first | assumption | exact Hb.newY _ _ | refine Hb.alloc ?_ | refine Hb.drew ?_ | refine Hb.ext (by assumption) ?_ | exact Hb.setSameL (by first | omega | (simp only [size_alloc, size_setB, size_drew]; omega)) | exact Hb.setSame (by assumption) | refine Hb.set (by first | omega | (simp only [size_alloc, size_setB, size_drew]; omega)) ?_ ))), Hb.mk (Hb.h (by repeat (first | assumption | exact Hb.newY _ _ | refine Hb.alloc ?_ | refine Hb.drew ?_ | refine Hb.ext (by assumption) ?_ | exact Hb.setSameL (by first | omega | (simp only [size_alloc, size_setB, size_drew]; omega)) | exact Hb.setSame (by assumption) | refine Hb.set (by first | omega | (simp only [size_alloc, size_setB, size_drew]; omega)) ?_ ))), rep_wd _, rep_wd _, by rw [List.length_replicate]; exact h_la, by rw [List.length_replicate]; exact h_ls⟩
            · refine WH_allocG Hvad.zeroValue271 ?_
              intro b5 v5 hg5 hE5 hH5 hl5
              try simp only [size_alloc, size_setB, size_drew] at hg5
              have hzz5 := hE5.1
              try simp only [size_alloc, size_setB, size_drew] at hzz5
              refine ⟨fun _ => (by repeat (first | assumption | exact Ext.refl _ | refine Ext.alloc ?_ _ | refine Ext.drew ?_ | refine Ext.setB ?_ (by first | omega | (simp only [size_alloc, size_setB, size_drew]; omega)) _ | exact Ext.trans (by assumption) (by assumption) | refine Ext.trans ?_ (by assumption))), ?_⟩
              refine WH_nil ?_
              refine N_f1 (a := 12) (by kernel_rfl) rfl ?_
              refine WH_makeW rfl (by omega) ?_
              intro b52 v52 hg52 hE52 hH52 hl52
              try simp only [size_alloc, size_setB, size_drew] at hg52
              have hzz52 := hE52.1
              try simp only [size_alloc, size_setB, size_drew] at hzz52
              refine ⟨fun _ => (by repeat (first | assumption | exact Ext.refl _ | refine Ext.alloc ?_ _ | refine Ext.drew ?_ | refine Ext.setB ?_ (by first | omega | (simp only [size_alloc, size_setB, size_drew]; omega)) _ | exact Ext.trans (by assumption) (by assumption) | refine Ext.trans ?_ (by assumption))), ?_⟩
              refine WH_nil ?_
              refine N_f1 (a := 29) (by kernel_rfl) rfl ?_
              refine WH_p (PS_b271 rfl rfl rfl rfl) rfl ?_
              refine WH_nil ?_
              refine N_f1 (a := 31) (by kernel_rfl) rfl ?_
              refine WH_storeW Hvad.sizeOf271 rfl (v := .agg (encD C b52 b61 v.accts.length v.slots.length [0, 0, 0, 0] 0 v.ref 0)) rfl (Hb.h (by repeat (first | assumption | exact Hb.newY _ _ | refine Hb.alloc ?_ | refine Hb.drew ?_ | refine Hb.ext (by assumption) ?_ | exact Hb.setSameL (by first | omega | (simp only [size_alloc, size_setB, size_drew]; omega)) | exact Hb.setSame (by assumption) | refine Hb.set (by first | omega | (simp only [size_alloc, size_setB, size_drew]; omega)) ?_ ))) rfl rfl rfl one_encD (fun _ => (by repeat (first | assumption | exact Ext.refl _ | refine Ext.alloc ?_ _ | refine Ext.drew ?_ | refine Ext.setB ?_ (by first | omega | (simp only [size_alloc, size_setB, size_drew]; omega)) _ | exact Ext.trans (by assumption) (by assumption) | refine Ext.trans ?_ (by assumption)))) ?_
              refine WH_nil ?_
              refine N_end (by kernel_rfl) ?_
              refine thn_normal ?_
              exact ⟨b5, b52, b61, ⟨rfl, rfl, rfl, trivial⟩, (by repeat (first | assumption | exact Ext.refl _ | refine Ext.alloc ?_ _ | refine Ext.drew ?_ | refine Ext.setB ?_ (by first | omega | (simp only [size_alloc, size_setB, size_drew]; omega)) _ | exact Ext.trans (by assumption) (by assumption) | refine Ext.trans ?_ (by assumption))), by omega, by omega, by omega, ⟨by omega, by omega, by omega⟩, ⟨[0, 0, 0, 0], 0, Wd0, Int.le_refl _, by decide, by rw [List.length_replicate, List.length_replicate]; exact Hb.mk (Hb.h (by repeat (first | assumption | exact Hb.newY _ _ | refine Hb.alloc ?_ | refine Hb.drew ?_ | refine Hb.ext (by assumption) ?_ | exact Hb.setSameL (by first | omega | (simp only [size_alloc, size_setB, size_drew]; omega)) | exact Hb.setSame (by assumption) | refine Hb.set (by first | omega | (simp only [size_alloc, size_setB, size_drew]; omega)) ?_ )))⟩, Hb.mk (Hb.h (by repeat (first | assumption | exact Hb.newY _ _ | refine Hb.alloc ?_ | refine Hb.drew ?_ | refine Hb.ext (by assumption) ?_ | exact Hb.setSameL (by first | omega | (simp only [size_alloc, size_setB, size_drew]; omega)) | exact Hb.setSame (by assumption) | refine Hb.set (by first | omega | (simp only [size_alloc, size_setB, size_drew]; omega)) ?_ ))), Hb.mk (Hb.h (by repeat (first | assumption | exact Hb.newY _ _ | refine Hb.alloc ?_ | refine Hb.drew ?_ | refine Hb.ext (by assumption) ?_ | exact Hb.setSameL (by first | omega | (simp only [size_alloc, size_setB, size_drew]; omega)) | exact Hb.setSame (by assumption) | refine Hb.set (by first | omega | (simp only [size_alloc, size_setB, size_drew]; omega)) ?_ ))), rep_wd _, rep_wd _, by rw [List.length_replicate]; exact h_la, by rw [List.length_replicate]; exact h_ls⟩
          · refine WH_allocG Hvad.zeroValue271 ?_
            intro b5 v5 hg5 hE5 hH5 hl5
            try simp only [size_alloc, size_setB, size_drew] at hg5
            have hzz5 := hE5.1
            try simp only [size_alloc, size_setB, size_drew] at hzz5
            refine ⟨fun _ => (by repeat (first | assumption | exact Ext.refl _ | refine Ext.alloc ?_ _ | refine Ext.drew ?_ | refine Ext.setB ?_ (by first | omega | (simp only [size_alloc, size_setB, size_drew]; omega)) _ | exact Ext.trans (by assumption) (by assumption) | refine Ext.trans ?_ (by assumption))), ?_⟩
            refine WH_nil ?_
            refine N_f2 (a := 12) (b := 21) (by kernel_rfl) rfl rfl ?_ ?_
            · refine WH_makeW rfl (by omega) ?_
              intro b52 v52 hg52 hE52 hH52 hl52
              try simp only [size_alloc, size_setB, size_drew] at hg52
              have hzz52 := hE52.1
              try simp only [size_alloc, size_setB, size_drew] at hzz52
              refine ⟨fun _ => (by repeat (first | assumption | exact Ext.refl _ | refine Ext.alloc ?_ _ | refine Ext.drew ?_ | refine Ext.setB ?_ (by first | omega | (simp only [size_alloc, size_setB, size_drew]; omega)) _ | exact Ext.trans (by assumption) (by assumption) | refine Ext.trans ?_ (by assumption))), ?_⟩
              refine WH_nil ?_
              refine N_f1 (a := 21) (by kernel_rfl) rfl ?_
              refine WH_makeW rfl (by omega) ?_
              intro b61 v61 hg61 hE61 hH61 hl61
              try simp only [size_alloc, size_setB, size_drew] at hg61
              have hzz61 := hE61.1
              try simp only [size_alloc, size_setB, size_drew] at hzz61
              refine ⟨fun _ => (by repeat (first | assumption | exact Ext.refl _ | refine Ext.alloc ?_ _ | refine Ext.drew ?_ | refine Ext.setB ?_ (by first | omega | (simp only [size_alloc, size_setB, size_drew]; omega)) _ | exact Ext.trans (by assumption) (by assumption) | refine Ext.trans ?_ (by assumption))), ?_⟩
              refine WH_nil ?_
              refine N_f1 (a := 29) (by kernel_rfl) rfl ?_
              refine WH_p (PS_b271 rfl rfl rfl rfl) rfl ?_
              refine WH_nil ?_
              refine N_f1 (a := 31) (by kernel_rfl) rfl ?_
              refine WH_storeW Hvad.sizeOf271 rfl (v := .agg (encD C b52 b61 v.accts.length v.slots.length [0, 0, 0, 0] 0 v.ref 0)) rfl (Hb.h (by repeat (first | assumption | exact Hb.newY _ _ | refine Hb.alloc ?_ | refine Hb.drew ?_ | refine Hb.ext (by assumption) ?_ | exact Hb.setSameL (by first | omega | (simp only [size_alloc, size_setB, size_drew]; omega)) | exact Hb.setSame (by assumption) | refine Hb.set (by first | omega | (simp only [size_alloc, size_setB, size_drew]; omega)) ?_ ))) rfl rfl rfl one_encD (fun _ => (by repeat (first | assumption | exact Ext.refl _ | refine Ext.alloc ?_ _ | refine Ext.drew ?_ | refine Ext.setB ?_ (by first | omega | (simp only [size_alloc, size_setB, size_drew]; omega)) _ | exact Ext.trans (by assumption) (by assumption) | refine Ext.trans ?_ (by assumption)))) ?_
              refine WH_nil ?_
              refine N_end (by kernel_rfl) ?_
              refine thn_normal ?_
              exact ⟨b5, b52, b61, ⟨rfl, rfl, rfl, trivial⟩, (by repeat (first | assumption | exact Ext.refl _ | refine Ext.alloc ?_ _ | refine Ext.drew ?_ | refine Ext.setB ?_ (by first | omega | (simp only [size_alloc, size_setB, size_drew]; omega)) _ | exact Ext.trans (by assumption) (by assumption) | refine Ext.trans ?_ (by assumption))), by omega, by omega, by omega, ⟨by omega, by omega, by omega⟩, ⟨[0, 0, 0, 0], 0, Wd0, Int.le_refl _, by decide, by rw [List.length_replicate, List.length_replicate]; exact Hb.mk (Hb.h (by repeat (first | assumption | exact Hb.newY _ _ | refine Hb.alloc ?_ | refine Hb.drew ?_ | refine Hb.ext (by assumption) ?_ | exact Hb.setSameL (by first | omega | (simp only [size_alloc, size_setB, size_drew]; omega)) | exact Hb.setSame (by assumption) | refine Hb.set (by first | omega | (simp only [size_alloc, size_setB, size_drew]; omega)) ?_ )))⟩, Hb.mk (Hb.h (by repeat (first | assumption | exact Hb.newY _ _ | refine Hb.alloc ?_ | refine Hb.drew ?_ | refine Hb.ext (by assumption) ?_ | exact Hb.setSameL (by first | omega | (simp only [size_alloc, size_setB, size_drew]; omega)) | exact Hb.setSame (by assumption) | refine Hb.set (by first | omega | (simp only [size_alloc, size_setB, size_drew]; omega)) ?_ ))), Hb.mk (Hb.h (by repeat (first | assumption | exact Hb.newY _ _ | refine Hb.alloc ?_ | refine Hb.drew ?_ | refine Hb.ext (by assumption) ?_ | exact Hb.setSameL (by first | omega | (simp only [size_alloc, size_setB, size_drew]; omega)) | exact Hb.setSame (by assumption) | refine Hb.set (by first | omega | (simp only [size_alloc, size_setB, size_drew]; omega)) ?_ ))), rep_wd _, rep_wd _, by rw [List.length_replicate]; exact h_la, by rw [List.length_replicate]; exact h_ls⟩
            · refine WH_makeW rfl (by omega) ?_
              intro b61 v61 hg61 hE61 hH61 hl61
              try simp only [size_alloc, size_setB, size_drew] at hg61
              have hzz61 := hE61.1
              try simp only [size_alloc, size_setB, size_drew] at hzz61
              refine ⟨fun _ => (by repeat (first | assumption | exact Ext.refl _ | refine Ext.alloc ?_ _ | refine Ext.drew ?_ | refine Ext.setB ?_ (by first | omega | (simp only [size_alloc, size_setB, size_drew]; omega)) _ | exact Ext.trans (by assumption) (by assumption) | refine Ext.trans ?_ (by assumption))), ?_⟩
              refine WH_nil ?_
              refine N_f1 (a := 12) (by kernel_rfl) rfl ?_
              refine WH_makeW rfl (by omega) ?_
              intro b52 v52 hg52 hE52 hH52 hl52
              try simp only [size_alloc, size_setB, size_drew] at hg52
              have hzz52 := hE52.1
              try simp only [size_alloc, size_setB, size_drew] at hzz52
              refine ⟨fun _ => (by repeat (first | assumption | exact Ext.refl _ | refine Ext.alloc ?_ _ | refine Ext.drew ?_ | refine Ext.setB ?_ (by first | omega | (simp only [size_alloc, size_setB, size_drew]; omega)) _ | exact Ext.trans (by assumption) (by assumption) | refine Ext.trans ?_ (by assumption))), ?_⟩
              refine WH_nil ?_
              refine N_f1 (a := 29) (by kernel_rfl) rfl ?_
              refine WH_p (PS_b271 rfl rfl rfl rfl) rfl ?_
              refine WH_nil ?_
              refine N_f1 (a := 31) (by kernel_rfl) rfl ?_
              refine WH_storeW Hvad.sizeOf271 rfl (v := .agg (encD C b52 b61 v.accts.length v.slots.length [0, 0, 0, 0] 0 v.ref 0)) rfl (Hb.h (by repeat (first | assumption | exact Hb.newY _ _ | refine Hb.alloc ?_ | refine Hb.drew ?_ | refine Hb.ext (by assumption) ?_ | exact Hb.setSameL (by first | omega | (simp only [size_alloc, size_setB, size_drew]; omega)) | exact Hb.setSame (by assumption) | refine Hb.set (by first | omega | (simp only [size_alloc, size_setB, size_drew]; omega)) ?_ ))) rfl rfl rfl one_encD (fun _ => (by repeat (first | assumption | exact Ext.refl _ | refine Ext.alloc ?_ _ | refine Ext.drew ?_ | refine Ext.setB ?_ (by first | omega | (simp only [size_alloc, size_setB, size_drew]; omega)) _ | exact Ext.trans (by assumption) (by assumption) | refine Ext.trans ?_ (by assumption)))) ?_
              refine WH_nil ?_
              refine N_end (by kernel_rfl) ?_
              refine thn_normal ?_
              exact ⟨b5, b52, b61, ⟨rfl, rfl, rfl, trivial⟩, (by repeat (first | assumption | exact Ext.refl _ | refine Ext.alloc ?_ _ | refine Ext.drew ?_ | refine Ext.setB ?_ (by first | omega | (simp only [size_alloc, size_setB, size_drew]; omega)) _ | exact Ext.trans (by assumption) (by assumption) | refine Ext.trans ?_ (by assumption))), by omega, by omega, by omega, ⟨by omega, by omega, by omega⟩, ⟨[0, 0, 0, 0], 0, Wd0, Int.le_refl _, by decide, by rw [List.length_replicate, List.length_replicate]; exact Hb.mk (Hb.h (by repeat (first | assumption | exact Hb.newY _ _ | refine Hb.alloc ?_ | refine Hb.drew ?_ | refine Hb.ext (by assumption) ?_ | exact Hb.setSameL (by first | omega | (simp only [size_alloc, size_setB, size_drew]; omega)) | exact Hb.setSame (by assumption) | refine Hb.set (by first | omega | (simp only [size_alloc, size_setB, size_drew]; omega)) ?_ )))⟩, Hb.mk (Hb.h (by repeat (first | assumption | exact Hb.newY _ _ | refine Hb.alloc ?_ | refine Hb.drew ?_ | refine Hb.ext (by assumption) ?_ | exact Hb.setSameL (by first | omega | (simp only [size_alloc, size_setB, size_drew]; omega)) | exact Hb.setSame (by assumption) | refine Hb.set (by first | omega | (simp only [size_alloc, size_setB, size_drew]; omega)) ?_ ))), Hb.mk (Hb.h (by repeat (first | assumption | exact Hb.newY _ _ | refine Hb.alloc ?_ | refine Hb.drew ?_ | refine Hb.ext (by assumption) ?_ | exact Hb.setSameL (by first | omega | (simp only [size_alloc, size_setB, size_drew]; omega)) | exact Hb.setSame (by assumption) | refine Hb.set (by first | omega | (simp only [size_alloc, size_setB, size_drew]; omega)) ?_ ))), rep_wd _, rep_wd _, by rw [List.length_replicate]; exact h_la, by rw [List.length_replicate]; exact h_ls⟩
        · rintro ρ w4 ⟨D, Ba, Bv, hFr4, hS4⟩
          refine W_env _ hFr4 ?_
          have hE4 := hS4.ext
          have hz4 := hE4.1
          refine W_seq ?_
          refine W_region rfl ?_
          refine WO_call Hvad.call231 (by rfl) (Ret.mono (sLoad_spec C D Ba Bv (List.replicate v.accts.length [0, 0, 0, 0]) (List.replicate v.slots.length [0, 0, 0, 0]) 0 v.ref 0 c v B (bb m) w _ (hS4.extR (by repeat (first | assumption | exact Ext.refl _ | refine Ext.alloc ?_ _ | refine Ext.drew ?_ | refine Ext.setB ?_ (by first | omega | (simp only [size_alloc, size_setB, size_drew]; omega)) _ | exact Ext.trans (by assumption) (by assumption) | refine Ext.trans ?_ (by assumption)))) hM.vs (by simp) (by simp)) ?_)
          rintro _ w5 hS5
          have hE5 := hS5.ext
          have hz5 := hE5.1
          refine WO_nil ?_
          refine thn_normal ?_
          refine W_seq ?_
          refine W_region rfl ?_
          refine WO_call Hvad.call232 (by rfl) (Ret.mono (sTotal_spec C D Ba Bv (v.accts.map (fun y : Acct => y.bal)) (v.slots.map (fun y : Slot => y.val)) (sumW (v.accts.map (fun y : Acct => y.bal))) v.ref (cleared (v.slots.map (fun y : Slot => y.val)) v.origs) w _ (hS5.extR (by repeat (first | assumption | exact Ext.refl _ | refine Ext.alloc ?_ _ | refine Ext.drew ?_ | refine Ext.setB ?_ (by first | omega | (simp only [size_alloc, size_setB, size_drew]; omega)) _ | exact Ext.trans (by assumption) (by assumption) | refine Ext.trans ?_ (by assumption))))) ?_)
          rintro _ w6 ⟨hE6, W0, q0, hW0, hq0, hsum0, rfl⟩
          have hz6 := hE6.1
          have hS6 := hS5.extR hE6
          have hS6l : D < w6.heap.size ∧ Ba < w6.heap.size ∧ Bv < w6.heap.size := by
            obtain ⟨_, _, _, _, _, h4⟩ := hS6.ex
            exact ⟨h4.lt, hS6.hb.lt, hS6.hv.lt⟩
          have hsn : sumW (v.accts.map (fun y : Acct => y.bal)) = S' := hwn.sum
          have hW0b := wv_bd hW0
          have hW0l := hW0.1
          obtain rfl : q0 = 0 := by omega
          have hW0s : wv W0 = S' := by omega
          have hclr : 4800 * cleared (v.slots.map (fun y : Slot => y.val)) v.origs ≤ v.ref := hwn.clr
          have hgas : v.ref ≤ 199 * (m.txgas - gOf m n) := hwn.gas
          have hcn := cleared_nonneg (v.slots.map (fun y : Slot => y.val)) v.origs
          have hcb := cleared_le (v.slots.map (fun y : Slot => y.val)) v.origs
          rw [List.length_map] at hcb
          refine WO_p (PS_move_tuple rfl) ?_
          refine WO_p (PS_extract_agg rfl rfl) ?_
          refine WO_p (PS_extract_bool rfl rfl) ?_
          refine WO_allocG Hvad.zeroValue59 ?_
          intro b6 v6 hg6 hE6 hH6 hl6
          try simp only [size_alloc, size_setB, size_drew] at hg6
          have hzz6 := hE6.1
          try simp only [size_alloc, size_setB, size_drew] at hzz6
          replace hH6 : Hb v6 b6 (.cells (ic .u64 [0, 0, 0, 0]) 59 (0, 0)) := hH6
          first | refine WO_storeW Hvad.sizeOf59 rfl (v := .agg _) rfl (Hb.h (by repeat (first | assumption | exact Hb.newY _ _ | refine Hb.alloc ?_ | refine Hb.drew ?_ | refine Hb.ext (by assumption) ?_ | exact Hb.setSameL (by first | omega | (simp only [size_alloc, size_setB, size_drew]; omega)) | exact Hb.setSame (by assumption) | refine Hb.set (by first | omega | (simp only [size_alloc, size_setB, size_drew]; omega)) ?_ ))) rfl (by first | omega | assumption | rfl | decide | exact Nat.le_refl _ | (simp only [size_ic, Value.cells]; omega) | simp) (by first | omega | assumption | rfl | decide | exact Nat.le_refl _ | (simp only [size_ic, Value.cells]; omega) | simp) (by first | exact oneCell_ic | assumption) ?_ | refine WO_store Hvad.sizeOf59 rfl (v := .agg _) rfl (Hb.h (by repeat (first | assumption | exact Hb.newY _ _ | refine Hb.alloc ?_ | refine Hb.drew ?_ | refine Hb.ext (by assumption) ?_ | exact Hb.setSameL (by first | omega | (simp only [size_alloc, size_setB, size_drew]; omega)) | exact Hb.setSame (by assumption) | refine Hb.set (by first | omega | (simp only [size_alloc, size_setB, size_drew]; omega)) ?_ ))) (by first | omega | assumption | rfl | decide | exact Nat.le_refl _ | (simp only [size_ic, Value.cells]; omega) | simp) (by first | omega | assumption | rfl | decide | exact Nat.le_refl _ | (simp only [size_ic, Value.cells]; omega) | simp) (by first | exact oneCell_ic | assumption) ?_
          refine WO_p (PS_assign_bool rfl) ?_
          refine WO_nil ?_
          refine thn_normal ?_
          refine W_seq ?_
          refine W_seq ?_
          refine W_drawE [false, false, false, false, false, false, false, false, false, false, false, false, false, false, false, false, false] hmix (by kernel_rfl) rfl ?_
          refine WH_p (PS_move_bool rfl) rfl ?_
          refine WH_p (PS_not rfl) rfl ?_
          refine WH_p (PS_move_bool rfl) rfl ?_
          refine WH_if (t := 77) rfl (fun hb13 => ?_) (fun hb13 => ?_)
          · have hb13p := hb13.h; try simp only [al_ete, al_dfn, Bool.not_eq_true', Bool.not_eq_false', al_ne, Bool.not_not, al_nn] at hb13p
            simp at hb13p --END
          · have hb13p := hb13.h; try simp only [al_ete, al_dfn, Bool.not_eq_true', Bool.not_eq_false', al_ne, Bool.not_not, al_nn] at hb13p
            refine WH_guardT rfl rfl hb13.h ?_
            refine WH_p (PS_move_ptr rfl) rfl ?_
            refine WH_guardT rfl rfl hb13.h ?_
            refine WH_p (PS_move_ptr rfl) rfl ?_
            refine WH_guardT rfl rfl hb13.h ?_
            refine WH_p (PS_nilCheck rfl) rfl ?_
            refine WH_guardT rfl rfl hb13.h ?_
            refine WH_p (PS_fieldAddr 0 Hvad.runUnderlying69 rfl Hvad.sizeOf53 rfl rfl) rfl ?_
            refine WH_guardT rfl rfl hb13.h ?_
            refine WH_load (.pointer _) Hvad.isAgg53 rfl (Hb.h (by repeat (first | assumption | exact Hb.newY _ _ | refine Hb.alloc ?_ | refine Hb.drew ?_ | refine Hb.ext (by assumption) ?_ | exact Hb.setSameL (by first | omega | (simp only [size_alloc, size_setB, size_drew]; omega)) | exact Hb.setSame (by assumption) | refine Hb.set (by first | omega | (simp only [size_alloc, size_setB, size_drew]; omega)) ?_ ))) (Ce.h (by first | assumption | exact ed0 | exact ed1 | exact ed2 | exact ed7 (by assumption) | exact ed8 (by assumption) | exact ed9 (by assumption) | exact ⟨rfl⟩)) ?_
            refine WH_guardT rfl rfl hb13.h ?_
            refine WH_p (PS_nilCheck rfl) rfl ?_
            refine WH_guardT rfl rfl hb13.h ?_
            refine WH_p (PS_fieldAddr 24579 Hvad.runUnderlying79 rfl Hvad.sizeOf21 rfl rfl) rfl ?_
            refine WH_guardT rfl rfl hb13.h ?_
            refine WH_load (.int _ _) Hvad.isAgg21 rfl (Hb.h (by repeat (first | assumption | exact Hb.newY _ _ | refine Hb.alloc ?_ | refine Hb.drew ?_ | refine Hb.ext (by assumption) ?_ | exact Hb.setSameL (by first | omega | (simp only [size_alloc, size_setB, size_drew]; omega)) | exact Hb.setSame (by assumption) | refine Hb.set (by first | omega | (simp only [size_alloc, size_setB, size_drew]; omega)) ?_ ))) (Ce.h (by first | assumption | exact ed0 | exact ed1 | exact ed2 | exact ed7 (by assumption) | exact ed8 (by assumption) | exact ed9 (by assumption) | exact ⟨rfl⟩)) ?_
            refine WH_guardT rfl rfl hb13.h ?_
            refine WH_loadA _ Hvad.isAgg59 Hvad.sizeOf59 rfl (Hb.h (by repeat (first | assumption | exact Hb.newY _ _ | refine Hb.alloc ?_ | refine Hb.drew ?_ | refine Hb.ext (by assumption) ?_ | exact Hb.setSameL (by first | omega | (simp only [size_alloc, size_setB, size_drew]; omega)) | exact Hb.setSame (by assumption) | refine Hb.set (by first | omega | (simp only [size_alloc, size_setB, size_drew]; omega)) ?_ ))) (by first | omega | assumption | rfl | decide | exact Nat.le_refl _ | (simp only [size_ic, Value.cells]; omega) | simp) (Xt.h (by first | assumption | exact Xt.whole rfl rfl | exact ed3 (by assumption) | exact Xt.whole rfl (by simp only [size_ic, Value.cells]; omega) | exact ⟨rfl⟩)) ?_
            refine WH_guardT rfl rfl hb13.h ?_
            refine WH_loadA _ Hvad.isAgg59 Hvad.sizeOf59 rfl (Hb.h (by repeat (first | assumption | exact Hb.newY _ _ | refine Hb.alloc ?_ | refine Hb.drew ?_ | refine Hb.ext (by assumption) ?_ | exact Hb.setSameL (by first | omega | (simp only [size_alloc, size_setB, size_drew]; omega)) | exact Hb.setSame (by assumption) | refine Hb.set (by first | omega | (simp only [size_alloc, size_setB, size_drew]; omega)) ?_ ))) (by first | omega | assumption | rfl | decide | exact Nat.le_refl _ | (simp only [size_ic, Value.cells]; omega) | simp) (Xt.h (by first | assumption | exact Xt.whole rfl rfl | exact ed3 (by assumption) | exact Xt.whole rfl (by simp only [size_ic, Value.cells]; omega) | exact ⟨rfl⟩)) ?_
            refine WH_guardT rfl rfl hb13.h ?_
            refine WH_p (PS_move_int rfl) rfl ?_
            refine WH_guardT rfl rfl hb13.h ?_
            refine WH_call Hvad.call233 (by rfl) (Ret.mono (weightOK_spec C c v B m D Ba Bv (v.accts.map (fun y : Acct => y.bal)) (v.slots.map (fun y : Slot => y.val)) (sumW (v.accts.map (fun y : Acct => y.bal))) v.ref (cleared (v.slots.map (fun y : Slot => y.val)) v.origs) v.nmarks W0 W0 (m.txgas - gOf m n) w _ hM (hS6.extR (by repeat (first | assumption | exact Ext.refl _ | refine Ext.alloc ?_ _ | refine Ext.drew ?_ | refine Ext.setB ?_ (by first | omega | (simp only [size_alloc, size_setB, size_drew]; omega)) _ | exact Ext.trans (by assumption) (by assumption) | refine Ext.trans ?_ (by assumption)))) (by omega) hW0 hW0 (fun hp => ⟨rfl, by rw [hW0s]; exact hwh hp, hk.s0 hp⟩) ⟨by omega, by omega⟩ hclr hgas (by omega)) ?_)
            rintro _ w233_13 ⟨rfl, hE233_13⟩
            refine ⟨(fun h => by cases h), ?_⟩
            have hz233_13 := hE233_13.1
            try simp only [size_alloc, size_setB, size_drew] at hz233_13
            refine WH_guardT rfl rfl hb13.h ?_
            refine WH_p (PS_not rfl) rfl ?_
            refine WH_p (PS_pickF rfl hb13.h rfl) rfl ?_
            refine WH_nil ?_
            refine thn_normal ?_
            refine W_if rfl (fun hb17 => ?_) (fun hb17 => ?_)
            · have hb17p := hb17.h; try simp only [al_ete, al_dfn, Bool.not_eq_true', Bool.not_eq_false', al_ne, Bool.not_not, al_nn] at hb17p
              simp at hb17p --END
            · have hb17p := hb17.h; try simp only [al_ete, al_dfn, Bool.not_eq_true', Bool.not_eq_false', al_ne, Bool.not_not, al_nn] at hb17p
              refine W_skip ?_
              refine thn_normal ?_
              refine W_seq ?_
              refine W_region rfl ?_
              refine WO_p (PS_move_ptr rfl) ?_
              refine WO_p (PS_nilCheck rfl) ?_
              refine WO_p (PS_fieldAddr 0 Hvad.runUnderlying69 rfl Hvad.sizeOf53 rfl rfl) ?_
              refine WO_load (.pointer _) Hvad.isAgg53 rfl (Hb.h (by repeat (first | assumption | exact Hb.newY _ _ | refine Hb.alloc ?_ | refine Hb.drew ?_ | refine Hb.ext (by assumption) ?_ | exact Hb.setSameL (by first | omega | (simp only [size_alloc, size_setB, size_drew]; omega)) | exact Hb.setSame (by assumption) | refine Hb.set (by first | omega | (simp only [size_alloc, size_setB, size_drew]; omega)) ?_ ))) (Ce.h (by first | assumption | exact ed0 | exact ed1 | exact ed2 | exact ed7 (by assumption) | exact ed8 (by assumption) | exact ed9 (by assumption) | exact ⟨rfl⟩)) ?_
              refine WO_p (PS_nilCheck rfl) ?_
              refine WO_p (PS_fieldAddr 8194 Hvad.runUnderlying79 rfl Hvad.sizeOf73 rfl rfl) ?_
              refine WO_load (.slice _ _ _) Hvad.isAgg73 rfl (Hb.h (by repeat (first | assumption | exact Hb.newY _ _ | refine Hb.alloc ?_ | refine Hb.drew ?_ | refine Hb.ext (by assumption) ?_ | exact Hb.setSameL (by first | omega | (simp only [size_alloc, size_setB, size_drew]; omega)) | exact Hb.setSame (by assumption) | refine Hb.set (by first | omega | (simp only [size_alloc, size_setB, size_drew]; omega)) ?_ ))) (Ce.h (by first | assumption | exact ed0 | exact ed1 | exact ed2 | exact ed7 (by assumption) | exact ed8 (by assumption) | exact ed9 (by assumption) | exact ⟨rfl⟩)) ?_
              refine WO_p (PS_lenS Hvad.runUnderlying73 rfl) ?_
              refine WO_p (PS_assign_int rfl) ?_
              refine WO_nil ?_
              refine thn_normal ?_
              refine W_seq ?_
              refine W_seq ?_
              refine W_region rfl ?_
              refine WO_p (PS_move_ptr rfl) ?_
              refine WO_p (PS_nilCheck rfl) ?_
              refine WO_p (PS_fieldAddr 0 Hvad.runUnderlying69 rfl Hvad.sizeOf53 rfl rfl) ?_
              refine WO_load (.pointer _) Hvad.isAgg53 rfl (Hb.h (by repeat (first | assumption | exact Hb.newY _ _ | refine Hb.alloc ?_ | refine Hb.drew ?_ | refine Hb.ext (by assumption) ?_ | exact Hb.setSameL (by first | omega | (simp only [size_alloc, size_setB, size_drew]; omega)) | exact Hb.setSame (by assumption) | refine Hb.set (by first | omega | (simp only [size_alloc, size_setB, size_drew]; omega)) ?_ ))) (Ce.h (by first | assumption | exact ed0 | exact ed1 | exact ed2 | exact ed7 (by assumption) | exact ed8 (by assumption) | exact ed9 (by assumption) | exact ⟨rfl⟩)) ?_
              refine WO_p (PS_nilCheck rfl) ?_
              refine WO_p (PS_fieldAddr 24579 Hvad.runUnderlying79 rfl Hvad.sizeOf21 rfl rfl) ?_
              refine WO_load (.int _ _) Hvad.isAgg21 rfl (Hb.h (by repeat (first | assumption | exact Hb.newY _ _ | refine Hb.alloc ?_ | refine Hb.drew ?_ | refine Hb.ext (by assumption) ?_ | exact Hb.setSameL (by first | omega | (simp only [size_alloc, size_setB, size_drew]; omega)) | exact Hb.setSame (by assumption) | refine Hb.set (by first | omega | (simp only [size_alloc, size_setB, size_drew]; omega)) ?_ ))) (Ce.h (by first | assumption | exact ed0 | exact ed1 | exact ed2 | exact ed7 (by assumption) | exact ed8 (by assumption) | exact ed9 (by assumption) | exact ⟨rfl⟩)) ?_
              refine WO_p (PS_sub_i32n rfl rfl (by omega) (by omega)) ?_
              refine WO_p (PS_assign_int rfl) ?_
              refine WO_nil ?_
              refine thn_normal ?_
              refine W_block ?_
              refine W_loopN (fun k ρ w' => ∃ (nn : Nat), (k : Int) ≤ v.nmarks ∧ nn ≤ v.journal.length ∧ (∀ j : Nat, j < k → v.marks j ≤ nn) ∧ Fr [(0, .pointer (some ⟨C, 0, none⟩)), (3, .int .u64 (m.txgas - gOf m n)), (5, .pointer (some ⟨D, 0, none⟩)), (6, .pointer (some ⟨b6, 0, none⟩)), (8, .int .i64 nn), (9, .int .i32 ((k : Int) - 1))] ρ ∧ SRep w w' C D Ba Bv (v.scAt nn).bals (v.scAt nn).vals (sumW (v.scAt nn).bals) (v.scAt nn).ref (cleared (v.scAt nn).vals v.origs) ∧ Hb w' b6 (.cells (ic .u64 W0) 59 (0, 0))) v.nmarks.toNat ?_ ?_
              · exact ⟨v.journal.length, by omega, Nat.le_refl _, fun j hj => (hk.vi.m0 j (by omega)).2, ⟨rfl, rfl, rfl, rfl, rfl, congrArg (Value.int .i32) (by omega), trivial⟩, (hS6.extR (w2 := _) (by repeat (first | assumption | exact Ext.refl _ | refine Ext.alloc ?_ _ | refine Ext.drew ?_ | refine Ext.setB ?_ (by first | omega | (simp only [size_alloc, size_setB, size_drew]; omega)) _ | exact Ext.trans (by assumption) (by assumption) | refine Ext.trans ?_ (by assumption)))).castY (by rw [scAt_end]; rfl) (by rw [scAt_end]; rfl) (by rw [scAt_end]; rfl) (by rw [scAt_end]; rfl) (by rw [scAt_end]; rfl), Hb.mk (Hb.h (by repeat (first | assumption | exact Hb.newY _ _ | refine Hb.alloc ?_ | refine Hb.drew ?_ | refine Hb.ext (by assumption) ?_ | exact Hb.setSameL (by first | omega | (simp only [size_alloc, size_setB, size_drew]; omega)) | exact Hb.setSame (by assumption) | refine Hb.set (by first | omega | (simp only [size_alloc, size_setB, size_drew]; omega)) ?_ )))⟩
              have hb6D : ¬ (b6 = D ∨ b6 = Ba ∨ b6 = Bv) := by have := hS6l; omega
              clear hS6
              intro k ρ w2 hI2
              obtain ⟨nn, hkn, hnj, hmj, hFr, hS2, hb62⟩ := hI2
              refine W_env _ hFr ?_
              have hE2 := hS2.ext
              have hz2 := hE2.1
              have hb6l := hb62.lt
              refine W_seq ?_
              refine W_seq ?_
              refine W_region rfl ?_
              refine WO_p (PS_move_int rfl) ?_
              refine WO_p (PS_geq rfl rfl) ?_
              refine WO_nil ?_
              refine thn_normal ?_
              refine W_if rfl (fun hb19 => ?_) (fun hb19 => ?_)
              · have hb19p := hb19.h; try simp only [al_ete, al_dfn, Bool.not_eq_true', Bool.not_eq_false', al_ne, Bool.not_not, al_nn] at hb19p
                obtain ⟨k', rfl⟩ : ∃ k', k = k' + 1 := ⟨k - 1, by omega⟩
                have hm0 := hk.vi.m0 k' (by omega)
                have hmn := hmj k' (by omega)
                obtain ⟨mk, hmk⟩ : ∃ mk : Nat, v.marks k' = (mk : Int) := ⟨(v.marks k').toNat, by omega⟩
                have hc_mk : Ce c (2435 + 8195 + (((k' + 1 : Nat) : Int) - 1).toNat * 1) (.int .i32 (mk : Int)) := by
                  rw [show (((k' + 1 : Nat) : Int) - 1).toNat = k' by omega, ← hmk]; exact hM.vs.rep.marks k' (by omega)
                rw [hmk] at hm0 hmn
                refine W_skip ?_
                refine thn_normal ?_
                refine W_seq ?_
                refine W_block ?_
                refine W_seq ?_
                refine W_region rfl ?_
                refine WO_p (PS_move_ptr rfl) ?_
                refine WO_p (PS_nilCheck rfl) ?_
                refine WO_p (PS_fieldAddr 0 Hvad.runUnderlying69 rfl Hvad.sizeOf53 rfl rfl) ?_
                refine WO_load (.pointer _) Hvad.isAgg53 rfl (Hb.h (by repeat (first | assumption | exact Hb.newY _ _ | refine Hb.alloc ?_ | refine Hb.drew ?_ | refine Hb.ext (by assumption) ?_ | exact Hb.setSameL (by first | omega | (simp only [size_alloc, size_setB, size_drew]; omega)) | exact Hb.setSame (by assumption) | refine Hb.set (by first | omega | (simp only [size_alloc, size_setB, size_drew]; omega)) ?_ ))) (Ce.h (by first | assumption | exact ed0 | exact ed1 | exact ed2 | exact ed7 (by assumption) | exact ed8 (by assumption) | exact ed9 (by assumption) | exact ⟨rfl⟩)) ?_
                refine WO_p (PS_move_int rfl) ?_
                refine WO_p (PS_nilCheck rfl) ?_
                refine WO_p (PS_fieldAddr 8195 Hvad.runUnderlying79 rfl Hvad.sizeOf74 rfl rfl) ?_
                refine WO_p (PS_indexA Hvad.runUnderlying74 Hvad.sizeOf21 rfl rfl (by omega) (by omega)) ?_
                refine WO_load (.int _ _) Hvad.isAgg21 rfl (Hb.h (by repeat (first | assumption | exact Hb.newY _ _ | refine Hb.alloc ?_ | refine Hb.drew ?_ | refine Hb.ext (by assumption) ?_ | exact Hb.setSameL (by first | omega | (simp only [size_alloc, size_setB, size_drew]; omega)) | exact Hb.setSame (by assumption) | refine Hb.set (by first | omega | (simp only [size_alloc, size_setB, size_drew]; omega)) ?_ ))) (Ce.h (by first | assumption | exact ed0 | exact ed1 | exact ed2 | exact ed7 (by assumption) | exact ed8 (by assumption) | exact ed9 (by assumption) | exact ⟨rfl⟩)) ?_
                refine WO_p (PS_conv_i64n Hvad.runUnderlying21 Hvad.runUnderlying3 rfl (by omega) (by omega)) ?_
                refine WO_p (PS_assign_int rfl) ?_
                refine WO_nil ?_
                refine thn_normal ?_
                refine W_seq ?_
                refine W_seq ?_
                refine W_region rfl ?_
                refine WO_p (PS_move_int rfl) ?_
                refine WO_p (PS_lss rfl rfl) ?_
                refine WO_p (PS_move_bool rfl) ?_
                refine WO_if (t := 124) rfl (fun hb21 => ?_) (fun hb21 => ?_)
                · have hb21p := hb21.h; try simp only [al_ete, al_dfn, Bool.not_eq_true', Bool.not_eq_false', al_ne, Bool.not_not, al_nn] at hb21p
                  (exfalso; omega) --END
                · have hb21p := hb21.h; try simp only [al_ete, al_dfn, Bool.not_eq_true', Bool.not_eq_false', al_ne, Bool.not_not, al_nn] at hb21p
                  refine WO_guardT rfl rfl hb21.h ?_
                  refine WO_p (PS_move_int rfl) ?_
                  refine WO_guardT rfl rfl hb21.h ?_
                  refine WO_p (PS_move_ptr rfl) ?_
                  refine WO_guardT rfl rfl hb21.h ?_
                  refine WO_p (PS_nilCheck rfl) ?_
                  refine WO_guardT rfl rfl hb21.h ?_
                  refine WO_p (PS_fieldAddr 0 Hvad.runUnderlying69 rfl Hvad.sizeOf53 rfl rfl) ?_
                  refine WO_guardT rfl rfl hb21.h ?_
                  refine WO_load (.pointer _) Hvad.isAgg53 rfl (Hb.h (by repeat (first | assumption | exact Hb.newY _ _ | refine Hb.alloc ?_ | refine Hb.drew ?_ | refine Hb.ext (by assumption) ?_ | exact Hb.setSameL (by first | omega | (simp only [size_alloc, size_setB, size_drew]; omega)) | exact Hb.setSame (by assumption) | refine Hb.set (by first | omega | (simp only [size_alloc, size_setB, size_drew]; omega)) ?_ ))) (Ce.h (by first | assumption | exact ed0 | exact ed1 | exact ed2 | exact ed7 (by assumption) | exact ed8 (by assumption) | exact ed9 (by assumption) | exact ⟨rfl⟩)) ?_
                  refine WO_guardT rfl rfl hb21.h ?_
                  refine WO_p (PS_nilCheck rfl) ?_
                  refine WO_guardT rfl rfl hb21.h ?_
                  refine WO_p (PS_fieldAddr 8194 Hvad.runUnderlying79 rfl Hvad.sizeOf73 rfl rfl) ?_
                  refine WO_guardT rfl rfl hb21.h ?_
                  refine WO_load (.slice _ _ _) Hvad.isAgg73 rfl (Hb.h (by repeat (first | assumption | exact Hb.newY _ _ | refine Hb.alloc ?_ | refine Hb.drew ?_ | refine Hb.ext (by assumption) ?_ | exact Hb.setSameL (by first | omega | (simp only [size_alloc, size_setB, size_drew]; omega)) | exact Hb.setSame (by assumption) | refine Hb.set (by first | omega | (simp only [size_alloc, size_setB, size_drew]; omega)) ?_ ))) (Ce.h (by first | assumption | exact ed0 | exact ed1 | exact ed2 | exact ed7 (by assumption) | exact ed8 (by assumption) | exact ed9 (by assumption) | exact ⟨rfl⟩)) ?_
                  refine WO_guardT rfl rfl hb21.h ?_
                  refine WO_p (PS_lenS Hvad.runUnderlying73 rfl) ?_
                  refine WO_guardT rfl rfl hb21.h ?_
                  refine WO_p (PS_gtr rfl rfl) ?_
                  refine WO_p (PS_pickF rfl hb21.h rfl) ?_
                  refine WO_nil ?_
                  refine thn_normal ?_
                  refine W_if rfl (fun hb23 => ?_) (fun hb23 => ?_)
                  · have hb23p := hb23.h; try simp only [al_ete, al_dfn, Bool.not_eq_true', Bool.not_eq_false', al_ne, Bool.not_not, al_nn] at hb23p
                    (exfalso; omega) --END
                  · have hb23p := hb23.h; try simp only [al_ete, al_dfn, Bool.not_eq_true', Bool.not_eq_false', al_ne, Bool.not_not, al_nn] at hb23p
                    refine W_skip ?_
                    refine thn_normal ?_
                    refine W_seq ?_
                    refine W_seq ?_
                    refine W_region rfl ?_
                    refine WO_p (PS_move_int rfl) ?_
                    refine WO_p (PS_move_int rfl) ?_
                    refine WO_p (PS_gtr rfl rfl) ?_
                    refine WO_nil ?_
                    refine thn_normal ?_
                    refine W_if rfl (fun hb25 => ?_) (fun hb25 => ?_)
                    · have hb25p := hb25.h; try simp only [al_ete, al_dfn, Bool.not_eq_true', Bool.not_eq_false', al_ne, Bool.not_not, al_nn] at hb25p
                      (exfalso; omega) --END
                    · have hb25p := hb25.h; try simp only [al_ete, al_dfn, Bool.not_eq_true', Bool.not_eq_false', al_ne, Bool.not_not, al_nn] at hb25p
                      refine W_skip ?_
                      refine thn_normal ?_
                      refine W_seq ?_
                      refine W_block ?_
                      refine W_loopN (fun q ρ w' => ∃ (n2 : Nat), n2 = mk + q ∧ n2 ≤ v.journal.length ∧ Fr [(0, .pointer (some ⟨C, 0, none⟩)), (3, .int .u64 (m.txgas - gOf m n)), (5, .pointer (some ⟨D, 0, none⟩)), (6, .pointer (some ⟨b6, 0, none⟩)), (8, .int .i64 n2), (9, .int .i32 (((k' + 1 : Nat) : Int) - 1)), (10, .int .i64 mk)] ρ ∧ SRep w w' C D Ba Bv (v.scAt n2).bals (v.scAt n2).vals (sumW (v.scAt n2).bals) (v.scAt n2).ref (cleared (v.scAt n2).vals v.origs) ∧ Hb w' b6 (.cells (ic .u64 W0) 59 (0, 0))) (nn - mk) ?_ ?_
                      · exact ⟨nn, by omega, hnj, ⟨rfl, rfl, rfl, rfl, rfl, rfl, rfl, trivial⟩, hS2.extR (by repeat (first | assumption | exact Ext.refl _ | refine Ext.alloc ?_ _ | refine Ext.drew ?_ | refine Ext.setB ?_ (by first | omega | (simp only [size_alloc, size_setB, size_drew]; omega)) _ | exact Ext.trans (by assumption) (by assumption) | refine Ext.trans ?_ (by assumption))), Hb.mk (Hb.h (by repeat (first | assumption | exact Hb.newY _ _ | refine Hb.alloc ?_ | refine Hb.drew ?_ | refine Hb.ext (by assumption) ?_ | exact Hb.setSameL (by first | omega | (simp only [size_alloc, size_setB, size_drew]; omega)) | exact Hb.setSame (by assumption) | refine Hb.set (by first | omega | (simp only [size_alloc, size_setB, size_drew]; omega)) ?_ )))⟩
                      clear hS2 hb62 hE2 hz2 hb6l
                      intro q ρ w2 hI2
                      obtain ⟨n2, hnq, hn2j, hFr3, hS2, hb62⟩ := hI2
                      refine W_env _ hFr3 ?_
                      have hE2 := hS2.ext
                      have hz2 := hE2.1
                      have hb6l := hb62.lt
                      refine W_seq ?_
                      refine W_seq ?_
                      refine W_region rfl ?_
                      refine WO_p (PS_move_int rfl) ?_
                      refine WO_p (PS_move_int rfl) ?_
                      refine WO_p (PS_gtr rfl rfl) ?_
                      refine WO_nil ?_
                      refine thn_normal ?_
                      refine W_if rfl (fun hb27 => ?_) (fun hb27 => ?_)
                      · have hb27p := hb27.h; try simp only [al_ete, al_dfn, Bool.not_eq_true', Bool.not_eq_false', al_ne, Bool.not_not, al_nn] at hb27p
                        obtain ⟨e, he⟩ : ∃ e, v.journal[n2 - 1]? = some e := ⟨_, List.getElem?_eq_getElem (by omega)⟩
                        have hpred := scAt_pred he (by omega)
                        have hlens := scAt_lens v n2
                        obtain ⟨b, cap, rj, hab, hcap, hrj, hrs, hrow, hda, hbd, hil, hty, f0, f1, f2, f3, f4, f5⟩ := hM.vs.openJ he
                        replace hc_jo : Ce c (2435 + 8194) (.slice (some ⟨b, 0, none⟩) v.journal.length cap) := hda
                        have hpe : ((n2 : Int) - 1).toNat = n2 - 1 := by omega
                        have hxe : v.journal[((n2 : Int) - 1).toNat]? = some e := by rw [hpe]; exact he
                        refine W_skip ?_
                        refine thn_normal ?_
                        refine W_block ?_
                        refine W_seq ?_
                        refine W_seq ?_
                        refine W_region rfl ?_
                        refine WO_p (PS_move_ptr rfl) ?_
                        refine WO_p (PS_nilCheck rfl) ?_
                        refine WO_p (PS_fieldAddr 0 Hvad.runUnderlying69 rfl Hvad.sizeOf53 rfl rfl) ?_
                        refine WO_load (.pointer _) Hvad.isAgg53 rfl (Hb.h (by repeat (first | assumption | exact Hb.newY _ _ | refine Hb.alloc ?_ | refine Hb.drew ?_ | refine Hb.ext (by assumption) ?_ | exact Hb.setSameL (by first | omega | (simp only [size_alloc, size_setB, size_drew]; omega)) | exact Hb.setSame (by assumption) | refine Hb.set (by first | omega | (simp only [size_alloc, size_setB, size_drew]; omega)) ?_ ))) (Ce.h (by first | assumption | exact ed0 | exact ed1 | exact ed2 | exact ed7 (by assumption) | exact ed8 (by assumption) | exact ed9 (by assumption) | exact ⟨rfl⟩)) ?_
                        refine WO_p (PS_nilCheck rfl) ?_
                        refine WO_p (PS_fieldAddr 8194 Hvad.runUnderlying79 rfl Hvad.sizeOf73 rfl rfl) ?_
                        refine WO_load (.slice _ _ _) Hvad.isAgg73 rfl (Hb.h (by repeat (first | assumption | exact Hb.newY _ _ | refine Hb.alloc ?_ | refine Hb.drew ?_ | refine Hb.ext (by assumption) ?_ | exact Hb.setSameL (by first | omega | (simp only [size_alloc, size_setB, size_drew]; omega)) | exact Hb.setSame (by assumption) | refine Hb.set (by first | omega | (simp only [size_alloc, size_setB, size_drew]; omega)) ?_ ))) (Ce.h (by first | assumption | exact ed0 | exact ed1 | exact ed2 | exact ed7 (by assumption) | exact ed8 (by assumption) | exact ed9 (by assumption) | exact ⟨rfl⟩)) ?_
                        refine WO_p (PS_move_int rfl) ?_
                        refine WO_p (PS_sub_i64n rfl rfl (by omega) (by omega)) ?_
                        refine WO_p (PS_indexS Hvad.runUnderlying73 Hvad.sizeOf173 rfl rfl (by omega) (by omega)) ?_
                        refine WO_call Hvad.call234 (by rfl) (Ret.mono (sBack_spec C D Ba Bv (v.scAt n2).bals (v.scAt n2).vals _ _ _ c v B (bb m) b cap ((n2 : Int) - 1).toNat e w _ (hS2.extR (by repeat (first | assumption | exact Ext.refl _ | refine Ext.alloc ?_ _ | refine Ext.drew ?_ | refine Ext.setB ?_ (by first | omega | (simp only [size_alloc, size_setB, size_drew]; omega)) _ | exact Ext.trans (by assumption) (by assumption) | refine Ext.trans ?_ (by assumption)))) hM.vs hk.vi hab hxe hlens.1 hlens.2 rfl rfl) ?_)
                        rintro _ w7 ⟨rfl, hS7, hK7⟩
                        have hE7 := hS7.ext
                        have hz7 := hE7.1
                        refine WO_p (PS_not rfl) ?_
                        refine WO_nil ?_
                        refine thn_normal ?_
                        refine W_if rfl (fun hb31 => ?_) (fun hb31 => ?_)
                        · have hb31p := hb31.h; try simp only [al_ete, al_dfn, Bool.not_eq_true', Bool.not_eq_false', al_ne, Bool.not_not, al_nn] at hb31p
                          simp at hb31p --END
                        · have hb31p := hb31.h; try simp only [al_ete, al_dfn, Bool.not_eq_true', Bool.not_eq_false', al_ne, Bool.not_not, al_nn] at hb31p
                          refine W_skip ?_
                          refine thn_normal ?_
                          refine W_region rfl ?_
                          refine WO_p (PS_move_int rfl) ?_
                          refine WO_p (PS_sub_i64n rfl rfl (by omega) (by omega)) ?_
                          refine WO_p (PS_assign_int rfl) ?_
                          refine WO_nil ?_
                          refine inBlk_normal ?_
                          refine thn_normal ?_
                          exact ⟨q - 1, by omega, n2 - 1, by omega, by omega, ⟨rfl, rfl, rfl, rfl, congrArg (Value.int .i64) (by omega), rfl, rfl, trivial⟩, (by rw [hpred]; exact hS7.extR (by repeat (first | assumption | exact Ext.refl _ | refine Ext.alloc ?_ _ | refine Ext.drew ?_ | refine Ext.setB ?_ (by first | omega | (simp only [size_alloc, size_setB, size_drew]; omega)) _ | exact Ext.trans (by assumption) (by assumption) | refine Ext.trans ?_ (by assumption)))), hK7.hb (Hb.mk (Hb.h (by repeat (first | assumption | exact Hb.newY _ _ | refine Hb.alloc ?_ | refine Hb.drew ?_ | refine Hb.ext (by assumption) ?_ | exact Hb.setSameL (by first | omega | (simp only [size_alloc, size_setB, size_drew]; omega)) | exact Hb.setSame (by assumption) | refine Hb.set (by first | omega | (simp only [size_alloc, size_setB, size_drew]; omega)) ?_ )))) hb6D⟩
                      · have hb27p := hb27.h; try simp only [al_ete, al_dfn, Bool.not_eq_true', Bool.not_eq_false', al_ne, Bool.not_not, al_nn] at hb27p
                        have hn2 : mk = n2 := by omega
                        subst hn2
                        refine W_exit ?_
                        refine thn_exit ?_
                        refine thn_exit ?_
                        refine inBlk_exit ?_
                        refine thn_normal ?_
                        refine W_seq ?_
                        refine W_region rfl ?_
                        refine WO_call Hvad.call232 (by rfl) (Ret.mono (sTotal_spec C D Ba Bv (v.scAt mk).bals (v.scAt mk).vals (sumW (v.scAt mk).bals) (v.scAt mk).ref (cleared (v.scAt mk).vals v.origs) w _ (hS2.extR (by repeat (first | assumption | exact Ext.refl _ | refine Ext.alloc ?_ _ | refine Ext.drew ?_ | refine Ext.setB ?_ (by first | omega | (simp only [size_alloc, size_setB, size_drew]; omega)) _ | exact Ext.trans (by assumption) (by assumption) | refine Ext.trans ?_ (by assumption))))) ?_)
                        rintro _ w24 ⟨hE24, W1, q1, hW1, hq1, hsum1, rfl⟩
                        have hz24 := hE24.1
                        have hS11 := hS2.extR hE24
                        have hW1b := wv_bd hW1
                        have hW1l := hW1.1
                        have hok := hwp.at_ k' (by omega)
                        rw [hmk, Int.toNat_natCast] at hok
                        have hso := hok.sum
                        obtain rfl : q1 = 0 := by omega
                        have hWe : W1 = W0 := wv_inj hW1 hW0 (by omega)
                        have hcn1 := cleared_nonneg (v.scAt mk).vals v.origs
                        have hcb1 := cleared_le (v.scAt mk).vals v.origs
                        rw [(scAt_lens v mk).2] at hcb1
                        refine WO_p (PS_move_tuple rfl) ?_
                        refine WO_p (PS_extract_agg rfl rfl) ?_
                        refine WO_p (PS_extract_bool rfl rfl) ?_
                        refine WO_allocG Hvad.zeroValue59 ?_
                        intro b11 v11 hg11 hE11 hH11 hl11
                        try simp only [size_alloc, size_setB, size_drew] at hg11
                        have hzz11 := hE11.1
                        try simp only [size_alloc, size_setB, size_drew] at hzz11
                        replace hH11 : Hb v11 b11 (.cells (ic .u64 [0, 0, 0, 0]) 59 (0, 0)) := hH11
                        first | refine WO_storeW Hvad.sizeOf59 rfl (v := .agg _) rfl (Hb.h (by repeat (first | assumption | exact Hb.newY _ _ | refine Hb.alloc ?_ | refine Hb.drew ?_ | refine Hb.ext (by assumption) ?_ | exact Hb.setSameL (by first | omega | (simp only [size_alloc, size_setB, size_drew]; omega)) | exact Hb.setSame (by assumption) | refine Hb.set (by first | omega | (simp only [size_alloc, size_setB, size_drew]; omega)) ?_ ))) rfl (by first | omega | assumption | rfl | decide | exact Nat.le_refl _ | (simp only [size_ic, Value.cells]; omega) | simp) (by first | omega | assumption | rfl | decide | exact Nat.le_refl _ | (simp only [size_ic, Value.cells]; omega) | simp) (by first | exact oneCell_ic | assumption) ?_ | refine WO_store Hvad.sizeOf59 rfl (v := .agg _) rfl (Hb.h (by repeat (first | assumption | exact Hb.newY _ _ | refine Hb.alloc ?_ | refine Hb.drew ?_ | refine Hb.ext (by assumption) ?_ | exact Hb.setSameL (by first | omega | (simp only [size_alloc, size_setB, size_drew]; omega)) | exact Hb.setSame (by assumption) | refine Hb.set (by first | omega | (simp only [size_alloc, size_setB, size_drew]; omega)) ?_ ))) (by first | omega | assumption | rfl | decide | exact Nat.le_refl _ | (simp only [size_ic, Value.cells]; omega) | simp) (by first | omega | assumption | rfl | decide | exact Nat.le_refl _ | (simp only [size_ic, Value.cells]; omega) | simp) (by first | exact oneCell_ic | assumption) ?_
                        refine WO_p (PS_assign_bool rfl) ?_
                        refine WO_nil ?_
                        refine thn_normal ?_
                        refine W_seq ?_
                        refine W_region rfl ?_
                        refine WO_p (PS_move_bool rfl) ?_
                        refine WO_p (PS_not rfl) ?_
                        refine WO_p (PS_move_bool rfl) ?_
                        refine WO_if (t := 179) rfl (fun hb35 => ?_) (fun hb35 => ?_)
                        · have hb35p := hb35.h; try simp only [al_ete, al_dfn, Bool.not_eq_true', Bool.not_eq_false', al_ne, Bool.not_not, al_nn] at hb35p
                          simp at hb35p --END
                        · have hb35p := hb35.h; try simp only [al_ete, al_dfn, Bool.not_eq_true', Bool.not_eq_false', al_ne, Bool.not_not, al_nn] at hb35p
                          refine WO_guardT rfl rfl hb35.h ?_
                          refine WO_p (PS_move_ptr rfl) ?_
                          refine WO_guardT rfl rfl hb35.h ?_
                          refine WO_p (PS_move_int rfl) ?_
                          refine WO_guardT rfl rfl hb35.h ?_
                          refine WO_loadA _ Hvad.isAgg59 Hvad.sizeOf59 rfl (Hb.h (by repeat (first | assumption | exact Hb.newY _ _ | refine Hb.alloc ?_ | refine Hb.drew ?_ | refine Hb.ext (by assumption) ?_ | exact Hb.setSameL (by first | omega | (simp only [size_alloc, size_setB, size_drew]; omega)) | exact Hb.setSame (by assumption) | refine Hb.set (by first | omega | (simp only [size_alloc, size_setB, size_drew]; omega)) ?_ ))) (by first | omega | assumption | rfl | decide | exact Nat.le_refl _ | (simp only [size_ic, Value.cells]; omega) | simp) (Xt.h (by first | assumption | exact Xt.whole rfl rfl | exact ed3 (by assumption) | exact Xt.whole rfl (by simp only [size_ic, Value.cells]; omega) | exact ⟨rfl⟩)) ?_
                          refine WO_guardT rfl rfl hb35.h ?_
                          refine WO_loadA _ Hvad.isAgg59 Hvad.sizeOf59 rfl (Hb.h (by repeat (first | assumption | exact Hb.newY _ _ | refine Hb.alloc ?_ | refine Hb.drew ?_ | refine Hb.ext (by assumption) ?_ | exact Hb.setSameL (by first | omega | (simp only [size_alloc, size_setB, size_drew]; omega)) | exact Hb.setSame (by assumption) | refine Hb.set (by first | omega | (simp only [size_alloc, size_setB, size_drew]; omega)) ?_ ))) (by first | omega | assumption | rfl | decide | exact Nat.le_refl _ | (simp only [size_ic, Value.cells]; omega) | simp) (Xt.h (by first | assumption | exact Xt.whole rfl rfl | exact ed3 (by assumption) | exact Xt.whole rfl (by simp only [size_ic, Value.cells]; omega) | exact ⟨rfl⟩)) ?_
                          refine WO_guardT rfl rfl hb35.h ?_
                          refine WO_p (PS_move_int rfl) ?_
                          refine WO_guardT rfl rfl hb35.h ?_
                          refine WO_call Hvad.call233 (by rfl) (Ret.mono (weightOK_spec C c v B m D Ba Bv (v.scAt mk).bals (v.scAt mk).vals (sumW (v.scAt mk).bals) (v.scAt mk).ref (cleared (v.scAt mk).vals v.origs) _ W0 W1 (m.txgas - gOf m n) w _ hM (hS11.extR (by repeat (first | assumption | exact Ext.refl _ | refine Ext.alloc ?_ _ | refine Ext.drew ?_ | refine Ext.setB ?_ (by first | omega | (simp only [size_alloc, size_setB, size_drew]; omega)) _ | exact Ext.trans (by assumption) (by assumption) | refine Ext.trans ?_ (by assumption)))) (by omega) hW0 hW1 (fun hp => ⟨hWe, by rw [hWe, hW0s]; exact hwh hp, hk.s0 hp⟩) ⟨by omega, by omega⟩ hok.clr hok.gas (by omega)) ?_)
                          rintro _ w233_35 ⟨rfl, hE233_35⟩
                          have hz233_35 := hE233_35.1
                          try simp only [size_alloc, size_setB, size_drew] at hz233_35
                          refine WO_guardT rfl rfl hb35.h ?_
                          refine WO_p (PS_not rfl) ?_
                          refine WO_p (PS_pickF rfl hb35.h rfl) ?_
                          refine WO_nil ?_
                          refine thn_normal ?_
                          refine W_if rfl (fun hb39 => ?_) (fun hb39 => ?_)
                          · have hb39p := hb39.h; try simp only [al_ete, al_dfn, Bool.not_eq_true', Bool.not_eq_false', al_ne, Bool.not_not, al_nn] at hb39p
                            simp at hb39p --END
                          · have hb39p := hb39.h; try simp only [al_ete, al_dfn, Bool.not_eq_true', Bool.not_eq_false', al_ne, Bool.not_not, al_nn] at hb39p
                            refine W_skip ?_
                            refine inBlk_normal ?_
                            refine thn_normal ?_
                            refine W_region rfl ?_
                            refine WO_p (PS_move_int rfl) ?_
                            refine WO_p (PS_sub_i32n rfl rfl (by omega) (by omega)) ?_
                            refine WO_p (PS_assign_int rfl) ?_
                            refine WO_nil ?_
                            refine thn_normal ?_
                            exact ⟨k', by omega, mk, by omega, by omega, fun j hj => (by have := hk.vi.mm j k' (by omega) (by omega); omega), ⟨rfl, rfl, rfl, rfl, rfl, congrArg (Value.int .i32) (by omega), trivial⟩, hS11.extR (by repeat (first | assumption | exact Ext.refl _ | refine Ext.alloc ?_ _ | refine Ext.drew ?_ | refine Ext.setB ?_ (by first | omega | (simp only [size_alloc, size_setB, size_drew]; omega)) _ | exact Ext.trans (by assumption) (by assumption) | refine Ext.trans ?_ (by assumption))), Hb.mk (Hb.h (by repeat (first | assumption | exact Hb.newY _ _ | refine Hb.alloc ?_ | refine Hb.drew ?_ | refine Hb.ext (by assumption) ?_ | exact Hb.setSameL (by first | omega | (simp only [size_alloc, size_setB, size_drew]; omega)) | exact Hb.setSame (by assumption) | refine Hb.set (by first | omega | (simp only [size_alloc, size_setB, size_drew]; omega)) ?_ )))⟩
              · have hb19p := hb19.h; try simp only [al_ete, al_dfn, Bool.not_eq_true', Bool.not_eq_false', al_ne, Bool.not_not, al_nn] at hb19p
                refine W_exit ?_
                refine thn_exit ?_
                refine thn_exit ?_
                refine inBlk_exit ?_
                refine thn_normal ?_
                refine W_seq ?_
                refine W_region rfl ?_
                refine WO_p (PS_assign_bool rfl) ?_
                refine WO_nil ?_
                refine thn_normal ?_
                refine W_ret ?_
                refine bodyQ_ret1 Hvad.results142 rfl (.bool _) rfl ?_
                exact ⟨rfl, (by repeat (first | assumption | exact Ext.refl _ | refine Ext.alloc ?_ _ | refine Ext.drew ?_ | refine Ext.setB ?_ (by first | omega | (simp only [size_alloc, size_setB, size_drew]; omega)) _ | refine Ext.trans ?_ (by assumption)))⟩

end Go.Proofs.YgvadwGreat
