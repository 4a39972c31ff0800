import Derived.Test.YgvadwGreatLa
namespace Go.Proofs.YgvadwGreat
set_option linter.unusedSimpArgs false
set_option linter.unusedVariables false
theorem encA_addr (x : Acct) (h : x.addr.length = 20) : ((encA x).drop 0).take 20 = x.addr.map (Value.int .u8) := by
  simp [encA, ← h]
theorem encA_len (x : Acct) (h : x.addr.length = 20) (hb : x.bal.length = 4) : (encA x).length = 29 := by simp [encA, h, hb]
theorem encS_len (x : Slot) (h1 : x.key.length = 4) (h2 : x.val.length = 4) (h3 : x.orig.length = 4) : (encS x).length = 14 := by simp [encS, h1, h2, h3]
theorem encS_key (x : Slot) (h : x.key.length = 4) : ((encS x).drop 1).take 4 = x.key.map (Value.int .u64) := by
  simp [encS, ← h]
theorem hit_true {l : List Acct} {A : List Int} {i : Int} {x : Acct} (hx : l[i.toNat]? = some x) : hitA l A i = decide (x.addr = A) := by simp [hitA, hx]
theorem hit_none {l : List Acct} {A : List Int} {i : Int} (hi : (l.length : Int) ≤ i) : hitA l A i = false := by
  unfold hitA
  rw [List.getElem?_eq_none (by omega)]
def hitS (l : List Slot) (a : Int) (K : List Int) (i : Int) : Bool := match l[i.toNat]? with | some x => decide (x.acct = a ∧ x.key = K) | none => false
theorem hitS_true {l : List Slot} {a : Int} {K : List Int} {i : Int} {x : Slot} (hx : l[i.toNat]? = some x) : hitS l a K i = decide (x.acct = a ∧ x.key = K) := by simp [hitS, hx]
theorem hitS_none {l : List Slot} {a : Int} {K : List Int} {i : Int} (hi : (l.length : Int) ≤ i) : hitS l a K i = false := by
  unfold hitS
  rw [List.getElem?_eq_none (by omega)]
def V.findA (v : V) (A : List Int) : Int × Int := probeY v.atab (hitA v.accts A) 4096 4096 (home A).toNat
def V.findS (v : V) (a : Int) (K : List Int) : Int × Int := probeY v.stab (hitS v.slots a K) 4096 4096 (homeS a K).toNat
/-- what a probeY answers -/
theorem probe_range (tab : Nat → Int) (hit : Int → Bool) (m : Nat) (hm : 0 < m) : ∀ f p, p < m → (-1 ≤ (probeY tab hit m f p).1) ∧ (-1 ≤ (probeY tab hit m f p).2) ∧ (probeY tab hit m f p).2 < m ∧ (0 ≤ (probeY tab hit m f p).1 → hit (probeY tab hit m f p).1 = true ∧ (probeY tab hit m f p).2 = -1 ∧ ∃ q, q < m ∧ tab q = (probeY tab hit m f p).1) := by
  intro f
  induction f with
  | zero => intro p hp; simp [probeY]; omega
  | succ f ih =>
    intro p hp
    rw [probeY]
    split
    · simp; omega
    · split
      · rename_i h1 h2
        refine ⟨by simp; omega, by simp, by simp; omega, ?_⟩
        intro _
        exact ⟨h2, rfl, p, hp, rfl⟩
      · exact ih _ (Nat.mod_lt _ hm)

set_option maxRecDepth 10000 in
theorem findAcct_spec (C : Nat) (c : Array Value) (v : V) (B : VB) (β : Option Nat) (A : List Int) (w : World) (hv : VS w C c v B β) (hA : By A 20) : Ret Hvad.prog 75 #[.pointer (some ⟨C, 2435, none⟩), .agg (ic .u8 A)] w fun u w' => u = .tuple #[.int .i32 (v.findA A).1, .int .i32 (v.findA A).2] ∧ Ext w w' := by
  generalize hR : v.findA A = R
  have hhb := home_bd A
  have hAl := hA.1
  refine Ret_of_W Hvad.func75 rfl rfl ?_
  refine W_seq ?_
  refine W_region rfl ?_
  refine WO_box (.agg _) rfl ?_
  refine WO_p (PS_assign_int rfl) ?_
  refine WO_p (PS_assign_int rfl) ?_
  refine WO_nil ?_
  refine thn_normal ?_
  refine W_seq ?_
  refine W_region rfl ?_
  refine WO_loadA _ Hvad.isAgg25 Hvad.sizeOf25 rfl (Hb.h (by repeat (first | assumption | exact Hb.newY _ _ | refine Hb.alloc ?_ | refine Hb.drew ?_ | refine Hb.ext (by assumption) ?_ | exact Hb.setSameL (by first | omega | (simp only [size_alloc, size_setB, size_drew]; omega)) | exact Hb.setSame (by assumption) | refine Hb.set (by first | omega | (simp only [size_alloc, size_setB, size_drew]; omega)) ?_ ))) (by first | omega | assumption | rfl | decide | (simp only [size_ic, Value.cells]; omega) | simp) (Xt.h (by first | assumption | exact Xt.whole rfl rfl | exact Xt.whole rfl (by simp only [size_ic, Value.cells]; omega) | exact ⟨rfl⟩)) ?_
  refine WO_call Hvad.call125 (by rfl) (Ret.mono (acctHome_spec A _ hA) ?_)
  rintro v1 w1 ⟨rfl, hE1⟩
  have hB1 : Hb w1 w.heap.size (.cells (ic .u8 A) 25 (0, 0)) := Hb.ext hE1 (Hb.newY _ _)
  replace hE1 : Ext w w1 := Ext.trans (Ext.alloc (Ext.refl w) _) hE1
  refine WO_p (PS_assign_int rfl) ?_
  refine WO_nil ?_
  refine thn_normal ?_
  refine W_seq ?_
  refine W_seq ?_
  refine W_region rfl ?_
  refine WO_p (PS_assign_int rfl) ?_
  refine WO_nil ?_
  refine thn_normal ?_
  refine W_block ?_
  refine W_loopN (fun m ρ w' => ∃ t p : Nat, m + t = 4096 ∧ p < 4096 ∧ probeY v.atab (hitA v.accts A) 4096 m p = R ∧ Fr [(0, .pointer (some ⟨C, 2435, none⟩)), (3, .pointer (some ⟨w.heap.size, 0, none⟩)), (6, .int .u32 p), (7, .int .i64 t)] ρ ∧ Ext w w' ∧ Hb w' w.heap.size (.cells (ic .u8 A) 25 (0, 0))) 4096 ?_ ?_
  · exact ⟨0, (home A).toNat, rfl, by omega, hR, ⟨rfl, rfl, congrArg (Value.int .u32) (by omega), rfl, trivial⟩, hE1, hB1⟩
  clear hE1 hB1 hR
  intro m ρ w2 hI
  obtain ⟨t, p, hmt, hp4, hpr, hF, hE2, hB2⟩ := hI
  refine W_env _ hF ?_
  have hv2 := hv.ext hE2
  have hat := hv2.rep.atab p hp4
  obtain ⟨hat0, hat1⟩ := hv2.ty.atab p
  have hlenb : Ce c 2435 (.slice (slp B.a) v.accts.length (slc B.a)) := hv2.rep.accts
  have hblk := hv2.blk
  have hlen4 := hv2.ty.la
  refine W_seq ?_
  refine W_seq ?_
  refine W_region rfl ?_
  refine WO_p (PS_move_int rfl) ?_
  refine WO_p (PS_lss rfl rfl) ?_
  refine WO_nil ?_
  refine thn_normal ?_
  refine W_if rfl (fun hb3 => ?_) (fun hb3 => ?_)
  · have hb3p := hb3.h; simp only [al_ete, al_dfn, Bool.not_eq_true', Bool.not_eq_false', al_ne, Bool.not_not, al_nn] at hb3p
    refine W_skip ?_
    refine thn_normal ?_
    refine W_seq ?_
    refine W_block ?_
    refine W_seq ?_
    refine W_region rfl ?_
    refine WO_p (PS_move_ptr rfl) ?_
    refine WO_p (PS_move_int rfl) ?_
    refine WO_p (PS_nilCheck rfl) ?_
    refine WO_p (PS_fieldAddr 2 Hvad.runUnderlying79 rfl Hvad.sizeOf72 rfl rfl) ?_
    refine WO_p (PS_indexA Hvad.runUnderlying72 Hvad.sizeOf21 rfl rfl (by omega) (by omega)) ?_
    refine WO_load (.int _ _) Hvad.isAgg21 rfl (Hb.h (by repeat (first | assumption | exact Hb.newY _ _ | refine Hb.alloc ?_ | refine Hb.drew ?_ | refine Hb.ext (by assumption) ?_ | exact Hb.setSameL (by first | omega | (simp only [size_alloc, size_setB, size_drew]; omega)) | exact Hb.setSame (by assumption) | refine Hb.set (by first | omega | (simp only [size_alloc, size_setB, size_drew]; omega)) ?_ ))) (Ce.h (by first | assumption | exact ⟨rfl⟩)) ?_
    refine WO_p (PS_assign_int rfl) ?_
    refine WO_nil ?_
    refine thn_normal ?_
    refine W_seq ?_
    refine W_seq ?_
    refine W_region rfl ?_
    refine WO_p (PS_move_int rfl) ?_
    refine WO_p (PS_lss rfl rfl) ?_
    refine WO_nil ?_
    refine thn_normal ?_
    refine W_if rfl (fun hb5 => ?_) (fun hb5 => ?_)
    · have hb5p := hb5.h; simp only [al_ete, al_dfn, Bool.not_eq_true', Bool.not_eq_false', al_ne, Bool.not_not, al_nn] at hb5p
      refine W_seq ?_
      refine W_region rfl ?_
      refine WO_p (PS_move_int rfl) ?_
      refine WO_p (PS_conv_i32n Hvad.runUnderlying54 Hvad.runUnderlying21 rfl (by omega) (by omega)) ?_
      refine WO_p (PS_assign_int rfl) ?_
      refine WO_p (PS_assign_int rfl) ?_
      refine WO_nil ?_
      refine thn_normal ?_
      refine W_ret ?_
      refine thn_ret ?_
      refine inBlk_ret ?_
      refine thn_ret ?_
      refine thn_ret ?_
      refine inBlk_ret ?_
      refine thn_ret ?_
      refine bodyQ_ret2 Hvad.results75 rfl rfl (.int _ _) (.int _ _) rfl rfl ?_
      first
      | (obtain ⟨m', rfl⟩ : ∃ m', m = m' + 1 := ⟨m - 1, by omega⟩; rw [← hpr, probeY, if_pos hb5p]; exact ⟨rfl, by first | exact hE2 | exact hE2.drew⟩)
      | (obtain ⟨m', rfl⟩ : ∃ m', m = m' + 1 := ⟨m - 1, by omega⟩; rw [← hpr, probeY, if_neg hb5p, if_pos hh]; exact ⟨rfl, hE2.drew⟩)
      | (have hm0 : m = 0 := by omega
         subst hm0; rw [← hpr, probeY]; exact ⟨rfl, hE2⟩)
    · have hb5p := hb5.h; simp only [al_ete, al_dfn, Bool.not_eq_true', Bool.not_eq_false', al_ne, Bool.not_not, al_nn] at hb5p
      refine W_skip ?_
      refine thn_normal ?_
      refine W_seq ?_
      refine W_seq ?_
      refine W_drawE [false, false, false, false, false, false, false, false, false, false, false, false, false, false, false, false, false, false, false, false] hmix (by kernel_rfl) rfl ?_
      refine WH_p (PS_move_int rfl) rfl ?_
      refine WH_p (PS_conv_i64n Hvad.runUnderlying21 Hvad.runUnderlying3 rfl (by omega) (by omega)) rfl ?_
      refine WH_p (PS_move_ptr rfl) rfl ?_
      refine WH_p (PS_nilCheck rfl) rfl ?_
      refine WH_p (PS_fieldAddr 0 Hvad.runUnderlying79 rfl Hvad.sizeOf70 rfl rfl) rfl ?_
      refine WH_load (.slice _ _ _) Hvad.isAgg70 rfl (Hb.h (by repeat (first | assumption | exact Hb.newY _ _ | refine Hb.alloc ?_ | refine Hb.drew ?_ | refine Hb.ext (by assumption) ?_ | exact Hb.setSameL (by first | omega | (simp only [size_alloc, size_setB, size_drew]; omega)) | exact Hb.setSame (by assumption) | refine Hb.set (by first | omega | (simp only [size_alloc, size_setB, size_drew]; omega)) ?_ ))) (Ce.h (by first | assumption | exact ⟨rfl⟩)) ?_
      refine WH_p (PS_lenS Hvad.runUnderlying70 rfl) rfl ?_
      refine WH_p (PS_lss rfl rfl) rfl ?_
      refine WH_p (PS_move_bool rfl) rfl ?_
      refine WH_if (t := 33) rfl (fun hb7 => ?_) (fun hb7 => ?_)
      · have hb7p := hb7.h; simp only [al_ete, al_dfn, Bool.not_eq_true', Bool.not_eq_false', al_ne, Bool.not_not, al_nn] at hb7p
        obtain ⟨x, hx⟩ : ∃ x, v.accts[(v.atab p).toNat]? = some x := ⟨_, List.getElem?_eq_getElem (by omega)⟩
        obtain ⟨b, cap, r, hab, hcap, hr, hrs, hrow⟩ := hv2.rows.accts.some hx
        have hty := hv2.ty.accts x (List.mem_of_getElem? hx)
        clear hlenb
        have hlenb : Ce c 2435 (.slice (some ⟨b, 0, none⟩) v.accts.length cap) := by have := hv2.rep.accts; rw [hab] at this; exact this
        have hx20 := hty.1.1
        have hadr := hrow.ext hx (k := 0) (n := 20) (by decide) (encA_addr x hty.1.1) (encA_len x hty.1.1 hty.2.2.1)
        change Xt r _ _ (ic .u8 x.addr) at hadr
        have hadrl := hrow.bd hx
        refine WH_guardT rfl rfl hb7.h ?_
        refine WH_p (PS_move_ptr rfl) rfl ?_
        refine WH_guardT rfl rfl hb7.h ?_
        refine WH_p (PS_nilCheck rfl) rfl ?_
        refine WH_guardT rfl rfl hb7.h ?_
        refine WH_p (PS_fieldAddr 0 Hvad.runUnderlying79 rfl Hvad.sizeOf70 rfl rfl) rfl ?_
        refine WH_guardT rfl rfl hb7.h ?_
        refine WH_load (.slice _ _ _) Hvad.isAgg70 rfl (Hb.h (by repeat (first | assumption | exact Hb.newY _ _ | refine Hb.alloc ?_ | refine Hb.drew ?_ | refine Hb.ext (by assumption) ?_ | exact Hb.setSameL (by first | omega | (simp only [size_alloc, size_setB, size_drew]; omega)) | exact Hb.setSame (by assumption) | refine Hb.set (by first | omega | (simp only [size_alloc, size_setB, size_drew]; omega)) ?_ ))) (Ce.h (by first | assumption | exact ⟨rfl⟩)) ?_
        refine WH_guardT rfl rfl hb7.h ?_
        refine WH_p (PS_move_int rfl) rfl ?_
        refine WH_guardT rfl rfl hb7.h ?_
        refine WH_p (PS_indexS Hvad.runUnderlying70 Hvad.sizeOf149 rfl rfl (by omega) (by omega)) rfl ?_
        refine WH_guardT rfl rfl hb7.h ?_
        refine WH_p (PS_fieldAddr 0 Hvad.runUnderlying149 rfl Hvad.sizeOf25 rfl rfl) rfl ?_
        refine WH_guardT rfl rfl hb7.h ?_
        refine WH_loadA _ Hvad.isAgg25 Hvad.sizeOf25 rfl (Hb.h (by repeat (first | assumption | exact Hb.newY _ _ | refine Hb.alloc ?_ | refine Hb.drew ?_ | refine Hb.ext (by assumption) ?_ | exact Hb.setSameL (by first | omega | (simp only [size_alloc, size_setB, size_drew]; omega)) | exact Hb.setSame (by assumption) | refine Hb.set (by first | omega | (simp only [size_alloc, size_setB, size_drew]; omega)) ?_ ))) (by first | omega | assumption | rfl | decide | (simp only [size_ic, Value.cells]; omega) | simp) (Xt.h (by first | assumption | exact Xt.whole rfl rfl | exact Xt.whole rfl (by simp only [size_ic, Value.cells]; omega) | exact ⟨rfl⟩)) ?_
        refine WH_guardT rfl rfl hb7.h ?_
        refine WH_loadA _ Hvad.isAgg25 Hvad.sizeOf25 rfl (Hb.h (by repeat (first | assumption | exact Hb.newY _ _ | refine Hb.alloc ?_ | refine Hb.drew ?_ | refine Hb.ext (by assumption) ?_ | exact Hb.setSameL (by first | omega | (simp only [size_alloc, size_setB, size_drew]; omega)) | exact Hb.setSame (by assumption) | refine Hb.set (by first | omega | (simp only [size_alloc, size_setB, size_drew]; omega)) ?_ ))) (by first | omega | assumption | rfl | decide | (simp only [size_ic, Value.cells]; omega) | simp) (Xt.h (by first | assumption | exact Xt.whole rfl rfl | exact Xt.whole rfl (by simp only [size_ic, Value.cells]; omega) | exact ⟨rfl⟩)) ?_
        refine WH_guardT rfl rfl hb7.h ?_
        refine WH_p (PS_eqlA Hvad.underlying25 Hvad.underlying5 Hvad.sizeOf5 Hvad.eqGuardType25 rfl rfl (by first | omega | assumption | rfl | decide | (simp only [size_ic, Value.cells]; omega) | simp) (by first | omega | assumption | rfl | decide | (simp only [size_ic, Value.cells]; omega) | simp)) rfl ?_
        refine WH_p (PS_pickT rfl hb7.h rfl) rfl ?_
        refine WH_nil ?_
        refine thn_normal ?_
        refine W_if rfl (fun hb9 => ?_) (fun hb9 => ?_)
        · have hb9p := hb9.h; simp only [al_ete, al_dfn, Bool.not_eq_true', Bool.not_eq_false', al_ne, Bool.not_not, al_nn] at hb9p
          have hh : hitA v.accts A (v.atab p) = true := by rw [hit_true hx]; exact al_et hb9p
          refine W_seq ?_
          refine W_region rfl ?_
          refine WO_p (PS_move_int rfl) ?_
          refine WO_p (PS_assign_int rfl) ?_
          refine WO_p (PS_assign_int rfl) ?_
          refine WO_nil ?_
          refine thn_normal ?_
          refine W_ret ?_
          refine thn_ret ?_
          refine inBlk_ret ?_
          refine thn_ret ?_
          refine thn_ret ?_
          refine inBlk_ret ?_
          refine thn_ret ?_
          refine bodyQ_ret2 Hvad.results75 rfl rfl (.int _ _) (.int _ _) rfl rfl ?_
          first
          | (obtain ⟨m', rfl⟩ : ∃ m', m = m' + 1 := ⟨m - 1, by omega⟩; rw [← hpr, probeY, if_pos hb5p]; exact ⟨rfl, by first | exact hE2 | exact hE2.drew⟩)
          | (obtain ⟨m', rfl⟩ : ∃ m', m = m' + 1 := ⟨m - 1, by omega⟩; rw [← hpr, probeY, if_neg hb5p, if_pos hh]; exact ⟨rfl, hE2.drew⟩)
          | (have hm0 : m = 0 := by omega
             subst hm0; rw [← hpr, probeY]; exact ⟨rfl, hE2⟩)
        · have hb9p := hb9.h; simp only [al_ete, al_dfn, Bool.not_eq_true', Bool.not_eq_false', al_ne, Bool.not_not, al_nn] at hb9p
          have hh : hitA v.accts A (v.atab p) = false := by rw [hit_true hx]; exact al_ef hb9p
          refine W_skip ?_
          refine thn_normal ?_
          refine W_region rfl ?_
          refine WO_p (PS_move_int rfl) ?_
          refine WO_p (PS_add_u32n rfl rfl (by omega) (by omega)) ?_
          refine WO_p (PS_rem_u32 rfl rfl (by omega) (by omega)) ?_
          refine WO_p (PS_assign_int rfl) ?_
          refine WO_nil ?_
          refine inBlk_normal ?_
          refine thn_normal ?_
          refine W_region rfl ?_
          refine WO_p (PS_move_int rfl) ?_
          refine WO_p (PS_add_i64n rfl rfl (by omega) (by omega)) ?_
          refine WO_p (PS_assign_int rfl) ?_
          refine WO_nil ?_
          refine thn_normal ?_
          obtain ⟨m', rfl⟩ : ∃ m', m = m' + 1 := ⟨m - 1, by omega⟩
          refine ⟨m', by omega, t + 1, (p + 1) % 4096, by omega, by omega, ?_, ⟨rfl, rfl, congrArg (Value.int .u32) (by omega), congrArg (Value.int .i64) (by omega), trivial⟩, hE2.drew, hB2.drew⟩
          rw [← hpr, probeY, if_neg hb5p, if_neg (by rw [hh]; decide)]
      · have hb7p := hb7.h; simp only [al_ete, al_dfn, Bool.not_eq_true', Bool.not_eq_false', al_ne, Bool.not_not, al_nn] at hb7p
        have hh : hitA v.accts A (v.atab p) = false := hit_none (by omega)
        refine WH_guardF rfl rfl hb7.h ?_
        refine WH_guardF rfl rfl hb7.h ?_
        refine WH_guardF rfl rfl hb7.h ?_
        refine WH_guardF rfl rfl hb7.h ?_
        refine WH_guardF rfl rfl hb7.h ?_
        refine WH_guardF rfl rfl hb7.h ?_
        refine WH_guardF rfl rfl hb7.h ?_
        refine WH_guardF rfl rfl hb7.h ?_
        refine WH_guardF rfl rfl hb7.h ?_
        refine WH_guardF rfl rfl hb7.h ?_
        refine WH_p (PS_pickF rfl hb7.h rfl) rfl ?_
        refine WH_nil ?_
        refine thn_normal ?_
        refine W_condF rfl rfl ?_
        refine W_skip ?_
        refine thn_normal ?_
        refine W_region rfl ?_
        refine WO_p (PS_move_int rfl) ?_
        refine WO_p (PS_add_u32n rfl rfl (by omega) (by omega)) ?_
        refine WO_p (PS_rem_u32 rfl rfl (by omega) (by omega)) ?_
        refine WO_p (PS_assign_int rfl) ?_
        refine WO_nil ?_
        refine inBlk_normal ?_
        refine thn_normal ?_
        refine W_region rfl ?_
        refine WO_p (PS_move_int rfl) ?_
        refine WO_p (PS_add_i64n rfl rfl (by omega) (by omega)) ?_
        refine WO_p (PS_assign_int rfl) ?_
        refine WO_nil ?_
        refine thn_normal ?_
        obtain ⟨m', rfl⟩ : ∃ m', m = m' + 1 := ⟨m - 1, by omega⟩
        refine ⟨m', by omega, t + 1, (p + 1) % 4096, by omega, by omega, ?_, ⟨rfl, rfl, congrArg (Value.int .u32) (by omega), congrArg (Value.int .i64) (by omega), trivial⟩, hE2.drew, hB2.drew⟩
        rw [← hpr, probeY, if_neg hb5p, if_neg (by rw [hh]; decide)]
  · have hb3p := hb3.h; simp only [al_ete, al_dfn, Bool.not_eq_true', Bool.not_eq_false', al_ne, Bool.not_not, al_nn] at hb3p
    refine W_exit ?_
    refine thn_exit ?_
    refine thn_exit ?_
    refine inBlk_exit ?_
    refine thn_normal ?_
    refine W_seq ?_
    refine W_region rfl ?_
    refine WO_p (PS_assign_int rfl) ?_
    refine WO_p (PS_assign_int rfl) ?_
    refine WO_nil ?_
    refine thn_normal ?_
    refine W_ret ?_
    refine bodyQ_ret2 Hvad.results75 rfl rfl (.int _ _) (.int _ _) rfl rfl ?_
    first
    | (obtain ⟨m', rfl⟩ : ∃ m', m = m' + 1 := ⟨m - 1, by omega⟩; rw [← hpr, probeY, if_pos hb5p]; exact ⟨rfl, by first | exact hE2 | exact hE2.drew⟩)
    | (obtain ⟨m', rfl⟩ : ∃ m', m = m' + 1 := ⟨m - 1, by omega⟩; rw [← hpr, probeY, if_neg hb5p, if_pos hh]; exact ⟨rfl, hE2.drew⟩)
    | (have hm0 : m = 0 := by omega
       subst hm0; rw [← hpr, probeY]; exact ⟨rfl, hE2⟩)

set_option maxRecDepth 10000 in
theorem findSlot_spec (C : Nat) (c : Array Value) (v : V) (B : VB) (β : Option Nat) (a : Int) (K : List Int) (w : World) (hv : VS w C c v B β) (ha : I32 a) (hK : Wd K) : Ret Hvad.prog 115 #[.pointer (some ⟨C, 2435, none⟩), .int .i32 a, .agg (ic .u64 K)] w fun u w' => u = .tuple #[.int .i32 (v.findS a K).1, .int .i32 (v.findS a K).2] ∧ Ext w w' := by
  generalize hR : v.findS a K = R
  have hhb := homeS_bd a K
  have hKl := hK.1
  refine Ret_of_W Hvad.func115 rfl rfl ?_
  refine W_seq ?_
  refine W_region rfl ?_
  refine WO_box (.agg _) rfl ?_
  refine WO_p (PS_assign_int rfl) ?_
  refine WO_p (PS_assign_int rfl) ?_
  refine WO_nil ?_
  refine thn_normal ?_
  refine W_seq ?_
  refine W_region rfl ?_
  refine WO_p (PS_move_int rfl) ?_
  refine WO_loadA _ Hvad.isAgg59 Hvad.sizeOf59 rfl (Hb.h (by repeat (first | assumption | exact Hb.newY _ _ | refine Hb.alloc ?_ | refine Hb.drew ?_ | refine Hb.ext (by assumption) ?_ | exact Hb.setSameL (by first | omega | (simp only [size_alloc, size_setB, size_drew]; omega)) | exact Hb.setSame (by assumption) | refine Hb.set (by first | omega | (simp only [size_alloc, size_setB, size_drew]; omega)) ?_ ))) (by first | omega | assumption | rfl | decide | (simp only [size_ic, Value.cells]; omega) | simp) (Xt.h (by first | assumption | exact Xt.whole rfl rfl | exact Xt.whole rfl (by simp only [size_ic, Value.cells]; omega) | exact ⟨rfl⟩)) ?_
  refine WO_call Hvad.call217 (by rfl) (Ret.mono (slotHome_spec a K _ ha hK) ?_)
  rintro v1 w1 ⟨rfl, hE1⟩
  have hB1 : Hb w1 w.heap.size (.cells (ic .u64 K) 59 (0, 0)) := Hb.ext hE1 (Hb.newY _ _)
  replace hE1 : Ext w w1 := Ext.trans (Ext.alloc (Ext.refl w) _) hE1
  refine WO_p (PS_assign_int rfl) ?_
  refine WO_nil ?_
  refine thn_normal ?_
  refine W_seq ?_
  refine W_seq ?_
  refine W_region rfl ?_
  refine WO_p (PS_assign_int rfl) ?_
  refine WO_nil ?_
  refine thn_normal ?_
  refine W_block ?_
  refine W_loopN (fun m ρ w' => ∃ t p : Nat, m + t = 4096 ∧ p < 4096 ∧ probeY v.stab (hitS v.slots a K) 4096 m p = R ∧ Fr [(0, .pointer (some ⟨C, 2435, none⟩)), (1, .int .i32 a), (5, .pointer (some ⟨w.heap.size, 0, none⟩)), (8, .int .u32 p), (9, .int .i64 t)] ρ ∧ Ext w w' ∧ Hb w' w.heap.size (.cells (ic .u64 K) 59 (0, 0))) 4096 ?_ ?_
  · exact ⟨0, (homeS a K).toNat, rfl, by omega, hR, ⟨rfl, rfl, rfl, congrArg (Value.int .u32) (by omega), rfl, trivial⟩, hE1, hB1⟩
  clear hE1 hB1 hR
  intro m ρ w2 hI
  obtain ⟨t, p, hmt, hp4, hpr, hF, hE2, hB2⟩ := hI
  refine W_env _ hF ?_
  have hv2 := hv.ext hE2
  have hat := hv2.rep.stab p hp4
  obtain ⟨hat0, hat1⟩ := hv2.ty.stab p
  have hlenb : Ce c 2436 (.slice (slp B.s) v.slots.length (slc B.s)) := hv2.rep.slots
  have hblk := hv2.blk
  have hlen4 := hv2.ty.ls
  refine W_seq ?_
  refine W_seq ?_
  refine W_region rfl ?_
  refine WO_p (PS_move_int rfl) ?_
  refine WO_p (PS_lss rfl rfl) ?_
  refine WO_nil ?_
  refine thn_normal ?_
  refine W_if rfl (fun hb3 => ?_) (fun hb3 => ?_)
  · have hb3p := hb3.h; simp only [al_ete, al_dfn, Bool.not_eq_true', Bool.not_eq_false', al_ne, Bool.not_not, al_nn] at hb3p
    refine W_skip ?_
    refine thn_normal ?_
    refine W_seq ?_
    refine W_block ?_
    refine W_seq ?_
    refine W_region rfl ?_
    refine WO_p (PS_move_ptr rfl) ?_
    refine WO_p (PS_move_int rfl) ?_
    refine WO_p (PS_nilCheck rfl) ?_
    refine WO_p (PS_fieldAddr 4098 Hvad.runUnderlying79 rfl Hvad.sizeOf72 rfl rfl) ?_
    refine WO_p (PS_indexA Hvad.runUnderlying72 Hvad.sizeOf21 rfl rfl (by omega) (by omega)) ?_
    refine WO_load (.int _ _) Hvad.isAgg21 rfl (Hb.h (by repeat (first | assumption | exact Hb.newY _ _ | refine Hb.alloc ?_ | refine Hb.drew ?_ | refine Hb.ext (by assumption) ?_ | exact Hb.setSameL (by first | omega | (simp only [size_alloc, size_setB, size_drew]; omega)) | exact Hb.setSame (by assumption) | refine Hb.set (by first | omega | (simp only [size_alloc, size_setB, size_drew]; omega)) ?_ ))) (Ce.h (by first | assumption | exact ⟨rfl⟩)) ?_
    refine WO_p (PS_assign_int rfl) ?_
    refine WO_nil ?_
    refine thn_normal ?_
    refine W_seq ?_
    refine W_seq ?_
    refine W_region rfl ?_
    refine WO_p (PS_move_int rfl) ?_
    refine WO_p (PS_lss rfl rfl) ?_
    refine WO_nil ?_
    refine thn_normal ?_
    refine W_if rfl (fun hb5 => ?_) (fun hb5 => ?_)
    · have hb5p := hb5.h; simp only [al_ete, al_dfn, Bool.not_eq_true', Bool.not_eq_false', al_ne, Bool.not_not, al_nn] at hb5p
      have hneg := hb5p
      refine W_seq ?_
      refine W_region rfl ?_
      refine WO_p (PS_move_int rfl) ?_
      refine WO_p (PS_conv_i32n Hvad.runUnderlying54 Hvad.runUnderlying21 rfl (by omega) (by omega)) ?_
      refine WO_p (PS_assign_int rfl) ?_
      refine WO_p (PS_assign_int rfl) ?_
      refine WO_nil ?_
      refine thn_normal ?_
      refine W_ret ?_
      refine thn_ret ?_
      refine inBlk_ret ?_
      refine thn_ret ?_
      refine thn_ret ?_
      refine inBlk_ret ?_
      refine thn_ret ?_
      refine bodyQ_ret2 Hvad.results115 rfl rfl (.int _ _) (.int _ _) rfl rfl ?_
      first
      | (obtain ⟨m', rfl⟩ : ∃ m', m = m' + 1 := ⟨m - 1, by omega⟩; rw [← hpr, probeY, if_pos hneg]; exact ⟨rfl, by first | exact hE2 | exact hE2.drew⟩)
      | (obtain ⟨m', rfl⟩ : ∃ m', m = m' + 1 := ⟨m - 1, by omega⟩; rw [← hpr, probeY, if_neg hneg, if_pos hh]; exact ⟨rfl, hE2.drew⟩)
      | (have hm0 : m = 0 := by omega
         subst hm0; rw [← hpr, probeY]; exact ⟨rfl, hE2⟩)
    · have hb5p := hb5.h; simp only [al_ete, al_dfn, Bool.not_eq_true', Bool.not_eq_false', al_ne, Bool.not_not, al_nn] at hb5p
      have hneg := hb5p
      refine W_skip ?_
      refine thn_normal ?_
      refine W_seq ?_
      refine W_seq ?_
      refine W_drawE [false, false, false, false, false, false, false, false, false, false, false, false, false, false, false, false, false, false, false, false, false, false, false, false, false, false, false, false, false, false, false, false] hmix (by kernel_rfl) rfl ?_
      refine WH_p (PS_move_int rfl) rfl ?_
      refine WH_p (PS_conv_i64n Hvad.runUnderlying21 Hvad.runUnderlying3 rfl (by omega) (by omega)) rfl ?_
      refine WH_p (PS_move_ptr rfl) rfl ?_
      refine WH_p (PS_nilCheck rfl) rfl ?_
      refine WH_p (PS_fieldAddr 1 Hvad.runUnderlying79 rfl Hvad.sizeOf71 rfl rfl) rfl ?_
      refine WH_load (.slice _ _ _) Hvad.isAgg71 rfl (Hb.h (by repeat (first | assumption | exact Hb.newY _ _ | refine Hb.alloc ?_ | refine Hb.drew ?_ | refine Hb.ext (by assumption) ?_ | exact Hb.setSameL (by first | omega | (simp only [size_alloc, size_setB, size_drew]; omega)) | exact Hb.setSame (by assumption) | refine Hb.set (by first | omega | (simp only [size_alloc, size_setB, size_drew]; omega)) ?_ ))) (Ce.h (by first | assumption | exact ⟨rfl⟩)) ?_
      refine WH_p (PS_lenS Hvad.runUnderlying71 rfl) rfl ?_
      refine WH_p (PS_lss rfl rfl) rfl ?_
      refine WH_p (PS_move_bool rfl) rfl ?_
      refine WH_if (t := 36) rfl (fun hb7 => ?_) (fun hb7 => ?_)
      · have hb7p := hb7.h; simp only [al_ete, al_dfn, Bool.not_eq_true', Bool.not_eq_false', al_ne, Bool.not_not, al_nn] at hb7p
        obtain ⟨x, hx⟩ : ∃ x, v.slots[(v.stab p).toNat]? = some x := ⟨_, List.getElem?_eq_getElem (by omega)⟩
        obtain ⟨b, cap, r, hab, hcap, hr, hrs, hrow⟩ := hv2.rows.slots.some hx
        have hty := hv2.ty.slots x (List.mem_of_getElem? hx)
        clear hlenb
        have hlenb : Ce c 2436 (.slice (some ⟨b, 0, none⟩) v.slots.length cap) := by have := hv2.rep.slots; rw [hab] at this; exact this
        have hx4 := hty.2.1.1
        have hacc := hrow.get hx (k := 0) (by decide) (v := .int .i32 x.acct) rfl
        have hadr := hrow.ext hx (k := 1) (n := 4) (by decide) (encS_key x hty.2.1.1) (encS_len x hty.2.1.1 hty.2.2.1.1 hty.2.2.2.1)
        change Xt r _ _ (ic .u64 x.key) at hadr
        have hadrl := hrow.bd hx
        refine WH_guardT rfl rfl hb7.h ?_
        refine WH_p (PS_move_ptr rfl) rfl ?_
        refine WH_guardT rfl rfl hb7.h ?_
        refine WH_p (PS_nilCheck rfl) rfl ?_
        refine WH_guardT rfl rfl hb7.h ?_
        refine WH_p (PS_fieldAddr 1 Hvad.runUnderlying79 rfl Hvad.sizeOf71 rfl rfl) rfl ?_
        refine WH_guardT rfl rfl hb7.h ?_
        refine WH_load (.slice _ _ _) Hvad.isAgg71 rfl (Hb.h (by repeat (first | assumption | exact Hb.newY _ _ | refine Hb.alloc ?_ | refine Hb.drew ?_ | refine Hb.ext (by assumption) ?_ | exact Hb.setSameL (by first | omega | (simp only [size_alloc, size_setB, size_drew]; omega)) | exact Hb.setSame (by assumption) | refine Hb.set (by first | omega | (simp only [size_alloc, size_setB, size_drew]; omega)) ?_ ))) (Ce.h (by first | assumption | exact ⟨rfl⟩)) ?_
        refine WH_guardT rfl rfl hb7.h ?_
        refine WH_p (PS_move_int rfl) rfl ?_
        refine WH_guardT rfl rfl hb7.h ?_
        refine WH_p (PS_indexS Hvad.runUnderlying71 Hvad.sizeOf152 rfl rfl (by omega) (by omega)) rfl ?_
        refine WH_guardT rfl rfl hb7.h ?_
        refine WH_p (PS_fieldAddr 0 Hvad.runUnderlying152 rfl Hvad.sizeOf21 rfl rfl) rfl ?_
        refine WH_guardT rfl rfl hb7.h ?_
        refine WH_load (.int _ _) Hvad.isAgg21 rfl (Hb.h (by repeat (first | assumption | exact Hb.newY _ _ | refine Hb.alloc ?_ | refine Hb.drew ?_ | refine Hb.ext (by assumption) ?_ | exact Hb.setSameL (by first | omega | (simp only [size_alloc, size_setB, size_drew]; omega)) | exact Hb.setSame (by assumption) | refine Hb.set (by first | omega | (simp only [size_alloc, size_setB, size_drew]; omega)) ?_ ))) (Ce.h (by first | assumption | exact ⟨rfl⟩)) ?_
        refine WH_guardT rfl rfl hb7.h ?_
        refine WH_p (PS_move_int rfl) rfl ?_
        refine WH_guardT rfl rfl hb7.h ?_
        refine WH_p (PS_eql rfl rfl) rfl ?_
        refine WH_p (PS_pickT rfl hb7.h rfl) rfl ?_
        refine WH_p (PS_move_bool rfl) rfl ?_
        refine WH_if (t := 48) rfl (fun hb9 => ?_) (fun hb9 => ?_)
        · have hb9p := hb9.h; simp only [al_ete, al_dfn, Bool.not_eq_true', Bool.not_eq_false', al_ne, Bool.not_not, al_nn] at hb9p
          have hac := hb9p
          refine WH_guardT rfl rfl hb9.h ?_
          refine WH_p (PS_move_ptr rfl) rfl ?_
          refine WH_guardT rfl rfl hb9.h ?_
          refine WH_p (PS_nilCheck rfl) rfl ?_
          refine WH_guardT rfl rfl hb9.h ?_
          refine WH_p (PS_fieldAddr 1 Hvad.runUnderlying79 rfl Hvad.sizeOf71 rfl rfl) rfl ?_
          refine WH_guardT rfl rfl hb9.h ?_
          refine WH_load (.slice _ _ _) Hvad.isAgg71 rfl (Hb.h (by repeat (first | assumption | exact Hb.newY _ _ | refine Hb.alloc ?_ | refine Hb.drew ?_ | refine Hb.ext (by assumption) ?_ | exact Hb.setSameL (by first | omega | (simp only [size_alloc, size_setB, size_drew]; omega)) | exact Hb.setSame (by assumption) | refine Hb.set (by first | omega | (simp only [size_alloc, size_setB, size_drew]; omega)) ?_ ))) (Ce.h (by first | assumption | exact ⟨rfl⟩)) ?_
          refine WH_guardT rfl rfl hb9.h ?_
          refine WH_p (PS_move_int rfl) rfl ?_
          refine WH_guardT rfl rfl hb9.h ?_
          refine WH_p (PS_indexS Hvad.runUnderlying71 Hvad.sizeOf152 rfl rfl (by omega) (by omega)) rfl ?_
          refine WH_guardT rfl rfl hb9.h ?_
          refine WH_p (PS_fieldAddr 1 Hvad.runUnderlying152 rfl Hvad.sizeOf59 rfl rfl) rfl ?_
          refine WH_guardT rfl rfl hb9.h ?_
          refine WH_loadA _ Hvad.isAgg59 Hvad.sizeOf59 rfl (Hb.h (by repeat (first | assumption | exact Hb.newY _ _ | refine Hb.alloc ?_ | refine Hb.drew ?_ | refine Hb.ext (by assumption) ?_ | exact Hb.setSameL (by first | omega | (simp only [size_alloc, size_setB, size_drew]; omega)) | exact Hb.setSame (by assumption) | refine Hb.set (by first | omega | (simp only [size_alloc, size_setB, size_drew]; omega)) ?_ ))) (by first | omega | assumption | rfl | decide | (simp only [size_ic, Value.cells]; omega) | simp) (Xt.h (by first | assumption | exact Xt.whole rfl rfl | exact Xt.whole rfl (by simp only [size_ic, Value.cells]; omega) | exact ⟨rfl⟩)) ?_
          refine WH_guardT rfl rfl hb9.h ?_
          refine WH_loadA _ Hvad.isAgg59 Hvad.sizeOf59 rfl (Hb.h (by repeat (first | assumption | exact Hb.newY _ _ | refine Hb.alloc ?_ | refine Hb.drew ?_ | refine Hb.ext (by assumption) ?_ | exact Hb.setSameL (by first | omega | (simp only [size_alloc, size_setB, size_drew]; omega)) | exact Hb.setSame (by assumption) | refine Hb.set (by first | omega | (simp only [size_alloc, size_setB, size_drew]; omega)) ?_ ))) (by first | omega | assumption | rfl | decide | (simp only [size_ic, Value.cells]; omega) | simp) (Xt.h (by first | assumption | exact Xt.whole rfl rfl | exact Xt.whole rfl (by simp only [size_ic, Value.cells]; omega) | exact ⟨rfl⟩)) ?_
          refine WH_guardT rfl rfl hb9.h ?_
          refine WH_p (PS_eqlA Hvad.underlying59 Hvad.underlying26 Hvad.sizeOf26 Hvad.eqGuardType59 rfl rfl (by first | omega | assumption | rfl | decide | (simp only [size_ic, Value.cells]; omega) | simp) (by first | omega | assumption | rfl | decide | (simp only [size_ic, Value.cells]; omega) | simp)) rfl ?_
          refine WH_p (PS_pickT rfl hb9.h rfl) rfl ?_
          refine WH_nil ?_
          refine thn_normal ?_
          refine W_if rfl (fun hb11 => ?_) (fun hb11 => ?_)
          · have hb11p := hb11.h; simp only [al_ete, al_dfn, Bool.not_eq_true', Bool.not_eq_false', al_ne, Bool.not_not, al_nn] at hb11p
            have hh : hitS v.slots a K (v.stab p) = true := by rw [hitS_true hx]; exact al_et ⟨hac, hb11p⟩
            refine W_seq ?_
            refine W_region rfl ?_
            refine WO_p (PS_move_int rfl) ?_
            refine WO_p (PS_assign_int rfl) ?_
            refine WO_p (PS_assign_int rfl) ?_
            refine WO_nil ?_
            refine thn_normal ?_
            refine W_ret ?_
            refine thn_ret ?_
            refine inBlk_ret ?_
            refine thn_ret ?_
            refine thn_ret ?_
            refine inBlk_ret ?_
            refine thn_ret ?_
            refine bodyQ_ret2 Hvad.results115 rfl rfl (.int _ _) (.int _ _) rfl rfl ?_
            first
            | (obtain ⟨m', rfl⟩ : ∃ m', m = m' + 1 := ⟨m - 1, by omega⟩; rw [← hpr, probeY, if_pos hneg]; exact ⟨rfl, by first | exact hE2 | exact hE2.drew⟩)
            | (obtain ⟨m', rfl⟩ : ∃ m', m = m' + 1 := ⟨m - 1, by omega⟩; rw [← hpr, probeY, if_neg hneg, if_pos hh]; exact ⟨rfl, hE2.drew⟩)
            | (have hm0 : m = 0 := by omega
               subst hm0; rw [← hpr, probeY]; exact ⟨rfl, hE2⟩)
          · have hb11p := hb11.h; simp only [al_ete, al_dfn, Bool.not_eq_true', Bool.not_eq_false', al_ne, Bool.not_not, al_nn] at hb11p
            have hh : hitS v.slots a K (v.stab p) = false := by rw [hitS_true hx]; exact al_ef (fun e => hb11p e.2)
            refine W_skip ?_
            refine thn_normal ?_
            refine W_region rfl ?_
            refine WO_p (PS_move_int rfl) ?_
            refine WO_p (PS_add_u32n rfl rfl (by omega) (by omega)) ?_
            refine WO_p (PS_rem_u32 rfl rfl (by omega) (by omega)) ?_
            refine WO_p (PS_assign_int rfl) ?_
            refine WO_nil ?_
            refine inBlk_normal ?_
            refine thn_normal ?_
            refine W_region rfl ?_
            refine WO_p (PS_move_int rfl) ?_
            refine WO_p (PS_add_i64n rfl rfl (by omega) (by omega)) ?_
            refine WO_p (PS_assign_int rfl) ?_
            refine WO_nil ?_
            refine thn_normal ?_
            obtain ⟨m', rfl⟩ : ∃ m', m = m' + 1 := ⟨m - 1, by omega⟩
            refine ⟨m', by omega, t + 1, (p + 1) % 4096, by omega, by omega, ?_, ⟨rfl, rfl, rfl, congrArg (Value.int .u32) (by omega), congrArg (Value.int .i64) (by omega), trivial⟩, hE2.drew, hB2.drew⟩
            rw [← hpr, probeY, if_neg hneg, if_neg (by rw [hh]; decide)]
        · have hb9p := hb9.h; simp only [al_ete, al_dfn, Bool.not_eq_true', Bool.not_eq_false', al_ne, Bool.not_not, al_nn] at hb9p
          have hh : hitS v.slots a K (v.stab p) = false := by rw [hitS_true hx]; exact al_ef (fun e => hb9p e.1)
          refine WH_guardF rfl rfl hb9.h ?_
          refine WH_guardF rfl rfl hb9.h ?_
          refine WH_guardF rfl rfl hb9.h ?_
          refine WH_guardF rfl rfl hb9.h ?_
          refine WH_guardF rfl rfl hb9.h ?_
          refine WH_guardF rfl rfl hb9.h ?_
          refine WH_guardF rfl rfl hb9.h ?_
          refine WH_guardF rfl rfl hb9.h ?_
          refine WH_guardF rfl rfl hb9.h ?_
          refine WH_guardF rfl rfl hb9.h ?_
          refine WH_p (PS_pickF rfl hb9.h rfl) rfl ?_
          refine WH_nil ?_
          refine thn_normal ?_
          refine W_condF rfl rfl ?_
          refine W_skip ?_
          refine thn_normal ?_
          refine W_region rfl ?_
          refine WO_p (PS_move_int rfl) ?_
          refine WO_p (PS_add_u32n rfl rfl (by omega) (by omega)) ?_
          refine WO_p (PS_rem_u32 rfl rfl (by omega) (by omega)) ?_
          refine WO_p (PS_assign_int rfl) ?_
          refine WO_nil ?_
          refine inBlk_normal ?_
          refine thn_normal ?_
          refine W_region rfl ?_
          refine WO_p (PS_move_int rfl) ?_
          refine WO_p (PS_add_i64n rfl rfl (by omega) (by omega)) ?_
          refine WO_p (PS_assign_int rfl) ?_
          refine WO_nil ?_
          refine thn_normal ?_
          obtain ⟨m', rfl⟩ : ∃ m', m = m' + 1 := ⟨m - 1, by omega⟩
          refine ⟨m', by omega, t + 1, (p + 1) % 4096, by omega, by omega, ?_, ⟨rfl, rfl, rfl, congrArg (Value.int .u32) (by omega), congrArg (Value.int .i64) (by omega), trivial⟩, hE2.drew, hB2.drew⟩
          rw [← hpr, probeY, if_neg hneg, if_neg (by rw [hh]; decide)]
      · have hb7p := hb7.h; simp only [al_ete, al_dfn, Bool.not_eq_true', Bool.not_eq_false', al_ne, Bool.not_not, al_nn] at hb7p
        have hh : hitS v.slots a K (v.stab p) = false := hitS_none (by omega)
        refine WH_guardF rfl rfl hb7.h ?_
        refine WH_guardF rfl rfl hb7.h ?_
        refine WH_guardF rfl rfl hb7.h ?_
        refine WH_guardF rfl rfl hb7.h ?_
        refine WH_guardF rfl rfl hb7.h ?_
        refine WH_guardF rfl rfl hb7.h ?_
        refine WH_guardF rfl rfl hb7.h ?_
        refine WH_guardF rfl rfl hb7.h ?_
        refine WH_guardF rfl rfl hb7.h ?_
        refine WH_guardF rfl rfl hb7.h ?_
        refine WH_p (PS_pickF rfl hb7.h rfl) rfl ?_
        refine WH_p (PS_move_bool rfl) rfl ?_
        refine WH_guardF rfl rfl rfl ?_
        refine WH_guardF rfl rfl rfl ?_
        refine WH_guardF rfl rfl rfl ?_
        refine WH_guardF rfl rfl rfl ?_
        refine WH_guardF rfl rfl rfl ?_
        refine WH_guardF rfl rfl rfl ?_
        refine WH_guardF rfl rfl rfl ?_
        refine WH_guardF rfl rfl rfl ?_
        refine WH_guardF rfl rfl rfl ?_
        refine WH_guardF rfl rfl rfl ?_
        refine WH_p (PS_pickF rfl rfl rfl) rfl ?_
        refine WH_nil ?_
        refine thn_normal ?_
        refine W_condF rfl rfl ?_
        refine W_skip ?_
        refine thn_normal ?_
        refine W_region rfl ?_
        refine WO_p (PS_move_int rfl) ?_
        refine WO_p (PS_add_u32n rfl rfl (by omega) (by omega)) ?_
        refine WO_p (PS_rem_u32 rfl rfl (by omega) (by omega)) ?_
        refine WO_p (PS_assign_int rfl) ?_
        refine WO_nil ?_
        refine inBlk_normal ?_
        refine thn_normal ?_
        refine W_region rfl ?_
        refine WO_p (PS_move_int rfl) ?_
        refine WO_p (PS_add_i64n rfl rfl (by omega) (by omega)) ?_
        refine WO_p (PS_assign_int rfl) ?_
        refine WO_nil ?_
        refine thn_normal ?_
        obtain ⟨m', rfl⟩ : ∃ m', m = m' + 1 := ⟨m - 1, by omega⟩
        refine ⟨m', by omega, t + 1, (p + 1) % 4096, by omega, by omega, ?_, ⟨rfl, rfl, rfl, congrArg (Value.int .u32) (by omega), congrArg (Value.int .i64) (by omega), trivial⟩, hE2.drew, hB2.drew⟩
        rw [← hpr, probeY, if_neg hneg, if_neg (by rw [hh]; decide)]
  · have hb3p := hb3.h; simp only [al_ete, al_dfn, Bool.not_eq_true', Bool.not_eq_false', al_ne, Bool.not_not, al_nn] at hb3p
    refine W_exit ?_
    refine thn_exit ?_
    refine thn_exit ?_
    refine inBlk_exit ?_
    refine thn_normal ?_
    refine W_seq ?_
    refine W_region rfl ?_
    refine WO_p (PS_assign_int rfl) ?_
    refine WO_p (PS_assign_int rfl) ?_
    refine WO_nil ?_
    refine thn_normal ?_
    refine W_ret ?_
    refine bodyQ_ret2 Hvad.results115 rfl rfl (.int _ _) (.int _ _) rfl rfl ?_
    first
    | (obtain ⟨m', rfl⟩ : ∃ m', m = m' + 1 := ⟨m - 1, by omega⟩; rw [← hpr, probeY, if_pos hneg]; exact ⟨rfl, by first | exact hE2 | exact hE2.drew⟩)
    | (obtain ⟨m', rfl⟩ : ∃ m', m = m' + 1 := ⟨m - 1, by omega⟩; rw [← hpr, probeY, if_neg hneg, if_pos hh]; exact ⟨rfl, hE2.drew⟩)
    | (have hm0 : m = 0 := by omega
       subst hm0; rw [← hpr, probeY]; exact ⟨rfl, hE2⟩)

end Go.Proofs.YgvadwGreat
