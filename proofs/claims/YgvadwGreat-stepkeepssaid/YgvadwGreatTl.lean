import Derived.Test.YgvadwGreatTk
namespace Go.Proofs.YgvadwGreat
set_option linter.unusedSimpArgs false
set_option linter.unusedVariables false
theorem VS.openL {w : World} {C : Nat} {c : Array Value} {v : V} {B : VB} {β : Option Nat} (hv : VS w C c v B β) {i : Nat} {x : LogR} (hx : v.logs[i]? = some x) :
    ∃ b cap r, v.logs.length ≤ cap ∧ Hb w b (.cells r 307 (0, 0)) ∧ r.size = 22 * cap ∧ Ce c (2435 + 24581) (.slice (some ⟨b, 0, none⟩) v.logs.length cap) ∧ Ce r (0 + i * 22 + 20) (.slice x.topics.1 x.topics.2.1 x.topics.2.2) ∧ Ce r (0 + i * 22 + 21) (.slice x.data.1 x.data.2.1 x.data.2.2) := by
  obtain ⟨b, cap, r, hab, hcap, hr, hrs, hrow⟩ := hv.rows.logs.some hx
  have hda : Ce c 27016 (.slice (some ⟨b, 0, none⟩) v.logs.length cap) := by have := hv.rep.logs; rw [hab] at this; exact this
  have ht := hv.ty.logs x (List.mem_of_getElem? hx)
  have hl : x.addr.length = 20 := ht.1
  refine ⟨b, cap, r, hcap, hr, hrs, hda, hrow.get hx (k := 20) (by decide) ?_, hrow.get hx (k := 21) (by decide) ?_⟩
  · unfold encL
    rw [List.getElem?_append_right (by rw [List.length_map, hl]; decide), List.length_map, hl]; rfl
  · unfold encL
    rw [List.getElem?_append_right (by rw [List.length_map, hl]; decide), List.length_map, hl]; rfl
theorem nLog_take_succ {l : List Entry} {i : Nat} {x : Entry} (h : l[i]? = some x) : nLog (l.take (i + 1)) = nLog (l.take i) + (if x.kind = 7 then 1 else 0) := by
  unfold nLog
  rw [List.take_add_one, h, List.countP_append]
  simp only [Option.toList, List.countP_cons, List.countP_nil, al_ete, Nat.zero_add]
theorem eSize_or (na ns nt : Nat) (k : Int) : ((k = 0 ∨ k = 1 ∨ k = 2 ∨ k = 4 ∨ k = 9 ∨ k = 10) ∧ eSize na ns nt k = na) ∨ (k = 8 ∧ eSize na ns nt k = nt) ∨ ((k = 3 ∨ k = 5) ∧ eSize na ns nt k = ns) ∨ (¬ (k = 0 ∨ k = 1 ∨ k = 2 ∨ k = 4 ∨ k = 9 ∨ k = 10 ∨ k = 8 ∨ k = 3 ∨ k = 5) ∧ eSize na ns nt k = 1) := by
  unfold eSize
  by_cases h1 : k = 0 ∨ k = 1 ∨ k = 2 ∨ k = 4 ∨ k = 9 ∨ k = 10
  · exact Or.inl ⟨h1, if_pos h1⟩
  · rw [if_neg h1]
    by_cases h2 : k = 8
    · exact Or.inr (Or.inl ⟨h2, if_pos h2⟩)
    · rw [if_neg h2]
      by_cases h3 : k = 3 ∨ k = 5
      · exact Or.inr (Or.inr (Or.inl ⟨h3, if_pos h3⟩))
      · exact Or.inr (Or.inr (Or.inr ⟨by omega, if_neg h3⟩))
theorem nLog_le (l : List Entry) : nLog l ≤ l.length := List.countP_le_length

set_option maxRecDepth 10000 in
set_option maxHeartbeats 4000000 in
theorem vCheck4_spec (C : Nat) (c : Array Value) (v : V) (B : VB) (β : Option Nat) (w : World) (hv : VS w C c v B β) (hi : VInv v) (hl : v.logs.length ≤ 2800) : Ret Hvad.prog 286 #[.pointer (some ⟨C, 2435, none⟩)] w fun u w' => u = .bool true ∧ Ext w w' := by
  have hblk := hv.blk
  have hcs := hv.rep.size
  have hc_journal : Ce c (2435 + 8194) (.slice (slp B.j) v.journal.length (slc B.j)) := hv.rep.journal
  have hc_logs : Ce c (2435 + 24581) (.slice (slp B.l) v.logs.length (slc B.l)) := hv.rep.logs
  have hc_temps : Ce c (2435 + 24582) (.slice (slp B.t) v.temps.length (slc B.t)) := hv.rep.temps
  have hc_accts : Ce c (2435 + 0) (.slice (slp B.a) v.accts.length (slc B.a)) := hv.rep.accts
  have hc_slots : Ce c (2435 + 1) (.slice (slp B.s) v.slots.length (slc B.s)) := hv.rep.slots
  have hc_nm : Ce c (2435 + 24579) (.int .i32 v.nmarks) := hv.rep.nmarks
  have hc_ref : Ce c (2435 + 24580) (.int .u64 v.ref) := hv.rep.ref
  have h_nm := hi.nm
  have h_rf := hi.rf
  have h_la := hi.la
  have h_ls := hi.ls
  have h_lj := hi.lj
  have h_lt := hi.lt
  have hnm1 := hi.nm.1
  have hnm2 := hi.nm.2
  refine Ret_of_W Hvad.func286 rfl rfl ?_
  refine W_seq ?_
  refine W_region rfl ?_
  refine WO_p (PS_assign_bool rfl) ?_
  refine WO_nil ?_
  refine thn_normal ?_
  refine W_seq ?_
  refine W_seq ?_
  refine W_region rfl ?_
  refine WO_p (PS_move_ptr rfl) ?_
  refine WO_call Hvad.call296 (by rfl) (Ret.mono (vCheck3_spec C c v B β _ (VS.ext hv (by repeat (first | assumption | exact Ext.refl _ | refine Ext.alloc ?_ _ | refine Ext.drew ?_ | refine Ext.setB ?_ (by first | omega | (simp only [size_alloc, size_setB, size_drew]; omega)) _ | exact Ext.trans (by assumption) (by assumption) | refine Ext.trans ?_ (by assumption)))) hi hl) ?_)
  rintro _ w296_0 ⟨rfl, hE296_0⟩
  have hz296_0 := hE296_0.1
  try simp only [size_alloc, size_setB, size_drew] at hz296_0
  refine WO_p (PS_not rfl) ?_
  refine WO_nil ?_
  refine thn_normal ?_
  refine W_if rfl (fun hb4 => ?_) (fun hb4 => ?_)
  · have hb4p := hb4.h; try simp only [al_ete, al_dfn, Bool.not_eq_true', Bool.not_eq_false', al_ne, Bool.not_not, al_nn] at hb4p
    simp at hb4p --END
  · have hb4p := hb4.h; try simp only [al_ete, al_dfn, Bool.not_eq_true', Bool.not_eq_false', al_ne, Bool.not_not, al_nn] at hb4p
    refine W_skip ?_
    refine thn_normal ?_
    refine W_seq ?_
    refine W_region rfl ?_
    refine WO_p (PS_assign_int rfl) ?_
    refine WO_nil ?_
    refine thn_normal ?_
    refine W_seq ?_
    refine W_seq ?_
    refine W_drawE [false, false, false, false, false, false, false, false, false, false] hmix (by kernel_rfl) rfl ?_
    refine WH_p (PS_move_ptr rfl) rfl ?_
    refine WH_p (PS_nilCheck rfl) rfl ?_
    refine WH_p (PS_fieldAddr 8195 Hvad.runUnderlying79 rfl Hvad.sizeOf74 rfl rfl) rfl ?_
    refine WH_p (PS_move_ptr rfl) rfl ?_
    refine WH_p (PS_nilCheck rfl) rfl ?_
    refine WH_p (PS_fieldAddr 24579 Hvad.runUnderlying79 rfl Hvad.sizeOf21 rfl rfl) rfl ?_
    refine WH_load (.int _ _) Hvad.isAgg21 rfl (Hb.h (by repeat (first | assumption | exact Hb.newY _ _ | refine Hb.alloc ?_ | refine Hb.drew ?_ | refine Hb.ext (by assumption) ?_ | exact Hb.setSameL (by first | omega | (simp only [size_alloc, size_setB, size_drew]; omega)) | exact Hb.setSame (by assumption) | refine Hb.set (by first | omega | (simp only [size_alloc, size_setB, size_drew]; omega)) ?_ ))) (Ce.h (by first | assumption | exact ⟨rfl⟩)) ?_
    refine WH_p (PS_slA_h Hvad.runUnderlying74 Hvad.sizeOf21 rfl rfl (by omega) (by omega) (by omega)) rfl ?_
    refine WH_p (PS_lenS Hvad.runUnderlying77 rfl) rfl ?_
    refine WH_p (PS_move_int rfl) rfl ?_
    refine WH_nil ?_
    refine thn_normal ?_
    refine W_block ?_
    refine W_loopN (fun k ρ w' => ∃ (i : Nat) (last : Int), i + k = v.nmarks.toNat ∧ (∀ j : Nat, i ≤ j → (j : Int) < v.nmarks → last ≤ v.marks j) ∧ Fr [(0, .pointer (some ⟨C, 2435, none⟩)), (3, .int .i32 last), (16, .slice (some ⟨C, 2435 + 8195, none⟩) v.nmarks.toNat 16384), (17, .int .i64 v.nmarks.toNat), (18, .int .i64 i)] ρ ∧ Ext w w') v.nmarks.toNat ?_ ?_
    · exact ⟨0, 0, by omega, fun j _ h => (hi.m0 j h).1, ⟨rfl, rfl, rfl, rfl, rfl, trivial⟩, (by repeat (first | assumption | exact Ext.refl _ | refine Ext.alloc ?_ _ | refine Ext.drew ?_ | refine Ext.setB ?_ (by first | omega | (simp only [size_alloc, size_setB, size_drew]; omega)) _ | refine Ext.trans ?_ (by assumption)))⟩
    intro k ρ w2 hI2
    obtain ⟨i, last, hik, hlast, hFr, hE2⟩ := hI2
    refine W_env _ hFr ?_
    have hz2 := hE2.1
    refine W_seq ?_
    refine W_region rfl ?_
    refine WO_p (PS_lss rfl rfl) ?_
    refine WO_nil ?_
    refine thn_normal ?_
    refine W_seq ?_
    refine W_if rfl (fun hb6 => ?_) (fun hb6 => ?_)
    · have hb6p := hb6.h; try simp only [al_ete, al_dfn, Bool.not_eq_true', Bool.not_eq_false', al_ne, Bool.not_not, al_nn] at hb6p
      have hmk : Ce c (2435 + 8195 + i * 1) (.int .i32 (v.marks i)) := hv.rep.marks i (by omega)
      have hm0 := hi.m0 i (by omega)
      have hla := hlast i (by omega) (by omega)
      refine W_skip ?_
      refine thn_normal ?_
      refine W_seq ?_
      refine W_block ?_
      refine W_seq ?_
      refine W_region rfl ?_
      refine WO_p (PS_indexS Hvad.runUnderlying77 Hvad.sizeOf21 rfl rfl (by omega) (by omega)) ?_
      refine WO_load (.int _ _) Hvad.isAgg21 rfl (Hb.h (by repeat (first | assumption | exact Hb.newY _ _ | refine Hb.alloc ?_ | refine Hb.drew ?_ | refine Hb.ext (by assumption) ?_ | exact Hb.setSameL (by first | omega | (simp only [size_alloc, size_setB, size_drew]; omega)) | exact Hb.setSame (by assumption) | refine Hb.set (by first | omega | (simp only [size_alloc, size_setB, size_drew]; omega)) ?_ ))) (Ce.h (by first | assumption | exact ⟨rfl⟩)) ?_
      refine WO_p (PS_assign_int rfl) ?_
      refine WO_nil ?_
      refine thn_normal ?_
      refine W_seq ?_
      refine W_seq ?_
      refine W_region rfl ?_
      refine WO_p (PS_move_int rfl) ?_
      refine WO_p (PS_move_int rfl) ?_
      refine WO_p (PS_lss rfl rfl) ?_
      refine WO_p (PS_move_bool rfl) ?_
      refine WO_if (t := 25) rfl (fun hb8 => ?_) (fun hb8 => ?_)
      · have hb8p := hb8.h; try simp only [al_ete, al_dfn, Bool.not_eq_true', Bool.not_eq_false', al_ne, Bool.not_not, al_nn] at hb8p
        (exfalso; omega) --END
      · have hb8p := hb8.h; try simp only [al_ete, al_dfn, Bool.not_eq_true', Bool.not_eq_false', al_ne, Bool.not_not, al_nn] at hb8p
        refine WO_guardT rfl rfl hb8.h ?_
        refine WO_p (PS_move_int rfl) ?_
        refine WO_guardT rfl rfl hb8.h ?_
        refine WO_p (PS_conv_i64n Hvad.runUnderlying21 Hvad.runUnderlying3 rfl (by omega) (by omega)) ?_
        refine WO_guardT rfl rfl hb8.h ?_
        refine WO_p (PS_move_ptr rfl) ?_
        refine WO_guardT rfl rfl hb8.h ?_
        refine WO_p (PS_nilCheck rfl) ?_
        refine WO_guardT rfl rfl hb8.h ?_
        refine WO_p (PS_fieldAddr 8194 Hvad.runUnderlying79 rfl Hvad.sizeOf73 rfl rfl) ?_
        refine WO_guardT rfl rfl hb8.h ?_
        refine WO_load (.slice _ _ _) Hvad.isAgg73 rfl (Hb.h (by repeat (first | assumption | exact Hb.newY _ _ | refine Hb.alloc ?_ | refine Hb.drew ?_ | refine Hb.ext (by assumption) ?_ | exact Hb.setSameL (by first | omega | (simp only [size_alloc, size_setB, size_drew]; omega)) | exact Hb.setSame (by assumption) | refine Hb.set (by first | omega | (simp only [size_alloc, size_setB, size_drew]; omega)) ?_ ))) (Ce.h (by first | assumption | exact ⟨rfl⟩)) ?_
        refine WO_guardT rfl rfl hb8.h ?_
        refine WO_p (PS_lenS Hvad.runUnderlying73 rfl) ?_
        refine WO_guardT rfl rfl hb8.h ?_
        refine WO_p (PS_gtr rfl rfl) ?_
        refine WO_p (PS_pickF rfl hb8.h rfl) ?_
        refine WO_nil ?_
        refine thn_normal ?_
        refine W_if rfl (fun hb10 => ?_) (fun hb10 => ?_)
        · have hb10p := hb10.h; try simp only [al_ete, al_dfn, Bool.not_eq_true', Bool.not_eq_false', al_ne, Bool.not_not, al_nn] at hb10p
          (exfalso; omega) --END
        · have hb10p := hb10.h; try simp only [al_ete, al_dfn, Bool.not_eq_true', Bool.not_eq_false', al_ne, Bool.not_not, al_nn] at hb10p
          refine W_skip ?_
          refine thn_normal ?_
          refine W_region rfl ?_
          refine WO_p (PS_move_int rfl) ?_
          refine WO_p (PS_assign_int rfl) ?_
          refine WO_nil ?_
          refine inBlk_normal ?_
          refine thn_normal ?_
          refine W_region rfl ?_
          refine WO_p (PS_add_i64n rfl rfl (by omega) (by omega)) ?_
          refine WO_p (PS_move_int rfl) ?_
          refine WO_nil ?_
          refine thn_normal ?_
          exact ⟨k - 1, by omega, i + 1, v.marks i, by omega, fun j h1 h2 => hi.mm i j (by omega) h2, ⟨rfl, rfl, rfl, rfl, congrArg (Value.int .i64) (by omega), trivial⟩, (by repeat (first | assumption | exact Ext.refl _ | refine Ext.alloc ?_ _ | refine Ext.drew ?_ | refine Ext.setB ?_ (by first | omega | (simp only [size_alloc, size_setB, size_drew]; omega)) _ | refine Ext.trans ?_ (by assumption)))⟩
    · have hb6p := hb6.h; try simp only [al_ete, al_dfn, Bool.not_eq_true', Bool.not_eq_false', al_ne, Bool.not_not, al_nn] at hb6p
      refine W_exit ?_
      refine thn_exit ?_
      refine thn_exit ?_
      refine inBlk_exit ?_
      refine thn_normal ?_
      refine W_seq ?_
      refine W_region rfl ?_
      refine WO_p (PS_assign_bool rfl) ?_
      refine WO_nil ?_
      refine thn_normal ?_
      refine W_ret ?_
      refine bodyQ_ret1 Hvad.results286 rfl (.bool _) rfl ?_
      exact ⟨rfl, (by repeat (first | assumption | exact Ext.refl _ | refine Ext.alloc ?_ _ | refine Ext.drew ?_ | refine Ext.setB ?_ (by first | omega | (simp only [size_alloc, size_setB, size_drew]; omega)) _ | refine Ext.trans ?_ (by assumption)))⟩

set_option maxRecDepth 10000 in
set_option maxHeartbeats 4000000 in
theorem entryOK_spec (C : Nat) (c : Array Value) (v : V) (B : VB) (β : Option Nat) (b cap i : Nat) (xi : Entry) (w : World) (hv : VS w C c v B β) (hi : VInv v) (hab : B.j = some (b, cap)) (hxi : v.journal[i]? = some xi) : Ret Hvad.prog 287 #[.pointer (some ⟨C, 2435, none⟩), .pointer (some ⟨b, 0 + i * 9, none⟩)] w fun u w' => u = .bool true ∧ Ext w w' := by
  have hblk := hv.blk
  have hcs := hv.rep.size
  have hc_journal : Ce c (2435 + 8194) (.slice (slp B.j) v.journal.length (slc B.j)) := hv.rep.journal
  have hc_logs : Ce c (2435 + 24581) (.slice (slp B.l) v.logs.length (slc B.l)) := hv.rep.logs
  have hc_temps : Ce c (2435 + 24582) (.slice (slp B.t) v.temps.length (slc B.t)) := hv.rep.temps
  have hc_accts : Ce c (2435 + 0) (.slice (slp B.a) v.accts.length (slc B.a)) := hv.rep.accts
  have hc_slots : Ce c (2435 + 1) (.slice (slp B.s) v.slots.length (slc B.s)) := hv.rep.slots
  have hc_nm : Ce c (2435 + 24579) (.int .i32 v.nmarks) := hv.rep.nmarks
  have hc_ref : Ce c (2435 + 24580) (.int .u64 v.ref) := hv.rep.ref
  have h_nm := hi.nm
  have h_rf := hi.rf
  have h_la := hi.la
  have h_ls := hi.ls
  have h_lj := hi.lj
  have h_lt := hi.lt
  obtain ⟨b', cap', r, hab', hcap, hr, hrs, hrow, hda, hbd, hil, hty, f0, f1, f2, f3, f4, f5⟩ := hv.openJ hxi
  obtain ⟨rfl, rfl⟩ : b = b' ∧ cap = cap' := by rw [hab] at hab'; injection hab' with e; injection e with e1 e2; exact ⟨e1, e2⟩
  have he := hi.je xi (List.mem_of_getElem? hxi)
  have hk := he.k
  have ha := he.a
  have hn := he.n
  have hrr := he.r
  have hwd := hty.2.2.2
  have hn64 := hty.2.2.1
  have hat := hty.2.1
  have hor := eSize_or v.accts.length v.slots.length v.temps.length xi.kind
  generalize hes : eSize v.accts.length v.slots.length v.temps.length xi.kind = es at ha hor
  clear hes
  refine Ret_of_W Hvad.func287 rfl rfl ?_
  refine W_seq ?_
  refine W_region rfl ?_
  refine WO_p (PS_assign_bool rfl) ?_
  refine WO_nil ?_
  refine thn_normal ?_
  refine W_seq ?_
  refine W_region rfl ?_
  refine WO_p (PS_assign_int rfl) ?_
  refine WO_nil ?_
  refine thn_normal ?_
  refine W_seqJ (fun ρ w' => Ext w w' ∧ Fr [(0, .pointer (some ⟨C, 2435, none⟩)), (1, .pointer (some ⟨b, 0 + i * 9, none⟩)), (5, .int .i64 es)] ρ) ?_ ?_
  · skip
    refine W_seq ?_
    refine W_region rfl ?_
    refine WO_p (PS_move_ptr rfl) ?_
    refine WO_p (PS_nilCheck rfl) ?_
    refine WO_p (PS_fieldAddr 0 Hvad.runUnderlying173 rfl Hvad.sizeOf5 rfl rfl) ?_
    refine WO_load (.int _ _) Hvad.isAgg5 rfl (Hb.h (by repeat (first | assumption | exact Hb.newY _ _ | refine Hb.alloc ?_ | refine Hb.drew ?_ | refine Hb.ext (by assumption) ?_ | exact Hb.setSameL (by first | omega | (simp only [size_alloc, size_setB, size_drew]; omega)) | exact Hb.setSame (by assumption) | refine Hb.set (by first | omega | (simp only [size_alloc, size_setB, size_drew]; omega)) ?_ ))) (Ce.h (by first | assumption | exact ⟨rfl⟩)) ?_
    refine WO_nil ?_
    refine thn_normal ?_
    refine W_block ?_
    refine W_seq ?_
    refine W_seq ?_
    refine W_region rfl ?_
    refine WO_p (PS_eql rfl rfl) ?_
    refine WO_p (PS_assign_bool rfl) ?_
    refine WO_nil ?_
    refine thn_normal ?_
    refine W_if rfl (fun hb2 => ?_) (fun hb2 => ?_)
    · have hb2p := hb2.h; try simp only [al_ete, al_dfn, Bool.not_eq_true', Bool.not_eq_false', al_ne, Bool.not_not, al_nn] at hb2p
      refine W_skip ?_
      refine thn_normal ?_
      refine W_condT rfl hb2.h ?_
      refine W_region rfl ?_
      refine WO_p (PS_move_ptr rfl) ?_
      refine WO_p (PS_nilCheck rfl) ?_
      refine WO_p (PS_fieldAddr 0 Hvad.runUnderlying79 rfl Hvad.sizeOf70 rfl rfl) ?_
      refine WO_load (.slice _ _ _) Hvad.isAgg70 rfl (Hb.h (by repeat (first | assumption | exact Hb.newY _ _ | refine Hb.alloc ?_ | refine Hb.drew ?_ | refine Hb.ext (by assumption) ?_ | exact Hb.setSameL (by first | omega | (simp only [size_alloc, size_setB, size_drew]; omega)) | exact Hb.setSame (by assumption) | refine Hb.set (by first | omega | (simp only [size_alloc, size_setB, size_drew]; omega)) ?_ ))) (Ce.h (by first | assumption | exact ⟨rfl⟩)) ?_
      refine WO_p (PS_lenS Hvad.runUnderlying70 rfl) ?_
      refine WO_p (PS_assign_int rfl) ?_
      refine WO_nil ?_
      refine inBlk_normal ?_
      refine thn_normal ?_
      exact ⟨(by repeat (first | assumption | exact Ext.refl _ | refine Ext.alloc ?_ _ | refine Ext.drew ?_ | refine Ext.setB ?_ (by first | omega | (simp only [size_alloc, size_setB, size_drew]; omega)) _ | exact Ext.trans (by assumption) (by assumption) | refine Ext.trans ?_ (by assumption))), ⟨rfl, rfl, congrArg (Value.int .i64) (by omega), trivial⟩⟩
    · have hb2p := hb2.h; try simp only [al_ete, al_dfn, Bool.not_eq_true', Bool.not_eq_false', al_ne, Bool.not_not, al_nn] at hb2p
      refine W_seq ?_
      refine W_region rfl ?_
      refine WO_p (PS_eql rfl rfl) ?_
      refine WO_p (PS_assign_bool rfl) ?_
      refine WO_nil ?_
      refine thn_normal ?_
      refine W_if rfl (fun hb4 => ?_) (fun hb4 => ?_)
      · have hb4p := hb4.h; try simp only [al_ete, al_dfn, Bool.not_eq_true', Bool.not_eq_false', al_ne, Bool.not_not, al_nn] at hb4p
        refine W_skip ?_
        refine thn_normal ?_
        refine W_condT rfl hb4.h ?_
        refine W_region rfl ?_
        refine WO_p (PS_move_ptr rfl) ?_
        refine WO_p (PS_nilCheck rfl) ?_
        refine WO_p (PS_fieldAddr 0 Hvad.runUnderlying79 rfl Hvad.sizeOf70 rfl rfl) ?_
        refine WO_load (.slice _ _ _) Hvad.isAgg70 rfl (Hb.h (by repeat (first | assumption | exact Hb.newY _ _ | refine Hb.alloc ?_ | refine Hb.drew ?_ | refine Hb.ext (by assumption) ?_ | exact Hb.setSameL (by first | omega | (simp only [size_alloc, size_setB, size_drew]; omega)) | exact Hb.setSame (by assumption) | refine Hb.set (by first | omega | (simp only [size_alloc, size_setB, size_drew]; omega)) ?_ ))) (Ce.h (by first | assumption | exact ⟨rfl⟩)) ?_
        refine WO_p (PS_lenS Hvad.runUnderlying70 rfl) ?_
        refine WO_p (PS_assign_int rfl) ?_
        refine WO_nil ?_
        refine inBlk_normal ?_
        refine thn_normal ?_
        exact ⟨(by repeat (first | assumption | exact Ext.refl _ | refine Ext.alloc ?_ _ | refine Ext.drew ?_ | refine Ext.setB ?_ (by first | omega | (simp only [size_alloc, size_setB, size_drew]; omega)) _ | exact Ext.trans (by assumption) (by assumption) | refine Ext.trans ?_ (by assumption))), ⟨rfl, rfl, congrArg (Value.int .i64) (by omega), trivial⟩⟩
      · have hb4p := hb4.h; try simp only [al_ete, al_dfn, Bool.not_eq_true', Bool.not_eq_false', al_ne, Bool.not_not, al_nn] at hb4p
        refine W_seq ?_
        refine W_region rfl ?_
        refine WO_p (PS_eql rfl rfl) ?_
        refine WO_p (PS_assign_bool rfl) ?_
        refine WO_nil ?_
        refine thn_normal ?_
        refine W_if rfl (fun hb6 => ?_) (fun hb6 => ?_)
        · have hb6p := hb6.h; try simp only [al_ete, al_dfn, Bool.not_eq_true', Bool.not_eq_false', al_ne, Bool.not_not, al_nn] at hb6p
          refine W_skip ?_
          refine thn_normal ?_
          refine W_condT rfl hb6.h ?_
          refine W_region rfl ?_
          refine WO_p (PS_move_ptr rfl) ?_
          refine WO_p (PS_nilCheck rfl) ?_
          refine WO_p (PS_fieldAddr 0 Hvad.runUnderlying79 rfl Hvad.sizeOf70 rfl rfl) ?_
          refine WO_load (.slice _ _ _) Hvad.isAgg70 rfl (Hb.h (by repeat (first | assumption | exact Hb.newY _ _ | refine Hb.alloc ?_ | refine Hb.drew ?_ | refine Hb.ext (by assumption) ?_ | exact Hb.setSameL (by first | omega | (simp only [size_alloc, size_setB, size_drew]; omega)) | exact Hb.setSame (by assumption) | refine Hb.set (by first | omega | (simp only [size_alloc, size_setB, size_drew]; omega)) ?_ ))) (Ce.h (by first | assumption | exact ⟨rfl⟩)) ?_
          refine WO_p (PS_lenS Hvad.runUnderlying70 rfl) ?_
          refine WO_p (PS_assign_int rfl) ?_
          refine WO_nil ?_
          refine inBlk_normal ?_
          refine thn_normal ?_
          exact ⟨(by repeat (first | assumption | exact Ext.refl _ | refine Ext.alloc ?_ _ | refine Ext.drew ?_ | refine Ext.setB ?_ (by first | omega | (simp only [size_alloc, size_setB, size_drew]; omega)) _ | exact Ext.trans (by assumption) (by assumption) | refine Ext.trans ?_ (by assumption))), ⟨rfl, rfl, congrArg (Value.int .i64) (by omega), trivial⟩⟩
        · have hb6p := hb6.h; try simp only [al_ete, al_dfn, Bool.not_eq_true', Bool.not_eq_false', al_ne, Bool.not_not, al_nn] at hb6p
          refine W_seq ?_
          refine W_region rfl ?_
          refine WO_p (PS_eql rfl rfl) ?_
          refine WO_p (PS_assign_bool rfl) ?_
          refine WO_nil ?_
          refine thn_normal ?_
          refine W_if rfl (fun hb8 => ?_) (fun hb8 => ?_)
          · have hb8p := hb8.h; try simp only [al_ete, al_dfn, Bool.not_eq_true', Bool.not_eq_false', al_ne, Bool.not_not, al_nn] at hb8p
            refine W_skip ?_
            refine thn_normal ?_
            refine W_condT rfl hb8.h ?_
            refine W_region rfl ?_
            refine WO_p (PS_move_ptr rfl) ?_
            refine WO_p (PS_nilCheck rfl) ?_
            refine WO_p (PS_fieldAddr 0 Hvad.runUnderlying79 rfl Hvad.sizeOf70 rfl rfl) ?_
            refine WO_load (.slice _ _ _) Hvad.isAgg70 rfl (Hb.h (by repeat (first | assumption | exact Hb.newY _ _ | refine Hb.alloc ?_ | refine Hb.drew ?_ | refine Hb.ext (by assumption) ?_ | exact Hb.setSameL (by first | omega | (simp only [size_alloc, size_setB, size_drew]; omega)) | exact Hb.setSame (by assumption) | refine Hb.set (by first | omega | (simp only [size_alloc, size_setB, size_drew]; omega)) ?_ ))) (Ce.h (by first | assumption | exact ⟨rfl⟩)) ?_
            refine WO_p (PS_lenS Hvad.runUnderlying70 rfl) ?_
            refine WO_p (PS_assign_int rfl) ?_
            refine WO_nil ?_
            refine inBlk_normal ?_
            refine thn_normal ?_
            exact ⟨(by repeat (first | assumption | exact Ext.refl _ | refine Ext.alloc ?_ _ | refine Ext.drew ?_ | refine Ext.setB ?_ (by first | omega | (simp only [size_alloc, size_setB, size_drew]; omega)) _ | exact Ext.trans (by assumption) (by assumption) | refine Ext.trans ?_ (by assumption))), ⟨rfl, rfl, congrArg (Value.int .i64) (by omega), trivial⟩⟩
          · have hb8p := hb8.h; try simp only [al_ete, al_dfn, Bool.not_eq_true', Bool.not_eq_false', al_ne, Bool.not_not, al_nn] at hb8p
            refine W_seq ?_
            refine W_region rfl ?_
            refine WO_p (PS_eql rfl rfl) ?_
            refine WO_p (PS_assign_bool rfl) ?_
            refine WO_nil ?_
            refine thn_normal ?_
            refine W_if rfl (fun hb10 => ?_) (fun hb10 => ?_)
            · have hb10p := hb10.h; try simp only [al_ete, al_dfn, Bool.not_eq_true', Bool.not_eq_false', al_ne, Bool.not_not, al_nn] at hb10p
              refine W_skip ?_
              refine thn_normal ?_
              refine W_condT rfl hb10.h ?_
              refine W_region rfl ?_
              refine WO_p (PS_move_ptr rfl) ?_
              refine WO_p (PS_nilCheck rfl) ?_
              refine WO_p (PS_fieldAddr 0 Hvad.runUnderlying79 rfl Hvad.sizeOf70 rfl rfl) ?_
              refine WO_load (.slice _ _ _) Hvad.isAgg70 rfl (Hb.h (by repeat (first | assumption | exact Hb.newY _ _ | refine Hb.alloc ?_ | refine Hb.drew ?_ | refine Hb.ext (by assumption) ?_ | exact Hb.setSameL (by first | omega | (simp only [size_alloc, size_setB, size_drew]; omega)) | exact Hb.setSame (by assumption) | refine Hb.set (by first | omega | (simp only [size_alloc, size_setB, size_drew]; omega)) ?_ ))) (Ce.h (by first | assumption | exact ⟨rfl⟩)) ?_
              refine WO_p (PS_lenS Hvad.runUnderlying70 rfl) ?_
              refine WO_p (PS_assign_int rfl) ?_
              refine WO_nil ?_
              refine inBlk_normal ?_
              refine thn_normal ?_
              exact ⟨(by repeat (first | assumption | exact Ext.refl _ | refine Ext.alloc ?_ _ | refine Ext.drew ?_ | refine Ext.setB ?_ (by first | omega | (simp only [size_alloc, size_setB, size_drew]; omega)) _ | exact Ext.trans (by assumption) (by assumption) | refine Ext.trans ?_ (by assumption))), ⟨rfl, rfl, congrArg (Value.int .i64) (by omega), trivial⟩⟩
            · have hb10p := hb10.h; try simp only [al_ete, al_dfn, Bool.not_eq_true', Bool.not_eq_false', al_ne, Bool.not_not, al_nn] at hb10p
              refine W_region rfl ?_
              refine WO_p (PS_eql rfl rfl) ?_
              refine WO_p (PS_assign_bool rfl) ?_
              refine WO_nil ?_
              refine thn_normal ?_
              refine W_if rfl (fun hb12 => ?_) (fun hb12 => ?_)
              · have hb12p := hb12.h; try simp only [al_ete, al_dfn, Bool.not_eq_true', Bool.not_eq_false', al_ne, Bool.not_not, al_nn] at hb12p
                refine W_region rfl ?_
                refine WO_p (PS_move_ptr rfl) ?_
                refine WO_p (PS_nilCheck rfl) ?_
                refine WO_p (PS_fieldAddr 0 Hvad.runUnderlying79 rfl Hvad.sizeOf70 rfl rfl) ?_
                refine WO_load (.slice _ _ _) Hvad.isAgg70 rfl (Hb.h (by repeat (first | assumption | exact Hb.newY _ _ | refine Hb.alloc ?_ | refine Hb.drew ?_ | refine Hb.ext (by assumption) ?_ | exact Hb.setSameL (by first | omega | (simp only [size_alloc, size_setB, size_drew]; omega)) | exact Hb.setSame (by assumption) | refine Hb.set (by first | omega | (simp only [size_alloc, size_setB, size_drew]; omega)) ?_ ))) (Ce.h (by first | assumption | exact ⟨rfl⟩)) ?_
                refine WO_p (PS_lenS Hvad.runUnderlying70 rfl) ?_
                refine WO_p (PS_assign_int rfl) ?_
                refine WO_nil ?_
                refine inBlk_normal ?_
                refine thn_normal ?_
                exact ⟨(by repeat (first | assumption | exact Ext.refl _ | refine Ext.alloc ?_ _ | refine Ext.drew ?_ | refine Ext.setB ?_ (by first | omega | (simp only [size_alloc, size_setB, size_drew]; omega)) _ | exact Ext.trans (by assumption) (by assumption) | refine Ext.trans ?_ (by assumption))), ⟨rfl, rfl, congrArg (Value.int .i64) (by omega), trivial⟩⟩
              · have hb12p := hb12.h; try simp only [al_ete, al_dfn, Bool.not_eq_true', Bool.not_eq_false', al_ne, Bool.not_not, al_nn] at hb12p
                refine W_seq ?_
                refine W_region rfl ?_
                refine WO_p (PS_eql rfl rfl) ?_
                refine WO_p (PS_assign_bool rfl) ?_
                refine WO_nil ?_
                refine thn_normal ?_
                refine W_if rfl (fun hb14 => ?_) (fun hb14 => ?_)
                · have hb14p := hb14.h; try simp only [al_ete, al_dfn, Bool.not_eq_true', Bool.not_eq_false', al_ne, Bool.not_not, al_nn] at hb14p
                  refine W_region rfl ?_
                  refine WO_p (PS_move_ptr rfl) ?_
                  refine WO_p (PS_nilCheck rfl) ?_
                  refine WO_p (PS_fieldAddr 24582 Hvad.runUnderlying79 rfl Hvad.sizeOf76 rfl rfl) ?_
                  refine WO_load (.slice _ _ _) Hvad.isAgg76 rfl (Hb.h (by repeat (first | assumption | exact Hb.newY _ _ | refine Hb.alloc ?_ | refine Hb.drew ?_ | refine Hb.ext (by assumption) ?_ | exact Hb.setSameL (by first | omega | (simp only [size_alloc, size_setB, size_drew]; omega)) | exact Hb.setSame (by assumption) | refine Hb.set (by first | omega | (simp only [size_alloc, size_setB, size_drew]; omega)) ?_ ))) (Ce.h (by first | assumption | exact ⟨rfl⟩)) ?_
                  refine WO_p (PS_lenS Hvad.runUnderlying76 rfl) ?_
                  refine WO_p (PS_assign_int rfl) ?_
                  refine WO_nil ?_
                  refine inBlk_normal ?_
                  refine thn_normal ?_
                  exact ⟨(by repeat (first | assumption | exact Ext.refl _ | refine Ext.alloc ?_ _ | refine Ext.drew ?_ | refine Ext.setB ?_ (by first | omega | (simp only [size_alloc, size_setB, size_drew]; omega)) _ | exact Ext.trans (by assumption) (by assumption) | refine Ext.trans ?_ (by assumption))), ⟨rfl, rfl, congrArg (Value.int .i64) (by omega), trivial⟩⟩
                · have hb14p := hb14.h; try simp only [al_ete, al_dfn, Bool.not_eq_true', Bool.not_eq_false', al_ne, Bool.not_not, al_nn] at hb14p
                  refine W_seq ?_
                  refine W_seq ?_
                  refine W_region rfl ?_
                  refine WO_p (PS_eql rfl rfl) ?_
                  refine WO_p (PS_assign_bool rfl) ?_
                  refine WO_nil ?_
                  refine thn_normal ?_
                  refine W_if rfl (fun hb16 => ?_) (fun hb16 => ?_)
                  · have hb16p := hb16.h; try simp only [al_ete, al_dfn, Bool.not_eq_true', Bool.not_eq_false', al_ne, Bool.not_not, al_nn] at hb16p
                    refine W_skip ?_
                    refine thn_normal ?_
                    refine W_condT rfl hb16.h ?_
                    refine W_region rfl ?_
                    refine WO_p (PS_move_ptr rfl) ?_
                    refine WO_p (PS_nilCheck rfl) ?_
                    refine WO_p (PS_fieldAddr 1 Hvad.runUnderlying79 rfl Hvad.sizeOf71 rfl rfl) ?_
                    refine WO_load (.slice _ _ _) Hvad.isAgg71 rfl (Hb.h (by repeat (first | assumption | exact Hb.newY _ _ | refine Hb.alloc ?_ | refine Hb.drew ?_ | refine Hb.ext (by assumption) ?_ | exact Hb.setSameL (by first | omega | (simp only [size_alloc, size_setB, size_drew]; omega)) | exact Hb.setSame (by assumption) | refine Hb.set (by first | omega | (simp only [size_alloc, size_setB, size_drew]; omega)) ?_ ))) (Ce.h (by first | assumption | exact ⟨rfl⟩)) ?_
                    refine WO_p (PS_lenS Hvad.runUnderlying71 rfl) ?_
                    refine WO_p (PS_assign_int rfl) ?_
                    refine WO_nil ?_
                    refine inBlk_normal ?_
                    refine thn_normal ?_
                    exact ⟨(by repeat (first | assumption | exact Ext.refl _ | refine Ext.alloc ?_ _ | refine Ext.drew ?_ | refine Ext.setB ?_ (by first | omega | (simp only [size_alloc, size_setB, size_drew]; omega)) _ | exact Ext.trans (by assumption) (by assumption) | refine Ext.trans ?_ (by assumption))), ⟨rfl, rfl, congrArg (Value.int .i64) (by omega), trivial⟩⟩
                  · have hb16p := hb16.h; try simp only [al_ete, al_dfn, Bool.not_eq_true', Bool.not_eq_false', al_ne, Bool.not_not, al_nn] at hb16p
                    refine W_region rfl ?_
                    refine WO_p (PS_eql rfl rfl) ?_
                    refine WO_p (PS_assign_bool rfl) ?_
                    refine WO_nil ?_
                    refine thn_normal ?_
                    refine W_if rfl (fun hb18 => ?_) (fun hb18 => ?_)
                    · have hb18p := hb18.h; try simp only [al_ete, al_dfn, Bool.not_eq_true', Bool.not_eq_false', al_ne, Bool.not_not, al_nn] at hb18p
                      refine W_region rfl ?_
                      refine WO_p (PS_move_ptr rfl) ?_
                      refine WO_p (PS_nilCheck rfl) ?_
                      refine WO_p (PS_fieldAddr 1 Hvad.runUnderlying79 rfl Hvad.sizeOf71 rfl rfl) ?_
                      refine WO_load (.slice _ _ _) Hvad.isAgg71 rfl (Hb.h (by repeat (first | assumption | exact Hb.newY _ _ | refine Hb.alloc ?_ | refine Hb.drew ?_ | refine Hb.ext (by assumption) ?_ | exact Hb.setSameL (by first | omega | (simp only [size_alloc, size_setB, size_drew]; omega)) | exact Hb.setSame (by assumption) | refine Hb.set (by first | omega | (simp only [size_alloc, size_setB, size_drew]; omega)) ?_ ))) (Ce.h (by first | assumption | exact ⟨rfl⟩)) ?_
                      refine WO_p (PS_lenS Hvad.runUnderlying71 rfl) ?_
                      refine WO_p (PS_assign_int rfl) ?_
                      refine WO_nil ?_
                      refine inBlk_normal ?_
                      refine thn_normal ?_
                      exact ⟨(by repeat (first | assumption | exact Ext.refl _ | refine Ext.alloc ?_ _ | refine Ext.drew ?_ | refine Ext.setB ?_ (by first | omega | (simp only [size_alloc, size_setB, size_drew]; omega)) _ | exact Ext.trans (by assumption) (by assumption) | refine Ext.trans ?_ (by assumption))), ⟨rfl, rfl, congrArg (Value.int .i64) (by omega), trivial⟩⟩
                    · have hb18p := hb18.h; try simp only [al_ete, al_dfn, Bool.not_eq_true', Bool.not_eq_false', al_ne, Bool.not_not, al_nn] at hb18p
                      refine W_skip ?_
                      refine inBlk_normal ?_
                      refine thn_normal ?_
                      exact ⟨(by repeat (first | assumption | exact Ext.refl _ | refine Ext.alloc ?_ _ | refine Ext.drew ?_ | refine Ext.setB ?_ (by first | omega | (simp only [size_alloc, size_setB, size_drew]; omega)) _ | exact Ext.trans (by assumption) (by assumption) | refine Ext.trans ?_ (by assumption))), ⟨rfl, rfl, congrArg (Value.int .i64) (by omega), trivial⟩⟩
  · rintro ρ w1 ⟨hE1, hFr⟩
    refine W_env _ hFr ?_
    have hz1 := hE1.1
    clear hor
    refine W_seqJ (fun ρ w' => Ext w w' ∧ Fr [(0, .pointer (some ⟨C, 2435, none⟩)), (1, .pointer (some ⟨b, 0 + i * 9, none⟩)), (5, .int .i64 es)] ρ) ?_ ?_
    · skip
      refine W_seq ?_
      refine W_region rfl ?_
      refine WO_p (PS_move_ptr rfl) ?_
      refine WO_p (PS_nilCheck rfl) ?_
      refine WO_p (PS_fieldAddr 0 Hvad.runUnderlying173 rfl Hvad.sizeOf5 rfl rfl) ?_
      refine WO_load (.int _ _) Hvad.isAgg5 rfl (Hb.h (by repeat (first | assumption | exact Hb.newY _ _ | refine Hb.alloc ?_ | refine Hb.drew ?_ | refine Hb.ext (by assumption) ?_ | exact Hb.setSameL (by first | omega | (simp only [size_alloc, size_setB, size_drew]; omega)) | exact Hb.setSame (by assumption) | refine Hb.set (by first | omega | (simp only [size_alloc, size_setB, size_drew]; omega)) ?_ ))) (Ce.h (by first | assumption | exact ⟨rfl⟩)) ?_
      refine WO_p (PS_gtr rfl rfl) ?_
      refine WO_p (PS_move_bool rfl) ?_
      refine WO_if (t := 42) rfl (fun hb20 => ?_) (fun hb20 => ?_)
      · have hb20p := hb20.h; try simp only [al_ete, al_dfn, Bool.not_eq_true', Bool.not_eq_false', al_ne, Bool.not_not, al_nn] at hb20p
        (exfalso; omega) --END
      · have hb20p := hb20.h; try simp only [al_ete, al_dfn, Bool.not_eq_true', Bool.not_eq_false', al_ne, Bool.not_not, al_nn] at hb20p
        refine WO_guardT rfl rfl hb20.h ?_
        refine WO_p (PS_move_ptr rfl) ?_
        refine WO_guardT rfl rfl hb20.h ?_
        refine WO_p (PS_nilCheck rfl) ?_
        refine WO_guardT rfl rfl hb20.h ?_
        refine WO_p (PS_fieldAddr 1 Hvad.runUnderlying173 rfl Hvad.sizeOf21 rfl rfl) ?_
        refine WO_guardT rfl rfl hb20.h ?_
        refine WO_load (.int _ _) Hvad.isAgg21 rfl (Hb.h (by repeat (first | assumption | exact Hb.newY _ _ | refine Hb.alloc ?_ | refine Hb.drew ?_ | refine Hb.ext (by assumption) ?_ | exact Hb.setSameL (by first | omega | (simp only [size_alloc, size_setB, size_drew]; omega)) | exact Hb.setSame (by assumption) | refine Hb.set (by first | omega | (simp only [size_alloc, size_setB, size_drew]; omega)) ?_ ))) (Ce.h (by first | assumption | exact ⟨rfl⟩)) ?_
        refine WO_guardT rfl rfl hb20.h ?_
        refine WO_p (PS_lss rfl rfl) ?_
        refine WO_p (PS_pickF rfl hb20.h rfl) ?_
        refine WO_p (PS_move_bool rfl) ?_
        refine WO_if (t := 49) rfl (fun hb22 => ?_) (fun hb22 => ?_)
        · have hb22p := hb22.h; try simp only [al_ete, al_dfn, Bool.not_eq_true', Bool.not_eq_false', al_ne, Bool.not_not, al_nn] at hb22p
          (exfalso; omega) --END
        · have hb22p := hb22.h; try simp only [al_ete, al_dfn, Bool.not_eq_true', Bool.not_eq_false', al_ne, Bool.not_not, al_nn] at hb22p
          refine WO_guardT rfl rfl hb22.h ?_
          refine WO_p (PS_move_ptr rfl) ?_
          refine WO_guardT rfl rfl hb22.h ?_
          refine WO_p (PS_nilCheck rfl) ?_
          refine WO_guardT rfl rfl hb22.h ?_
          refine WO_p (PS_fieldAddr 1 Hvad.runUnderlying173 rfl Hvad.sizeOf21 rfl rfl) ?_
          refine WO_guardT rfl rfl hb22.h ?_
          refine WO_load (.int _ _) Hvad.isAgg21 rfl (Hb.h (by repeat (first | assumption | exact Hb.newY _ _ | refine Hb.alloc ?_ | refine Hb.drew ?_ | refine Hb.ext (by assumption) ?_ | exact Hb.setSameL (by first | omega | (simp only [size_alloc, size_setB, size_drew]; omega)) | exact Hb.setSame (by assumption) | refine Hb.set (by first | omega | (simp only [size_alloc, size_setB, size_drew]; omega)) ?_ ))) (Ce.h (by first | assumption | exact ⟨rfl⟩)) ?_
          refine WO_guardT rfl rfl hb22.h ?_
          refine WO_p (PS_conv_i64n Hvad.runUnderlying21 Hvad.runUnderlying3 rfl (by omega) (by omega)) ?_
          refine WO_guardT rfl rfl hb22.h ?_
          refine WO_p (PS_move_int rfl) ?_
          refine WO_guardT rfl rfl hb22.h ?_
          refine WO_p (PS_geq rfl rfl) ?_
          refine WO_p (PS_pickF rfl hb22.h rfl) ?_
          refine WO_nil ?_
          refine thn_normal ?_
          refine W_if rfl (fun hb24 => ?_) (fun hb24 => ?_)
          · have hb24p := hb24.h; try simp only [al_ete, al_dfn, Bool.not_eq_true', Bool.not_eq_false', al_ne, Bool.not_not, al_nn] at hb24p
            (exfalso; omega) --END
          · have hb24p := hb24.h; try simp only [al_ete, al_dfn, Bool.not_eq_true', Bool.not_eq_false', al_ne, Bool.not_not, al_nn] at hb24p
            refine W_skip ?_
            refine thn_normal ?_
            exact ⟨(by repeat (first | assumption | exact Ext.refl _ | refine Ext.alloc ?_ _ | refine Ext.drew ?_ | refine Ext.setB ?_ (by first | omega | (simp only [size_alloc, size_setB, size_drew]; omega)) _ | exact Ext.trans (by assumption) (by assumption) | refine Ext.trans ?_ (by assumption))), ⟨rfl, rfl, rfl, trivial⟩⟩
    · rintro ρ w1 ⟨hE1, hFr⟩
      refine W_env _ hFr ?_
      have hz1 := hE1.1
      refine W_seqJ (fun ρ w' => Ext w w' ∧ Fr [(0, .pointer (some ⟨C, 2435, none⟩)), (1, .pointer (some ⟨b, 0 + i * 9, none⟩)), (5, .int .i64 es)] ρ) ?_ ?_
      · skip
        refine W_seq ?_
        refine W_region rfl ?_
        refine WO_p (PS_move_ptr rfl) ?_
        refine WO_p (PS_nilCheck rfl) ?_
        refine WO_p (PS_fieldAddr 2 Hvad.runUnderlying173 rfl Hvad.sizeOf26 rfl rfl) ?_
        refine WO_load (.int _ _) Hvad.isAgg26 rfl (Hb.h (by repeat (first | assumption | exact Hb.newY _ _ | refine Hb.alloc ?_ | refine Hb.drew ?_ | refine Hb.ext (by assumption) ?_ | exact Hb.setSameL (by first | omega | (simp only [size_alloc, size_setB, size_drew]; omega)) | exact Hb.setSame (by assumption) | refine Hb.set (by first | omega | (simp only [size_alloc, size_setB, size_drew]; omega)) ?_ ))) (Ce.h (by first | assumption | exact ⟨rfl⟩)) ?_
        refine WO_p (PS_neq rfl rfl) ?_
        refine WO_p (PS_move_bool rfl) ?_
        refine WO_if (t := 63) rfl (fun hb26 => ?_) (fun hb26 => ?_)
        · have hb26p := hb26.h; try simp only [al_ete, al_dfn, Bool.not_eq_true', Bool.not_eq_false', al_ne, Bool.not_not, al_nn] at hb26p
          refine WO_guardT rfl rfl hb26.h ?_
          refine WO_p (PS_move_ptr rfl) ?_
          refine WO_guardT rfl rfl hb26.h ?_
          refine WO_p (PS_nilCheck rfl) ?_
          refine WO_guardT rfl rfl hb26.h ?_
          refine WO_p (PS_fieldAddr 0 Hvad.runUnderlying173 rfl Hvad.sizeOf5 rfl rfl) ?_
          refine WO_guardT rfl rfl hb26.h ?_
          refine WO_load (.int _ _) Hvad.isAgg5 rfl (Hb.h (by repeat (first | assumption | exact Hb.newY _ _ | refine Hb.alloc ?_ | refine Hb.drew ?_ | refine Hb.ext (by assumption) ?_ | exact Hb.setSameL (by first | omega | (simp only [size_alloc, size_setB, size_drew]; omega)) | exact Hb.setSame (by assumption) | refine Hb.set (by first | omega | (simp only [size_alloc, size_setB, size_drew]; omega)) ?_ ))) (Ce.h (by first | assumption | exact ⟨rfl⟩)) ?_
          refine WO_guardT rfl rfl hb26.h ?_
          refine WO_p (PS_neq rfl rfl) ?_
          refine WO_p (PS_pickT rfl hb26.h rfl) ?_
          refine WO_p (PS_move_bool rfl) ?_
          refine WO_if (t := 70) rfl (fun hb28 => ?_) (fun hb28 => ?_)
          · have hb28p := hb28.h; try simp only [al_ete, al_dfn, Bool.not_eq_true', Bool.not_eq_false', al_ne, Bool.not_not, al_nn] at hb28p
            refine WO_guardT rfl rfl hb28.h ?_
            refine WO_p (PS_move_ptr rfl) ?_
            refine WO_guardT rfl rfl hb28.h ?_
            refine WO_p (PS_nilCheck rfl) ?_
            refine WO_guardT rfl rfl hb28.h ?_
            refine WO_p (PS_fieldAddr 0 Hvad.runUnderlying173 rfl Hvad.sizeOf5 rfl rfl) ?_
            refine WO_guardT rfl rfl hb28.h ?_
            refine WO_load (.int _ _) Hvad.isAgg5 rfl (Hb.h (by repeat (first | assumption | exact Hb.newY _ _ | refine Hb.alloc ?_ | refine Hb.drew ?_ | refine Hb.ext (by assumption) ?_ | exact Hb.setSameL (by first | omega | (simp only [size_alloc, size_setB, size_drew]; omega)) | exact Hb.setSame (by assumption) | refine Hb.set (by first | omega | (simp only [size_alloc, size_setB, size_drew]; omega)) ?_ ))) (Ce.h (by first | assumption | exact ⟨rfl⟩)) ?_
            refine WO_guardT rfl rfl hb28.h ?_
            refine WO_p (PS_neq rfl rfl) ?_
            refine WO_p (PS_pickT rfl hb28.h rfl) ?_
            refine WO_p (PS_move_bool rfl) ?_
            refine WO_if (t := 77) rfl (fun hb30 => ?_) (fun hb30 => ?_)
            · have hb30p := hb30.h; try simp only [al_ete, al_dfn, Bool.not_eq_true', Bool.not_eq_false', al_ne, Bool.not_not, al_nn] at hb30p
              refine WO_guardF rfl rfl hb30.h ?_
              refine WO_guardF rfl rfl hb30.h ?_
              refine WO_guardF rfl rfl hb30.h ?_
              refine WO_guardF rfl rfl hb30.h ?_
              refine WO_guardF rfl rfl hb30.h ?_
              refine WO_guardF rfl rfl hb30.h ?_
              refine WO_guardU rfl rfl ?_
              refine WO_guardU rfl rfl ?_
              refine WO_guardU rfl rfl ?_
              refine WO_guardU rfl rfl ?_
              refine WO_guardU rfl rfl ?_
              refine WO_guardF rfl rfl hb30.h ?_
              refine WO_p (PS_pickT rfl hb30.h rfl) ?_
              refine WO_nil ?_
              refine thn_normal ?_
              refine W_condT rfl rfl ?_
              refine W_seq ?_
              refine W_region rfl ?_
              refine WO_p (PS_assign_bool rfl) ?_
              refine WO_nil ?_
              refine thn_normal ?_
              refine W_ret ?_
              refine thn_ret ?_
              refine bodyQ_ret1 Hvad.results287 rfl (.bool _) rfl ?_
              first | exact ⟨rfl, (by repeat (first | assumption | exact Ext.refl _ | refine Ext.alloc ?_ _ | refine Ext.drew ?_ | refine Ext.setB ?_ (by first | omega | (simp only [size_alloc, size_setB, size_drew]; omega)) _ | refine Ext.trans ?_ (by assumption)))⟩ | (exfalso; simp_all; done) | exact ⟨congrArg Value.bool (al_et (by omega)), (by repeat (first | assumption | exact Ext.refl _ | refine Ext.alloc ?_ _ | refine Ext.drew ?_ | refine Ext.setB ?_ (by first | omega | (simp only [size_alloc, size_setB, size_drew]; omega)) _ | refine Ext.trans ?_ (by assumption)))⟩
            · have hb30p := hb30.h; try simp only [al_ete, al_dfn, Bool.not_eq_true', Bool.not_eq_false', al_ne, Bool.not_not, al_nn] at hb30p
              refine WO_guardT rfl rfl hb30.h ?_
              refine WO_p (PS_move_ptr rfl) ?_
              refine WO_guardT rfl rfl hb30.h ?_
              refine WO_p (PS_nilCheck rfl) ?_
              refine WO_guardT rfl rfl hb30.h ?_
              refine WO_p (PS_fieldAddr 0 Hvad.runUnderlying173 rfl Hvad.sizeOf5 rfl rfl) ?_
              refine WO_guardT rfl rfl hb30.h ?_
              refine WO_load (.int _ _) Hvad.isAgg5 rfl (Hb.h (by repeat (first | assumption | exact Hb.newY _ _ | refine Hb.alloc ?_ | refine Hb.drew ?_ | refine Hb.ext (by assumption) ?_ | exact Hb.setSameL (by first | omega | (simp only [size_alloc, size_setB, size_drew]; omega)) | exact Hb.setSame (by assumption) | refine Hb.set (by first | omega | (simp only [size_alloc, size_setB, size_drew]; omega)) ?_ ))) (Ce.h (by first | assumption | exact ⟨rfl⟩)) ?_
              refine WO_guardT rfl rfl hb30.h ?_
              refine WO_p (PS_eql rfl rfl) ?_
              refine WO_guardT rfl rfl hb30.h ?_
              refine WO_p (PS_move_bool rfl) ?_
              refine WO_if (t := 83) rfl (fun hb32 => ?_) (fun hb32 => ?_)
              · have hb32p := hb32.h; try simp only [al_ete, al_dfn, Bool.not_eq_true', Bool.not_eq_false', al_ne, Bool.not_not, al_nn] at hb32p
                refine WO_guardT rfl rfl hb32.h ?_
                refine WO_p (PS_move_ptr rfl) ?_
                refine WO_guardT rfl rfl hb32.h ?_
                refine WO_p (PS_nilCheck rfl) ?_
                refine WO_guardT rfl rfl hb32.h ?_
                refine WO_p (PS_fieldAddr 2 Hvad.runUnderlying173 rfl Hvad.sizeOf26 rfl rfl) ?_
                refine WO_guardT rfl rfl hb32.h ?_
                refine WO_load (.int _ _) Hvad.isAgg26 rfl (Hb.h (by repeat (first | assumption | exact Hb.newY _ _ | refine Hb.alloc ?_ | refine Hb.drew ?_ | refine Hb.ext (by assumption) ?_ | exact Hb.setSameL (by first | omega | (simp only [size_alloc, size_setB, size_drew]; omega)) | exact Hb.setSame (by assumption) | refine Hb.set (by first | omega | (simp only [size_alloc, size_setB, size_drew]; omega)) ?_ ))) (Ce.h (by first | assumption | exact ⟨rfl⟩)) ?_
                refine WO_guardT rfl rfl hb32.h ?_
                refine WO_p (PS_gtr rfl rfl) ?_
                refine WO_guardT rfl rfl hb30.h ?_
                refine WO_p (PS_pickT rfl hb32.h rfl) ?_
                refine WO_p (PS_pickF rfl hb30.h rfl) ?_
                refine WO_nil ?_
                refine thn_normal ?_
                refine W_if rfl (fun hb34 => ?_) (fun hb34 => ?_)
                · have hb34p := hb34.h; try simp only [al_ete, al_dfn, Bool.not_eq_true', Bool.not_eq_false', al_ne, Bool.not_not, al_nn] at hb34p
                  (exfalso; omega) --END
                · have hb34p := hb34.h; try simp only [al_ete, al_dfn, Bool.not_eq_true', Bool.not_eq_false', al_ne, Bool.not_not, al_nn] at hb34p
                  refine W_skip ?_
                  refine thn_normal ?_
                  exact ⟨(by repeat (first | assumption | exact Ext.refl _ | refine Ext.alloc ?_ _ | refine Ext.drew ?_ | refine Ext.setB ?_ (by first | omega | (simp only [size_alloc, size_setB, size_drew]; omega)) _ | exact Ext.trans (by assumption) (by assumption) | refine Ext.trans ?_ (by assumption))), ⟨rfl, rfl, rfl, trivial⟩⟩
              · have hb32p := hb32.h; try simp only [al_ete, al_dfn, Bool.not_eq_true', Bool.not_eq_false', al_ne, Bool.not_not, al_nn] at hb32p
                refine WO_guardF rfl rfl hb32.h ?_
                refine WO_guardF rfl rfl hb32.h ?_
                refine WO_guardF rfl rfl hb32.h ?_
                refine WO_guardF rfl rfl hb32.h ?_
                refine WO_guardF rfl rfl hb32.h ?_
                refine WO_guardT rfl rfl hb30.h ?_
                refine WO_p (PS_pickF rfl hb32.h rfl) ?_
                refine WO_p (PS_pickF rfl hb30.h rfl) ?_
                refine WO_nil ?_
                refine thn_normal ?_
                refine W_condF rfl rfl ?_
                refine W_skip ?_
                refine thn_normal ?_
                exact ⟨(by repeat (first | assumption | exact Ext.refl _ | refine Ext.alloc ?_ _ | refine Ext.drew ?_ | refine Ext.setB ?_ (by first | omega | (simp only [size_alloc, size_setB, size_drew]; omega)) _ | exact Ext.trans (by assumption) (by assumption) | refine Ext.trans ?_ (by assumption))), ⟨rfl, rfl, rfl, trivial⟩⟩
          · have hb28p := hb28.h; try simp only [al_ete, al_dfn, Bool.not_eq_true', Bool.not_eq_false', al_ne, Bool.not_not, al_nn] at hb28p
            refine WO_guardF rfl rfl hb28.h ?_
            refine WO_guardF rfl rfl hb28.h ?_
            refine WO_guardF rfl rfl hb28.h ?_
            refine WO_guardF rfl rfl hb28.h ?_
            refine WO_guardF rfl rfl hb28.h ?_
            refine WO_p (PS_pickF rfl hb28.h rfl) ?_
            refine WO_p (PS_move_bool rfl) ?_
            refine WO_guardT rfl rfl rfl ?_
            refine WO_p (PS_move_ptr rfl) ?_
            refine WO_guardT rfl rfl rfl ?_
            refine WO_p (PS_nilCheck rfl) ?_
            refine WO_guardT rfl rfl rfl ?_
            refine WO_p (PS_fieldAddr 0 Hvad.runUnderlying173 rfl Hvad.sizeOf5 rfl rfl) ?_
            refine WO_guardT rfl rfl rfl ?_
            refine WO_load (.int _ _) Hvad.isAgg5 rfl (Hb.h (by repeat (first | assumption | exact Hb.newY _ _ | refine Hb.alloc ?_ | refine Hb.drew ?_ | refine Hb.ext (by assumption) ?_ | exact Hb.setSameL (by first | omega | (simp only [size_alloc, size_setB, size_drew]; omega)) | exact Hb.setSame (by assumption) | refine Hb.set (by first | omega | (simp only [size_alloc, size_setB, size_drew]; omega)) ?_ ))) (Ce.h (by first | assumption | exact ⟨rfl⟩)) ?_
            refine WO_guardT rfl rfl rfl ?_
            refine WO_p (PS_eql rfl rfl) ?_
            refine WO_guardT rfl rfl rfl ?_
            refine WO_p (PS_move_bool rfl) ?_
            refine WO_if (t := 83) rfl (fun hb36 => ?_) (fun hb36 => ?_)
            · have hb36p := hb36.h; try simp only [al_ete, al_dfn, Bool.not_eq_true', Bool.not_eq_false', al_ne, Bool.not_not, al_nn] at hb36p
              refine WO_guardT rfl rfl hb36.h ?_
              refine WO_p (PS_move_ptr rfl) ?_
              refine WO_guardT rfl rfl hb36.h ?_
              refine WO_p (PS_nilCheck rfl) ?_
              refine WO_guardT rfl rfl hb36.h ?_
              refine WO_p (PS_fieldAddr 2 Hvad.runUnderlying173 rfl Hvad.sizeOf26 rfl rfl) ?_
              refine WO_guardT rfl rfl hb36.h ?_
              refine WO_load (.int _ _) Hvad.isAgg26 rfl (Hb.h (by repeat (first | assumption | exact Hb.newY _ _ | refine Hb.alloc ?_ | refine Hb.drew ?_ | refine Hb.ext (by assumption) ?_ | exact Hb.setSameL (by first | omega | (simp only [size_alloc, size_setB, size_drew]; omega)) | exact Hb.setSame (by assumption) | refine Hb.set (by first | omega | (simp only [size_alloc, size_setB, size_drew]; omega)) ?_ ))) (Ce.h (by first | assumption | exact ⟨rfl⟩)) ?_
              refine WO_guardT rfl rfl hb36.h ?_
              refine WO_p (PS_gtr rfl rfl) ?_
              refine WO_guardT rfl rfl rfl ?_
              refine WO_p (PS_pickT rfl hb36.h rfl) ?_
              refine WO_p (PS_pickF rfl rfl rfl) ?_
              refine WO_nil ?_
              refine thn_normal ?_
              refine W_if rfl (fun hb38 => ?_) (fun hb38 => ?_)
              · have hb38p := hb38.h; try simp only [al_ete, al_dfn, Bool.not_eq_true', Bool.not_eq_false', al_ne, Bool.not_not, al_nn] at hb38p
                (exfalso; omega) --END
              · have hb38p := hb38.h; try simp only [al_ete, al_dfn, Bool.not_eq_true', Bool.not_eq_false', al_ne, Bool.not_not, al_nn] at hb38p
                refine W_skip ?_
                refine thn_normal ?_
                exact ⟨(by repeat (first | assumption | exact Ext.refl _ | refine Ext.alloc ?_ _ | refine Ext.drew ?_ | refine Ext.setB ?_ (by first | omega | (simp only [size_alloc, size_setB, size_drew]; omega)) _ | exact Ext.trans (by assumption) (by assumption) | refine Ext.trans ?_ (by assumption))), ⟨rfl, rfl, rfl, trivial⟩⟩
            · have hb36p := hb36.h; try simp only [al_ete, al_dfn, Bool.not_eq_true', Bool.not_eq_false', al_ne, Bool.not_not, al_nn] at hb36p
              refine WO_guardF rfl rfl hb36.h ?_
              refine WO_guardF rfl rfl hb36.h ?_
              refine WO_guardF rfl rfl hb36.h ?_
              refine WO_guardF rfl rfl hb36.h ?_
              refine WO_guardF rfl rfl hb36.h ?_
              refine WO_guardT rfl rfl rfl ?_
              refine WO_p (PS_pickF rfl hb36.h rfl) ?_
              refine WO_p (PS_pickF rfl rfl rfl) ?_
              refine WO_nil ?_
              refine thn_normal ?_
              refine W_condF rfl rfl ?_
              refine W_skip ?_
              refine thn_normal ?_
              exact ⟨(by repeat (first | assumption | exact Ext.refl _ | refine Ext.alloc ?_ _ | refine Ext.drew ?_ | refine Ext.setB ?_ (by first | omega | (simp only [size_alloc, size_setB, size_drew]; omega)) _ | exact Ext.trans (by assumption) (by assumption) | refine Ext.trans ?_ (by assumption))), ⟨rfl, rfl, rfl, trivial⟩⟩
        · have hb26p := hb26.h; try simp only [al_ete, al_dfn, Bool.not_eq_true', Bool.not_eq_false', al_ne, Bool.not_not, al_nn] at hb26p
          refine WO_guardF rfl rfl hb26.h ?_
          refine WO_guardF rfl rfl hb26.h ?_
          refine WO_guardF rfl rfl hb26.h ?_
          refine WO_guardF rfl rfl hb26.h ?_
          refine WO_guardF rfl rfl hb26.h ?_
          refine WO_p (PS_pickF rfl hb26.h rfl) ?_
          refine WO_p (PS_move_bool rfl) ?_
          refine WO_guardF rfl rfl rfl ?_
          refine WO_guardF rfl rfl rfl ?_
          refine WO_guardF rfl rfl rfl ?_
          refine WO_guardF rfl rfl rfl ?_
          refine WO_guardF rfl rfl rfl ?_
          refine WO_p (PS_pickF rfl rfl rfl) ?_
          refine WO_p (PS_move_bool rfl) ?_
          refine WO_guardT rfl rfl rfl ?_
          refine WO_p (PS_move_ptr rfl) ?_
          refine WO_guardT rfl rfl rfl ?_
          refine WO_p (PS_nilCheck rfl) ?_
          refine WO_guardT rfl rfl rfl ?_
          refine WO_p (PS_fieldAddr 0 Hvad.runUnderlying173 rfl Hvad.sizeOf5 rfl rfl) ?_
          refine WO_guardT rfl rfl rfl ?_
          refine WO_load (.int _ _) Hvad.isAgg5 rfl (Hb.h (by repeat (first | assumption | exact Hb.newY _ _ | refine Hb.alloc ?_ | refine Hb.drew ?_ | refine Hb.ext (by assumption) ?_ | exact Hb.setSameL (by first | omega | (simp only [size_alloc, size_setB, size_drew]; omega)) | exact Hb.setSame (by assumption) | refine Hb.set (by first | omega | (simp only [size_alloc, size_setB, size_drew]; omega)) ?_ ))) (Ce.h (by first | assumption | exact ⟨rfl⟩)) ?_
          refine WO_guardT rfl rfl rfl ?_
          refine WO_p (PS_eql rfl rfl) ?_
          refine WO_guardT rfl rfl rfl ?_
          refine WO_p (PS_move_bool rfl) ?_
          refine WO_if (t := 83) rfl (fun hb40 => ?_) (fun hb40 => ?_)
          · have hb40p := hb40.h; try simp only [al_ete, al_dfn, Bool.not_eq_true', Bool.not_eq_false', al_ne, Bool.not_not, al_nn] at hb40p
            refine WO_guardT rfl rfl hb40.h ?_
            refine WO_p (PS_move_ptr rfl) ?_
            refine WO_guardT rfl rfl hb40.h ?_
            refine WO_p (PS_nilCheck rfl) ?_
            refine WO_guardT rfl rfl hb40.h ?_
            refine WO_p (PS_fieldAddr 2 Hvad.runUnderlying173 rfl Hvad.sizeOf26 rfl rfl) ?_
            refine WO_guardT rfl rfl hb40.h ?_
            refine WO_load (.int _ _) Hvad.isAgg26 rfl (Hb.h (by repeat (first | assumption | exact Hb.newY _ _ | refine Hb.alloc ?_ | refine Hb.drew ?_ | refine Hb.ext (by assumption) ?_ | exact Hb.setSameL (by first | omega | (simp only [size_alloc, size_setB, size_drew]; omega)) | exact Hb.setSame (by assumption) | refine Hb.set (by first | omega | (simp only [size_alloc, size_setB, size_drew]; omega)) ?_ ))) (Ce.h (by first | assumption | exact ⟨rfl⟩)) ?_
            refine WO_guardT rfl rfl hb40.h ?_
            refine WO_p (PS_gtr rfl rfl) ?_
            refine WO_guardT rfl rfl rfl ?_
            refine WO_p (PS_pickT rfl hb40.h rfl) ?_
            refine WO_p (PS_pickF rfl rfl rfl) ?_
            refine WO_nil ?_
            refine thn_normal ?_
            refine W_if rfl (fun hb42 => ?_) (fun hb42 => ?_)
            · have hb42p := hb42.h; try simp only [al_ete, al_dfn, Bool.not_eq_true', Bool.not_eq_false', al_ne, Bool.not_not, al_nn] at hb42p
              (exfalso; omega) --END
            · have hb42p := hb42.h; try simp only [al_ete, al_dfn, Bool.not_eq_true', Bool.not_eq_false', al_ne, Bool.not_not, al_nn] at hb42p
              refine W_skip ?_
              refine thn_normal ?_
              exact ⟨(by repeat (first | assumption | exact Ext.refl _ | refine Ext.alloc ?_ _ | refine Ext.drew ?_ | refine Ext.setB ?_ (by first | omega | (simp only [size_alloc, size_setB, size_drew]; omega)) _ | exact Ext.trans (by assumption) (by assumption) | refine Ext.trans ?_ (by assumption))), ⟨rfl, rfl, rfl, trivial⟩⟩
          · have hb40p := hb40.h; try simp only [al_ete, al_dfn, Bool.not_eq_true', Bool.not_eq_false', al_ne, Bool.not_not, al_nn] at hb40p
            refine WO_guardF rfl rfl hb40.h ?_
            refine WO_guardF rfl rfl hb40.h ?_
            refine WO_guardF rfl rfl hb40.h ?_
            refine WO_guardF rfl rfl hb40.h ?_
            refine WO_guardF rfl rfl hb40.h ?_
            refine WO_guardT rfl rfl rfl ?_
            refine WO_p (PS_pickF rfl hb40.h rfl) ?_
            refine WO_p (PS_pickF rfl rfl rfl) ?_
            refine WO_nil ?_
            refine thn_normal ?_
            refine W_condF rfl rfl ?_
            refine W_skip ?_
            refine thn_normal ?_
            exact ⟨(by repeat (first | assumption | exact Ext.refl _ | refine Ext.alloc ?_ _ | refine Ext.drew ?_ | refine Ext.setB ?_ (by first | omega | (simp only [size_alloc, size_setB, size_drew]; omega)) _ | exact Ext.trans (by assumption) (by assumption) | refine Ext.trans ?_ (by assumption))), ⟨rfl, rfl, rfl, trivial⟩⟩
      · rintro ρ w1 ⟨hE1, hFr⟩
        refine W_env _ hFr ?_
        have hz1 := hE1.1
        refine W_seqJ (fun ρ w' => Ext w w' ∧ Fr [(0, .pointer (some ⟨C, 2435, none⟩)), (1, .pointer (some ⟨b, 0 + i * 9, none⟩)), (5, .int .i64 es)] ρ) ?_ ?_
        · skip
          refine W_seq ?_
          refine W_region rfl ?_
          refine WO_p (PS_move_ptr rfl) ?_
          refine WO_p (PS_nilCheck rfl) ?_
          refine WO_p (PS_fieldAddr 3 Hvad.runUnderlying173 rfl Hvad.sizeOf59 rfl rfl) ?_
          refine WO_loadA _ Hvad.isAgg59 Hvad.sizeOf59 rfl (Hb.h (by repeat (first | assumption | exact Hb.newY _ _ | refine Hb.alloc ?_ | refine Hb.drew ?_ | refine Hb.ext (by assumption) ?_ | exact Hb.setSameL (by first | omega | (simp only [size_alloc, size_setB, size_drew]; omega)) | exact Hb.setSame (by assumption) | refine Hb.set (by first | omega | (simp only [size_alloc, size_setB, size_drew]; omega)) ?_ ))) (by first | omega | assumption | rfl | decide | exact Nat.le_refl _ | (simp only [size_ic, Value.cells]; omega) | simp) (Xt.h (by first | assumption | exact Xt.whole rfl rfl | exact Xt.whole rfl (by simp only [size_ic, Value.cells]; omega) | exact ⟨rfl⟩)) ?_
          refine WO_call Hvad.call131 (by rfl) (Ret.mono (isZero_spec _ _ hwd) ?_)
          rintro _ w131_42 ⟨rfl, hE131_42⟩
          have hz131_42 := hE131_42.1
          try simp only [size_alloc, size_setB, size_drew] at hz131_42
          refine WO_p (PS_not rfl) ?_
          refine WO_p (PS_move_bool rfl) ?_
          refine WO_if (t := 97) rfl (fun hb46 => ?_) (fun hb46 => ?_)
          · have hb46p := hb46.h; try simp only [al_ete, al_dfn, Bool.not_eq_true', Bool.not_eq_false', al_ne, Bool.not_not, al_nn] at hb46p
            have hw1 := he.w hb46p
            refine WO_guardT rfl rfl hb46.h ?_
            refine WO_p (PS_move_ptr rfl) ?_
            refine WO_guardT rfl rfl hb46.h ?_
            refine WO_p (PS_nilCheck rfl) ?_
            refine WO_guardT rfl rfl hb46.h ?_
            refine WO_p (PS_fieldAddr 0 Hvad.runUnderlying173 rfl Hvad.sizeOf5 rfl rfl) ?_
            refine WO_guardT rfl rfl hb46.h ?_
            refine WO_load (.int _ _) Hvad.isAgg5 rfl (Hb.h (by repeat (first | assumption | exact Hb.newY _ _ | refine Hb.alloc ?_ | refine Hb.drew ?_ | refine Hb.ext (by assumption) ?_ | exact Hb.setSameL (by first | omega | (simp only [size_alloc, size_setB, size_drew]; omega)) | exact Hb.setSame (by assumption) | refine Hb.set (by first | omega | (simp only [size_alloc, size_setB, size_drew]; omega)) ?_ ))) (Ce.h (by first | assumption | exact ⟨rfl⟩)) ?_
            refine WO_guardT rfl rfl hb46.h ?_
            refine WO_p (PS_neq rfl rfl) ?_
            refine WO_p (PS_pickT rfl hb46.h rfl) ?_
            refine WO_p (PS_move_bool rfl) ?_
            refine WO_if (t := 104) rfl (fun hb48 => ?_) (fun hb48 => ?_)
            · have hb48p := hb48.h; try simp only [al_ete, al_dfn, Bool.not_eq_true', Bool.not_eq_false', al_ne, Bool.not_not, al_nn] at hb48p
              refine WO_guardT rfl rfl hb48.h ?_
              refine WO_p (PS_move_ptr rfl) ?_
              refine WO_guardT rfl rfl hb48.h ?_
              refine WO_p (PS_nilCheck rfl) ?_
              refine WO_guardT rfl rfl hb48.h ?_
              refine WO_p (PS_fieldAddr 0 Hvad.runUnderlying173 rfl Hvad.sizeOf5 rfl rfl) ?_
              refine WO_guardT rfl rfl hb48.h ?_
              refine WO_load (.int _ _) Hvad.isAgg5 rfl (Hb.h (by repeat (first | assumption | exact Hb.newY _ _ | refine Hb.alloc ?_ | refine Hb.drew ?_ | refine Hb.ext (by assumption) ?_ | exact Hb.setSameL (by first | omega | (simp only [size_alloc, size_setB, size_drew]; omega)) | exact Hb.setSame (by assumption) | refine Hb.set (by first | omega | (simp only [size_alloc, size_setB, size_drew]; omega)) ?_ ))) (Ce.h (by first | assumption | exact ⟨rfl⟩)) ?_
              refine WO_guardT rfl rfl hb48.h ?_
              refine WO_p (PS_neq rfl rfl) ?_
              refine WO_p (PS_pickT rfl hb48.h rfl) ?_
              refine WO_p (PS_move_bool rfl) ?_
              refine WO_if (t := 111) rfl (fun hb50 => ?_) (fun hb50 => ?_)
              · have hb50p := hb50.h; try simp only [al_ete, al_dfn, Bool.not_eq_true', Bool.not_eq_false', al_ne, Bool.not_not, al_nn] at hb50p
                refine WO_guardT rfl rfl hb50.h ?_
                refine WO_p (PS_move_ptr rfl) ?_
                refine WO_guardT rfl rfl hb50.h ?_
                refine WO_p (PS_nilCheck rfl) ?_
                refine WO_guardT rfl rfl hb50.h ?_
                refine WO_p (PS_fieldAddr 0 Hvad.runUnderlying173 rfl Hvad.sizeOf5 rfl rfl) ?_
                refine WO_guardT rfl rfl hb50.h ?_
                refine WO_load (.int _ _) Hvad.isAgg5 rfl (Hb.h (by repeat (first | assumption | exact Hb.newY _ _ | refine Hb.alloc ?_ | refine Hb.drew ?_ | refine Hb.ext (by assumption) ?_ | exact Hb.setSameL (by first | omega | (simp only [size_alloc, size_setB, size_drew]; omega)) | exact Hb.setSame (by assumption) | refine Hb.set (by first | omega | (simp only [size_alloc, size_setB, size_drew]; omega)) ?_ ))) (Ce.h (by first | assumption | exact ⟨rfl⟩)) ?_
                refine WO_guardT rfl rfl hb50.h ?_
                refine WO_p (PS_neq rfl rfl) ?_
                refine WO_p (PS_pickT rfl hb50.h rfl) ?_
                refine WO_nil ?_
                refine thn_normal ?_
                refine W_if rfl (fun hb52 => ?_) (fun hb52 => ?_)
                · have hb52p := hb52.h; try simp only [al_ete, al_dfn, Bool.not_eq_true', Bool.not_eq_false', al_ne, Bool.not_not, al_nn] at hb52p
                  (exfalso; omega) --END
                · have hb52p := hb52.h; try simp only [al_ete, al_dfn, Bool.not_eq_true', Bool.not_eq_false', al_ne, Bool.not_not, al_nn] at hb52p
                  refine W_skip ?_
                  refine thn_normal ?_
                  exact ⟨(by repeat (first | assumption | exact Ext.refl _ | refine Ext.alloc ?_ _ | refine Ext.drew ?_ | refine Ext.setB ?_ (by first | omega | (simp only [size_alloc, size_setB, size_drew]; omega)) _ | exact Ext.trans (by assumption) (by assumption) | refine Ext.trans ?_ (by assumption))), ⟨rfl, rfl, rfl, trivial⟩⟩
              · have hb50p := hb50.h; try simp only [al_ete, al_dfn, Bool.not_eq_true', Bool.not_eq_false', al_ne, Bool.not_not, al_nn] at hb50p
                refine WO_guardF rfl rfl hb50.h ?_
                refine WO_guardF rfl rfl hb50.h ?_
                refine WO_guardF rfl rfl hb50.h ?_
                refine WO_guardF rfl rfl hb50.h ?_
                refine WO_guardF rfl rfl hb50.h ?_
                refine WO_p (PS_pickF rfl hb50.h rfl) ?_
                refine WO_nil ?_
                refine thn_normal ?_
                refine W_condF rfl rfl ?_
                refine W_skip ?_
                refine thn_normal ?_
                exact ⟨(by repeat (first | assumption | exact Ext.refl _ | refine Ext.alloc ?_ _ | refine Ext.drew ?_ | refine Ext.setB ?_ (by first | omega | (simp only [size_alloc, size_setB, size_drew]; omega)) _ | exact Ext.trans (by assumption) (by assumption) | refine Ext.trans ?_ (by assumption))), ⟨rfl, rfl, rfl, trivial⟩⟩
            · have hb48p := hb48.h; try simp only [al_ete, al_dfn, Bool.not_eq_true', Bool.not_eq_false', al_ne, Bool.not_not, al_nn] at hb48p
              refine WO_guardF rfl rfl hb48.h ?_
              refine WO_guardF rfl rfl hb48.h ?_
              refine WO_guardF rfl rfl hb48.h ?_
              refine WO_guardF rfl rfl hb48.h ?_
              refine WO_guardF rfl rfl hb48.h ?_
              refine WO_p (PS_pickF rfl hb48.h rfl) ?_
              refine WO_p (PS_move_bool rfl) ?_
              refine WO_guardF rfl rfl rfl ?_
              refine WO_guardF rfl rfl rfl ?_
              refine WO_guardF rfl rfl rfl ?_
              refine WO_guardF rfl rfl rfl ?_
              refine WO_guardF rfl rfl rfl ?_
              refine WO_p (PS_pickF rfl rfl rfl) ?_
              refine WO_nil ?_
              refine thn_normal ?_
              refine W_condF rfl rfl ?_
              refine W_skip ?_
              refine thn_normal ?_
              exact ⟨(by repeat (first | assumption | exact Ext.refl _ | refine Ext.alloc ?_ _ | refine Ext.drew ?_ | refine Ext.setB ?_ (by first | omega | (simp only [size_alloc, size_setB, size_drew]; omega)) _ | exact Ext.trans (by assumption) (by assumption) | refine Ext.trans ?_ (by assumption))), ⟨rfl, rfl, rfl, trivial⟩⟩
          · have hb46p := hb46.h; try simp only [al_ete, al_dfn, Bool.not_eq_true', Bool.not_eq_false', al_ne, Bool.not_not, al_nn] at hb46p
            refine WO_guardF rfl rfl hb46.h ?_
            refine WO_guardF rfl rfl hb46.h ?_
            refine WO_guardF rfl rfl hb46.h ?_
            refine WO_guardF rfl rfl hb46.h ?_
            refine WO_guardF rfl rfl hb46.h ?_
            refine WO_p (PS_pickF rfl hb46.h rfl) ?_
            refine WO_p (PS_move_bool rfl) ?_
            refine WO_guardF rfl rfl rfl ?_
            refine WO_guardF rfl rfl rfl ?_
            refine WO_guardF rfl rfl rfl ?_
            refine WO_guardF rfl rfl rfl ?_
            refine WO_guardF rfl rfl rfl ?_
            refine WO_p (PS_pickF rfl rfl rfl) ?_
            refine WO_p (PS_move_bool rfl) ?_
            refine WO_guardF rfl rfl rfl ?_
            refine WO_guardF rfl rfl rfl ?_
            refine WO_guardF rfl rfl rfl ?_
            refine WO_guardF rfl rfl rfl ?_
            refine WO_guardF rfl rfl rfl ?_
            refine WO_p (PS_pickF rfl rfl rfl) ?_
            refine WO_nil ?_
            refine thn_normal ?_
            refine W_condF rfl rfl ?_
            refine W_skip ?_
            refine thn_normal ?_
            exact ⟨(by repeat (first | assumption | exact Ext.refl _ | refine Ext.alloc ?_ _ | refine Ext.drew ?_ | refine Ext.setB ?_ (by first | omega | (simp only [size_alloc, size_setB, size_drew]; omega)) _ | exact Ext.trans (by assumption) (by assumption) | refine Ext.trans ?_ (by assumption))), ⟨rfl, rfl, rfl, trivial⟩⟩
        · rintro ρ w1 ⟨hE1, hFr⟩
          refine W_env _ hFr ?_
          have hz1 := hE1.1
          refine W_seqJ (fun ρ w' => Ext w w' ∧ Fr [(0, .pointer (some ⟨C, 2435, none⟩)), (1, .pointer (some ⟨b, 0 + i * 9, none⟩)), (5, .int .i64 es)] ρ) ?_ ?_
          · skip
            refine W_seq ?_
            refine W_region rfl ?_
            refine WO_p (PS_move_ptr rfl) ?_
            refine WO_p (PS_nilCheck rfl) ?_
            refine WO_p (PS_fieldAddr 7 Hvad.runUnderlying173 rfl Hvad.sizeOf32 rfl rfl) ?_
            refine WO_load (.slice _ _ _) Hvad.isAgg32 rfl (Hb.h (by repeat (first | assumption | exact Hb.newY _ _ | refine Hb.alloc ?_ | refine Hb.drew ?_ | refine Hb.ext (by assumption) ?_ | exact Hb.setSameL (by first | omega | (simp only [size_alloc, size_setB, size_drew]; omega)) | exact Hb.setSame (by assumption) | refine Hb.set (by first | omega | (simp only [size_alloc, size_setB, size_drew]; omega)) ?_ ))) (Ce.h (by first | assumption | exact ⟨rfl⟩)) ?_
            refine WO_p (PS_neqslnil Hvad.underlying32 rfl) ?_
            refine WO_p (PS_move_bool rfl) ?_
            refine WO_if (t := 123) rfl (fun hb54 => ?_) (fun hb54 => ?_)
            · have hb54p := hb54.h; try simp only [al_ete, al_dfn, Bool.not_eq_true', Bool.not_eq_false', al_ne, Bool.not_not, al_nn] at hb54p
              have hb1 : xi.kind = 2 := he.b (by intro e; rw [e] at hb54p; cases hb54p)
              refine WO_guardT rfl rfl hb54.h ?_
              refine WO_p (PS_move_ptr rfl) ?_
              refine WO_guardT rfl rfl hb54.h ?_
              refine WO_p (PS_nilCheck rfl) ?_
              refine WO_guardT rfl rfl hb54.h ?_
              refine WO_p (PS_fieldAddr 0 Hvad.runUnderlying173 rfl Hvad.sizeOf5 rfl rfl) ?_
              refine WO_guardT rfl rfl hb54.h ?_
              refine WO_load (.int _ _) Hvad.isAgg5 rfl (Hb.h (by repeat (first | assumption | exact Hb.newY _ _ | refine Hb.alloc ?_ | refine Hb.drew ?_ | refine Hb.ext (by assumption) ?_ | exact Hb.setSameL (by first | omega | (simp only [size_alloc, size_setB, size_drew]; omega)) | exact Hb.setSame (by assumption) | refine Hb.set (by first | omega | (simp only [size_alloc, size_setB, size_drew]; omega)) ?_ ))) (Ce.h (by first | assumption | exact ⟨rfl⟩)) ?_
              refine WO_guardT rfl rfl hb54.h ?_
              refine WO_p (PS_neq rfl rfl) ?_
              refine WO_p (PS_pickT rfl hb54.h rfl) ?_
              refine WO_p (PS_move_bool rfl) ?_
              refine WO_if (t := 130) rfl (fun hb56 => ?_) (fun hb56 => ?_)
              · have hb56p := hb56.h; try simp only [al_ete, al_dfn, Bool.not_eq_true', Bool.not_eq_false', al_ne, Bool.not_not, al_nn] at hb56p
                (exfalso; omega) --END
              · have hb56p := hb56.h; try simp only [al_ete, al_dfn, Bool.not_eq_true', Bool.not_eq_false', al_ne, Bool.not_not, al_nn] at hb56p
                refine WO_guardT rfl rfl hb56.h ?_
                refine WO_p (PS_move_ptr rfl) ?_
                refine WO_guardT rfl rfl hb56.h ?_
                refine WO_p (PS_nilCheck rfl) ?_
                refine WO_guardT rfl rfl hb56.h ?_
                refine WO_p (PS_fieldAddr 7 Hvad.runUnderlying173 rfl Hvad.sizeOf32 rfl rfl) ?_
                refine WO_guardT rfl rfl hb56.h ?_
                refine WO_load (.slice _ _ _) Hvad.isAgg32 rfl (Hb.h (by repeat (first | assumption | exact Hb.newY _ _ | refine Hb.alloc ?_ | refine Hb.drew ?_ | refine Hb.ext (by assumption) ?_ | exact Hb.setSameL (by first | omega | (simp only [size_alloc, size_setB, size_drew]; omega)) | exact Hb.setSame (by assumption) | refine Hb.set (by first | omega | (simp only [size_alloc, size_setB, size_drew]; omega)) ?_ ))) (Ce.h (by first | assumption | exact ⟨rfl⟩)) ?_
                refine WO_guardT rfl rfl hb56.h ?_
                refine WO_call Hvad.call297 (by rfl) (Ret.mono (codeOK_spec _ _ he.c) ?_)
                rintro _ w297_56 ⟨rfl, hE297_56⟩
                have hz297_56 := hE297_56.1
                try simp only [size_alloc, size_setB, size_drew] at hz297_56
                refine WO_guardT rfl rfl hb56.h ?_
                refine WO_p (PS_not rfl) ?_
                refine WO_p (PS_pickF rfl hb56.h rfl) ?_
                refine WO_nil ?_
                refine thn_normal ?_
                refine W_if rfl (fun hb60 => ?_) (fun hb60 => ?_)
                · have hb60p := hb60.h; try simp only [al_ete, al_dfn, Bool.not_eq_true', Bool.not_eq_false', al_ne, Bool.not_not, al_nn] at hb60p
                  first | (exfalso; omega) | (simp at hb60p) --END
                · have hb60p := hb60.h; try simp only [al_ete, al_dfn, Bool.not_eq_true', Bool.not_eq_false', al_ne, Bool.not_not, al_nn] at hb60p
                  refine W_skip ?_
                  refine thn_normal ?_
                  exact ⟨(by repeat (first | assumption | exact Ext.refl _ | refine Ext.alloc ?_ _ | refine Ext.drew ?_ | refine Ext.setB ?_ (by first | omega | (simp only [size_alloc, size_setB, size_drew]; omega)) _ | exact Ext.trans (by assumption) (by assumption) | refine Ext.trans ?_ (by assumption))), ⟨rfl, rfl, rfl, trivial⟩⟩
            · have hb54p := hb54.h; try simp only [al_ete, al_dfn, Bool.not_eq_true', Bool.not_eq_false', al_ne, Bool.not_not, al_nn] at hb54p
              refine WO_guardF rfl rfl hb54.h ?_
              refine WO_guardF rfl rfl hb54.h ?_
              refine WO_guardF rfl rfl hb54.h ?_
              refine WO_guardF rfl rfl hb54.h ?_
              refine WO_guardF rfl rfl hb54.h ?_
              refine WO_p (PS_pickF rfl hb54.h rfl) ?_
              refine WO_p (PS_move_bool rfl) ?_
              refine WO_guardT rfl rfl rfl ?_
              refine WO_p (PS_move_ptr rfl) ?_
              refine WO_guardT rfl rfl rfl ?_
              refine WO_p (PS_nilCheck rfl) ?_
              refine WO_guardT rfl rfl rfl ?_
              refine WO_p (PS_fieldAddr 7 Hvad.runUnderlying173 rfl Hvad.sizeOf32 rfl rfl) ?_
              refine WO_guardT rfl rfl rfl ?_
              refine WO_load (.slice _ _ _) Hvad.isAgg32 rfl (Hb.h (by repeat (first | assumption | exact Hb.newY _ _ | refine Hb.alloc ?_ | refine Hb.drew ?_ | refine Hb.ext (by assumption) ?_ | exact Hb.setSameL (by first | omega | (simp only [size_alloc, size_setB, size_drew]; omega)) | exact Hb.setSame (by assumption) | refine Hb.set (by first | omega | (simp only [size_alloc, size_setB, size_drew]; omega)) ?_ ))) (Ce.h (by first | assumption | exact ⟨rfl⟩)) ?_
              refine WO_guardT rfl rfl rfl ?_
              refine WO_call Hvad.call297 (by rfl) (Ret.mono (codeOK_spec _ _ he.c) ?_)
              rintro _ w297_60 ⟨rfl, hE297_60⟩
              have hz297_60 := hE297_60.1
              try simp only [size_alloc, size_setB, size_drew] at hz297_60
              refine WO_guardT rfl rfl rfl ?_
              refine WO_p (PS_not rfl) ?_
              refine WO_p (PS_pickF rfl rfl rfl) ?_
              refine WO_nil ?_
              refine thn_normal ?_
              refine W_if rfl (fun hb64 => ?_) (fun hb64 => ?_)
              · have hb64p := hb64.h; try simp only [al_ete, al_dfn, Bool.not_eq_true', Bool.not_eq_false', al_ne, Bool.not_not, al_nn] at hb64p
                first | (exfalso; omega) | (simp at hb64p) --END
              · have hb64p := hb64.h; try simp only [al_ete, al_dfn, Bool.not_eq_true', Bool.not_eq_false', al_ne, Bool.not_not, al_nn] at hb64p
                refine W_skip ?_
                refine thn_normal ?_
                exact ⟨(by repeat (first | assumption | exact Ext.refl _ | refine Ext.alloc ?_ _ | refine Ext.drew ?_ | refine Ext.setB ?_ (by first | omega | (simp only [size_alloc, size_setB, size_drew]; omega)) _ | exact Ext.trans (by assumption) (by assumption) | refine Ext.trans ?_ (by assumption))), ⟨rfl, rfl, rfl, trivial⟩⟩
          · rintro ρ w1 ⟨hE1, hFr⟩
            refine W_env _ hFr ?_
            have hz1 := hE1.1
            refine W_seq ?_
            refine W_region rfl ?_
            refine WO_p (PS_move_ptr rfl) ?_
            refine WO_p (PS_nilCheck rfl) ?_
            refine WO_p (PS_fieldAddr 8 Hvad.runUnderlying173 rfl Hvad.sizeOf4 rfl rfl) ?_
            refine WO_load (.bool _) Hvad.isAgg4 rfl (Hb.h (by repeat (first | assumption | exact Hb.newY _ _ | refine Hb.alloc ?_ | refine Hb.drew ?_ | refine Hb.ext (by assumption) ?_ | exact Hb.setSameL (by first | omega | (simp only [size_alloc, size_setB, size_drew]; omega)) | exact Hb.setSame (by assumption) | refine Hb.set (by first | omega | (simp only [size_alloc, size_setB, size_drew]; omega)) ?_ ))) (Ce.h (by first | assumption | exact ⟨rfl⟩)) ?_
            refine WO_p (PS_not rfl) ?_
            refine WO_p (PS_move_bool rfl) ?_
            refine WO_if (t := 143) rfl (fun hb67 => ?_) (fun hb67 => ?_)
            · have hb67p := hb67.h; try simp only [al_ete, al_dfn, Bool.not_eq_true', Bool.not_eq_false', al_ne, Bool.not_not, al_nn] at hb67p
              refine WO_guardF rfl rfl hb67.h ?_
              refine WO_guardF rfl rfl hb67.h ?_
              refine WO_guardF rfl rfl hb67.h ?_
              refine WO_guardF rfl rfl hb67.h ?_
              refine WO_guardF rfl rfl hb67.h ?_
              refine WO_p (PS_pickT rfl hb67.h rfl) ?_
              refine WO_p (PS_move_bool rfl) ?_
              refine WO_guardF rfl rfl rfl ?_
              refine WO_guardF rfl rfl rfl ?_
              refine WO_guardF rfl rfl rfl ?_
              refine WO_guardF rfl rfl rfl ?_
              refine WO_guardF rfl rfl rfl ?_
              refine WO_p (PS_pickT rfl rfl rfl) ?_
              refine WO_p (PS_move_bool rfl) ?_
              refine WO_guardF rfl rfl rfl ?_
              refine WO_guardF rfl rfl rfl ?_
              refine WO_guardF rfl rfl rfl ?_
              refine WO_guardF rfl rfl rfl ?_
              refine WO_guardF rfl rfl rfl ?_
              refine WO_p (PS_pickT rfl rfl rfl) ?_
              refine WO_p (PS_move_bool rfl) ?_
              refine WO_guardF rfl rfl rfl ?_
              refine WO_guardF rfl rfl rfl ?_
              refine WO_guardF rfl rfl rfl ?_
              refine WO_guardF rfl rfl rfl ?_
              refine WO_guardF rfl rfl rfl ?_
              refine WO_p (PS_pickT rfl rfl rfl) ?_
              refine WO_p (PS_assign_bool rfl) ?_
              refine WO_nil ?_
              refine thn_normal ?_
              refine W_ret ?_
              refine bodyQ_ret1 Hvad.results287 rfl (.bool _) rfl ?_
              first | exact ⟨rfl, (by repeat (first | assumption | exact Ext.refl _ | refine Ext.alloc ?_ _ | refine Ext.drew ?_ | refine Ext.setB ?_ (by first | omega | (simp only [size_alloc, size_setB, size_drew]; omega)) _ | refine Ext.trans ?_ (by assumption)))⟩ | (exfalso; simp_all; done) | exact ⟨congrArg Value.bool (al_et (by omega)), (by repeat (first | assumption | exact Ext.refl _ | refine Ext.alloc ?_ _ | refine Ext.drew ?_ | refine Ext.setB ?_ (by first | omega | (simp only [size_alloc, size_setB, size_drew]; omega)) _ | refine Ext.trans ?_ (by assumption)))⟩
            · have hb67p := hb67.h; try simp only [al_ete, al_dfn, Bool.not_eq_true', Bool.not_eq_false', al_ne, Bool.not_not, al_nn] at hb67p
              have hfl := he.f hb67p
              refine WO_guardT rfl rfl hb67.h ?_
              refine WO_p (PS_move_ptr rfl) ?_
              refine WO_guardT rfl rfl hb67.h ?_
              refine WO_p (PS_nilCheck rfl) ?_
              refine WO_guardT rfl rfl hb67.h ?_
              refine WO_p (PS_fieldAddr 0 Hvad.runUnderlying173 rfl Hvad.sizeOf5 rfl rfl) ?_
              refine WO_guardT rfl rfl hb67.h ?_
              refine WO_load (.int _ _) Hvad.isAgg5 rfl (Hb.h (by repeat (first | assumption | exact Hb.newY _ _ | refine Hb.alloc ?_ | refine Hb.drew ?_ | refine Hb.ext (by assumption) ?_ | exact Hb.setSameL (by first | omega | (simp only [size_alloc, size_setB, size_drew]; omega)) | exact Hb.setSame (by assumption) | refine Hb.set (by first | omega | (simp only [size_alloc, size_setB, size_drew]; omega)) ?_ ))) (Ce.h (by first | assumption | exact ⟨rfl⟩)) ?_
              refine WO_guardT rfl rfl hb67.h ?_
              refine WO_p (PS_eql rfl rfl) ?_
              refine WO_p (PS_pickF rfl hb67.h rfl) ?_
              refine WO_p (PS_move_bool rfl) ?_
              refine WO_if (t := 150) rfl (fun hb69 => ?_) (fun hb69 => ?_)
              · have hb69p := hb69.h; try simp only [al_ete, al_dfn, Bool.not_eq_true', Bool.not_eq_false', al_ne, Bool.not_not, al_nn] at hb69p
                refine WO_guardF rfl rfl hb69.h ?_
                refine WO_guardF rfl rfl hb69.h ?_
                refine WO_guardF rfl rfl hb69.h ?_
                refine WO_guardF rfl rfl hb69.h ?_
                refine WO_guardF rfl rfl hb69.h ?_
                refine WO_p (PS_pickT rfl hb69.h rfl) ?_
                refine WO_p (PS_move_bool rfl) ?_
                refine WO_guardF rfl rfl rfl ?_
                refine WO_guardF rfl rfl rfl ?_
                refine WO_guardF rfl rfl rfl ?_
                refine WO_guardF rfl rfl rfl ?_
                refine WO_guardF rfl rfl rfl ?_
                refine WO_p (PS_pickT rfl rfl rfl) ?_
                refine WO_p (PS_move_bool rfl) ?_
                refine WO_guardF rfl rfl rfl ?_
                refine WO_guardF rfl rfl rfl ?_
                refine WO_guardF rfl rfl rfl ?_
                refine WO_guardF rfl rfl rfl ?_
                refine WO_guardF rfl rfl rfl ?_
                refine WO_p (PS_pickT rfl rfl rfl) ?_
                refine WO_p (PS_assign_bool rfl) ?_
                refine WO_nil ?_
                refine thn_normal ?_
                refine W_ret ?_
                refine bodyQ_ret1 Hvad.results287 rfl (.bool _) rfl ?_
                first | exact ⟨rfl, (by repeat (first | assumption | exact Ext.refl _ | refine Ext.alloc ?_ _ | refine Ext.drew ?_ | refine Ext.setB ?_ (by first | omega | (simp only [size_alloc, size_setB, size_drew]; omega)) _ | refine Ext.trans ?_ (by assumption)))⟩ | (exfalso; simp_all; done) | exact ⟨congrArg Value.bool (al_et (by omega)), (by repeat (first | assumption | exact Ext.refl _ | refine Ext.alloc ?_ _ | refine Ext.drew ?_ | refine Ext.setB ?_ (by first | omega | (simp only [size_alloc, size_setB, size_drew]; omega)) _ | refine Ext.trans ?_ (by assumption)))⟩
              · have hb69p := hb69.h; try simp only [al_ete, al_dfn, Bool.not_eq_true', Bool.not_eq_false', al_ne, Bool.not_not, al_nn] at hb69p
                refine WO_guardT rfl rfl hb69.h ?_
                refine WO_p (PS_move_ptr rfl) ?_
                refine WO_guardT rfl rfl hb69.h ?_
                refine WO_p (PS_nilCheck rfl) ?_
                refine WO_guardT rfl rfl hb69.h ?_
                refine WO_p (PS_fieldAddr 0 Hvad.runUnderlying173 rfl Hvad.sizeOf5 rfl rfl) ?_
                refine WO_guardT rfl rfl hb69.h ?_
                refine WO_load (.int _ _) Hvad.isAgg5 rfl (Hb.h (by repeat (first | assumption | exact Hb.newY _ _ | refine Hb.alloc ?_ | refine Hb.drew ?_ | refine Hb.ext (by assumption) ?_ | exact Hb.setSameL (by first | omega | (simp only [size_alloc, size_setB, size_drew]; omega)) | exact Hb.setSame (by assumption) | refine Hb.set (by first | omega | (simp only [size_alloc, size_setB, size_drew]; omega)) ?_ ))) (Ce.h (by first | assumption | exact ⟨rfl⟩)) ?_
                refine WO_guardT rfl rfl hb69.h ?_
                refine WO_p (PS_eql rfl rfl) ?_
                refine WO_p (PS_pickF rfl hb69.h rfl) ?_
                refine WO_p (PS_move_bool rfl) ?_
                refine WO_if (t := 157) rfl (fun hb71 => ?_) (fun hb71 => ?_)
                · have hb71p := hb71.h; try simp only [al_ete, al_dfn, Bool.not_eq_true', Bool.not_eq_false', al_ne, Bool.not_not, al_nn] at hb71p
                  refine WO_guardF rfl rfl hb71.h ?_
                  refine WO_guardF rfl rfl hb71.h ?_
                  refine WO_guardF rfl rfl hb71.h ?_
                  refine WO_guardF rfl rfl hb71.h ?_
                  refine WO_guardF rfl rfl hb71.h ?_
                  refine WO_p (PS_pickT rfl hb71.h rfl) ?_
                  refine WO_p (PS_move_bool rfl) ?_
                  refine WO_guardF rfl rfl rfl ?_
                  refine WO_guardF rfl rfl rfl ?_
                  refine WO_guardF rfl rfl rfl ?_
                  refine WO_guardF rfl rfl rfl ?_
                  refine WO_guardF rfl rfl rfl ?_
                  refine WO_p (PS_pickT rfl rfl rfl) ?_
                  refine WO_p (PS_assign_bool rfl) ?_
                  refine WO_nil ?_
                  refine thn_normal ?_
                  refine W_ret ?_
                  refine bodyQ_ret1 Hvad.results287 rfl (.bool _) rfl ?_
                  first | exact ⟨rfl, (by repeat (first | assumption | exact Ext.refl _ | refine Ext.alloc ?_ _ | refine Ext.drew ?_ | refine Ext.setB ?_ (by first | omega | (simp only [size_alloc, size_setB, size_drew]; omega)) _ | refine Ext.trans ?_ (by assumption)))⟩ | (exfalso; simp_all; done) | exact ⟨congrArg Value.bool (al_et (by omega)), (by repeat (first | assumption | exact Ext.refl _ | refine Ext.alloc ?_ _ | refine Ext.drew ?_ | refine Ext.setB ?_ (by first | omega | (simp only [size_alloc, size_setB, size_drew]; omega)) _ | refine Ext.trans ?_ (by assumption)))⟩
                · have hb71p := hb71.h; try simp only [al_ete, al_dfn, Bool.not_eq_true', Bool.not_eq_false', al_ne, Bool.not_not, al_nn] at hb71p
                  refine WO_guardT rfl rfl hb71.h ?_
                  refine WO_p (PS_move_ptr rfl) ?_
                  refine WO_guardT rfl rfl hb71.h ?_
                  refine WO_p (PS_nilCheck rfl) ?_
                  refine WO_guardT rfl rfl hb71.h ?_
                  refine WO_p (PS_fieldAddr 0 Hvad.runUnderlying173 rfl Hvad.sizeOf5 rfl rfl) ?_
                  refine WO_guardT rfl rfl hb71.h ?_
                  refine WO_load (.int _ _) Hvad.isAgg5 rfl (Hb.h (by repeat (first | assumption | exact Hb.newY _ _ | refine Hb.alloc ?_ | refine Hb.drew ?_ | refine Hb.ext (by assumption) ?_ | exact Hb.setSameL (by first | omega | (simp only [size_alloc, size_setB, size_drew]; omega)) | exact Hb.setSame (by assumption) | refine Hb.set (by first | omega | (simp only [size_alloc, size_setB, size_drew]; omega)) ?_ ))) (Ce.h (by first | assumption | exact ⟨rfl⟩)) ?_
                  refine WO_guardT rfl rfl hb71.h ?_
                  refine WO_p (PS_eql rfl rfl) ?_
                  refine WO_p (PS_pickF rfl hb71.h rfl) ?_
                  refine WO_p (PS_move_bool rfl) ?_
                  refine WO_if (t := 164) rfl (fun hb73 => ?_) (fun hb73 => ?_)
                  · have hb73p := hb73.h; try simp only [al_ete, al_dfn, Bool.not_eq_true', Bool.not_eq_false', al_ne, Bool.not_not, al_nn] at hb73p
                    refine WO_guardF rfl rfl hb73.h ?_
                    refine WO_guardF rfl rfl hb73.h ?_
                    refine WO_guardF rfl rfl hb73.h ?_
                    refine WO_guardF rfl rfl hb73.h ?_
                    refine WO_guardF rfl rfl hb73.h ?_
                    refine WO_p (PS_pickT rfl hb73.h rfl) ?_
                    refine WO_p (PS_assign_bool rfl) ?_
                    refine WO_nil ?_
                    refine thn_normal ?_
                    refine W_ret ?_
                    refine bodyQ_ret1 Hvad.results287 rfl (.bool _) rfl ?_
                    first | exact ⟨rfl, (by repeat (first | assumption | exact Ext.refl _ | refine Ext.alloc ?_ _ | refine Ext.drew ?_ | refine Ext.setB ?_ (by first | omega | (simp only [size_alloc, size_setB, size_drew]; omega)) _ | refine Ext.trans ?_ (by assumption)))⟩ | (exfalso; simp_all; done) | exact ⟨congrArg Value.bool (al_et (by omega)), (by repeat (first | assumption | exact Ext.refl _ | refine Ext.alloc ?_ _ | refine Ext.drew ?_ | refine Ext.setB ?_ (by first | omega | (simp only [size_alloc, size_setB, size_drew]; omega)) _ | refine Ext.trans ?_ (by assumption)))⟩
                  · have hb73p := hb73.h; try simp only [al_ete, al_dfn, Bool.not_eq_true', Bool.not_eq_false', al_ne, Bool.not_not, al_nn] at hb73p
                    refine WO_guardT rfl rfl hb73.h ?_
                    refine WO_p (PS_move_ptr rfl) ?_
                    refine WO_guardT rfl rfl hb73.h ?_
                    refine WO_p (PS_nilCheck rfl) ?_
                    refine WO_guardT rfl rfl hb73.h ?_
                    refine WO_p (PS_fieldAddr 0 Hvad.runUnderlying173 rfl Hvad.sizeOf5 rfl rfl) ?_
                    refine WO_guardT rfl rfl hb73.h ?_
                    refine WO_load (.int _ _) Hvad.isAgg5 rfl (Hb.h (by repeat (first | assumption | exact Hb.newY _ _ | refine Hb.alloc ?_ | refine Hb.drew ?_ | refine Hb.ext (by assumption) ?_ | exact Hb.setSameL (by first | omega | (simp only [size_alloc, size_setB, size_drew]; omega)) | exact Hb.setSame (by assumption) | refine Hb.set (by first | omega | (simp only [size_alloc, size_setB, size_drew]; omega)) ?_ ))) (Ce.h (by first | assumption | exact ⟨rfl⟩)) ?_
                    refine WO_guardT rfl rfl hb73.h ?_
                    refine WO_p (PS_eql rfl rfl) ?_
                    refine WO_p (PS_pickF rfl hb73.h rfl) ?_
                    refine WO_p (PS_assign_bool rfl) ?_
                    refine WO_nil ?_
                    refine thn_normal ?_
                    refine W_ret ?_
                    refine bodyQ_ret1 Hvad.results287 rfl (.bool _) rfl ?_
                    first | exact ⟨rfl, (by repeat (first | assumption | exact Ext.refl _ | refine Ext.alloc ?_ _ | refine Ext.drew ?_ | refine Ext.setB ?_ (by first | omega | (simp only [size_alloc, size_setB, size_drew]; omega)) _ | refine Ext.trans ?_ (by assumption)))⟩ | (exfalso; simp_all; done) | exact ⟨congrArg Value.bool (al_et (by omega)), (by repeat (first | assumption | exact Ext.refl _ | refine Ext.alloc ?_ _ | refine Ext.drew ?_ | refine Ext.setB ?_ (by first | omega | (simp only [size_alloc, size_setB, size_drew]; omega)) _ | refine Ext.trans ?_ (by assumption)))⟩

set_option maxRecDepth 10000 in
set_option maxHeartbeats 4000000 in
theorem vCheck5_spec (C : Nat) (c : Array Value) (v : V) (B : VB) (β : Option Nat) (w : World) (hv : VS w C c v B β) (hi : VInv v) (hl : v.logs.length ≤ 2800) : Ret Hvad.prog 270 #[.pointer (some ⟨C, 2435, none⟩)] w fun u w' => u = .bool true ∧ Ext w w' := by
  have hblk := hv.blk
  have hcs := hv.rep.size
  have hc_journal : Ce c (2435 + 8194) (.slice (slp B.j) v.journal.length (slc B.j)) := hv.rep.journal
  have hc_logs : Ce c (2435 + 24581) (.slice (slp B.l) v.logs.length (slc B.l)) := hv.rep.logs
  have hc_temps : Ce c (2435 + 24582) (.slice (slp B.t) v.temps.length (slc B.t)) := hv.rep.temps
  have hc_accts : Ce c (2435 + 0) (.slice (slp B.a) v.accts.length (slc B.a)) := hv.rep.accts
  have hc_slots : Ce c (2435 + 1) (.slice (slp B.s) v.slots.length (slc B.s)) := hv.rep.slots
  have hc_nm : Ce c (2435 + 24579) (.int .i32 v.nmarks) := hv.rep.nmarks
  have hc_ref : Ce c (2435 + 24580) (.int .u64 v.ref) := hv.rep.ref
  have h_nm := hi.nm
  have h_rf := hi.rf
  have h_la := hi.la
  have h_ls := hi.ls
  have h_lj := hi.lj
  have h_lt := hi.lt
  
  refine Ret_of_W Hvad.func270 rfl rfl ?_
  refine W_seq ?_
  refine W_region rfl ?_
  refine WO_p (PS_assign_bool rfl) ?_
  refine WO_nil ?_
  refine thn_normal ?_
  refine W_seq ?_
  refine W_seq ?_
  refine W_region rfl ?_
  refine WO_p (PS_move_ptr rfl) ?_
  refine WO_call Hvad.call286 (by rfl) (Ret.mono (vCheck4_spec C c v B β _ (VS.ext hv (by repeat (first | assumption | exact Ext.refl _ | refine Ext.alloc ?_ _ | refine Ext.drew ?_ | refine Ext.setB ?_ (by first | omega | (simp only [size_alloc, size_setB, size_drew]; omega)) _ | exact Ext.trans (by assumption) (by assumption) | refine Ext.trans ?_ (by assumption)))) hi hl) ?_)
  rintro _ w286_0 ⟨rfl, hE286_0⟩
  have hz286_0 := hE286_0.1
  try simp only [size_alloc, size_setB, size_drew] at hz286_0
  refine WO_p (PS_not rfl) ?_
  refine WO_nil ?_
  refine thn_normal ?_
  refine W_if rfl (fun hb4 => ?_) (fun hb4 => ?_)
  · have hb4p := hb4.h; try simp only [al_ete, al_dfn, Bool.not_eq_true', Bool.not_eq_false', al_ne, Bool.not_not, al_nn] at hb4p
    simp at hb4p --END
  · have hb4p := hb4.h; try simp only [al_ete, al_dfn, Bool.not_eq_true', Bool.not_eq_false', al_ne, Bool.not_not, al_nn] at hb4p
    refine W_skip ?_
    refine thn_normal ?_
    refine W_seq ?_
    refine W_seq ?_
    refine W_region rfl ?_
    refine WO_p (PS_move_ptr rfl) ?_
    refine WO_p (PS_nilCheck rfl) ?_
    refine WO_p (PS_fieldAddr 8194 Hvad.runUnderlying79 rfl Hvad.sizeOf73 rfl rfl) ?_
    refine WO_load (.slice _ _ _) Hvad.isAgg73 rfl (Hb.h (by repeat (first | assumption | exact Hb.newY _ _ | refine Hb.alloc ?_ | refine Hb.drew ?_ | refine Hb.ext (by assumption) ?_ | exact Hb.setSameL (by first | omega | (simp only [size_alloc, size_setB, size_drew]; omega)) | exact Hb.setSame (by assumption) | refine Hb.set (by first | omega | (simp only [size_alloc, size_setB, size_drew]; omega)) ?_ ))) (Ce.h (by first | assumption | exact ⟨rfl⟩)) ?_
    refine WO_p (PS_lenS Hvad.runUnderlying73 rfl) ?_
    refine WO_p (PS_move_int rfl) ?_
    refine WO_nil ?_
    refine thn_normal ?_
    refine W_block ?_
    refine W_loopN (fun k ρ w' => ∃ i : Nat, i + k = v.journal.length ∧ Fr [(0, .pointer (some ⟨C, 2435, none⟩)), (11, .int .i64 v.journal.length), (12, .int .i64 i)] ρ ∧ Ext w w') v.journal.length ?_ ?_
    · exact ⟨0, by omega, ⟨rfl, rfl, rfl, trivial⟩, (by repeat (first | assumption | exact Ext.refl _ | refine Ext.alloc ?_ _ | refine Ext.drew ?_ | refine Ext.setB ?_ (by first | omega | (simp only [size_alloc, size_setB, size_drew]; omega)) _ | refine Ext.trans ?_ (by assumption)))⟩
    intro k ρ w2 hI
    obtain ⟨i, hik, hFr2, hE2⟩ := hI
    refine W_env _ hFr2 ?_
    have hz2 := hE2.1
    refine W_seq ?_
    refine W_region rfl ?_
    refine WO_p (PS_lss rfl rfl) ?_
    refine WO_nil ?_
    refine thn_normal ?_
    refine W_seq ?_
    refine W_if rfl (fun hb6 => ?_) (fun hb6 => ?_)
    · have hb6p := hb6.h; try simp only [al_ete, al_dfn, Bool.not_eq_true', Bool.not_eq_false', al_ne, Bool.not_not, al_nn] at hb6p
      obtain ⟨xi, hxi⟩ : ∃ xi, v.journal[i]? = some xi := ⟨_, List.getElem?_eq_getElem (by omega)⟩
      obtain ⟨b, cap, r, hab, hcap, hr, hrs, hrow, hda, hbd, hil, hty, f0, f1, f2, f3, f4, f5⟩ := (hv.ext hE2).openJ hxi
      replace hc_journal : Ce c (2435 + 8194) (.slice (some ⟨b, 0, none⟩) v.journal.length cap) := hda
      refine W_skip ?_
      refine thn_normal ?_
      refine W_seq ?_
      refine W_block ?_
      refine W_seq ?_
      refine W_region rfl ?_
      refine WO_p (PS_move_int rfl) ?_
      refine WO_p (PS_assign_int rfl) ?_
      refine WO_nil ?_
      refine thn_normal ?_
      refine W_seq ?_
      refine W_region rfl ?_
      refine WO_p (PS_move_ptr rfl) ?_
      refine WO_p (PS_move_ptr rfl) ?_
      refine WO_p (PS_nilCheck rfl) ?_
      refine WO_p (PS_fieldAddr 8194 Hvad.runUnderlying79 rfl Hvad.sizeOf73 rfl rfl) ?_
      refine WO_load (.slice _ _ _) Hvad.isAgg73 rfl (Hb.h (by repeat (first | assumption | exact Hb.newY _ _ | refine Hb.alloc ?_ | refine Hb.drew ?_ | refine Hb.ext (by assumption) ?_ | exact Hb.setSameL (by first | omega | (simp only [size_alloc, size_setB, size_drew]; omega)) | exact Hb.setSame (by assumption) | refine Hb.set (by first | omega | (simp only [size_alloc, size_setB, size_drew]; omega)) ?_ ))) (Ce.h (by first | assumption | exact ⟨rfl⟩)) ?_
      refine WO_p (PS_move_int rfl) ?_
      refine WO_p (PS_indexS Hvad.runUnderlying73 Hvad.sizeOf173 rfl rfl (by omega) (by omega)) ?_
      refine WO_call Hvad.call287 (by rfl) (Ret.mono (entryOK_spec C c v B β b cap i xi _ (VS.ext hv (by repeat (first | assumption | exact Ext.refl _ | refine Ext.alloc ?_ _ | refine Ext.drew ?_ | refine Ext.setB ?_ (by first | omega | (simp only [size_alloc, size_setB, size_drew]; omega)) _ | exact Ext.trans (by assumption) (by assumption) | refine Ext.trans ?_ (by assumption)))) hi hab hxi) ?_)
      rintro _ w287_6 ⟨rfl, hE287_6⟩
      have hz287_6 := hE287_6.1
      try simp only [size_alloc, size_setB, size_drew] at hz287_6
      refine WO_p (PS_not rfl) ?_
      refine WO_nil ?_
      refine thn_normal ?_
      refine W_if rfl (fun hb10 => ?_) (fun hb10 => ?_)
      · have hb10p := hb10.h; try simp only [al_ete, al_dfn, Bool.not_eq_true', Bool.not_eq_false', al_ne, Bool.not_not, al_nn] at hb10p
        simp at hb10p --END
      · have hb10p := hb10.h; try simp only [al_ete, al_dfn, Bool.not_eq_true', Bool.not_eq_false', al_ne, Bool.not_not, al_nn] at hb10p
        refine W_skip ?_
        refine inBlk_normal ?_
        refine thn_normal ?_
        refine W_region rfl ?_
        refine WO_p (PS_add_i64n rfl rfl (by omega) (by omega)) ?_
        refine WO_p (PS_move_int rfl) ?_
        refine WO_nil ?_
        refine thn_normal ?_
        exact ⟨k - 1, by omega, i + 1, by omega, ⟨rfl, rfl, congrArg (Value.int .i64) (by omega), trivial⟩, (by repeat (first | assumption | exact Ext.refl _ | refine Ext.alloc ?_ _ | refine Ext.drew ?_ | refine Ext.setB ?_ (by first | omega | (simp only [size_alloc, size_setB, size_drew]; omega)) _ | exact Ext.trans (by assumption) (by assumption) | refine Ext.trans ?_ (by assumption)))⟩
    · have hb6p := hb6.h; try simp only [al_ete, al_dfn, Bool.not_eq_true', Bool.not_eq_false', al_ne, Bool.not_not, al_nn] at hb6p
      refine W_exit ?_
      refine thn_exit ?_
      refine thn_exit ?_
      refine inBlk_exit ?_
      refine thn_normal ?_
      refine W_seq ?_
      refine W_region rfl ?_
      refine WO_p (PS_assign_bool rfl) ?_
      refine WO_nil ?_
      refine thn_normal ?_
      refine W_ret ?_
      refine bodyQ_ret1 Hvad.results270 rfl (.bool _) rfl ?_
      exact ⟨rfl, (by repeat (first | assumption | exact Ext.refl _ | refine Ext.alloc ?_ _ | refine Ext.drew ?_ | refine Ext.setB ?_ (by first | omega | (simp only [size_alloc, size_setB, size_drew]; omega)) _ | refine Ext.trans ?_ (by assumption)))⟩

set_option maxRecDepth 10000 in
set_option maxHeartbeats 4000000 in
theorem vCheck6_spec (C : Nat) (c : Array Value) (v : V) (B : VB) (β : Option Nat) (w : World) (hv : VS w C c v B β) (hi : VInv v) (hl : v.logs.length ≤ 2800) : Ret Hvad.prog 225 #[.pointer (some ⟨C, 2435, none⟩)] w fun u w' => u = .bool true ∧ Ext w w' := by
  have hblk := hv.blk
  have hcs := hv.rep.size
  have hc_journal : Ce c (2435 + 8194) (.slice (slp B.j) v.journal.length (slc B.j)) := hv.rep.journal
  have hc_logs : Ce c (2435 + 24581) (.slice (slp B.l) v.logs.length (slc B.l)) := hv.rep.logs
  have hc_temps : Ce c (2435 + 24582) (.slice (slp B.t) v.temps.length (slc B.t)) := hv.rep.temps
  have hc_accts : Ce c (2435 + 0) (.slice (slp B.a) v.accts.length (slc B.a)) := hv.rep.accts
  have hc_slots : Ce c (2435 + 1) (.slice (slp B.s) v.slots.length (slc B.s)) := hv.rep.slots
  have hc_nm : Ce c (2435 + 24579) (.int .i32 v.nmarks) := hv.rep.nmarks
  have hc_ref : Ce c (2435 + 24580) (.int .u64 v.ref) := hv.rep.ref
  have h_nm := hi.nm
  have h_rf := hi.rf
  have h_la := hi.la
  have h_ls := hi.ls
  have h_lj := hi.lj
  have h_lt := hi.lt
  
  refine Ret_of_W Hvad.func225 rfl rfl ?_
  refine W_seq ?_
  refine W_region rfl ?_
  refine WO_p (PS_assign_bool rfl) ?_
  refine WO_nil ?_
  refine thn_normal ?_
  refine W_seq ?_
  refine W_seq ?_
  refine W_region rfl ?_
  refine WO_p (PS_move_ptr rfl) ?_
  refine WO_call Hvad.call270 (by rfl) (Ret.mono (vCheck5_spec C c v B β _ (VS.ext hv (by repeat (first | assumption | exact Ext.refl _ | refine Ext.alloc ?_ _ | refine Ext.drew ?_ | refine Ext.setB ?_ (by first | omega | (simp only [size_alloc, size_setB, size_drew]; omega)) _ | exact Ext.trans (by assumption) (by assumption) | refine Ext.trans ?_ (by assumption)))) hi hl) ?_)
  rintro _ w270_0 ⟨rfl, hE270_0⟩
  have hz270_0 := hE270_0.1
  try simp only [size_alloc, size_setB, size_drew] at hz270_0
  refine WO_p (PS_not rfl) ?_
  refine WO_nil ?_
  refine thn_normal ?_
  refine W_if rfl (fun hb4 => ?_) (fun hb4 => ?_)
  · have hb4p := hb4.h; try simp only [al_ete, al_dfn, Bool.not_eq_true', Bool.not_eq_false', al_ne, Bool.not_not, al_nn] at hb4p
    simp at hb4p --END
  · have hb4p := hb4.h; try simp only [al_ete, al_dfn, Bool.not_eq_true', Bool.not_eq_false', al_ne, Bool.not_not, al_nn] at hb4p
    refine W_skip ?_
    refine thn_normal ?_
    refine W_seq ?_
    refine W_region rfl ?_
    refine WO_p (PS_assign_int rfl) ?_
    refine WO_nil ?_
    refine thn_normal ?_
    refine W_seq ?_
    refine W_seq ?_
    refine W_region rfl ?_
    refine WO_p (PS_move_ptr rfl) ?_
    refine WO_p (PS_nilCheck rfl) ?_
    refine WO_p (PS_fieldAddr 8194 Hvad.runUnderlying79 rfl Hvad.sizeOf73 rfl rfl) ?_
    refine WO_load (.slice _ _ _) Hvad.isAgg73 rfl (Hb.h (by repeat (first | assumption | exact Hb.newY _ _ | refine Hb.alloc ?_ | refine Hb.drew ?_ | refine Hb.ext (by assumption) ?_ | exact Hb.setSameL (by first | omega | (simp only [size_alloc, size_setB, size_drew]; omega)) | exact Hb.setSame (by assumption) | refine Hb.set (by first | omega | (simp only [size_alloc, size_setB, size_drew]; omega)) ?_ ))) (Ce.h (by first | assumption | exact ⟨rfl⟩)) ?_
    refine WO_p (PS_lenS Hvad.runUnderlying73 rfl) ?_
    refine WO_p (PS_move_int rfl) ?_
    refine WO_nil ?_
    refine thn_normal ?_
    refine W_block ?_
    refine W_loopN (fun k ρ w' => ∃ i : Nat, i + k = v.journal.length ∧ Fr [(0, .pointer (some ⟨C, 2435, none⟩)), (3, .int .i64 (nLog (v.journal.take i))), (13, .int .i64 v.journal.length), (14, .int .i64 i)] ρ ∧ Ext w w') v.journal.length ?_ ?_
    · exact ⟨0, by omega, ⟨rfl, rfl, rfl, rfl, trivial⟩, (by repeat (first | assumption | exact Ext.refl _ | refine Ext.alloc ?_ _ | refine Ext.drew ?_ | refine Ext.setB ?_ (by first | omega | (simp only [size_alloc, size_setB, size_drew]; omega)) _ | refine Ext.trans ?_ (by assumption)))⟩
    intro k ρ w2 hI
    obtain ⟨i, hik, hFr2, hE2⟩ := hI
    refine W_env _ hFr2 ?_
    have hz2 := hE2.1
    have hnl := nLog_le (v.journal.take i)
    have hnl2 := List.length_take_le i v.journal
    refine W_seq ?_
    refine W_region rfl ?_
    refine WO_p (PS_lss rfl rfl) ?_
    refine WO_nil ?_
    refine thn_normal ?_
    refine W_seq ?_
    refine W_if rfl (fun hb6 => ?_) (fun hb6 => ?_)
    · have hb6p := hb6.h; try simp only [al_ete, al_dfn, Bool.not_eq_true', Bool.not_eq_false', al_ne, Bool.not_not, al_nn] at hb6p
      obtain ⟨xi, hxi⟩ : ∃ xi, v.journal[i]? = some xi := ⟨_, List.getElem?_eq_getElem (by omega)⟩
      obtain ⟨b, cap, r, hab, hcap, hr, hrs, hrow, hda, hbd, hil, hty, f0, f1, f2, f3, f4, f5⟩ := (hv.ext hE2).openJ hxi
      replace hc_journal : Ce c (2435 + 8194) (.slice (some ⟨b, 0, none⟩) v.journal.length cap) := hda
      have hns := nLog_take_succ hxi
      refine W_skip ?_
      refine thn_normal ?_
      refine W_seq ?_
      refine W_block ?_
      refine W_seq ?_
      refine W_region rfl ?_
      refine WO_p (PS_move_int rfl) ?_
      refine WO_p (PS_assign_int rfl) ?_
      refine WO_nil ?_
      refine thn_normal ?_
      refine W_seq ?_
      refine W_region rfl ?_
      refine WO_p (PS_move_ptr rfl) ?_
      refine WO_p (PS_nilCheck rfl) ?_
      refine WO_p (PS_fieldAddr 8194 Hvad.runUnderlying79 rfl Hvad.sizeOf73 rfl rfl) ?_
      refine WO_load (.slice _ _ _) Hvad.isAgg73 rfl (Hb.h (by repeat (first | assumption | exact Hb.newY _ _ | refine Hb.alloc ?_ | refine Hb.drew ?_ | refine Hb.ext (by assumption) ?_ | exact Hb.setSameL (by first | omega | (simp only [size_alloc, size_setB, size_drew]; omega)) | exact Hb.setSame (by assumption) | refine Hb.set (by first | omega | (simp only [size_alloc, size_setB, size_drew]; omega)) ?_ ))) (Ce.h (by first | assumption | exact ⟨rfl⟩)) ?_
      refine WO_p (PS_move_int rfl) ?_
      refine WO_p (PS_indexS Hvad.runUnderlying73 Hvad.sizeOf173 rfl rfl (by omega) (by omega)) ?_
      refine WO_p (PS_fieldAddr 0 Hvad.runUnderlying173 rfl Hvad.sizeOf5 rfl rfl) ?_
      refine WO_load (.int _ _) Hvad.isAgg5 rfl (Hb.h (by repeat (first | assumption | exact Hb.newY _ _ | refine Hb.alloc ?_ | refine Hb.drew ?_ | refine Hb.ext (by assumption) ?_ | exact Hb.setSameL (by first | omega | (simp only [size_alloc, size_setB, size_drew]; omega)) | exact Hb.setSame (by assumption) | refine Hb.set (by first | omega | (simp only [size_alloc, size_setB, size_drew]; omega)) ?_ ))) (Ce.h (by first | assumption | exact ⟨rfl⟩)) ?_
      refine WO_p (PS_eql rfl rfl) ?_
      refine WO_nil ?_
      refine thn_normal ?_
      refine W_if rfl (fun hb8 => ?_) (fun hb8 => ?_)
      · have hb8p := hb8.h; try simp only [al_ete, al_dfn, Bool.not_eq_true', Bool.not_eq_false', al_ne, Bool.not_not, al_nn] at hb8p
        rw [if_pos hb8p] at hns
        refine W_region rfl ?_
        refine WO_p (PS_move_int rfl) ?_
        refine WO_p (PS_add_i64n rfl rfl (by omega) (by omega)) ?_
        refine WO_p (PS_assign_int rfl) ?_
        refine WO_nil ?_
        refine inBlk_normal ?_
        refine thn_normal ?_
        refine W_region rfl ?_
        refine WO_p (PS_add_i64n rfl rfl (by omega) (by omega)) ?_
        refine WO_p (PS_move_int rfl) ?_
        refine WO_nil ?_
        refine thn_normal ?_
        exact ⟨k - 1, by omega, i + 1, by omega, ⟨rfl, congrArg (Value.int .i64) (by omega), rfl, congrArg (Value.int .i64) (by omega), trivial⟩, (by repeat (first | assumption | exact Ext.refl _ | refine Ext.alloc ?_ _ | refine Ext.drew ?_ | refine Ext.setB ?_ (by first | omega | (simp only [size_alloc, size_setB, size_drew]; omega)) _ | refine Ext.trans ?_ (by assumption)))⟩
      · have hb8p := hb8.h; try simp only [al_ete, al_dfn, Bool.not_eq_true', Bool.not_eq_false', al_ne, Bool.not_not, al_nn] at hb8p
        rw [if_neg hb8p] at hns
        refine W_skip ?_
        refine inBlk_normal ?_
        refine thn_normal ?_
        refine W_region rfl ?_
        refine WO_p (PS_add_i64n rfl rfl (by omega) (by omega)) ?_
        refine WO_p (PS_move_int rfl) ?_
        refine WO_nil ?_
        refine thn_normal ?_
        exact ⟨k - 1, by omega, i + 1, by omega, ⟨rfl, congrArg (Value.int .i64) (by omega), rfl, congrArg (Value.int .i64) (by omega), trivial⟩, (by repeat (first | assumption | exact Ext.refl _ | refine Ext.alloc ?_ _ | refine Ext.drew ?_ | refine Ext.setB ?_ (by first | omega | (simp only [size_alloc, size_setB, size_drew]; omega)) _ | refine Ext.trans ?_ (by assumption)))⟩
    · have hb6p := hb6.h; try simp only [al_ete, al_dfn, Bool.not_eq_true', Bool.not_eq_false', al_ne, Bool.not_not, al_nn] at hb6p
      refine W_exit ?_
      refine thn_exit ?_
      refine thn_exit ?_
      refine inBlk_exit ?_
      refine thn_normal ?_
      refine W_seq ?_
      refine W_seq ?_
      refine W_region rfl ?_
      refine WO_p (PS_move_ptr rfl) ?_
      refine WO_p (PS_nilCheck rfl) ?_
      refine WO_p (PS_fieldAddr 24581 Hvad.runUnderlying79 rfl Hvad.sizeOf75 rfl rfl) ?_
      refine WO_load (.slice _ _ _) Hvad.isAgg75 rfl (Hb.h (by repeat (first | assumption | exact Hb.newY _ _ | refine Hb.alloc ?_ | refine Hb.drew ?_ | refine Hb.ext (by assumption) ?_ | exact Hb.setSameL (by first | omega | (simp only [size_alloc, size_setB, size_drew]; omega)) | exact Hb.setSame (by assumption) | refine Hb.set (by first | omega | (simp only [size_alloc, size_setB, size_drew]; omega)) ?_ ))) (Ce.h (by first | assumption | exact ⟨rfl⟩)) ?_
      refine WO_p (PS_lenS Hvad.runUnderlying75 rfl) ?_
      refine WO_p (PS_move_int rfl) ?_
      refine WO_nil ?_
      refine thn_normal ?_
      refine W_block ?_
      have hi16 : i = v.journal.length := by omega
      rw [hi16, List.take_length, hi.lg]
      have hE1 := hE2
      clear hE2 hFr2 hnl hnl2 hik hi16 hz2
      refine W_loopN (fun k ρ w' => ∃ i : Nat, i + k = v.logs.length ∧ Fr [(0, .pointer (some ⟨C, 2435, none⟩)), (3, .int .i64 v.logs.length), (33, .int .i64 v.logs.length), (34, .int .i64 i)] ρ ∧ Ext w w') v.logs.length ?_ ?_
      · exact ⟨0, by omega, ⟨rfl, rfl, rfl, rfl, trivial⟩, (by repeat (first | assumption | exact Ext.refl _ | refine Ext.alloc ?_ _ | refine Ext.drew ?_ | refine Ext.setB ?_ (by first | omega | (simp only [size_alloc, size_setB, size_drew]; omega)) _ | refine Ext.trans ?_ (by assumption)))⟩
      intro k ρ w2 hI
      obtain ⟨i, hik, hFr2, hE2⟩ := hI
      refine W_env _ hFr2 ?_
      have hz2 := hE2.1
      refine W_seq ?_
      refine W_region rfl ?_
      refine WO_p (PS_lss rfl rfl) ?_
      refine WO_nil ?_
      refine thn_normal ?_
      refine W_seq ?_
      refine W_if rfl (fun hb10 => ?_) (fun hb10 => ?_)
      · have hb10p := hb10.h; try simp only [al_ete, al_dfn, Bool.not_eq_true', Bool.not_eq_false', al_ne, Bool.not_not, al_nn] at hb10p
        obtain ⟨xi, hxi⟩ : ∃ xi, v.logs[i]? = some xi := ⟨_, List.getElem?_eq_getElem (by omega)⟩
        have hld := hi.ld xi (List.mem_of_getElem? hxi)
        obtain ⟨b, cap, r, hcap, hr, hrs, hda, f1, f2⟩ := (hv.ext hE2).openL hxi
        replace hc_logs := hda
        refine W_skip ?_
        refine thn_normal ?_
        refine W_seq ?_
        refine W_block ?_
        refine W_seq ?_
        refine W_region rfl ?_
        refine WO_p (PS_move_int rfl) ?_
        refine WO_p (PS_assign_int rfl) ?_
        refine WO_nil ?_
        refine thn_normal ?_
        refine W_seq ?_
        refine W_region rfl ?_
        refine WO_p (PS_move_ptr rfl) ?_
        refine WO_p (PS_nilCheck rfl) ?_
        refine WO_p (PS_fieldAddr 24581 Hvad.runUnderlying79 rfl Hvad.sizeOf75 rfl rfl) ?_
        refine WO_load (.slice _ _ _) Hvad.isAgg75 rfl (Hb.h (by repeat (first | assumption | exact Hb.newY _ _ | refine Hb.alloc ?_ | refine Hb.drew ?_ | refine Hb.ext (by assumption) ?_ | exact Hb.setSameL (by first | omega | (simp only [size_alloc, size_setB, size_drew]; omega)) | exact Hb.setSame (by assumption) | refine Hb.set (by first | omega | (simp only [size_alloc, size_setB, size_drew]; omega)) ?_ ))) (Ce.h (by first | assumption | exact ⟨rfl⟩)) ?_
        refine WO_p (PS_move_int rfl) ?_
        refine WO_p (PS_indexS Hvad.runUnderlying75 Hvad.sizeOf307 rfl rfl (by omega) (by omega)) ?_
        refine WO_p (PS_fieldAddr 20 Hvad.runUnderlying307 rfl Hvad.sizeOf29 rfl rfl) ?_
        refine WO_load (.slice _ _ _) Hvad.isAgg29 rfl (Hb.h (by repeat (first | assumption | exact Hb.newY _ _ | refine Hb.alloc ?_ | refine Hb.drew ?_ | refine Hb.ext (by assumption) ?_ | exact Hb.setSameL (by first | omega | (simp only [size_alloc, size_setB, size_drew]; omega)) | exact Hb.setSame (by assumption) | refine Hb.set (by first | omega | (simp only [size_alloc, size_setB, size_drew]; omega)) ?_ ))) (Ce.h (by first | assumption | exact ⟨rfl⟩)) ?_
        refine WO_p (PS_lenS Hvad.runUnderlying29 rfl) ?_
        refine WO_p (PS_gtr rfl rfl) ?_
        refine WO_p (PS_move_bool rfl) ?_
        refine WO_if (t := 47) rfl (fun hb12 => ?_) (fun hb12 => ?_)
        · have hb12p := hb12.h; try simp only [al_ete, al_dfn, Bool.not_eq_true', Bool.not_eq_false', al_ne, Bool.not_not, al_nn] at hb12p
          (exfalso; omega) --END
        · have hb12p := hb12.h; try simp only [al_ete, al_dfn, Bool.not_eq_true', Bool.not_eq_false', al_ne, Bool.not_not, al_nn] at hb12p
          refine WO_guardT rfl rfl hb12.h ?_
          refine WO_p (PS_move_ptr rfl) ?_
          refine WO_guardT rfl rfl hb12.h ?_
          refine WO_p (PS_nilCheck rfl) ?_
          refine WO_guardT rfl rfl hb12.h ?_
          refine WO_p (PS_fieldAddr 24581 Hvad.runUnderlying79 rfl Hvad.sizeOf75 rfl rfl) ?_
          refine WO_guardT rfl rfl hb12.h ?_
          refine WO_load (.slice _ _ _) Hvad.isAgg75 rfl (Hb.h (by repeat (first | assumption | exact Hb.newY _ _ | refine Hb.alloc ?_ | refine Hb.drew ?_ | refine Hb.ext (by assumption) ?_ | exact Hb.setSameL (by first | omega | (simp only [size_alloc, size_setB, size_drew]; omega)) | exact Hb.setSame (by assumption) | refine Hb.set (by first | omega | (simp only [size_alloc, size_setB, size_drew]; omega)) ?_ ))) (Ce.h (by first | assumption | exact ⟨rfl⟩)) ?_
          refine WO_guardT rfl rfl hb12.h ?_
          refine WO_p (PS_move_int rfl) ?_
          refine WO_guardT rfl rfl hb12.h ?_
          refine WO_p (PS_indexS Hvad.runUnderlying75 Hvad.sizeOf307 rfl rfl (by omega) (by omega)) ?_
          refine WO_guardT rfl rfl hb12.h ?_
          refine WO_p (PS_fieldAddr 21 Hvad.runUnderlying307 rfl Hvad.sizeOf32 rfl rfl) ?_
          refine WO_guardT rfl rfl hb12.h ?_
          refine WO_load (.slice _ _ _) Hvad.isAgg32 rfl (Hb.h (by repeat (first | assumption | exact Hb.newY _ _ | refine Hb.alloc ?_ | refine Hb.drew ?_ | refine Hb.ext (by assumption) ?_ | exact Hb.setSameL (by first | omega | (simp only [size_alloc, size_setB, size_drew]; omega)) | exact Hb.setSame (by assumption) | refine Hb.set (by first | omega | (simp only [size_alloc, size_setB, size_drew]; omega)) ?_ ))) (Ce.h (by first | assumption | exact ⟨rfl⟩)) ?_
          refine WO_guardT rfl rfl hb12.h ?_
          refine WO_p (PS_lenS Hvad.runUnderlying32 rfl) ?_
          refine WO_guardT rfl rfl hb12.h ?_
          refine WO_p (PS_gtr rfl rfl) ?_
          refine WO_p (PS_pickF rfl hb12.h rfl) ?_
          refine WO_nil ?_
          refine thn_normal ?_
          refine W_if rfl (fun hb14 => ?_) (fun hb14 => ?_)
          · have hb14p := hb14.h; try simp only [al_ete, al_dfn, Bool.not_eq_true', Bool.not_eq_false', al_ne, Bool.not_not, al_nn] at hb14p
            (exfalso; omega) --END
          · have hb14p := hb14.h; try simp only [al_ete, al_dfn, Bool.not_eq_true', Bool.not_eq_false', al_ne, Bool.not_not, al_nn] at hb14p
            refine W_skip ?_
            refine inBlk_normal ?_
            refine thn_normal ?_
            refine W_region rfl ?_
            refine WO_p (PS_add_i64n rfl rfl (by omega) (by omega)) ?_
            refine WO_p (PS_move_int rfl) ?_
            refine WO_nil ?_
            refine thn_normal ?_
            exact ⟨k - 1, by omega, i + 1, by omega, ⟨rfl, rfl, rfl, congrArg (Value.int .i64) (by omega), trivial⟩, (by repeat (first | assumption | exact Ext.refl _ | refine Ext.alloc ?_ _ | refine Ext.drew ?_ | refine Ext.setB ?_ (by first | omega | (simp only [size_alloc, size_setB, size_drew]; omega)) _ | refine Ext.trans ?_ (by assumption)))⟩
      · have hb10p := hb10.h; try simp only [al_ete, al_dfn, Bool.not_eq_true', Bool.not_eq_false', al_ne, Bool.not_not, al_nn] at hb10p
        refine W_exit ?_
        refine thn_exit ?_
        refine thn_exit ?_
        refine inBlk_exit ?_
        refine thn_normal ?_
        refine W_seq ?_
        refine W_region rfl ?_
        refine WO_p (PS_move_int rfl) ?_
        refine WO_p (PS_move_ptr rfl) ?_
        refine WO_p (PS_nilCheck rfl) ?_
        refine WO_p (PS_fieldAddr 24581 Hvad.runUnderlying79 rfl Hvad.sizeOf75 rfl rfl) ?_
        refine WO_load (.slice _ _ _) Hvad.isAgg75 rfl (Hb.h (by repeat (first | assumption | exact Hb.newY _ _ | refine Hb.alloc ?_ | refine Hb.drew ?_ | refine Hb.ext (by assumption) ?_ | exact Hb.setSameL (by first | omega | (simp only [size_alloc, size_setB, size_drew]; omega)) | exact Hb.setSame (by assumption) | refine Hb.set (by first | omega | (simp only [size_alloc, size_setB, size_drew]; omega)) ?_ ))) (Ce.h (by first | assumption | exact ⟨rfl⟩)) ?_
        refine WO_p (PS_lenS Hvad.runUnderlying75 rfl) ?_
        refine WO_p (PS_eql rfl rfl) ?_
        refine WO_p (PS_assign_bool rfl) ?_
        refine WO_nil ?_
        refine thn_normal ?_
        refine W_ret ?_
        refine bodyQ_ret1 Hvad.results225 rfl (.bool _) rfl ?_
        exact ⟨congrArg Value.bool (al_et rfl), (by repeat (first | assumption | exact Ext.refl _ | refine Ext.alloc ?_ _ | refine Ext.drew ?_ | refine Ext.setB ?_ (by first | omega | (simp only [size_alloc, size_setB, size_drew]; omega)) _ | refine Ext.trans ?_ (by assumption)))⟩

set_option maxRecDepth 10000 in
set_option maxHeartbeats 4000000 in
theorem vCheck_spec (C : Nat) (c : Array Value) (v : V) (B : VB) (β : Option Nat) (w : World) (hv : VS w C c v B β) (hi : VInv v) (hl : v.logs.length ≤ 2800) : Ret Hvad.prog 133 #[.pointer (some ⟨C, 2435, none⟩)] w fun u w' => u = .bool true ∧ Ext w w' := by
  have hblk := hv.blk
  have hcs := hv.rep.size
  have hc_journal : Ce c (2435 + 8194) (.slice (slp B.j) v.journal.length (slc B.j)) := hv.rep.journal
  have hc_logs : Ce c (2435 + 24581) (.slice (slp B.l) v.logs.length (slc B.l)) := hv.rep.logs
  have hc_temps : Ce c (2435 + 24582) (.slice (slp B.t) v.temps.length (slc B.t)) := hv.rep.temps
  have hc_accts : Ce c (2435 + 0) (.slice (slp B.a) v.accts.length (slc B.a)) := hv.rep.accts
  have hc_slots : Ce c (2435 + 1) (.slice (slp B.s) v.slots.length (slc B.s)) := hv.rep.slots
  have hc_nm : Ce c (2435 + 24579) (.int .i32 v.nmarks) := hv.rep.nmarks
  have hc_ref : Ce c (2435 + 24580) (.int .u64 v.ref) := hv.rep.ref
  have h_nm := hi.nm
  have h_rf := hi.rf
  have h_la := hi.la
  have h_ls := hi.ls
  have h_lj := hi.lj
  have h_lt := hi.lt
  
  refine Ret_of_W Hvad.func133 rfl rfl ?_
  refine W_seq ?_
  refine W_region rfl ?_
  refine WO_p (PS_assign_bool rfl) ?_
  refine WO_nil ?_
  refine thn_normal ?_
  refine W_seq ?_
  refine W_region rfl ?_
  refine WO_p (PS_move_ptr rfl) ?_
  refine WO_call Hvad.call225 (by rfl) (Ret.mono (vCheck6_spec C c v B β _ (VS.ext hv (by repeat (first | assumption | exact Ext.refl _ | refine Ext.alloc ?_ _ | refine Ext.drew ?_ | refine Ext.setB ?_ (by first | omega | (simp only [size_alloc, size_setB, size_drew]; omega)) _ | exact Ext.trans (by assumption) (by assumption) | refine Ext.trans ?_ (by assumption)))) hi hl) ?_)
  rintro _ w225_0 ⟨rfl, hE225_0⟩
  have hz225_0 := hE225_0.1
  try simp only [size_alloc, size_setB, size_drew] at hz225_0
  refine WO_p (PS_assign_bool rfl) ?_
  refine WO_nil ?_
  refine thn_normal ?_
  refine W_ret ?_
  refine bodyQ_ret1 Hvad.results133 rfl (.bool _) rfl ?_
  exact ⟨rfl, (by repeat (first | assumption | exact Ext.refl _ | refine Ext.alloc ?_ _ | refine Ext.drew ?_ | refine Ext.setB ?_ (by first | omega | (simp only [size_alloc, size_setB, size_drew]; omega)) _ | refine Ext.trans ?_ (by assumption)))⟩

end Go.Proofs.YgvadwGreat
