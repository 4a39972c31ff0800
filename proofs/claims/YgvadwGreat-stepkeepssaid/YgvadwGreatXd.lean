import Derived.Test.YgvadwGreatXc
import Derived.Test.YgvadwGreatVr
import Derived.Test.YgvadwGreatVb
namespace Go.Proofs.YgvadwGreat
set_option linter.unusedSimpArgs false
set_option linter.unusedVariables false
theorem W_gen2 {P : Program} {n : Nat} {c : Code} {Q : Post} {ρ : Nat → Value} {w : World} (h : ∀ w', w' = w → W P n c Q ρ w') : W P n c Q ρ w := h w rfl
theorem ZV.step {v : V} {i : Nat} (h : ZV v i) : ZV { v with atab := fun j => if j = i then -1 else v.atab j, stab := fun j => if j = i then -1 else v.stab j } (i + 1) := by
  refine { h with ta := fun k hk => ?_ }
  show (if k = i then (-1 : Int) else v.atab k) = -1 ∧ (if k = i then (-1 : Int) else v.stab k) = -1
  by_cases e : k = i
  · rw [if_pos e, if_pos e]; exact ⟨rfl, rfl⟩
  · rw [if_neg e, if_neg e]; exact h.ta k (by omega)
theorem NewB.codeOK {w w' : World} {s : SV} {L : List Int} (h : NewB w w' s L) (hl : L.length ≤ 256) : CodeOK s := by
  rcases h with ⟨rfl, rfl⟩ | ⟨h1, b, rfl, _⟩
  · exact ⟨by show 0 ≤ 256; decide, Or.inr rfl⟩
  · refine ⟨hl, Or.inl ?_⟩
    show 0 < L.length
    cases L with
    | nil => exact absurd rfl h1
    | cons => simp
theorem fil_nonce {w : World} {C : Nat} {c : Array Value} {v : V} {B : VB} {i na ns : Nat} {S n : Int} {y : Acct} (hv : VS w C c { v with accts := v.accts.set i { y with nonce := n } } B none) (hF : FilV v na ns S) (hy : v.accts[i]? = some y) (h0 : 0 ≤ wv y.bal) :
    ∃ v4 y4, VS w C c v4 B none ∧ v4.accts[i]? = some y4 ∧ FilV v4 na ns S := by
  have hF4 := hF.updA hy (x' := { y with nonce := n }) rfl (hF.vi.cd y (List.mem_of_getElem? hy)) ⟨rfl, rfl, rfl⟩ h0
  rw [if_pos rfl, Int.add_zero] at hF4
  exact ⟨_, _, hv, List.getElem?_set_self (lt_of_getElem? hy), hF4⟩
theorem fil_bal {w : World} {C : Nat} {c : Array Value} {v : V} {B : VB} {i na ns : Nat} {S : Int} {n : List Int} {y : Acct} (hv : VS w C c { v with accts := v.accts.set i { y with bal := n } } B none) (hF : FilV v na ns S) (hy : v.accts[i]? = some y) (h0 : 0 ≤ wv y.bal) (hn : 0 ≤ wv n) :
    ∃ v4 y4, VS w C c v4 B none ∧ v4.accts[i]? = some y4 ∧ FilV v4 na ns (S + wv n) := by
  have hF4 := hF.updA hy (x' := { y with bal := n }) rfl (hF.vi.cd y (List.mem_of_getElem? hy)) ⟨rfl, rfl, rfl⟩ h0
  refine ⟨_, _, hv, List.getElem?_set_self (lt_of_getElem? hy), hF4.mono (Nat.le_refl _) (Nat.le_refl _) ?_⟩
  split
  · omega
  · exact Int.le_refl _
theorem fil_code {w : World} {C : Nat} {c : Array Value} {v : V} {B : VB} {i na ns : Nat} {S : Int} {n : SV} {y : Acct} (hv : VS w C c { v with accts := v.accts.set i { y with code := n } } B none) (hF : FilV v na ns S) (hy : v.accts[i]? = some y) (h0 : 0 ≤ wv y.bal) (hc : CodeOK n) :
    ∃ v4 y4, VS w C c v4 B none ∧ v4.accts[i]? = some y4 ∧ FilV v4 na ns S := by
  have hF4 := hF.updA hy (x' := { y with code := n }) rfl hc ⟨rfl, rfl, rfl⟩ h0
  rw [if_pos rfl, Int.add_zero] at hF4
  exact ⟨_, _, hv, List.getElem?_set_self (lt_of_getElem? hy), hF4⟩
theorem fil_slot {w : World} {C : Nat} {c : Array Value} {v : V} {B : VB} {i na ns : Nat} {S : Int} {n : List Int} {y : Slot} (hv : VS w C c { v with slots := (v.slots.set i { y with val := n }).set i { y with val := n, orig := n } } B none) (hF : FilV v na ns S) (hy : v.slots[i]? = some y) (hw : y.warm = false) :
    ∃ v4, VS w C c v4 B none ∧ FilV v4 na ns S ∧ v4.accts = v.accts := by
  rw [List.set_set] at hv
  exact ⟨_, hv, hF.updS hy ⟨rfl, rfl⟩ ⟨hw, rfl⟩, rfl⟩
theorem VS.wvA {w : World} {C : Nat} {c : Array Value} {v : V} {B : VB} {β : Option Nat} (hv : VS w C c v B β) {i : Nat} {y : Acct} (hy : v.accts[i]? = some y) : 0 ≤ wv y.bal := (wv_bd (hv.ty.accts y (List.mem_of_getElem? hy)).2.2).1
theorem sl_whole {x : Sl} (h : SlOK x) : ((encSl x).drop 0).take 64 = encSl x := by rw [List.drop_zero, List.take_of_length_le (by rw [encSl_len h]; omega)]
theorem xt_slk {x : Sl} (h : SlOK x) : Xt (encSl x).toArray (0 + 0) (0 + 0 + 32) (ic .u8 x.key) := ⟨by
  have := encSl_key h
  unfold ic; rw [← this]; simp⟩
theorem xt_slv {x : Sl} (h : SlOK x) : Xt (encSl x).toArray (0 + 32) (0 + 32 + 32) (ic .u8 x.val) := ⟨by
  have := encSl_val h
  unfold ic; rw [← this]; simp⟩
theorem one_encSl (x : Sl) : ∀ u ∈ (encSl x).toArray.toList, u.oneCell' = true := by
  intro u hu
  simp only [encSl, List.mem_append, List.mem_map] at hu
  rcases hu with ⟨a, _, rfl⟩ | ⟨a, _, rfl⟩ <;> rfl

set_option maxRecDepth 10000 in
theorem copied0_spec (s : SV) (w : World) (h0 : s.2.1 = 0) : Ret Hvad.prog 54 #[.slice s.1 s.2.1 s.2.2] w fun u w' => Ext w w' ∧ ∃ s', u = .slice s'.1 s'.2.1 s'.2.2 ∧ NewB w w' s' [] := by
  refine Ret_of_W Hvad.func54 rfl rfl ?_
  refine W_seq ?_
  refine W_region rfl ?_
  refine WO_p (PS_assign_slice rfl) ?_
  refine WO_nil ?_
  refine thn_normal ?_
  refine W_seq ?_
  refine W_seq ?_
  refine W_region rfl ?_
  refine WO_p (PS_move_slice rfl) ?_
  refine WO_p (PS_lenS Hvad.runUnderlying32 rfl) ?_
  refine WO_p (PS_eql rfl rfl) ?_
  refine WO_nil ?_
  refine thn_normal ?_
  refine W_if rfl (fun hb2 => ?_) (fun hb2 => ?_)
  · have hb2p := hb2.h; try simp only [al_ete, al_dfn, Bool.not_eq_true', Bool.not_eq_false', al_ne, Bool.not_not, al_nn] at hb2p
    refine W_seq ?_
    refine W_region rfl ?_
    refine WO_p (PS_assign_slice rfl) ?_
    refine WO_nil ?_
    refine thn_normal ?_
    refine W_ret ?_
    refine thn_ret ?_
    refine bodyQ_ret1 Hvad.results54 rfl (.slice _ _ _) rfl ?_
    exact ⟨(by repeat (first | assumption | exact Ext.refl _ | refine Ext.alloc ?_ _ | refine Ext.drew ?_ | refine Ext.setB ?_ (by first | omega | (simp only [size_alloc, size_setB, size_drew]; omega)) _ | refine Ext.trans ?_ (by assumption))), (none, 0, 0), rfl, Or.inl ⟨rfl, rfl⟩⟩
  · have hb2p := hb2.h; try simp only [al_ete, al_dfn, Bool.not_eq_true', Bool.not_eq_false', al_ne, Bool.not_not, al_nn] at hb2p
    exfalso; omega --END

theorem copiedI_spec (s : SV) (L : List Int) (w : World) (hs : InRow encB 1 w s L) (hL : L.length ≤ 1000000) : Ret Hvad.prog 54 #[.slice s.1 s.2.1 s.2.2] w fun u w' => Ext w w' ∧ ∃ s', u = .slice s'.1 s'.2.1 s'.2.2 ∧ NewB w w' s' L := by
  have hl := hs.len
  by_cases h0 : 0 < L.length
  · exact copied_spec s L w (hs.sc h0) (by omega)
  · obtain rfl : L = [] := by cases L with | nil => rfl | cons => simp at h0
    exact copied0_spec s w (by simpa using hl)
set_option maxRecDepth 10000 in
set_option maxHeartbeats 4000000 in
theorem fill_spec (w0 : World) (C : Nat) (c : Array Value) (v : V) (B : VB) (s : SV) (l : List Ac) (w : World) (he : Ext w0 w) (hin : InW w0 s l) (hv : VS w C c v B none) (hz : ZV v 0) (hlow : ∀ b, VOwn C B b → w0.heap.size ≤ b) : Ret Hvad.prog 19 #[.pointer (some ⟨C, 2435, none⟩), .slice s.1 s.2.1 s.2.2] w fun u w' => u = .bool (wok l) ∧ Ext w0 w' ∧ (wok l = true → ∃ c' v' B', VS w' C c' v' B' none ∧ VStep w w' C c c' B B' ∧ FilV v' 8 128 (bsum l l.length)) := by
  obtain ⟨p, n, cp⟩ := s
  have hsl := hin.row.len
  dsimp only at hsl ⊢
  subst hsl
  refine Ret_of_W Hvad.func19 rfl rfl ?_
  refine W_seq ?_
  refine W_region rfl ?_
  refine WO_p (PS_assign_bool rfl) ?_
  refine WO_nil ?_
  refine thn_normal ?_
  refine W_seq ?_
  refine W_seq ?_
  refine W_region rfl ?_
  refine WO_p (PS_move_slice rfl) ?_
  refine WO_call Hvad.call21 (by rfl) (Ret.mono (worldOK_spec (p, l.length, cp) l _ (hin.ext (Ext.trans he (by repeat (first | assumption | exact Ext.refl _ | refine Ext.alloc ?_ _ | refine Ext.drew ?_ | refine Ext.setB ?_ (by first | omega | (simp only [size_alloc, size_setB, size_drew]; omega)) _ | exact Ext.trans (by assumption) (by assumption) | refine Ext.trans ?_ (by assumption)))))) ?_)
  rintro _ w1 ⟨rfl, hE1⟩
  have hv1 := hv.ext hE1
  have he1 := he.trans hE1
  refine WO_p (PS_not rfl) ?_
  refine WO_nil ?_
  refine thn_normal ?_
  refine W_if rfl (fun hb4 => ?_) (fun hb4 => ?_)
  · have hb4p := hb4.h; try simp only [al_ete, al_dfn, Bool.not_eq_true', Bool.not_eq_false', al_ne, Bool.not_not, al_nn] at hb4p
    have hwk : wok l = false := by simpa using hb4p
    refine W_seq ?_
    refine W_region rfl ?_
    refine WO_p (PS_assign_bool rfl) ?_
    refine WO_nil ?_
    refine thn_normal ?_
    refine W_ret ?_
    refine thn_ret ?_
    refine bodyQ_ret1 Hvad.results19 rfl (.bool _) rfl ?_
    first
    | (refine ⟨congrArg Value.bool hwk.symm, he1, fun h => ?_⟩; rw [hwk] at h; cases h)
    | (have hil : i = l.length := by omega
       subst hil
       exact ⟨congrArg Value.bool hwk.symm, hE2, fun _ => ⟨c2, v2, B2, hv2, hS2, hF2.mono (by omega) (by omega) (Int.le_refl _)⟩⟩)
  · have hb4p := hb4.h; try simp only [al_ete, al_dfn, Bool.not_eq_true', Bool.not_eq_false', al_ne, Bool.not_not, al_nn] at hb4p
    have hwk : wok l = true := by simpa using hb4p
    have hl8 := wok_len hwk
    refine W_skip ?_
    refine thn_normal ?_
    refine W_seq ?_
    refine W_seq ?_
    refine W_region rfl ?_
    refine WO_p (PS_move_int rfl) ?_
    refine WO_nil ?_
    refine thn_normal ?_
    refine W_block ?_
    refine W_loopN (fun k ρ w' => ∃ (i : Nat) (c2 : Array Value) (v2 : V) (B2 : VB), i + k = 4096 ∧ VS w' C c2 v2 B2 none ∧ VStep w w' C c c2 B B2 ∧ ZV v2 i ∧ Fr [(0, .pointer (some ⟨C, 2435, none⟩)), (1, .slice p l.length cp), (16, .int .i64 i)] ρ) 4096 ?_ ?_
    · exact ⟨0, c, v, B, by omega, hv1, VStep.ext hE1, hz, ⟨rfl, rfl, rfl, trivial⟩⟩
    intro k ρ w2 hI2
    obtain ⟨i, c2, v2, B2, hik, hv2, hS2, hZ2, hFr⟩ := hI2
    refine W_env _ hFr ?_
    have hblk2 := hv2.blk
    refine W_seq ?_
    refine W_region rfl ?_
    refine WO_p (PS_lss rfl rfl) ?_
    refine WO_nil ?_
    refine thn_normal ?_
    refine W_seq ?_
    refine W_if rfl (fun hb6 => ?_) (fun hb6 => ?_)
    · have hb6p := hb6.h; try simp only [al_ete, al_dfn, Bool.not_eq_true', Bool.not_eq_false', al_ne, Bool.not_not, al_nn] at hb6p
      refine W_skip ?_
      refine thn_normal ?_
      refine W_seq ?_
      refine W_block ?_
      refine W_seq ?_
      refine W_region rfl ?_
      refine WO_p (PS_move_int rfl) ?_
      refine WO_p (PS_assign_int rfl) ?_
      refine WO_nil ?_
      refine thn_normal ?_
      refine W_seq ?_
      refine W_region rfl ?_
      refine WO_p (PS_move_ptr rfl) ?_
      refine WO_p (PS_move_int rfl) ?_
      refine WO_p (PS_nilCheck rfl) ?_
      refine WO_p (PS_fieldAddr 2 Hvad.runUnderlying79 rfl Hvad.sizeOf72 rfl rfl) ?_
      refine WO_p (PS_indexA Hvad.runUnderlying72 Hvad.sizeOf21 rfl rfl (by omega) (by omega)) ?_
      refine WO_store1 Hvad.sizeOf21 rfl (v := .int _ _) rfl hv2.blk.h rfl (by rw [hv2.rep.size]; omega) rfl ?_
      refine WO_nil ?_
      refine thn_normal ?_
      refine W_region rfl ?_
      refine WO_p (PS_move_ptr rfl) ?_
      refine WO_p (PS_move_int rfl) ?_
      refine WO_p (PS_nilCheck rfl) ?_
      refine WO_p (PS_fieldAddr 4098 Hvad.runUnderlying79 rfl Hvad.sizeOf72 rfl rfl) ?_
      refine WO_p (PS_indexA Hvad.runUnderlying72 Hvad.sizeOf21 rfl rfl (by omega) (by omega)) ?_
      refine WO_store1 Hvad.sizeOf21 rfl (v := .int _ _) rfl (Hb.h (hv2.put_atab i (-1) (by omega) (by unfold I32; omega)).1.blk) rfl (by rw [Array.size_setIfInBounds, hv2.rep.size]; omega) rfl ?_
      refine WO_nil ?_
      refine inBlk_normal ?_
      refine thn_normal ?_
      refine W_gen2 fun w3 hw3 => ?_
      have hp1 := hv2.put_atab i (-1) (by omega) (by unfold I32; omega)
      have hp2 := hp1.1.put_stab i (-1) (by omega) (by unfold I32; omega)
      obtain ⟨c3, hv3, hs3⟩ : ∃ c3, VS w3 C c3 { v2 with atab := fun j => if j = i then -1 else v2.atab j, stab := fun j => if j = i then -1 else v2.stab j } B2 none ∧ VStep w2 w3 C c2 c3 B2 B2 := by rw [hw3]; exact ⟨_, hp2.1, hp1.2.trans hp2.2⟩
      clear hw3 hp1 hp2
      refine W_region rfl ?_
      refine WO_p (PS_add_i64n rfl rfl (by omega) (by omega)) ?_
      refine WO_p (PS_move_int rfl) ?_
      refine WO_nil ?_
      refine thn_normal ?_
      exact ⟨k - 1, by omega, i + 1, _, _, _, by omega, hv3, hS2.trans hs3, hZ2.step, ⟨rfl, rfl, congrArg (Value.int .i64) (by omega), trivial⟩⟩
    · have hb6p := hb6.h; try simp only [al_ete, al_dfn, Bool.not_eq_true', Bool.not_eq_false', al_ne, Bool.not_not, al_nn] at hb6p
      refine W_exit ?_
      refine thn_exit ?_
      refine thn_exit ?_
      refine inBlk_exit ?_
      refine thn_normal ?_
      refine W_seq ?_
      refine W_seq ?_
      refine W_region rfl ?_
      refine WO_p (PS_move_slice rfl) ?_
      refine WO_p (PS_lenS Hvad.runUnderlying23 rfl) ?_
      refine WO_p (PS_move_int rfl) ?_
      refine WO_nil ?_
      refine thn_normal ?_
      refine W_block ?_
      have hi40 : i = 4096 := by omega
      subst hi40
      have hFa := hZ2.fil
      clear hFr
      refine W_loopN (fun k ρ w' => ∃ (i : Nat) (c2 : Array Value) (v2 : V) (B2 : VB), i + k = l.length ∧ VS w' C c2 v2 B2 none ∧ VStep w w' C c c2 B B2 ∧ FilV v2 i (16 * i) (bsum l i) ∧ Fr [(0, .pointer (some ⟨C, 2435, none⟩)), (1, .slice p l.length cp), (31, .int .i64 l.length), (32, .int .i64 i)] ρ) l.length ?_ ?_
      · exact ⟨0, c2, v2, B2, by omega, hv2, hS2, hFa, ⟨rfl, rfl, rfl, rfl, trivial⟩⟩
      clear hik hFa hZ2 hS2 hblk2 hv2 
      clear v2 c2 B2 w2 k ρ
      intro k ρ w2 hI2
      obtain ⟨i, c2, v2, B2, hik, hv2, hS2, hF2, hFr⟩ := hI2
      refine W_env _ hFr ?_
      have hblk2 := hv2.blk
      have hE2 : Ext w0 w2 := Ext.keepC he hS2.keep hlow
      refine W_seq ?_
      refine W_region rfl ?_
      refine WO_p (PS_lss rfl rfl) ?_
      refine WO_nil ?_
      refine thn_normal ?_
      refine W_seq ?_
      refine W_if rfl (fun hb8 => ?_) (fun hb8 => ?_)
      · have hb8p := hb8.h; try simp only [al_ete, al_dfn, Bool.not_eq_true', Bool.not_eq_false', al_ne, Bool.not_not, al_nn] at hb8p
        obtain ⟨bb, o, r, T, fz, hp, hbb, hrl0⟩ := hin.row.row (by omega)
        dsimp only at hp
        subst hp
        have hiz : i < l.length := by omega
        obtain ⟨x, hx⟩ : ∃ x, l[i]? = some x := ⟨_, List.getElem?_eq_getElem hiz⟩
        have hk := hin.ok x (List.mem_of_getElem? hx)
        have hat := hrl0.acY hx hk
        have hbd := hat.bd
        have hba := hat.ba
        have had := hat.ad
        have hno := hat.no
        have hcd := hat.cd
        have hso := hat.so
        generalize hpst : x.sto.1 = pst at hso
        have hadl := hk.ad.1
        have hbal := hk.ba.1
        have hgx : l.getD i acD = x := getD_some hx
        obtain ⟨hcb, hslx⟩ := wok_acc hwk hx
        have hbb2 := hbb.ext hE2
        have hla2 := hF2.la
        have hls2 := hF2.ls
        refine W_skip ?_
        refine thn_normal ?_
        refine W_seq ?_
        refine W_block ?_
        refine W_seq ?_
        refine W_region rfl ?_
        refine WO_p (PS_move_int rfl) ?_
        refine WO_p (PS_assign_int rfl) ?_
        refine WO_nil ?_
        refine thn_normal ?_
        refine W_seq ?_
        refine W_region rfl ?_
        refine WO_p (PS_move_ptr rfl) ?_
        refine WO_p (PS_move_slice rfl) ?_
        refine WO_p (PS_move_int rfl) ?_
        refine WO_p (PS_indexS Hvad.runUnderlying23 Hvad.sizeOf108 rfl rfl (by omega) (by omega)) ?_
        refine WO_p (PS_fieldAddr 0 Hvad.runUnderlying108 rfl Hvad.sizeOf25 rfl rfl) ?_
        refine WO_loadA _ Hvad.isAgg25 Hvad.sizeOf25 rfl (Hb.h (by repeat (first | assumption | exact Hb.newY _ _ | refine Hb.alloc ?_ | refine Hb.drew ?_ | refine Hb.ext (by assumption) ?_ | exact Hb.setSameL (by first | omega | (simp only [size_alloc, size_setB, size_drew]; omega)) | exact Hb.setSame (by assumption) | refine Hb.set (by first | omega | (simp only [size_alloc, size_setB, size_drew]; omega)) ?_ ))) (by first | omega | assumption | rfl | decide | exact Nat.le_refl _ | (simp only [size_ic, Value.cells]; omega) | simp) (Xt.h (by first | assumption | exact Xt.whole rfl rfl | exact Xt.whole rfl (by simp only [size_ic, Value.cells]; omega) | exact ⟨rfl⟩)) ?_
        refine WO_call Hvad.call53 (by rfl) (Ret.mono (acct_spec C c2 v2 B2 none x.addr _ hv2 hk.ad) ?_)
        rintro u3 w3 ⟨hu3, c3, B3, hv3, hs3⟩
        obtain ⟨hF3, ia, y3, hr3, hy3n, hsl3⟩ := hF2.acct (by omega) x.addr
        rw [hr3] at hu3
        dsimp only at hu3
        subst hu3
        generalize (v2.acct x.addr).2 = v3 at *
        have hy3 : v3.accts[((ia : Int)).toNat]? = some y3 := hy3n
        have hial := lt_of_getElem? hy3n
        have hla3 := hv3.ty.la
        have hS3 := hS2.trans hs3
        have hE3 : Ext w0 w3 := Ext.keepC he hS3.keep hlow
        refine WO_p (PS_move_tuple rfl) ?_
        refine WO_p (PS_extract_int rfl rfl) ?_
        refine WO_p (PS_extract_bool rfl rfl) ?_
        refine WO_p (PS_assign_int rfl) ?_
        refine WO_p (PS_assign_bool rfl) ?_
        refine WO_nil ?_
        refine thn_normal ?_
        refine W_seq ?_
        obtain ⟨b7, cap7, r7, hab7, hcap7, hr7, hrs7, hrow7, hda7, hbd7, hil7, hty7, g0, g1, g2, g3, g4, g5, g6⟩ := hv3.openA hy3
        have hb3 := hv3.blk
        have hbb3 := hbb.ext hE3
        refine W_drawE [false, false, false, false, false, false, false, false, false, false, false, false, false] hmix (by kernel_rfl) rfl ?_
        refine WH_p (PS_move_ptr rfl) rfl ?_
        refine WH_p (PS_nilCheck rfl) rfl ?_
        refine WH_p (PS_fieldAddr 0 Hvad.runUnderlying79 rfl Hvad.sizeOf70 rfl rfl) rfl ?_
        refine WH_load (.slice _ _ _) Hvad.isAgg70 rfl (Hb.h (by repeat (first | assumption | exact Hb.newY _ _ | refine Hb.alloc ?_ | refine Hb.drew ?_ | refine Hb.ext (by assumption) ?_ | exact Hb.setSameL (by first | omega | (simp only [size_alloc, size_setB, size_drew]; omega)) | exact Hb.setSame (by assumption) | refine Hb.set (by first | omega | (simp only [size_alloc, size_setB, size_drew]; omega)) ?_ ))) (Ce.h (by first | assumption | exact ⟨rfl⟩)) ?_
        refine WH_p (PS_move_int rfl) rfl ?_
        refine WH_p (PS_move_slice rfl) rfl ?_
        refine WH_p (PS_move_int rfl) rfl ?_
        refine WH_p (PS_indexS Hvad.runUnderlying23 Hvad.sizeOf108 rfl rfl (by omega) (by omega)) rfl ?_
        refine WH_p (PS_fieldAddr 20 Hvad.runUnderlying108 rfl Hvad.sizeOf26 rfl rfl) rfl ?_
        refine WH_load (.int _ _) Hvad.isAgg26 rfl (Hb.h (by repeat (first | assumption | exact Hb.newY _ _ | refine Hb.alloc ?_ | refine Hb.drew ?_ | refine Hb.ext (by assumption) ?_ | exact Hb.setSameL (by first | omega | (simp only [size_alloc, size_setB, size_drew]; omega)) | exact Hb.setSame (by assumption) | refine Hb.set (by first | omega | (simp only [size_alloc, size_setB, size_drew]; omega)) ?_ ))) (Ce.h (by first | assumption | exact ⟨rfl⟩)) ?_
        refine WH_p (PS_indexS Hvad.runUnderlying70 Hvad.sizeOf149 rfl rfl (by omega) (by omega)) rfl ?_
        refine WH_p (PS_fieldAddr 20 Hvad.runUnderlying149 rfl Hvad.sizeOf26 rfl rfl) rfl ?_
        refine WH_store1 Hvad.sizeOf26 rfl (v := .int _ _) rfl (Hb.h (hr7.ext (Ext.drew (Ext.refl _)))) rfl (by omega) rfl (fun h => by cases h) ?_
        refine WH_nil ?_
        refine thn_normal ?_
        refine W_seq ?_
        refine W_gen2 fun w4 hw4 => ?_
        obtain ⟨hv4q, hs4⟩ : VS w4 C c3 _ B3 none ∧ VStep w3.drew w4 C c3 c3 B3 B3 := by rw [hw4]; exact (hv3.ext (Ext.drew (Ext.refl _))).wA_nonce hy3 hab7 hcap7 (hr7.ext (Ext.drew (Ext.refl _))) hrs7 hrow7 x.nonce hk.no
        clear hw4
        obtain ⟨v4, y4, hv4, hy4, hF4⟩ := fil_nonce hv4q hF3 hy3 (hv3.wvA hy3)
        clear hv4q
        have hS4 := hS3.trans (VStep.pre (Ext.drew (Ext.refl _)) hs4)
        have hE4 : Ext w0 w4 := Ext.keepC he hS4.keep hlow
        have hb4 := hv4.blk
        have hbb4 := hbb.ext hE4
        clear hda7 hrow7 hr7 g0 g1 g2 g3 g4 g5 g6 hab7 hcap7 hrs7 hbd7 hil7 hty7
        obtain ⟨b7, cap7, r7, hab7, hcap7, hr7, hrs7, hrow7, hda7, hbd7, hil7, hty7, g0, g1, g2, g3, g4, g5, g6⟩ := hv4.openA hy4
        have hfl := (fromB_wd hk.ba.2).1
        refine W_drawE [false, false, false, false, false, false, false, false, false, false, true, false, false, false] hmix (by kernel_rfl) rfl ?_
        refine WH_p (PS_move_ptr rfl) rfl ?_
        refine WH_p (PS_nilCheck rfl) rfl ?_
        refine WH_p (PS_fieldAddr 0 Hvad.runUnderlying79 rfl Hvad.sizeOf70 rfl rfl) rfl ?_
        refine WH_load (.slice _ _ _) Hvad.isAgg70 rfl (Hb.h (by repeat (first | assumption | exact Hb.newY _ _ | refine Hb.alloc ?_ | refine Hb.drew ?_ | refine Hb.ext (by assumption) ?_ | exact Hb.setSameL (by first | omega | (simp only [size_alloc, size_setB, size_drew]; omega)) | exact Hb.setSame (by assumption) | refine Hb.set (by first | omega | (simp only [size_alloc, size_setB, size_drew]; omega)) ?_ ))) (Ce.h (by first | assumption | exact ⟨rfl⟩)) ?_
        refine WH_p (PS_move_int rfl) rfl ?_
        refine WH_p (PS_move_slice rfl) rfl ?_
        refine WH_p (PS_move_int rfl) rfl ?_
        refine WH_p (PS_indexS Hvad.runUnderlying23 Hvad.sizeOf108 rfl rfl (by omega) (by omega)) rfl ?_
        refine WH_p (PS_fieldAddr 21 Hvad.runUnderlying108 rfl Hvad.sizeOf28 rfl rfl) rfl ?_
        refine WH_loadA _ Hvad.isAgg28 Hvad.sizeOf28 rfl (Hb.h (by repeat (first | assumption | exact Hb.newY _ _ | refine Hb.alloc ?_ | refine Hb.drew ?_ | refine Hb.ext (by assumption) ?_ | exact Hb.setSameL (by first | omega | (simp only [size_alloc, size_setB, size_drew]; omega)) | exact Hb.setSame (by assumption) | refine Hb.set (by first | omega | (simp only [size_alloc, size_setB, size_drew]; omega)) ?_ ))) (by first | omega | assumption | rfl | decide | exact Nat.le_refl _ | (simp only [size_ic, Value.cells]; omega) | simp) (Xt.h (by first | assumption | exact Xt.whole rfl rfl | exact Xt.whole rfl (by simp only [size_ic, Value.cells]; omega) | exact ⟨rfl⟩)) ?_
        refine WH_call Hvad.call39 (by rfl) (Ret.mono (fromBytes_spec x.bal _ hk.ba) ?_)
        rintro _ wA14 ⟨rfl, hEA14⟩
        refine ⟨fun _ => (by repeat (first | assumption | exact Ext.refl _ | refine Ext.alloc ?_ _ | refine Ext.drew ?_ | refine Ext.setB ?_ (by first | omega | (simp only [size_alloc, size_setB, size_drew]; omega)) _ | exact Ext.trans (by assumption) (by assumption) | refine Ext.trans ?_ (by assumption))), ?_⟩
        refine WH_p (PS_indexS Hvad.runUnderlying70 Hvad.sizeOf149 rfl rfl (by omega) (by omega)) rfl ?_
        refine WH_p (PS_fieldAddr 21 Hvad.runUnderlying149 rfl Hvad.sizeOf59 rfl rfl) rfl ?_
        refine WH_store Hvad.sizeOf59 rfl (v := .agg (ic .u64 (fromB x.bal))) rfl (Hb.h (hr7.ext (Ext.trans (Ext.drew (Ext.refl _)) hEA14))) (by first | omega | assumption | rfl | decide | exact Nat.le_refl _ | (simp only [size_ic, Value.cells]; omega) | simp) (by omega) (by first | exact oneCell_ic | assumption) (fun h => by cases h) ?_
        refine WH_nil ?_
        refine thn_normal ?_
        refine W_seq ?_
        refine W_gen2 fun w5 hw5 => ?_
        obtain ⟨hv5q, hs5⟩ : VS w5 C c3 _ B3 none ∧ VStep wA14 w5 C c3 c3 B3 B3 := by rw [hw5]; exact (hv4.ext (Ext.trans (Ext.drew (Ext.refl _)) hEA14)).wA_bal hy4 hab7 hcap7 (hr7.ext (Ext.trans (Ext.drew (Ext.refl _)) hEA14)) hrs7 hrow7 (fromB x.bal) (fromB_wd hk.ba.2)
        clear hw5
        obtain ⟨v5, y5, hv5, hy5, hF5⟩ := fil_bal hv5q hF4 hy4 (hv4.wvA hy4) (wv_bd (fromB_wd hk.ba.2)).1
        clear hv5q
        have hS5 := hS4.trans (VStep.pre (Ext.trans (Ext.drew (Ext.refl _)) hEA14) hs5)
        have hE5 : Ext w0 w5 := Ext.keepC he hS5.keep hlow
        have hb5 := hv5.blk
        have hbb5 := hbb.ext hE5
        clear hda7 hrow7 hr7 g0 g1 g2 g3 g4 g5 g6 hab7 hcap7 hrs7 hbd7 hil7 hty7
        obtain ⟨b7, cap7, r7, hab7, hcap7, hr7, hrs7, hrow7, hda7, hbd7, hil7, hty7, g0, g1, g2, g3, g4, g5, g6⟩ := hv5.openA hy5
        refine W_drawE [false, false, false, false, false, false, false, false, false, false, true, false, false, false] hmix (by kernel_rfl) rfl ?_
        refine WH_p (PS_move_ptr rfl) rfl ?_
        refine WH_p (PS_nilCheck rfl) rfl ?_
        refine WH_p (PS_fieldAddr 0 Hvad.runUnderlying79 rfl Hvad.sizeOf70 rfl rfl) rfl ?_
        refine WH_load (.slice _ _ _) Hvad.isAgg70 rfl (Hb.h (by repeat (first | assumption | exact Hb.newY _ _ | refine Hb.alloc ?_ | refine Hb.drew ?_ | refine Hb.ext (by assumption) ?_ | exact Hb.setSameL (by first | omega | (simp only [size_alloc, size_setB, size_drew]; omega)) | exact Hb.setSame (by assumption) | refine Hb.set (by first | omega | (simp only [size_alloc, size_setB, size_drew]; omega)) ?_ ))) (Ce.h (by first | assumption | exact ⟨rfl⟩)) ?_
        refine WH_p (PS_move_int rfl) rfl ?_
        refine WH_p (PS_move_slice rfl) rfl ?_
        refine WH_p (PS_move_int rfl) rfl ?_
        refine WH_p (PS_indexS Hvad.runUnderlying23 Hvad.sizeOf108 rfl rfl (by omega) (by omega)) rfl ?_
        refine WH_p (PS_fieldAddr 53 Hvad.runUnderlying108 rfl Hvad.sizeOf32 rfl rfl) rfl ?_
        refine WH_load (.slice _ _ _) Hvad.isAgg32 rfl (Hb.h (by repeat (first | assumption | exact Hb.newY _ _ | refine Hb.alloc ?_ | refine Hb.drew ?_ | refine Hb.ext (by assumption) ?_ | exact Hb.setSameL (by first | omega | (simp only [size_alloc, size_setB, size_drew]; omega)) | exact Hb.setSame (by assumption) | refine Hb.set (by first | omega | (simp only [size_alloc, size_setB, size_drew]; omega)) ?_ ))) (Ce.h (by first | assumption | exact ⟨rfl⟩)) ?_
        refine WH_call Hvad.call54 (by rfl) (Ret.mono (copiedI_spec x.code x.cb _ (hk.cd.ext (Ext.trans hE5 (Ext.drew (Ext.refl _)))) (by omega)) ?_)
        rintro _ wA15 ⟨hEA15, sc15, rfl, hNB15⟩
        refine ⟨fun _ => (by repeat (first | assumption | exact Ext.refl _ | refine Ext.alloc ?_ _ | refine Ext.drew ?_ | refine Ext.setB ?_ (by first | omega | (simp only [size_alloc, size_setB, size_drew]; omega)) _ | exact Ext.trans (by assumption) (by assumption) | refine Ext.trans ?_ (by assumption))), ?_⟩
        refine WH_p (PS_indexS Hvad.runUnderlying70 Hvad.sizeOf149 rfl rfl (by omega) (by omega)) rfl ?_
        refine WH_p (PS_fieldAddr 25 Hvad.runUnderlying149 rfl Hvad.sizeOf32 rfl rfl) rfl ?_
        refine WH_store1 Hvad.sizeOf32 rfl (v := .slice _ _ _) rfl (Hb.h (hr7.ext (Ext.trans (Ext.drew (Ext.refl _)) hEA15))) rfl (by omega) rfl (fun h => by cases h) ?_
        refine WH_nil ?_
        refine thn_normal ?_
        refine W_seq ?_
        refine W_gen2 fun w6 hw6 => ?_
        obtain ⟨hv6q, hs6⟩ : VS w6 C c3 _ B3 none ∧ VStep wA15 w6 C c3 c3 B3 B3 := by rw [hw6]; exact (hv5.ext (Ext.trans (Ext.drew (Ext.refl _)) hEA15)).wA_code hy5 hab7 hcap7 (hr7.ext (Ext.trans (Ext.drew (Ext.refl _)) hEA15)) hrs7 hrow7 sc15 (hNB15.bs (fun b h => by cases h) hk.cr)
        clear hw6
        obtain ⟨v6, y6, hv6, hy6, hF6⟩ := fil_code hv6q hF5 hy5 (hv5.wvA hy5) (hNB15.codeOK hcb)
        clear hv6q
        have hS6 := hS5.trans (VStep.pre (Ext.trans (Ext.drew (Ext.refl _)) hEA15) hs6)
        have hE6 : Ext w0 w6 := Ext.keepC he hS6.keep hlow
        have hb6 := hv6.blk
        have hbb6 := hbb.ext hE6
        clear hda7 hrow7 hr7 g0 g1 g2 g3 g4 g5 g6 hab7 hcap7 hrs7 hbd7 hil7 hty7
        rw [wv_fromB, show bsum l i + tv x.bal 32 = bsum l (i + 1) from by rw [show bsum l (i + 1) = bsum l i + tv (l.getD i acD).bal 32 from rfl, hgx]] at hF6
        have hial6 : ia < v6.accts.length := lt_of_getElem? hy6
        refine W_region rfl ?_
        refine WO_p (PS_move_slice rfl) ?_
        refine WO_p (PS_move_int rfl) ?_
        refine WO_p (PS_indexS Hvad.runUnderlying23 Hvad.sizeOf108 rfl rfl (by omega) (by omega)) ?_
        refine WO_p (PS_fieldAddr 54 Hvad.runUnderlying108 rfl Hvad.sizeOf106 rfl rfl) ?_
        refine WO_load (.slice _ _ _) Hvad.isAgg106 rfl (Hb.h (by repeat (first | assumption | exact Hb.newY _ _ | refine Hb.alloc ?_ | refine Hb.drew ?_ | refine Hb.ext (by assumption) ?_ | exact Hb.setSameL (by first | omega | (simp only [size_alloc, size_setB, size_drew]; omega)) | exact Hb.setSame (by assumption) | refine Hb.set (by first | omega | (simp only [size_alloc, size_setB, size_drew]; omega)) ?_ ))) (Ce.h (by first | assumption | exact ⟨rfl⟩)) ?_
        refine WO_p (PS_lenS Hvad.runUnderlying106 rfl) ?_
        refine WO_p (PS_move_int rfl) ?_
        refine WO_nil ?_
        refine thn_normal ?_
        refine W_block ?_
        have hsol := hk.so.len
        refine W_loopN (fun k ρ w' => ∃ (j : Nat) (c7 : Array Value) (v7 : V) (B7 : VB), j + k = x.sl.length ∧ VS w' C c7 v7 B7 none ∧ VStep w w' C c c7 B B7 ∧ FilV v7 (i + 1) (16 * i + j) (bsum l (i + 1)) ∧ ia < v7.accts.length ∧ Fr [(0, .pointer (some ⟨C, 2435, none⟩)), (1, .slice (some ⟨bb, o, none⟩) l.length cp), (7, .int .i32 (ia : Int)), (31, .int .i64 l.length), (32, .int .i64 i), (87, .slice pst x.sto.2.1 x.sto.2.2), (88, .int .i64 x.sto.2.1), (89, .int .i64 j)] ρ) x.sl.length ?_ ?_
        · exact ⟨0, c3, v6, B3, by omega, hv6, hS6, hF6, hial6, ⟨rfl, rfl, rfl, rfl, rfl, rfl, rfl, rfl, trivial⟩⟩
        intro k2 ρ2 w7 hI7
        obtain ⟨j, c7, v7, B7, hjk, hv7, hS7, hF7, hial7, hFrs⟩ := hI7
        refine W_env _ hFrs ?_
        have hblk7 := hv7.blk
        have hE7 : Ext w0 w7 := Ext.keepC he hS7.keep hlow
        refine W_seq ?_
        refine W_region rfl ?_
        refine WO_p (PS_lss rfl rfl) ?_
        refine WO_nil ?_
        refine thn_normal ?_
        refine W_seq ?_
        refine W_if rfl (fun hb14 => ?_) (fun hb14 => ?_)
        · have hb14p := hb14.h; try simp only [al_ete, al_dfn, Bool.not_eq_true', Bool.not_eq_false', al_ne, Bool.not_not, al_nn] at hb14p
          have hjz : j < x.sl.length := by omega
          obtain ⟨z, hz9⟩ : ∃ z, x.sl[j]? = some z := ⟨_, List.getElem?_eq_getElem hjz⟩
          obtain ⟨bb2, o2, r2, T2, fz2, hp2, hbx2, hrl2⟩ := hk.so.get hz9
          have hzk := hk.sr z (List.mem_of_getElem? hz9)
          rw [hpst] at hp2
          subst hp2
          have hza := (hrl2.sl hz9 hzk).bd
          have hzw := hrl2.ext hz9 (k := 0) (n := 64) (by decide) (sl_whole hzk) (encSl_len hzk)
          have hxk := xt_slk hzk
          have hxv := xt_slv hzk
          have hkl := hzk.k.1
          have hvl := hzk.v.1
          have hze := encSl_len hzk
          have hze2 : (encSl z).toArray.size = 64 := by simpa using hze
          have hbx7 := hbx2.ext hE7
          have hla7 := hF7.la
          have hls7 := hF7.ls
          refine W_skip ?_
          refine thn_normal ?_
          refine W_seq ?_
          refine W_block ?_
          refine W_seq ?_
          refine W_region rfl ?_
          refine WO_p (PS_indexS Hvad.runUnderlying106 Hvad.sizeOf116 rfl rfl (by omega) (by omega)) ?_
          refine WO_loadA _ Hvad.isAgg116 Hvad.sizeOf116 rfl (Hb.h (by repeat (first | assumption | exact Hb.newY _ _ | refine Hb.alloc ?_ | refine Hb.drew ?_ | refine Hb.ext (by assumption) ?_ | exact Hb.setSameL (by first | omega | (simp only [size_alloc, size_setB, size_drew]; omega)) | exact Hb.setSame (by assumption) | refine Hb.set (by first | omega | (simp only [size_alloc, size_setB, size_drew]; omega)) ?_ ))) (by first | omega | assumption | rfl | decide | exact Nat.le_refl _ | (simp only [size_ic, Value.cells]; omega) | simp) (Xt.h (by first | assumption | exact Xt.whole rfl rfl | exact Xt.whole rfl (by simp only [size_ic, Value.cells]; omega) | exact ⟨rfl⟩)) ?_
          refine WO_allocG Hvad.zeroValue116 ?_
          intro b10 v10 hg10 hE10 hH10 hl10
          try simp only [size_alloc, size_setB, size_drew] at hg10
          have hzz10 := hE10.1
          try simp only [size_alloc, size_setB, size_drew] at hzz10
          replace hH10 : Hb v10 b10 (.cells ((List.replicate 64 (Value.int .u8 0)).toArray) 116 (0, 0)) := hH10
          refine WO_storeW Hvad.sizeOf116 rfl (v := .agg (encSl z).toArray) rfl hH10.h rfl hze2 (by simp) (one_encSl z) ?_
          refine WO_nil ?_
          refine thn_normal ?_
          refine W_seq ?_
          have hH10q := hH10
          have hlb10 := hl10
          refine W_gen2 fun w18 hw18 => ?_
          have hb10q : Hb w18 b10 (.cells (encSl z).toArray 116 (0, 0)) := by rw [hw18]; exact Hb.setSame hH10q
          have hE18 : Ext w7 w18 := by rw [hw18]; exact Ext.setB hE10 hg10 _
          clear hw18
          refine W_region rfl ?_
          refine WO_p (PS_move_ptr rfl) ?_
          refine WO_p (PS_move_int rfl) ?_
          refine WO_p (PS_fieldAddr 0 Hvad.runUnderlying116 rfl Hvad.sizeOf28 rfl rfl) ?_
          refine WO_loadA _ Hvad.isAgg28 Hvad.sizeOf28 rfl (Hb.h (by repeat (first | assumption | exact Hb.newY _ _ | refine Hb.alloc ?_ | refine Hb.drew ?_ | refine Hb.ext (by assumption) ?_ | exact Hb.setSameL (by first | omega | (simp only [size_alloc, size_setB, size_drew]; omega)) | exact Hb.setSame (by assumption) | refine Hb.set (by first | omega | (simp only [size_alloc, size_setB, size_drew]; omega)) ?_ ))) (by first | omega | assumption | rfl | decide | exact Nat.le_refl _ | (simp only [size_ic, Value.cells]; omega) | simp) (Xt.h (by first | assumption | exact Xt.whole rfl rfl | exact Xt.whole rfl (by simp only [size_ic, Value.cells]; omega) | exact ⟨rfl⟩)) ?_
          refine WO_call Hvad.call39 (by rfl) (Ret.mono (fromBytes_spec z.key _ hzk.k) ?_)
          rintro _ wA19 ⟨rfl, hEA19⟩
          refine WO_call Hvad.call55 (by rfl) (Ret.mono (slot_spec C c7 v7 B7 none (ia : Int) (fromB z.key) _ (hv7.ext (Ext.trans hE18 hEA19)) (by unfold I32; omega) (fromB_wd hzk.k.2)) ?_)
          rintro u8 w8 ⟨hu8, c8, B8, hv8, hs8⟩
          have hfs := hF7.slot (by omega) (a := (ia : Int)) ⟨by omega, by omega⟩ (fromB z.key)
          obtain ⟨hF8, is8, z8, hr8u, hz8n, hzw8, hac8⟩ := hfs
          rw [hr8u] at hu8
          dsimp only at hu8
          subst hu8
          generalize (v7.slot (ia : Int) (fromB z.key)).2 = v8 at *
          have hz8 : v8.slots[((is8 : Int)).toNat]? = some z8 := hz8n
          have hisl := lt_of_getElem? hz8n
          have hls8 := hv8.ty.ls
          have hS8 := (hS7.trans (VStep.ext (Ext.trans hE18 hEA19))).trans hs8
          have hE8 : Ext w0 w8 := Ext.keepC he hS8.keep hlow
          have hb10 : Hb w8 b10 (.cells (encSl z).toArray 116 (0, 0)) := hs8.hb (hv7.ext (Ext.trans hE18 hEA19)) (Hb.ext hEA19 hb10q) (by decide)
          refine WO_p (PS_move_tuple rfl) ?_
          refine WO_p (PS_extract_int rfl rfl) ?_
          refine WO_p (PS_extract_bool rfl rfl) ?_
          refine WO_p (PS_assign_int rfl) ?_
          refine WO_p (PS_assign_bool rfl) ?_
          refine WO_nil ?_
          refine thn_normal ?_
          refine W_seq ?_
          obtain ⟨b8, cap8, r8, hab8, hcap8, hr8, hrs8, hrow8, hda8, hbd8, hil8, hty8, q0, q1, q2, q3, q4⟩ := hv8.openS hz8
          have hb8 := hv8.blk
          have hvw := (fromB_wd hzk.v.2).1
          refine W_drawE [false, false, false, false, false, false, false, true, false, false, false] hmix (by kernel_rfl) rfl ?_
          refine WH_p (PS_move_ptr rfl) rfl ?_
          refine WH_p (PS_nilCheck rfl) rfl ?_
          refine WH_p (PS_fieldAddr 1 Hvad.runUnderlying79 rfl Hvad.sizeOf71 rfl rfl) rfl ?_
          refine WH_load (.slice _ _ _) Hvad.isAgg71 rfl (Hb.h (by repeat (first | assumption | exact Hb.newY _ _ | refine Hb.alloc ?_ | refine Hb.drew ?_ | refine Hb.ext (by assumption) ?_ | exact Hb.setSameL (by first | omega | (simp only [size_alloc, size_setB, size_drew]; omega)) | exact Hb.setSame (by assumption) | refine Hb.set (by first | omega | (simp only [size_alloc, size_setB, size_drew]; omega)) ?_ ))) (Ce.h (by first | assumption | exact ⟨rfl⟩)) ?_
          refine WH_p (PS_move_int rfl) rfl ?_
          refine WH_p (PS_fieldAddr 32 Hvad.runUnderlying116 rfl Hvad.sizeOf28 rfl rfl) rfl ?_
          refine WH_loadA _ Hvad.isAgg28 Hvad.sizeOf28 rfl (Hb.h (by repeat (first | assumption | exact Hb.newY _ _ | refine Hb.alloc ?_ | refine Hb.drew ?_ | refine Hb.ext (by assumption) ?_ | exact Hb.setSameL (by first | omega | (simp only [size_alloc, size_setB, size_drew]; omega)) | exact Hb.setSame (by assumption) | refine Hb.set (by first | omega | (simp only [size_alloc, size_setB, size_drew]; omega)) ?_ ))) (by first | omega | assumption | rfl | decide | exact Nat.le_refl _ | (simp only [size_ic, Value.cells]; omega) | simp) (Xt.h (by first | assumption | exact Xt.whole rfl rfl | exact Xt.whole rfl (by simp only [size_ic, Value.cells]; omega) | exact ⟨rfl⟩)) ?_
          refine WH_call Hvad.call39 (by rfl) (Ret.mono (fromBytes_spec z.val _ hzk.v) ?_)
          rintro _ wA20 ⟨rfl, hEA20⟩
          refine ⟨fun _ => (by repeat (first | assumption | exact Ext.refl _ | refine Ext.alloc ?_ _ | refine Ext.drew ?_ | refine Ext.setB ?_ (by first | omega | (simp only [size_alloc, size_setB, size_drew]; omega)) _ | exact Ext.trans (by assumption) (by assumption) | refine Ext.trans ?_ (by assumption))), ?_⟩
          refine WH_p (PS_indexS Hvad.runUnderlying71 Hvad.sizeOf152 rfl rfl (by omega) (by omega)) rfl ?_
          refine WH_p (PS_fieldAddr 5 Hvad.runUnderlying152 rfl Hvad.sizeOf59 rfl rfl) rfl ?_
          refine WH_store Hvad.sizeOf59 rfl (v := .agg (ic .u64 (fromB z.val))) rfl (Hb.h (hr8.ext (Ext.trans (Ext.drew (Ext.refl _)) hEA20))) (by first | omega | assumption | rfl | decide | exact Nat.le_refl _ | (simp only [size_ic, Value.cells]; omega) | simp) (by omega) (by first | exact oneCell_ic | assumption) (fun h => by cases h) ?_
          refine WH_nil ?_
          refine thn_normal ?_
          refine W_gen2 fun w9 hw9 => ?_
          obtain ⟨hv9, hs9⟩ : VS w9 C c8 _ B8 none ∧ VStep wA20 w9 C c8 c8 B8 B8 := by rw [hw9]; exact (hv8.ext (Ext.trans (Ext.drew (Ext.refl _)) hEA20)).wS_val hz8 hab8 hcap8 (hr8.ext (Ext.trans (Ext.drew (Ext.refl _)) hEA20)) hrs8 hrow8 (fromB z.val) (fromB_wd hzk.v.2)
          clear hw9
          have hz9s : (v8.slots.set ((is8 : Int)).toNat { z8 with val := fromB z.val })[((is8 : Int)).toNat]? = some { z8 with val := fromB z.val } := List.getElem?_set_self (by omega)
          have hS9 := hS8.trans (VStep.pre (Ext.trans (Ext.drew (Ext.refl _)) hEA20) hs9)
          clear hda8 hrow8 hr8 q0 q1 q2 q3 q4 hab8 hcap8 hrs8 hbd8 hil8 hty8
          have hb9 := hv9.blk
          obtain ⟨b8, cap8, r8, hab8, hcap8, hr8, hrs8, hrow8, hda8, hbd8, hil8, hty8, q0, q1, q2, q3, q4⟩ := hv9.openS hz9s
          refine W_drawE [false, false, false, false, false, false, false, false, false, false, false, false, false, false, false, false] hmix (by kernel_rfl) rfl ?_
          refine WH_p (PS_move_ptr rfl) rfl ?_
          refine WH_p (PS_nilCheck rfl) rfl ?_
          refine WH_p (PS_fieldAddr 1 Hvad.runUnderlying79 rfl Hvad.sizeOf71 rfl rfl) rfl ?_
          refine WH_load (.slice _ _ _) Hvad.isAgg71 rfl (Hb.h (by repeat (first | assumption | exact Hb.newY _ _ | refine Hb.alloc ?_ | refine Hb.drew ?_ | refine Hb.ext (by assumption) ?_ | exact Hb.setSameL (by first | omega | (simp only [size_alloc, size_setB, size_drew]; omega)) | exact Hb.setSame (by assumption) | refine Hb.set (by first | omega | (simp only [size_alloc, size_setB, size_drew]; omega)) ?_ ))) (Ce.h (by first | assumption | exact ⟨rfl⟩)) ?_
          refine WH_p (PS_move_int rfl) rfl ?_
          refine WH_p (PS_move_ptr rfl) rfl ?_
          refine WH_p (PS_nilCheck rfl) rfl ?_
          refine WH_p (PS_fieldAddr 1 Hvad.runUnderlying79 rfl Hvad.sizeOf71 rfl rfl) rfl ?_
          refine WH_load (.slice _ _ _) Hvad.isAgg71 rfl (Hb.h (by repeat (first | assumption | exact Hb.newY _ _ | refine Hb.alloc ?_ | refine Hb.drew ?_ | refine Hb.ext (by assumption) ?_ | exact Hb.setSameL (by first | omega | (simp only [size_alloc, size_setB, size_drew]; omega)) | exact Hb.setSame (by assumption) | refine Hb.set (by first | omega | (simp only [size_alloc, size_setB, size_drew]; omega)) ?_ ))) (Ce.h (by first | assumption | exact ⟨rfl⟩)) ?_
          refine WH_p (PS_move_int rfl) rfl ?_
          refine WH_p (PS_indexS Hvad.runUnderlying71 Hvad.sizeOf152 rfl rfl (by omega) (by omega)) rfl ?_
          refine WH_p (PS_fieldAddr 5 Hvad.runUnderlying152 rfl Hvad.sizeOf59 rfl rfl) rfl ?_
          refine WH_loadA _ Hvad.isAgg59 Hvad.sizeOf59 rfl (Hb.h (by repeat (first | assumption | exact Hb.newY _ _ | refine Hb.alloc ?_ | refine Hb.drew ?_ | refine Hb.ext (by assumption) ?_ | exact Hb.setSameL (by first | omega | (simp only [size_alloc, size_setB, size_drew]; omega)) | exact Hb.setSame (by assumption) | refine Hb.set (by first | omega | (simp only [size_alloc, size_setB, size_drew]; omega)) ?_ ))) (by first | omega | assumption | rfl | decide | exact Nat.le_refl _ | (simp only [size_ic, Value.cells]; omega) | simp) (Xt.h (by first | assumption | exact Xt.whole rfl rfl | exact Xt.whole rfl (by simp only [size_ic, Value.cells]; omega) | exact ⟨rfl⟩)) ?_
          refine WH_p (PS_indexS Hvad.runUnderlying71 Hvad.sizeOf152 rfl rfl (by omega) (by omega)) rfl ?_
          refine WH_p (PS_fieldAddr 9 Hvad.runUnderlying152 rfl Hvad.sizeOf59 rfl rfl) rfl ?_
          refine WH_store Hvad.sizeOf59 rfl (v := .agg (ic .u64 (fromB z.val))) rfl (Hb.h (hr8.ext (Ext.drew (Ext.refl _)))) (by first | omega | assumption | rfl | decide | exact Nat.le_refl _ | (simp only [size_ic, Value.cells]; omega) | simp) (by omega) (by first | exact oneCell_ic | assumption) (fun h => by cases h) ?_
          refine WH_nil ?_
          refine inBlk_normal ?_
          refine thn_normal ?_
          refine W_gen2 fun w11 hw11 => ?_
          obtain ⟨hv11q, hs11⟩ : VS w11 C c8 _ B8 none ∧ VStep w9.drew w11 C c8 c8 B8 B8 := by rw [hw11]; exact (hv9.ext (Ext.drew (Ext.refl _))).wS_orig hz9s hab8 hcap8 (hr8.ext (Ext.drew (Ext.refl _))) hrs8 hrow8 (fromB z.val) (fromB_wd hzk.v.2)
          clear hw11
          obtain ⟨v11, hv11, hF11, hac11⟩ := fil_slot hv11q hF8 hz8 hzw8
          have hS11 := hS9.trans (VStep.pre (Ext.drew (Ext.refl _)) hs11)
          have hE11 : Ext w0 w11 := Ext.keepC he hS11.keep hlow
          refine W_region rfl ?_
          refine WO_p (PS_add_i64n rfl rfl (by omega) (by omega)) ?_
          refine WO_p (PS_move_int rfl) ?_
          refine WO_nil ?_
          refine thn_normal ?_
          exact ⟨k2 - 1, by omega, j + 1, c8, v11, B8, by omega, hv11, hS11, hF11, by rw [hac11, hac8]; exact hial7, ⟨rfl, rfl, rfl, rfl, rfl, rfl, rfl, congrArg (Value.int .i64) (by omega), trivial⟩⟩
        · have hb14p := hb14.h; try simp only [al_ete, al_dfn, Bool.not_eq_true', Bool.not_eq_false', al_ne, Bool.not_not, al_nn] at hb14p
          refine W_exit ?_
          refine thn_exit ?_
          refine thn_exit ?_
          refine inBlk_exit ?_
          refine inBlk_normal ?_
          refine thn_normal ?_
          refine W_region rfl ?_
          refine WO_p (PS_add_i64n rfl rfl (by omega) (by omega)) ?_
          refine WO_p (PS_move_int rfl) ?_
          refine WO_nil ?_
          refine thn_normal ?_
          exact ⟨k - 1, by omega, i + 1, c7, v7, B7, by omega, hv7, hS7, hF7.mono (Nat.le_refl _) (by omega) (Int.le_refl _), ⟨rfl, rfl, rfl, congrArg (Value.int .i64) (by omega), trivial⟩⟩
      · have hb8p := hb8.h; try simp only [al_ete, al_dfn, Bool.not_eq_true', Bool.not_eq_false', al_ne, Bool.not_not, al_nn] at hb8p
        refine W_exit ?_
        refine thn_exit ?_
        refine thn_exit ?_
        refine inBlk_exit ?_
        refine thn_normal ?_
        refine W_seq ?_
        refine W_region rfl ?_
        refine WO_p (PS_assign_bool rfl) ?_
        refine WO_nil ?_
        refine thn_normal ?_
        refine W_ret ?_
        refine bodyQ_ret1 Hvad.results19 rfl (.bool _) rfl ?_
        first
        | (refine ⟨congrArg Value.bool hwk.symm, he1, fun h => ?_⟩; rw [hwk] at h; cases h)
        | (have hil : i = l.length := by omega
           subst hil
           exact ⟨congrArg Value.bool hwk.symm, hE2, fun _ => ⟨c2, v2, B2, hv2, hS2, hF2.mono (by omega) (by omega) (Int.le_refl _)⟩⟩)

end Go.Proofs.YgvadwGreat
