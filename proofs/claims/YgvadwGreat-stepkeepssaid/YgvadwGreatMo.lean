import Derived.Test.YgvadwGreatFwO
namespace Go.Proofs.YgvadwGreat
set_option linter.unusedSimpArgs false
set_option linter.unusedVariables false
theorem SC.tail {w : World} {s : SV} {L : List Int} (h : SC w .u8 1 s L) (f : Nat) (hf : f < s.2.1) (hc : s.2.1 ≤ s.2.2) : SC w .u8 1 (slp' s.1 f s.2.2 1, s.2.1 - f, s.2.2 - f) (L.drop f) := by
  obtain ⟨h1, h2⟩ := h
  simp only [Nat.mul_one] at h1 h2
  refine ⟨by simp [h1], ?_⟩
  rcases h2 with ⟨h2, h3⟩ | ⟨b, o, r, T, fz, h2, h3, h4, h5⟩
  · omega
  · refine Or.inr ⟨b, o + f * 1, r, T, fz, by rw [h2, slp'_some (by omega)], h3, by simp; omega, ⟨?_⟩⟩
    have e2 : r.extract (o + f * 1) (o + f * 1 + (s.2.1 - f) * 1) = (r.extract o (o + s.2.1)).extract f (s.2.1) := by
      rw [Array.extract_extract]; congr 1 <;> omega
    rw [e2, h5.h]
    refine Array.ext_getElem? fun i => ?_
    rw [Array.getElem?_extract, size_ic]
    simp only [ic, List.getElem?_toArray, List.getElem?_map, List.getElem?_drop]
    by_cases hi : i < s.2.1 - f
    · rw [if_pos (by omega)]
    · rw [if_neg (by omega), List.getElem?_eq_none (by omega)]; rfl
theorem min_cast (a b : Nat) : ((Nat.min a b : Nat) : Int).toNat = Nat.min a b := Int.toNat_natCast _

set_option maxRecDepth 10000 in
theorem memWrite_spec (C : Nat) (c : Array Value) (v : V) (B : VB) (m : Mc) (k lo n : Nat) (off q b f : Nat) (src : SV) (w : World) (hM : MS w C c v B m) (hT : MemT m k lo n) (hb : m.buf.1 = some ⟨b, 0, none⟩) (hq : 0 < q) (hqn : off + q ≤ n) (hs : BS w (bb m) src) (hs1 : src.2.1 ≤ src.2.2) (hs2 : src.2.1 ≤ 1000000) : Ret Hvad.prog 154 #[.pointer (some ⟨C, 1, none⟩), .int .u32 off, .slice src.1 src.2.1 src.2.2, .int .u64 f, .int .u32 q] w fun u w' => u = .bool true ∧ MRet w C B m w' v m := by
  obtain ⟨L, hcp, hr, hL, hle⟩ := hM.bufL hb
  have h1 := hT.le
  have h2 := hT.sz
  obtain ⟨Ls, hsc, hLs⟩ := hs.sc
  refine Ret_of_W Hvad.func154 rfl rfl ?_
  refine W_seq ?_
  refine W_region rfl ?_
  refine WO_p (PS_assign_bool rfl) ?_
  refine WO_nil ?_
  refine thn_normal ?_
  refine W_seq ?_
  refine W_region rfl ?_
  refine WO_p (PS_move_ptr rfl) ?_
  refine WO_p (PS_move_int rfl) ?_
  refine WO_p (PS_move_int rfl) ?_
  refine WO_call Hvad.call237 (by rfl) (Ret.mono (memPart_spec C c v B m k lo n off q b _ hM hT hb hq hqn) ?_)
  rintro _ w1 ⟨hE1, rfl⟩
  have hr1 := Hb.ext hE1 hr
  have hsc1 := hsc.ext hE1
  have hM1 := hM.ext hE1
  refine WO_p (PS_move_tuple rfl) ?_
  refine WO_p (PS_extract_slice rfl rfl) ?_
  refine WO_p (PS_extract_bool rfl rfl) ?_
  refine WO_p (PS_assign_slice rfl) ?_
  refine WO_p (PS_assign_bool rfl) ?_
  refine WO_nil ?_
  refine thn_normal ?_
  refine W_seq ?_
  refine W_seq ?_
  refine W_region rfl ?_
  refine WO_p (PS_move_bool rfl) ?_
  refine WO_p (PS_not rfl) ?_
  refine WO_nil ?_
  refine thn_normal ?_
  refine W_if rfl (fun hb4 => ?_) (fun hb4 => ?_)
  · have hb4p := hb4.h; try simp only [al_ete, al_dfn, Bool.not_eq_true', Bool.not_eq_false', al_ne, Bool.not_not, al_nn] at hb4p
    simp at hb4p --END
  · have hb4p := hb4.h; try simp only [al_ete, al_dfn, Bool.not_eq_true', Bool.not_eq_false', al_ne, Bool.not_not, al_nn] at hb4p
    refine W_skip ?_
    refine thn_normal ?_
    refine W_seq ?_
    refine W_region rfl ?_
    refine WO_p (PS_assign_int rfl) ?_
    refine WO_nil ?_
    refine thn_normal ?_
    refine W_seq ?_
    refine W_seq ?_
    refine W_region rfl ?_
    refine WO_p (PS_move_int rfl) ?_
    refine WO_p (PS_move_slice rfl) ?_
    refine WO_p (PS_lenS Hvad.runUnderlying32 rfl) ?_
    refine WO_p (PS_conv_u64n Hvad.runUnderlying3 Hvad.runUnderlying26 rfl (by omega) (by omega)) ?_
    refine WO_p (PS_lss rfl rfl) ?_
    refine WO_nil ?_
    refine thn_normal ?_
    refine W_if rfl (fun hb6 => ?_) (fun hb6 => ?_)
    · have hb6p := hb6.h; try simp only [al_ete, al_dfn, Bool.not_eq_true', Bool.not_eq_false', al_ne, Bool.not_not, al_nn] at hb6p
      have hfl : f < src.2.1 := by omega
      refine W_region rfl ?_
      refine WO_p (PS_move_slice rfl) ?_
      refine WO_p (PS_move_slice rfl) ?_
      refine WO_p (PS_move_int rfl) ?_
      refine WO_p (PS_slG_l Hvad.runUnderlying32 Hvad.sizeOf5 rfl rfl (by omega) (by omega)) ?_
      rw [Int.toNat_natCast f]
      refine WO_copyT (b2 := 0) (b := b) (o := lo + off) Hvad.runUnderlying32 Hvad.sizeOf5 rfl rfl (fun _ => rfl) hr1 (by omega) (hsc1.tail f hfl hs1) (fun z hz => hLs z (List.mem_of_mem_drop hz)) ?_
      intro w2 L2 hwA
      have hrA := hwA.hb
      have hm0 : Nat.min (src.2.1 - f) q ≤ q := Nat.min_le_right _ _
      refine WO_p (PS_assign_int rfl) ?_
      refine WO_nil ?_
      refine thn_normal ?_
      refine W_seq ?_
      refine W_region rfl ?_
      refine WO_p (PS_move_slice rfl) ?_
      refine WO_p (PS_move_int rfl) ?_
      first
      | refine WO_p (PS_slG_l (l := ((Nat.min (src.2.1 - f) q : Nat) : Int)) Hvad.runUnderlying32 Hvad.sizeOf5 rfl rfl (by omega) (by omega)) ?_
      | refine WO_p (PS_slG_l Hvad.runUnderlying32 Hvad.sizeOf5 rfl rfl (by omega) (by omega)) ?_
      have hl2 := hwA.len
      first
      | refine WO_clearT (b := b) (o := lo + off + Nat.min (src.2.1 - f) q) Hvad.runUnderlying32 Hvad.zeroValue5 rfl (fun h0 => by rw [min_cast] at h0 ⊢; rw [slp'_some (by omega), Nat.mul_one]) hrA (by rw [min_cast]; omega) ?_
      | refine WO_clearT (b := b) (o := lo + off) Hvad.runUnderlying32 Hvad.zeroValue5 rfl (fun h0 => by rw [slp'_some (by simp at h0 ⊢; omega)]; simp) hrA (by simp; omega) ?_
      intro w3 L3 hwB
      obtain ⟨hM2, hS2⟩ := hM1.turn hb hcp hr1 hle hL (hwA.trans hwB)
      refine WO_nil ?_
      refine thn_normal ?_
      refine W_seq ?_
      refine W_region rfl ?_
      refine WO_p (PS_assign_bool rfl) ?_
      refine WO_nil ?_
      refine thn_normal ?_
      refine W_ret ?_
      refine bodyQ_ret1 Hvad.results154 rfl (.bool _) rfl ?_
      exact ⟨rfl, _, _, hM2, (MStep.ext hE1).trans hS2⟩
    · have hb6p := hb6.h; try simp only [al_ete, al_dfn, Bool.not_eq_true', Bool.not_eq_false', al_ne, Bool.not_not, al_nn] at hb6p
      have hm0 : (0 : Nat) ≤ q := by omega
      have hwA : BufT b 5 L w1 w1 L := BufT.refl hr1
      have hrA := hr1
      refine W_skip ?_
      refine thn_normal ?_
      refine W_seq ?_
      refine W_region rfl ?_
      refine WO_p (PS_move_slice rfl) ?_
      refine WO_p (PS_move_int rfl) ?_
      first
      | refine WO_p (PS_slG_l (l := ((Nat.min (src.2.1 - f) q : Nat) : Int)) Hvad.runUnderlying32 Hvad.sizeOf5 rfl rfl (by omega) (by omega)) ?_
      | refine WO_p (PS_slG_l Hvad.runUnderlying32 Hvad.sizeOf5 rfl rfl (by omega) (by omega)) ?_
      have hl2 := hwA.len
      first
      | refine WO_clearT (b := b) (o := lo + off + Nat.min (src.2.1 - f) q) Hvad.runUnderlying32 Hvad.zeroValue5 rfl (fun h0 => by rw [min_cast] at h0 ⊢; rw [slp'_some (by omega), Nat.mul_one]) hrA (by rw [min_cast]; omega) ?_
      | refine WO_clearT (b := b) (o := lo + off) Hvad.runUnderlying32 Hvad.zeroValue5 rfl (fun h0 => by rw [slp'_some (by simp at h0 ⊢; omega)]; simp) hrA (by simp; omega) ?_
      intro w3 L3 hwB
      obtain ⟨hM2, hS2⟩ := hM1.turn hb hcp hr1 hle hL (hwA.trans hwB)
      refine WO_nil ?_
      refine thn_normal ?_
      refine W_seq ?_
      refine W_region rfl ?_
      refine WO_p (PS_assign_bool rfl) ?_
      refine WO_nil ?_
      refine thn_normal ?_
      refine W_ret ?_
      refine bodyQ_ret1 Hvad.results154 rfl (.bool _) rfl ?_
      exact ⟨rfl, _, _, hM2, (MStep.ext hE1).trans hS2⟩

theorem MS.newBuf {w w3 : World} {C : Nat} {c : Array Value} {v : V} {B : VB} {m : Mc} (h : MS w C c v B m) {s' : SV} (hb' : BufS w3 s') (hk : KeepO (fun b => ∃ a, m.buf.1 = some a ∧ a.block = b) w w3) (hs : (∃ a, m.buf.1 = some a ∧ s'.1 = some a) ∨ ∃ b, s'.1 = some ⟨b, 0, none⟩ ∧ w.heap.size ≤ b) :
    MS (setB w3 C (.cells (c.setIfInBounds 1 (.slice s'.1 s'.2.1 s'.2.2)) 86 (0, 0))) C (c.setIfInBounds 1 (.slice s'.1 s'.2.1 s'.2.2)) v B { m with buf := s' } ∧ MStep w (setB w3 C (.cells (c.setIfInBounds 1 (.slice s'.1 s'.2.1 s'.2.2)) 86 (0, 0))) C B m B { m with buf := s' } := by
  have hv := h.vs
  have hO : ∀ b, (∃ a, m.buf.1 = some a ∧ a.block = b) → ∃ r fz, Hb w b (.cells r 5 fz) := by
    rintro b ⟨a, ha, rfl⟩
    rcases h.buf with h1 | ⟨b', L, h1, h2, h3⟩
    · rw [h1] at ha; cases ha
    · rw [h1] at ha; injection ha with ha; rw [← ha]; exact ⟨_, _, h2⟩
  have hC3 : Hb w3 C (.cells c 86 (0, 0)) := KT.keepO hk hO (by decide) _ _ _ hv.blk
  have hKT : ∀ T, T ≠ 5 → T ≠ 86 → KT T w (setB w3 C (.cells (c.setIfInBounds 1 (.slice s'.1 s'.2.1 s'.2.2)) 86 (0, 0))) := fun T h1 h2 => (KT.keepO hk hO h1).trans (KT.setB hC3 h2)
  have hbs : ∀ b2 r fz, bb m ≠ some b2 → Hb w b2 (.cells r 5 fz) → Hb (setB w3 C (.cells (c.setIfInBounds 1 (.slice s'.1 s'.2.1 s'.2.2)) 86 (0, 0))) b2 (.cells r 5 fz) ∧ bb { m with buf := s' } ≠ some b2 := by
    intro b2 r fz hn hh
    constructor
    · refine KT.setB hC3 (by decide) _ _ _ (hh.keepO hk ?_)
      rintro ⟨a, ha, hab⟩
      exact hn (by unfold bb; rw [ha]; simp [hab])
    · intro e
      have hlt := hh.lt
      rcases hs with ⟨a, ha, ha'⟩ | ⟨b', ha', hb2⟩
      · refine hn ?_
        unfold bb at e ⊢
        simp only [ha'] at e
        rw [ha]; exact e
      · unfold bb at e
        simp only [ha'] at e
        injection e with e
        omega
  have tBS : ∀ s, BS w (bb m) s → BS (setB w3 C (.cells (c.setIfInBounds 1 (.slice s'.1 s'.2.1 s'.2.2)) 86 (0, 0))) (bb { m with buf := s' }) s := by
    rintro s (hh | ⟨b2, r, fz, h1, h2, h3, h4⟩)
    · exact Or.inl hh
    · exact Or.inr ⟨b2, r, fz, h1, (hbs b2 r fz h2 h3).2, (hbs b2 r fz h2 h3).1, h4⟩
  have tBX : ∀ s L, BX w (bb m) s L → BX (setB w3 C (.cells (c.setIfInBounds 1 (.slice s'.1 s'.2.1 s'.2.2)) 86 (0, 0))) (bb { m with buf := s' }) s L := by
    rintro s L (hh | ⟨b2, r, fz, h1, h2, h3, h4⟩)
    · exact Or.inl hh
    · exact Or.inr ⟨b2, r, fz, h1, (hbs b2 r fz h2 h3).2, (hbs b2 r fz h2 h3).1, h4⟩
  have hrep : VRep (c.setIfInBounds 1 (.slice s'.1 s'.2.1 s'.2.2)) v B := hv.rep.splice (i := 1) (vs := [.slice s'.1 s'.2.1 s'.2.2]) (by simp)
  refine ⟨⟨⟨Hb.setSame hC3, hrep, { accts := hv.rows.accts.kt (hKT _ (by decide) (by decide)), slots := hv.rows.slots.kt (hKT _ (by decide) (by decide)), journal := hv.rows.journal.kt (hKT _ (by decide) (by decide)), logs := hv.rows.logs.kt (hKT _ (by decide) (by decide)), temps := hv.rows.temps.kt (hKT _ (by decide) (by decide)), ttab := hv.rows.ttab.kt (hKT _ (by decide) (by decide)) }, hv.ty, fun x hx => tBS _ (hv.codes x hx), fun x hx => tBS _ (hv.olds x hx)⟩, h.rep.set_buf h.ty h.sz s', { h.ty with }, hb'.keep (KT.setB hC3 (by decide)), fun f hf => ⟨tBX _ _ (h.code f hf).1, tBS _ (h.code f hf).2⟩, tBS _ h.ret, h.hash.keep (hKT _ (by decide) (by decide))⟩, ?_, ?_⟩
  · refine KeepO.trans (O := MOwn C B m) (O' := fun b => b = C) ⟨hk.sz, fun b hb hn => hk.old b hb ?_, hk.en⟩ (KeepO.setB (O := fun b => b = C) (KeepO.refl _ w3) (fun _ => rfl) _) ?_
    · rintro ⟨a, ha, rfl⟩; exact hn (Or.inr (by unfold bb; rw [ha]))
    · rintro x _ rfl; exact Or.inl (Or.inl rfl)
  · rintro b (hb | hb)
    · exact Or.inl (Or.inl hb)
    · unfold bb at hb
      rcases hs with ⟨a, ha, ha'⟩ | ⟨b', ha', hb2⟩
      · simp only [ha'] at hb
        exact Or.inl (Or.inr (by unfold bb; rw [ha]; exact hb))
      · simp only [ha'] at hb
        injection hb with hb
        exact Or.inr (by omega)

set_option maxRecDepth 10000 in
theorem memGrow_some (C : Nat) (c : Array Value) (v : V) (B : VB) (m : Mc) (k lo n : Nat) (nw b : Nat) (w : World) (hM : MS w C c v B m) (hT : MemT m k lo n) (hnw : nw ≤ 22415) (hgt : n < 32 * nw) (hb : m.buf.1 = some ⟨b, 0, none⟩) : Ret Hvad.prog 168 #[.pointer (some ⟨C, 1, none⟩), .int .u32 nw] w fun u w' => u = .bool true ∧ ∃ s' : SV, s'.2.1 = max m.buf.2.1 (lo + 32 * nw) ∧ MRet w C B m w' v { m with buf := s', base := m.base.set (k + 1) ((lo + 32 * nw : Nat) : Int) } := by
  have hT0 := hT
  have hblk := hM.vs.blk
  have hcs := hM.sz
  have hc_mtop := hM.rep.mtop
  have hc_buf := hM.rep.buf
  have hmt := hM.ty.mtop
  obtain ⟨ht1, hk6, hlo, hhi, hle, hsz⟩ := hT
  obtain ⟨hchi, hhib⟩ := hM.openB hhi
  rw [ht1] at hc_mtop hmt
  obtain ⟨L, hcp, hr, hL, hlL⟩ := hM.bufL hb
  have hcap := hM.buf.cap
  refine Ret_of_W Hvad.func168 rfl rfl ?_
  refine W_seq ?_
  refine W_region rfl ?_
  refine WO_p (PS_assign_bool rfl) ?_
  refine WO_nil ?_
  refine thn_normal ?_
  refine W_seq ?_
  refine W_region rfl ?_
  refine WO_p (PS_move_ptr rfl) ?_
  refine WO_call Hvad.call242 (by rfl) (Ret.mono (memTop_spec C c v B m k lo n _ hM hT0) ?_)
  rintro _ w1 ⟨hE1, p, rfl, hp⟩
  have hM1 := hM.ext hE1
  have hblk1 := hM1.vs.blk
  have hr1 := Hb.ext hE1 hr
  refine WO_p (PS_move_tuple rfl) ?_
  refine WO_p (PS_extract_slice rfl rfl) ?_
  refine WO_p (PS_extract_bool rfl rfl) ?_
  refine WO_p (PS_assign_slice rfl) ?_
  refine WO_p (PS_assign_bool rfl) ?_
  refine WO_nil ?_
  refine thn_normal ?_
  refine W_seq ?_
  refine W_seq ?_
  refine W_region rfl ?_
  refine WO_p (PS_move_bool rfl) ?_
  refine WO_p (PS_not rfl) ?_
  refine WO_p (PS_move_bool rfl) ?_
  refine WO_if (t := 17) rfl (fun hb4 => ?_) (fun hb4 => ?_)
  · have hb4p := hb4.h; try simp only [al_ete, al_dfn, Bool.not_eq_true', Bool.not_eq_false', al_ne, Bool.not_not, al_nn] at hb4p
    simp at hb4p --END
  · have hb4p := hb4.h; try simp only [al_ete, al_dfn, Bool.not_eq_true', Bool.not_eq_false', al_ne, Bool.not_not, al_nn] at hb4p
    refine WO_guardT rfl rfl hb4.h ?_
    refine WO_p (PS_move_int rfl) ?_
    refine WO_guardT rfl rfl hb4.h ?_
    refine WO_p (PS_gtr rfl rfl) ?_
    refine WO_p (PS_pickF rfl hb4.h rfl) ?_
    refine WO_nil ?_
    refine thn_normal ?_
    refine W_if rfl (fun hb6 => ?_) (fun hb6 => ?_)
    · have hb6p := hb6.h; try simp only [al_ete, al_dfn, Bool.not_eq_true', Bool.not_eq_false', al_ne, Bool.not_not, al_nn] at hb6p
      omega --END
    · have hb6p := hb6.h; try simp only [al_ete, al_dfn, Bool.not_eq_true', Bool.not_eq_false', al_ne, Bool.not_not, al_nn] at hb6p
      refine W_skip ?_
      refine thn_normal ?_
      refine W_seq ?_
      refine W_seq ?_
      refine W_region rfl ?_
      refine WO_p (PS_move_int rfl) ?_
      refine WO_p (PS_mul_u32n rfl rfl (by omega) (by omega)) ?_
      refine WO_p (PS_move_slice rfl) ?_
      refine WO_p (PS_lenS Hvad.runUnderlying32 rfl) ?_
      refine WO_p (PS_conv_u32n Hvad.runUnderlying3 Hvad.runUnderlying54 rfl (by omega) (by omega)) ?_
      refine WO_p (PS_leq rfl rfl) ?_
      refine WO_nil ?_
      refine thn_normal ?_
      refine W_if rfl (fun hb8 => ?_) (fun hb8 => ?_)
      · have hb8p := hb8.h; try simp only [al_ete, al_dfn, Bool.not_eq_true', Bool.not_eq_false', al_ne, Bool.not_not, al_nn] at hb8p
        omega --END
      · have hb8p := hb8.h; try simp only [al_ete, al_dfn, Bool.not_eq_true', Bool.not_eq_false', al_ne, Bool.not_not, al_nn] at hb8p
        refine W_skip ?_
        refine thn_normal ?_
        refine W_seq ?_
        refine W_region rfl ?_
        refine WO_p (PS_move_int rfl) ?_
        refine WO_p (PS_mul_u32n rfl rfl (by omega) (by omega)) ?_
        refine WO_p (PS_conv_i64n Hvad.runUnderlying54 Hvad.runUnderlying3 rfl (by omega) (by omega)) ?_
        refine WO_p (PS_move_slice rfl) ?_
        refine WO_p (PS_lenS Hvad.runUnderlying32 rfl) ?_
        refine WO_p (PS_sub_i64n rfl rfl (by omega) (by omega)) ?_
        refine WO_p (PS_assign_int rfl) ?_
        refine WO_nil ?_
        refine thn_normal ?_
        refine W_seq ?_
        refine W_drawE [false, false, false, false, false, false, false, false, false, false] hmix (by kernel_rfl) rfl ?_
        refine WH_p (PS_move_ptr rfl) rfl ?_
        refine WH_p (PS_move_ptr rfl) rfl ?_
        refine WH_p (PS_nilCheck rfl) rfl ?_
        refine WH_p (PS_fieldAddr 9 Hvad.runUnderlying57 rfl Hvad.sizeOf5 rfl rfl) rfl ?_
        refine WH_load (.int _ _) Hvad.isAgg5 rfl (Hb.h (by repeat (first | assumption | exact Hb.newY _ _ | refine Hb.alloc ?_ | refine Hb.drew ?_ | refine Hb.ext (by assumption) ?_ | exact Hb.setSameL (by first | omega | (simp only [size_alloc, size_setB, size_drew]; omega)) | exact Hb.setSame (by assumption) | refine Hb.set (by first | omega | (simp only [size_alloc, size_setB, size_drew]; omega)) ?_ ))) (Ce.h (by first | assumption | exact ⟨rfl⟩)) ?_
        refine WH_p (PS_nilCheck rfl) rfl ?_
        refine WH_p (PS_fieldAddr 1 Hvad.runUnderlying57 rfl Hvad.sizeOf55 rfl rfl) rfl ?_
        refine WH_p (PS_indexA Hvad.runUnderlying55 Hvad.sizeOf54 rfl rfl (by omega) (by omega)) rfl ?_
        rw [show ((k : Int) + 1).toNat = k + 1 by omega]
        refine WH_load (.int _ _) Hvad.isAgg54 rfl (Hb.h (by repeat (first | assumption | exact Hb.newY _ _ | refine Hb.alloc ?_ | refine Hb.drew ?_ | refine Hb.ext (by assumption) ?_ | exact Hb.setSameL (by first | omega | (simp only [size_alloc, size_setB, size_drew]; omega)) | exact Hb.setSame (by assumption) | refine Hb.set (by first | omega | (simp only [size_alloc, size_setB, size_drew]; omega)) ?_ ))) (Ce.h (by first | assumption | exact ⟨rfl⟩)) ?_
        refine WH_p (PS_assign_int rfl) rfl ?_
        refine WH_nil ?_
        refine thn_normal ?_
        refine W_seq ?_
        refine W_region rfl ?_
        refine WO_p (PS_move_ptr rfl) ?_
        refine WO_p (PS_nilCheck rfl) ?_
        refine WO_p (PS_fieldAddr 0 Hvad.runUnderlying57 rfl Hvad.sizeOf32 rfl rfl) ?_
        refine WO_load (.slice _ _ _) Hvad.isAgg32 rfl (Hb.h (by repeat (first | assumption | exact Hb.newY _ _ | refine Hb.alloc ?_ | refine Hb.drew ?_ | refine Hb.ext (by assumption) ?_ | exact Hb.setSameL (by first | omega | (simp only [size_alloc, size_setB, size_drew]; omega)) | exact Hb.setSame (by assumption) | refine Hb.set (by first | omega | (simp only [size_alloc, size_setB, size_drew]; omega)) ?_ ))) (Ce.h (by first | assumption | exact ⟨rfl⟩)) ?_
        refine WO_p (PS_move_int rfl) ?_
        refine WO_p (PS_slG_l Hvad.runUnderlying32 Hvad.sizeOf5 rfl rfl (by omega) (by omega)) ?_
        rw [Int.toNat_natCast (lo + n)]
        refine WO_p (PS_assign_slice rfl) ?_
        refine WO_nil ?_
        refine thn_normal ?_
        refine W_seq ?_
        refine W_seq ?_
        refine W_region rfl ?_
        refine WO_p (PS_move_slice rfl) ?_
        refine WO_p (PS_lenS Hvad.runUnderlying32 rfl) ?_
        refine WO_p (PS_move_int rfl) ?_
        refine WO_p (PS_geq rfl rfl) ?_
        refine WO_nil ?_
        refine thn_normal ?_
        refine W_if rfl (fun hb10 => ?_) (fun hb10 => ?_)
        · have hb10p := hb10.h; try simp only [al_ete, al_dfn, Bool.not_eq_true', Bool.not_eq_false', al_ne, Bool.not_not, al_nn] at hb10p
          refine W_region rfl ?_
          refine WO_p (PS_move_slice rfl) ?_
          refine WO_p (PS_move_int rfl) ?_
          refine WO_p (PS_slG_h Hvad.runUnderlying32 Hvad.sizeOf5 rfl rfl (by omega) (by omega)) ?_
          refine WO_clearT (b := b) (o := lo + n) Hvad.runUnderlying32 Hvad.zeroValue5 rfl (fun h0 => by rw [hb, slp'_some (by omega), slp'_some (by omega)]; simp) (Hb.drew hr1) (by omega) ?_
          intro w2 L2 hwA
          obtain ⟨hME, hSE⟩ := (hM1.ext (Ext.drew (Ext.refl w1))).turn hb hcp (Hb.drew hr1) hlL hL hwA
          replace hSE := ((MStep.ext hE1).trans (MStep.ext (Ext.drew (Ext.refl w1)))).trans hSE
          have hbl : m.buf.2.1 = max m.buf.2.1 (lo + 32 * nw) := by omega
          have hblkE := hME.vs.blk
          have hcsE := hME.sz
          have hc_mtopE := hME.rep.mtop
          replace hc_mtopE : Ce _ 10 (.int .u8 m.mtop) := hc_mtopE
          rw [ht1] at hc_mtopE
          have hhiE : m.base[k + 1]? = some ((lo + n : Nat) : Int) := hhi
          refine WO_nil ?_
          refine thn_normal ?_
          refine W_seq ?_
          refine W_drawE [false, false, false, false, false, false, false, false, false, false, false, false, false] hmix (by kernel_rfl) rfl ?_
          refine WH_p (PS_move_ptr rfl) rfl ?_
          refine WH_p (PS_move_ptr rfl) rfl ?_
          refine WH_p (PS_nilCheck rfl) rfl ?_
          refine WH_p (PS_fieldAddr 9 Hvad.runUnderlying57 rfl Hvad.sizeOf5 rfl rfl) rfl ?_
          refine WH_load (.int _ _) Hvad.isAgg5 rfl (Hb.h (by repeat (first | assumption | exact Hb.newY _ _ | refine Hb.alloc ?_ | refine Hb.drew ?_ | refine Hb.ext (by assumption) ?_ | exact Hb.setSameL (by first | omega | (simp only [size_alloc, size_setB, size_drew]; omega)) | exact Hb.setSame (by assumption) | refine Hb.set (by first | omega | (simp only [size_alloc, size_setB, size_drew]; omega)) ?_ ))) (Ce.h (by first | assumption | exact ⟨rfl⟩)) ?_
          refine WH_p (PS_move_int rfl) rfl ?_
          refine WH_p (PS_move_int rfl) rfl ?_
          refine WH_p (PS_conv_u32n Hvad.runUnderlying3 Hvad.runUnderlying54 rfl (by omega) (by omega)) rfl ?_
          refine WH_p (PS_add_u32n rfl rfl (by omega) (by omega)) rfl ?_
          rw [show (((lo + n : Nat) : Int) + (32 * (nw : Int) - (n : Int))) = ((lo + 32 * nw : Nat) : Int) by omega]
          refine WH_p (PS_nilCheck rfl) rfl ?_
          refine WH_p (PS_fieldAddr 1 Hvad.runUnderlying57 rfl Hvad.sizeOf55 rfl rfl) rfl ?_
          refine WH_p (PS_indexA Hvad.runUnderlying55 Hvad.sizeOf54 rfl rfl (by omega) (by omega)) rfl ?_
          rw [show ((k : Int) + 1).toNat = k + 1 by omega]
          refine WH_store1 Hvad.sizeOf54 rfl (v := (.int _ _)) rfl (Hb.h (by repeat (first | assumption | exact Hb.newY _ _ | refine Hb.alloc ?_ | refine Hb.drew ?_ | refine Hb.ext (by assumption) ?_ | exact Hb.setSameL (by first | omega | (simp only [size_alloc, size_setB, size_drew]; omega)) | exact Hb.setSame (by assumption) | refine Hb.set (by first | omega | (simp only [size_alloc, size_setB, size_drew]; omega)) ?_ ))) rfl (by first | omega | assumption | rfl | decide | exact Nat.le_refl _ | (simp only [size_ic, Value.cells]; omega) | simp) rfl (fun h => by cases h) ?_
          refine WH_nil ?_
          refine thn_normal ?_
          refine W_seq ?_
          obtain ⟨hMF, hSF⟩ := (hME.ext (Ext.drew (Ext.refl _))).put_base hhiE ((lo + 32 * nw : Nat) : Int) (by omega)
          replace hSF := (hSE.trans (MStep.ext (Ext.drew (Ext.refl _)))).trans hSF
          refine W_region rfl ?_
          refine WO_p (PS_assign_bool rfl) ?_
          refine WO_nil ?_
          refine thn_normal ?_
          refine W_ret ?_
          refine bodyQ_ret1 Hvad.results168 rfl (.bool _) rfl ?_
          first
          | exact ⟨rfl, s', hbl, _, _, hMF, hSF⟩
          | exact ⟨rfl, m.buf, hbl, _, _, hMF, hSF⟩
        · have hb10p := hb10.h; try simp only [al_ete, al_dfn, Bool.not_eq_true', Bool.not_eq_false', al_ne, Bool.not_not, al_nn] at hb10p
          refine W_seq ?_
          refine W_region rfl ?_
          refine WO_p (PS_move_slice rfl) ?_
          refine WO_clearT (b := b) (o := lo + n) Hvad.runUnderlying32 Hvad.zeroValue5 rfl (fun h0 => by rw [hb, slp'_some (by omega)]; simp) (Hb.drew hr1) (by omega) ?_
          intro w2 L2 hwA
          obtain ⟨hM2, hS2⟩ := (hM1.ext (Ext.drew (Ext.refl w1))).turn hb hcp (Hb.drew hr1) hlL hL hwA
          have hS20 := ((MStep.ext hE1).trans (MStep.ext (Ext.drew (Ext.refl w1)))).trans hS2
          have hblk2 := hM2.vs.blk
          obtain ⟨s', w3, hrun, hbs, hbl, hkp, hsm⟩ := app0_go hM2.buf (n := lo + 32 * nw - m.buf.2.1) (by omega) (by omega)
          replace hbl : s'.2.1 = max m.buf.2.1 (lo + 32 * nw) := by omega
          have hC3 : Hb w3 C (.cells c 86 (0, 0)) := KT.keepO hkp (fun x hx => by obtain ⟨a, ha, hab⟩ := hx; rw [hb] at ha; injection ha with ha; subst ha; exact ⟨ic .u8 L2, (0, 0), by rw [← hab]; exact hwA.hb⟩) (by decide) _ _ _ hblk2
          refine WO_nil ?_
          refine thn_normal ?_
          refine W_region rfl ?_
          refine WO_p (PS_move_ptr rfl) ?_
          refine WO_p (PS_move_ptr rfl) ?_
          refine WO_p (PS_nilCheck rfl) ?_
          refine WO_p (PS_fieldAddr 0 Hvad.runUnderlying57 rfl Hvad.sizeOf32 rfl rfl) ?_
          refine WO_load (.slice _ _ _) Hvad.isAgg32 rfl (Hb.h (by repeat (first | assumption | exact Hb.newY _ _ | refine Hb.alloc ?_ | refine Hb.drew ?_ | refine Hb.ext (by assumption) ?_ | exact Hb.setSameL (by first | omega | (simp only [size_alloc, size_setB, size_drew]; omega)) | exact Hb.setSame (by assumption) | refine Hb.set (by first | omega | (simp only [size_alloc, size_setB, size_drew]; omega)) ?_ ))) (Ce.h (by first | assumption | exact ⟨rfl⟩)) ?_
          refine WO_p (PS_move_int rfl) ?_
          refine WO_p (PS_move_slice rfl) ?_
          refine WO_p (PS_lenS Hvad.runUnderlying32 rfl) ?_
          refine WO_p (PS_sub_i64n rfl rfl (by omega) (by omega)) ?_
          rw [show (32 * (nw : Int) - (n : Int) - ((m.buf.2.1 - (lo + n) : Nat) : Int)) = ((lo + 32 * nw - m.buf.2.1 : Nat) : Int) by omega]
          refine WO_append2 rfl rfl hrun ?_
          refine WO_p (PS_nilCheck rfl) ?_
          refine WO_p (PS_fieldAddr 0 Hvad.runUnderlying57 rfl Hvad.sizeOf32 rfl rfl) ?_
          refine WO_store1 Hvad.sizeOf32 rfl (v := .slice _ _ _) rfl (Hb.h hC3) rfl (by rw [hcs]; decide) rfl ?_
          obtain ⟨hME, hSE⟩ := hM2.newBuf hbs hkp hsm
          replace hSE := hS20.trans hSE
          have hblkE := hME.vs.blk
          have hcsE := hME.sz
          have hc_mtopE := hME.rep.mtop
          replace hc_mtopE : Ce _ 10 (.int .u8 m.mtop) := hc_mtopE
          rw [ht1] at hc_mtopE
          have hhiE : m.base[k + 1]? = some ((lo + n : Nat) : Int) := hhi
          refine WO_nil ?_
          refine thn_normal ?_
          refine W_seq ?_
          refine W_drawE [false, false, false, false, false, false, false, false, false, false, false, false, false] hmix (by kernel_rfl) rfl ?_
          refine WH_p (PS_move_ptr rfl) rfl ?_
          refine WH_p (PS_move_ptr rfl) rfl ?_
          refine WH_p (PS_nilCheck rfl) rfl ?_
          refine WH_p (PS_fieldAddr 9 Hvad.runUnderlying57 rfl Hvad.sizeOf5 rfl rfl) rfl ?_
          refine WH_load (.int _ _) Hvad.isAgg5 rfl (Hb.h (by repeat (first | assumption | exact Hb.newY _ _ | refine Hb.alloc ?_ | refine Hb.drew ?_ | refine Hb.ext (by assumption) ?_ | exact Hb.setSameL (by first | omega | (simp only [size_alloc, size_setB, size_drew]; omega)) | exact Hb.setSame (by assumption) | refine Hb.set (by first | omega | (simp only [size_alloc, size_setB, size_drew]; omega)) ?_ ))) (Ce.h (by first | assumption | exact ⟨rfl⟩)) ?_
          refine WH_p (PS_move_int rfl) rfl ?_
          refine WH_p (PS_move_int rfl) rfl ?_
          refine WH_p (PS_conv_u32n Hvad.runUnderlying3 Hvad.runUnderlying54 rfl (by omega) (by omega)) rfl ?_
          refine WH_p (PS_add_u32n rfl rfl (by omega) (by omega)) rfl ?_
          rw [show (((lo + n : Nat) : Int) + (32 * (nw : Int) - (n : Int))) = ((lo + 32 * nw : Nat) : Int) by omega]
          refine WH_p (PS_nilCheck rfl) rfl ?_
          refine WH_p (PS_fieldAddr 1 Hvad.runUnderlying57 rfl Hvad.sizeOf55 rfl rfl) rfl ?_
          refine WH_p (PS_indexA Hvad.runUnderlying55 Hvad.sizeOf54 rfl rfl (by omega) (by omega)) rfl ?_
          rw [show ((k : Int) + 1).toNat = k + 1 by omega]
          refine WH_store1 Hvad.sizeOf54 rfl (v := (.int _ _)) rfl (Hb.h (by repeat (first | assumption | exact Hb.newY _ _ | refine Hb.alloc ?_ | refine Hb.drew ?_ | refine Hb.ext (by assumption) ?_ | exact Hb.setSameL (by first | omega | (simp only [size_alloc, size_setB, size_drew]; omega)) | exact Hb.setSame (by assumption) | refine Hb.set (by first | omega | (simp only [size_alloc, size_setB, size_drew]; omega)) ?_ ))) rfl (by first | omega | assumption | rfl | decide | exact Nat.le_refl _ | (simp only [size_ic, Value.cells]; omega) | simp) rfl (fun h => by cases h) ?_
          refine WH_nil ?_
          refine thn_normal ?_
          refine W_seq ?_
          obtain ⟨hMF, hSF⟩ := (hME.ext (Ext.drew (Ext.refl _))).put_base hhiE ((lo + 32 * nw : Nat) : Int) (by omega)
          replace hSF := (hSE.trans (MStep.ext (Ext.drew (Ext.refl _)))).trans hSF
          refine W_region rfl ?_
          refine WO_p (PS_assign_bool rfl) ?_
          refine WO_nil ?_
          refine thn_normal ?_
          refine W_ret ?_
          refine bodyQ_ret1 Hvad.results168 rfl (.bool _) rfl ?_
          first
          | exact ⟨rfl, s', hbl, _, _, hMF, hSF⟩
          | exact ⟨rfl, m.buf, hbl, _, _, hMF, hSF⟩

set_option maxRecDepth 10000 in
theorem memGrow_nil (C : Nat) (c : Array Value) (v : V) (B : VB) (m : Mc) (k lo n : Nat) (nw : Nat) (w : World) (hM : MS w C c v B m) (hT : MemT m k lo n) (hnw : nw ≤ 22415) (hgt : n < 32 * nw) (hb : m.buf = (none, 0, 0)) : Ret Hvad.prog 168 #[.pointer (some ⟨C, 1, none⟩), .int .u32 nw] w fun u w' => u = .bool true ∧ ∃ s' : SV, s'.2.1 = max m.buf.2.1 (lo + 32 * nw) ∧ MRet w C B m w' v { m with buf := s', base := m.base.set (k + 1) ((lo + 32 * nw : Nat) : Int) } := by
  have hT0 := hT
  have hblk := hM.vs.blk
  have hcs := hM.sz
  have hc_mtop := hM.rep.mtop
  have hc_buf := hM.rep.buf
  have hmt := hM.ty.mtop
  obtain ⟨ht1, hk6, hlo, hhi, hle, hsz⟩ := hT
  obtain ⟨hchi, hhib⟩ := hM.openB hhi
  rw [ht1] at hc_mtop hmt
  have hb1 : m.buf.1 = none := by rw [hb]
  have hb2 : m.buf.2.1 = 0 := by rw [hb]
  have hb3 : m.buf.2.2 = 0 := by rw [hb]
  obtain rfl : n = 0 := by omega
  obtain rfl : lo = 0 := by omega
  rw [hb1, hb2, hb3] at hc_buf
  refine Ret_of_W Hvad.func168 rfl rfl ?_
  refine W_seq ?_
  refine W_region rfl ?_
  refine WO_p (PS_assign_bool rfl) ?_
  refine WO_nil ?_
  refine thn_normal ?_
  refine W_seq ?_
  refine W_region rfl ?_
  refine WO_p (PS_move_ptr rfl) ?_
  refine WO_call Hvad.call242 (by rfl) (Ret.mono (memTop_spec C c v B m k 0 0 _ hM hT0) ?_)
  rintro _ w1 ⟨hE1, p, rfl, hp⟩
  have hM1 := hM.ext hE1
  have hblk1 := hM1.vs.blk
  refine WO_p (PS_move_tuple rfl) ?_
  refine WO_p (PS_extract_slice rfl rfl) ?_
  refine WO_p (PS_extract_bool rfl rfl) ?_
  refine WO_p (PS_assign_slice rfl) ?_
  refine WO_p (PS_assign_bool rfl) ?_
  refine WO_nil ?_
  refine thn_normal ?_
  refine W_seq ?_
  refine W_seq ?_
  refine W_region rfl ?_
  refine WO_p (PS_move_bool rfl) ?_
  refine WO_p (PS_not rfl) ?_
  refine WO_p (PS_move_bool rfl) ?_
  refine WO_if (t := 17) rfl (fun hb4 => ?_) (fun hb4 => ?_)
  · have hb4p := hb4.h; try simp only [al_ete, al_dfn, Bool.not_eq_true', Bool.not_eq_false', al_ne, Bool.not_not, al_nn] at hb4p
    simp at hb4p --END
  · have hb4p := hb4.h; try simp only [al_ete, al_dfn, Bool.not_eq_true', Bool.not_eq_false', al_ne, Bool.not_not, al_nn] at hb4p
    refine WO_guardT rfl rfl hb4.h ?_
    refine WO_p (PS_move_int rfl) ?_
    refine WO_guardT rfl rfl hb4.h ?_
    refine WO_p (PS_gtr rfl rfl) ?_
    refine WO_p (PS_pickF rfl hb4.h rfl) ?_
    refine WO_nil ?_
    refine thn_normal ?_
    refine W_if rfl (fun hb6 => ?_) (fun hb6 => ?_)
    · have hb6p := hb6.h; try simp only [al_ete, al_dfn, Bool.not_eq_true', Bool.not_eq_false', al_ne, Bool.not_not, al_nn] at hb6p
      omega --END
    · have hb6p := hb6.h; try simp only [al_ete, al_dfn, Bool.not_eq_true', Bool.not_eq_false', al_ne, Bool.not_not, al_nn] at hb6p
      refine W_skip ?_
      refine thn_normal ?_
      refine W_seq ?_
      refine W_seq ?_
      refine W_region rfl ?_
      refine WO_p (PS_move_int rfl) ?_
      refine WO_p (PS_mul_u32n rfl rfl (by omega) (by omega)) ?_
      refine WO_p (PS_move_slice rfl) ?_
      refine WO_p (PS_lenS Hvad.runUnderlying32 rfl) ?_
      refine WO_p (PS_conv_u32n Hvad.runUnderlying3 Hvad.runUnderlying54 rfl (by omega) (by omega)) ?_
      refine WO_p (PS_leq rfl rfl) ?_
      refine WO_nil ?_
      refine thn_normal ?_
      refine W_if rfl (fun hb8 => ?_) (fun hb8 => ?_)
      · have hb8p := hb8.h; try simp only [al_ete, al_dfn, Bool.not_eq_true', Bool.not_eq_false', al_ne, Bool.not_not, al_nn] at hb8p
        omega --END
      · have hb8p := hb8.h; try simp only [al_ete, al_dfn, Bool.not_eq_true', Bool.not_eq_false', al_ne, Bool.not_not, al_nn] at hb8p
        refine W_skip ?_
        refine thn_normal ?_
        refine W_seq ?_
        refine W_region rfl ?_
        refine WO_p (PS_move_int rfl) ?_
        refine WO_p (PS_mul_u32n rfl rfl (by omega) (by omega)) ?_
        refine WO_p (PS_conv_i64n Hvad.runUnderlying54 Hvad.runUnderlying3 rfl (by omega) (by omega)) ?_
        refine WO_p (PS_move_slice rfl) ?_
        refine WO_p (PS_lenS Hvad.runUnderlying32 rfl) ?_
        refine WO_p (PS_sub_i64n rfl rfl (by omega) (by omega)) ?_
        refine WO_p (PS_assign_int rfl) ?_
        refine WO_nil ?_
        refine thn_normal ?_
        refine W_seq ?_
        refine W_drawE [false, false, false, false, false, false, false, false, false, false] hmix (by kernel_rfl) rfl ?_
        refine WH_p (PS_move_ptr rfl) rfl ?_
        refine WH_p (PS_move_ptr rfl) rfl ?_
        refine WH_p (PS_nilCheck rfl) rfl ?_
        refine WH_p (PS_fieldAddr 9 Hvad.runUnderlying57 rfl Hvad.sizeOf5 rfl rfl) rfl ?_
        refine WH_load (.int _ _) Hvad.isAgg5 rfl (Hb.h (by repeat (first | assumption | exact Hb.newY _ _ | refine Hb.alloc ?_ | refine Hb.drew ?_ | refine Hb.ext (by assumption) ?_ | exact Hb.setSameL (by first | omega | (simp only [size_alloc, size_setB, size_drew]; omega)) | exact Hb.setSame (by assumption) | refine Hb.set (by first | omega | (simp only [size_alloc, size_setB, size_drew]; omega)) ?_ ))) (Ce.h (by first | assumption | exact ⟨rfl⟩)) ?_
        refine WH_p (PS_nilCheck rfl) rfl ?_
        refine WH_p (PS_fieldAddr 1 Hvad.runUnderlying57 rfl Hvad.sizeOf55 rfl rfl) rfl ?_
        refine WH_p (PS_indexA Hvad.runUnderlying55 Hvad.sizeOf54 rfl rfl (by omega) (by omega)) rfl ?_
        rw [show ((k : Int) + 1).toNat = k + 1 by omega]
        refine WH_load (.int _ _) Hvad.isAgg54 rfl (Hb.h (by repeat (first | assumption | exact Hb.newY _ _ | refine Hb.alloc ?_ | refine Hb.drew ?_ | refine Hb.ext (by assumption) ?_ | exact Hb.setSameL (by first | omega | (simp only [size_alloc, size_setB, size_drew]; omega)) | exact Hb.setSame (by assumption) | refine Hb.set (by first | omega | (simp only [size_alloc, size_setB, size_drew]; omega)) ?_ ))) (Ce.h (by first | assumption | exact ⟨rfl⟩)) ?_
        refine WH_p (PS_assign_int rfl) rfl ?_
        refine WH_nil ?_
        refine thn_normal ?_
        refine W_seq ?_
        refine W_region rfl ?_
        refine WO_p (PS_move_ptr rfl) ?_
        refine WO_p (PS_nilCheck rfl) ?_
        refine WO_p (PS_fieldAddr 0 Hvad.runUnderlying57 rfl Hvad.sizeOf32 rfl rfl) ?_
        refine WO_load (.slice _ _ _) Hvad.isAgg32 rfl (Hb.h (by repeat (first | assumption | exact Hb.newY _ _ | refine Hb.alloc ?_ | refine Hb.drew ?_ | refine Hb.ext (by assumption) ?_ | exact Hb.setSameL (by first | omega | (simp only [size_alloc, size_setB, size_drew]; omega)) | exact Hb.setSame (by assumption) | refine Hb.set (by first | omega | (simp only [size_alloc, size_setB, size_drew]; omega)) ?_ ))) (Ce.h (by first | assumption | exact ⟨rfl⟩)) ?_
        refine WO_p (PS_move_int rfl) ?_
        refine WO_p (PS_slG_l (a := none) (n := 0) (cp := 0) Hvad.runUnderlying32 Hvad.sizeOf5 rfl rfl (by omega) (by omega)) ?_
        refine WO_p (PS_assign_slice rfl) ?_
        refine WO_nil ?_
        refine thn_normal ?_
        refine W_seq ?_
        refine W_seq ?_
        refine W_region rfl ?_
        refine WO_p (PS_move_slice rfl) ?_
        refine WO_p (PS_lenS Hvad.runUnderlying32 rfl) ?_
        refine WO_p (PS_move_int rfl) ?_
        refine WO_p (PS_geq rfl rfl) ?_
        refine WO_nil ?_
        refine thn_normal ?_
        refine W_if rfl (fun hb10 => ?_) (fun hb10 => ?_)
        · have hb10p := hb10.h; try simp only [al_ete, al_dfn, Bool.not_eq_true', Bool.not_eq_false', al_ne, Bool.not_not, al_nn] at hb10p
          exfalso
          have e0 : (0 : Nat) - ((0 : Nat) : Int).toNat = 0 := rfl
          omega --END
        · have hb10p := hb10.h; try simp only [al_ete, al_dfn, Bool.not_eq_true', Bool.not_eq_false', al_ne, Bool.not_not, al_nn] at hb10p
          refine W_seq ?_
          refine W_region rfl ?_
          refine WO_p (PS_move_slice rfl) ?_
          refine WO_clear0 Hvad.runUnderlying32 rfl ?_
          have hM2 := hM1.ext (Ext.drew (Ext.refl w1))
          have hS20 := (MStep.ext (C := C) (B := B) (m := m) hE1).trans (MStep.ext (Ext.drew (Ext.refl w1)))
          have hblk2 := hM2.vs.blk
          obtain ⟨s', w3, hrun, hbs, hbl, hkp, hsm⟩ := app0_go hM2.buf (n := 32 * nw) (by omega) (by omega)
          rw [hb1, hb2, hb3] at hrun
          replace hbl : s'.2.1 = max m.buf.2.1 (0 + 32 * nw) := by omega
          have hC3 : Hb w3 C (.cells c 86 (0, 0)) := KT.keepO (T' := 5) hkp (fun x hx => by obtain ⟨a, ha, hab⟩ := hx; rw [hb1] at ha; cases ha) (by decide) _ _ _ hblk2
          refine WO_nil ?_
          refine thn_normal ?_
          refine W_region rfl ?_
          refine WO_p (PS_move_ptr rfl) ?_
          refine WO_p (PS_move_ptr rfl) ?_
          refine WO_p (PS_nilCheck rfl) ?_
          refine WO_p (PS_fieldAddr 0 Hvad.runUnderlying57 rfl Hvad.sizeOf32 rfl rfl) ?_
          refine WO_load (.slice _ _ _) Hvad.isAgg32 rfl (Hb.h (by repeat (first | assumption | exact Hb.newY _ _ | refine Hb.alloc ?_ | refine Hb.drew ?_ | refine Hb.ext (by assumption) ?_ | exact Hb.setSameL (by first | omega | (simp only [size_alloc, size_setB, size_drew]; omega)) | exact Hb.setSame (by assumption) | refine Hb.set (by first | omega | (simp only [size_alloc, size_setB, size_drew]; omega)) ?_ ))) (Ce.h (by first | assumption | exact ⟨rfl⟩)) ?_
          refine WO_p (PS_move_int rfl) ?_
          refine WO_p (PS_move_slice rfl) ?_
          refine WO_p (PS_lenS Hvad.runUnderlying32 rfl) ?_
          refine WO_p (PS_sub_i64n rfl rfl (by first | omega | (show 0 ≤ 32 * (nw : Int) - 0 - 0; omega)) (by first | omega | (show 32 * (nw : Int) - 0 - 0 ≤ _; omega))) ?_
          rw [show (32 * (nw : Int) - ((0 : Nat) : Int) - ((0 - ((0 : Nat) : Int).toNat : Nat) : Int)) = ((32 * nw : Nat) : Int) by simp]
          refine WO_append2 rfl rfl hrun ?_
          refine WO_p (PS_nilCheck rfl) ?_
          refine WO_p (PS_fieldAddr 0 Hvad.runUnderlying57 rfl Hvad.sizeOf32 rfl rfl) ?_
          refine WO_store1 Hvad.sizeOf32 rfl (v := .slice _ _ _) rfl (Hb.h hC3) rfl (by rw [hcs]; decide) rfl ?_
          obtain ⟨hME, hSE⟩ := hM2.newBuf hbs hkp hsm
          replace hSE := hS20.trans hSE
          have hblkE := hME.vs.blk
          have hcsE := hME.sz
          have hc_mtopE := hME.rep.mtop
          replace hc_mtopE : Ce _ 10 (.int .u8 m.mtop) := hc_mtopE
          rw [ht1] at hc_mtopE
          have hhiE : m.base[k + 1]? = some ((0 + 0 : Nat) : Int) := hhi
          refine WO_nil ?_
          refine thn_normal ?_
          refine W_seq ?_
          refine W_drawE [false, false, false, false, false, false, false, false, false, false, false, false, false] hmix (by kernel_rfl) rfl ?_
          refine WH_p (PS_move_ptr rfl) rfl ?_
          refine WH_p (PS_move_ptr rfl) rfl ?_
          refine WH_p (PS_nilCheck rfl) rfl ?_
          refine WH_p (PS_fieldAddr 9 Hvad.runUnderlying57 rfl Hvad.sizeOf5 rfl rfl) rfl ?_
          refine WH_load (.int _ _) Hvad.isAgg5 rfl (Hb.h (by repeat (first | assumption | exact Hb.newY _ _ | refine Hb.alloc ?_ | refine Hb.drew ?_ | refine Hb.ext (by assumption) ?_ | exact Hb.setSameL (by first | omega | (simp only [size_alloc, size_setB, size_drew]; omega)) | exact Hb.setSame (by assumption) | refine Hb.set (by first | omega | (simp only [size_alloc, size_setB, size_drew]; omega)) ?_ ))) (Ce.h (by first | assumption | exact ⟨rfl⟩)) ?_
          refine WH_p (PS_move_int rfl) rfl ?_
          refine WH_p (PS_move_int rfl) rfl ?_
          refine WH_p (PS_conv_u32n Hvad.runUnderlying3 Hvad.runUnderlying54 rfl (by omega) (by omega)) rfl ?_
          refine WH_p (PS_add_u32n rfl rfl (by omega) (by omega)) rfl ?_
          rw [show (((0 + 0 : Nat) : Int) + (32 * (nw : Int) - ((0 : Nat) : Int))) = ((0 + 32 * nw : Nat) : Int) by omega]
          refine WH_p (PS_nilCheck rfl) rfl ?_
          refine WH_p (PS_fieldAddr 1 Hvad.runUnderlying57 rfl Hvad.sizeOf55 rfl rfl) rfl ?_
          refine WH_p (PS_indexA Hvad.runUnderlying55 Hvad.sizeOf54 rfl rfl (by omega) (by omega)) rfl ?_
          rw [show ((k : Int) + 1).toNat = k + 1 by omega]
          refine WH_store1 Hvad.sizeOf54 rfl (v := (.int _ _)) rfl (Hb.h (by repeat (first | assumption | exact Hb.newY _ _ | refine Hb.alloc ?_ | refine Hb.drew ?_ | refine Hb.ext (by assumption) ?_ | exact Hb.setSameL (by first | omega | (simp only [size_alloc, size_setB, size_drew]; omega)) | exact Hb.setSame (by assumption) | refine Hb.set (by first | omega | (simp only [size_alloc, size_setB, size_drew]; omega)) ?_ ))) rfl (by first | omega | assumption | rfl | decide | exact Nat.le_refl _ | (simp only [size_ic, Value.cells]; omega) | simp) rfl (fun h => by cases h) ?_
          refine WH_nil ?_
          refine thn_normal ?_
          refine W_seq ?_
          obtain ⟨hMF, hSF⟩ := (hME.ext (Ext.drew (Ext.refl _))).put_base hhiE ((0 + 32 * nw : Nat) : Int) (by omega)
          replace hSF := (hSE.trans (MStep.ext (Ext.drew (Ext.refl _)))).trans hSF
          refine W_region rfl ?_
          refine WO_p (PS_assign_bool rfl) ?_
          refine WO_nil ?_
          refine thn_normal ?_
          refine W_ret ?_
          refine bodyQ_ret1 Hvad.results168 rfl (.bool _) rfl ?_
          exact ⟨rfl, s', hbl, _, _, hMF, hSF⟩

theorem memGrow_spec (C : Nat) (c : Array Value) (v : V) (B : VB) (m : Mc) (k lo n : Nat) (nw : Nat) (w : World) (hM : MS w C c v B m) (hT : MemT m k lo n) (hnw : nw ≤ 22415) (hgt : n < 32 * nw) : Ret Hvad.prog 168 #[.pointer (some ⟨C, 1, none⟩), .int .u32 nw] w fun u w' => u = .bool true ∧ ∃ s' : SV, s'.2.1 = max m.buf.2.1 (lo + 32 * nw) ∧ MRet w C B m w' v { m with buf := s', base := m.base.set (k + 1) ((lo + 32 * nw : Nat) : Int) } := by
  rcases hM.buf with hb | ⟨b, L, hb, _⟩
  · exact memGrow_nil C c v B m k lo n nw w hM hT hnw hgt hb
  · exact memGrow_some C c v B m k lo n nw b w hM hT hnw hgt (by rw [hb])

end Go.Proofs.YgvadwGreat
