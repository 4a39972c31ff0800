import Derived.Test.YgvacwGreatGz
namespace Go.Proofs.YgvacwGreat
set_option linter.unusedSimpArgs false
set_option linter.unusedVariables false
def ydep (f : PF) (L : List Int) : Nat × Nat := if 256 < L.length then (0, 10) else if 0 < L.length ∧ L.getD 0 0 = 239 then (0, 11) else if f.gas < 200 * L.length then (0, 2) else (f.gas - 200 * L.length, 0)
theorem AB.take {w : World} {p : Option Addr} {n c k : Nat} {L : List Int} (h : AB w (p, n, c) L) (hk : k ≤ n) : AB w (p, k, c) (L.take k) := by
  have h1 := h.len
  have h2 := h.cap
  dsimp only at h1 h2
  refine ⟨by rw [List.length_take]; dsimp only; omega, by dsimp only; omega, fun x hx => h.by_ x (List.mem_of_mem_take hx), fun h0 => ?_⟩
  dsimp only at h0
  obtain ⟨b, o, r, T, fz, h3, h4, h5, h6⟩ := h.row (by dsimp only; omega)
  dsimp only at h5 h6
  exact ⟨b, o, r, T, fz, h3, h4, by dsimp only; omega, xt_take h6 h1 hk⟩
theorem encYS_now (x : YSt) (s : YWs) : splice (encYS x).toArray (0 + 0) (encWs s).toArray.toList = (encYS { x with now := s }).toArray := by
  simp [splice, encWs, encYS, sv]
theorem encYF_saved {x : YFr} (h1 : x.self.length = 20) (h2 : x.caller.length = 20) (s : YWs) : splice (encYF x).toArray (0 + 52) (encWs s).toArray.toList = (encYF { x with saved := s }).toArray := by
  have hl := encYF_len h1 h2
  have hw : (encWs s).length = 8 := rfl
  rw [splice_list (by simp [hl, hw])]
  have e : encYF x = (encYF x).take 52 ++ encWs x.saved := by
    have e1 : encYF x = ([.int .u8 x.kind, .int .u8 x.nat, .bool x.statY, sv x.pc, sv x.gas, sv x.value, sv x.outOff, sv x.outLen, sv x.stack, sv x.mem, sv x.code, sv x.inputY] ++ x.self.map (Value.int .u8) ++ x.caller.map (Value.int .u8)) ++ encWs x.saved := by simp [encYF]
    have e2 : ([.int .u8 x.kind, .int .u8 x.nat, .bool x.statY, sv x.pc, sv x.gas, sv x.value, sv x.outOff, sv x.outLen, sv x.stack, sv x.mem, sv x.code, sv x.inputY] ++ x.self.map (Value.int .u8) ++ x.caller.map (Value.int .u8) : List Value).length = 52 := by simp [h1, h2]
    rw [e1, ← e2, List.take_left]
  have e3 : encYF { x with saved := s } = (encYF x).take 52 ++ encWs s := by
    have e1 : ∀ s, encYF { x with saved := s } = ([.int .u8 x.kind, .int .u8 x.nat, .bool x.statY, sv x.pc, sv x.gas, sv x.value, sv x.outOff, sv x.outLen, sv x.stack, sv x.mem, sv x.code, sv x.inputY] ++ x.self.map (Value.int .u8) ++ x.caller.map (Value.int .u8)) ++ encWs s := by intro s; simp [encYF]
    have e2 : ([.int .u8 x.kind, .int .u8 x.nat, .bool x.statY, sv x.pc, sv x.gas, sv x.value, sv x.outOff, sv x.outLen, sv x.stack, sv x.mem, sv x.code, sv x.inputY] ++ x.self.map (Value.int .u8) ++ x.caller.map (Value.int .u8) : List Value).length = 52 := by simp [h1, h2]
    have e4 := e1 x.saved
    rw [show ({ x with saved := x.saved } : YFr) = x from rfl] at e4
    rw [e1 s, e4, ← e2, List.take_left]
  rw [e3]
  simp [hl, hw]
/-- a box that holds a frame -/
theorem FC.box {r : Array Value} {x : YFr} (hr : r = (encYF x).toArray) (h1 : x.self.length = 20) (h2 : x.caller.length = 20) : FC r 0 x := by
  subst hr
  exact FC.of_xt (Xt.whole rfl (encYF_sz h1 h2)) (by rw [encYF_sz h1 h2]; omega) h1 h2
def ylvA (y : PSt) (f : PF) (st : Nat) (L : List Int) : Nat × Nat × List Int × PSt :=
  if ycreates f.kind = true ∧ st = 0 then
    (if (ydep f L).2 = 0 then ((ydep f L).1, (ydep f L).2, [], if 0 < L.length then ysAccts y (yput y.now.accts { yacct y.now.accts f.self with code := L }) else y) else ((ydep f L).1, (ydep f L).2, L, y))
  else (f.gas, st, L, y)
def ylvB (f : PF) (a : Nat × Nat × List Int × PSt) : Nat × Nat × List Int × PSt :=
  (if 1 < a.2.1 then 0 else a.1, a.2.1, if 1 < a.2.1 then [] else a.2.2.1, if a.2.1 ≠ 0 then { a.2.2.2 with now := f.saved } else a.2.2.2)
def yback (p : PF) (f : PF) (st g : Nat) (o : List Int) : PF :=
  yanswer (if 0 < min (ysmall p.outLen).toNat o.length then ywrite { p with gas := p.gas + g } p.outOff (o.take (min (ysmall p.outLen).toNat o.length)) else { p with gas := p.gas + g }) 0 (if st = 0 then (if ycreates f.kind = true then bvY f.self else 1) else 0)
def yleave (y : PSt) (rest : List PF) (f : PF) (st : Nat) (L : List Int) : PSt × List PF :=
  match rest[rest.length - 1]? with
  | none => ({ (ylvB f (ylvA y f st L)).2.2.2 with ret := (ylvB f (ylvA y f st L)).2.2.1, phase := 2, status := (ylvB f (ylvA y f st L)).2.1, left := (ylvB f (ylvA y f st L)).1 }, [])
  | some p => ({ (ylvB f (ylvA y f st L)).2.2.2 with ret := (ylvB f (ylvA y f st L)).2.2.1 }, rest.set (rest.length - 1) (yback p f (ylvB f (ylvA y f st L)).2.1 (ylvB f (ylvA y f st L)).1 (ylvB f (ylvA y f st L)).2.2.1))
theorem ydep_bd (f : PF) (L : List Int) (h : sz f.gas ≤ 40) : sz (ydep f L).1 ≤ 40 ∧ (ydep f L).2 ≤ 255 := by
  have h0 : sz 0 ≤ 40 := sz_le (by decide)
  have h1 : sz (f.gas - 200 * L.length) ≤ 40 := Nat.le_trans (sz_mono (Nat.sub_le _ _)) h
  unfold ydep
  repeat (first | exact ⟨h0, by decide⟩ | exact ⟨h1, Nat.zero_le _⟩ | split)

set_option maxRecDepth 10000 in
set_option maxHeartbeats 4000000 in
theorem yDeposit_spec [Om] (w : World) (hO : OmB w) (F fo : Nat) (x : YFr) (f : PF) (hF : FrS w F fo x f) (hP : PFB f) (p : Option Addr) (sn sc : Nat) (L : List Int) (hs : AB w (p, sn, sc) L) (hsn : sn ≤ 100000000) : Ret Hvac.prog 115 #[.pointer (some ⟨F, fo, none⟩), .slice p sn sc] w fun u w' => Ext w w' ∧ ∃ s' : SV, u = .tuple #[.slice s'.1 s'.2.1 s'.2.2, .int .u8 (ydep f L).2] ∧ NN w' s' (ydep f L).1 := by
  have hFR := hF.rel
  obtain ⟨r, TF, fzF, hFb, hFC⟩ := hF.blk
  have hFl := hFb.lt
  have hFsz := hFC.size
  have hk4 := hFC.gas
  have hN4 := hFR.gas
  have hz4 := hP.gas
  have hLn := hs.len
  dsimp only at hLn
  subst hLn
  refine Ret_of_W Hvac.func115 rfl rfl ?_
  refine W_seq ?_
  refine W_region rfl ?_
  refine WO_p (PS_assign_slice rfl) ?_
  refine WO_p (PS_assign_int rfl) ?_
  refine WO_nil ?_
  refine thn_normal ?_
  refine W_seq ?_
  refine W_region rfl ?_
  refine WO_call Hvac.call19 (by rfl) (Ret.mono (nNum_spec (OmB.ext hO (by repeat (first | assumption | exact Ext.refl _ | refine Ext.alloc ?_ _ | refine Ext.drew ?_ | refine Ext.setB ?_ (by first | omega | (simp only [size_alloc, size_setB, size_drew]; omega)) _ | exact Ext.trans (by assumption) (by assumption) | refine Ext.trans ?_ (by assumption)))) ⟨by omega, by omega⟩) ?_)
  rintro _ w19_0 ⟨hE19_0, s19_0, rfl, hN19_0, hs19_0⟩
  have hz19_0 := hE19_0.1
  try simp only [size_alloc, size_setB, size_drew] at hz19_0
  try simp only [Int.toNat_natCast, toNat_lit] at hN19_0 hs19_0
  try simp only [show Int.toNat 200 = 200 from rfl] at hN19_0 hs19_0
  refine WO_p (PS_move_slice rfl) ?_
  refine WO_p (PS_lenS Hvac.runUnderlying32 rfl) ?_
  refine WO_p (PS_conv_u64n Hvac.runUnderlying3 Hvac.runUnderlying26 rfl (by omega) (by omega)) ?_
  refine WO_call Hvac.call19 (by rfl) (Ret.mono (nNum_spec (OmB.ext hO (by repeat (first | assumption | exact Ext.refl _ | refine Ext.alloc ?_ _ | refine Ext.drew ?_ | refine Ext.setB ?_ (by first | omega | (simp only [size_alloc, size_setB, size_drew]; omega)) _ | exact Ext.trans (by assumption) (by assumption) | refine Ext.trans ?_ (by assumption)))) ⟨by omega, by omega⟩) ?_)
  rintro _ w19_1 ⟨hE19_1, s19_1, rfl, hN19_1, hs19_1⟩
  have hz19_1 := hE19_1.1
  try simp only [size_alloc, size_setB, size_drew] at hz19_1
  try simp only [Int.toNat_natCast, toNat_lit] at hN19_1 hs19_1
  try simp only [show Int.toNat 200 = 200 from rfl] at hN19_1 hs19_1
  refine WO_call Hvac.call26 (by rfl) (Ret.mono (nMul_spec (OmB.ext hO (by repeat (first | assumption | exact Ext.refl _ | refine Ext.alloc ?_ _ | refine Ext.drew ?_ | refine Ext.setB ?_ (by first | omega | (simp only [size_alloc, size_setB, size_drew]; omega)) _ | exact Ext.trans (by assumption) (by assumption) | refine Ext.trans ?_ (by assumption)))) (by first | exact NN.nil _ | assumption | exact NN.ext (by assumption) (by repeat (first | assumption | exact Ext.refl _ | refine Ext.alloc ?_ _ | refine Ext.drew ?_ | refine Ext.setB ?_ (by first | omega | (simp only [size_alloc, size_setB, size_drew]; omega)) _ | exact Ext.trans (by assumption) (by assumption) | refine Ext.trans ?_ (by assumption)))) (by first | exact NN.nil _ | assumption | exact NN.ext (by assumption) (by repeat (first | assumption | exact Ext.refl _ | refine Ext.alloc ?_ _ | refine Ext.drew ?_ | refine Ext.setB ?_ (by first | omega | (simp only [size_alloc, size_setB, size_drew]; omega)) _ | exact Ext.trans (by assumption) (by assumption) | refine Ext.trans ?_ (by assumption)))) (by first | assumption | omega | (rw [sz_zero]; omega)) (by first | assumption | omega | (rw [sz_zero]; omega))) ?_)
  rintro _ w26_2 ⟨hE26_2, s26_2, rfl, hN26_2⟩
  have hz26_2 := hE26_2.1
  try simp only [size_alloc, size_setB, size_drew] at hz26_2
  have hs26_2 := hN26_2.z_mul
  refine WO_p (PS_assign_slice rfl) ?_
  refine WO_nil ?_
  refine thn_normal ?_
  refine W_seq ?_
  refine W_block ?_
  refine W_seq ?_
  refine W_region rfl ?_
  refine WO_p (PS_move_slice rfl) ?_
  refine WO_p (PS_lenS Hvac.runUnderlying32 rfl) ?_
  refine WO_p (PS_gtr rfl rfl) ?_
  refine WO_p (PS_assign_bool rfl) ?_
  refine WO_nil ?_
  refine thn_normal ?_
  refine W_if rfl (fun hb5 => ?_) (fun hb5 => ?_)
  · have hb5p := hb5.h; try simp only [al_ete, al_dfn, Bool.not_eq_true', Bool.not_eq_false', al_ne, Bool.not_not, al_nn] at hb5p
    have hc1 : 256 < L.length := by omega
    refine W_seq ?_
    refine W_region rfl ?_
    refine WO_p (PS_assign_slice rfl) ?_
    refine WO_p (PS_assign_int rfl) ?_
    refine WO_nil ?_
    refine thn_normal ?_
    refine W_ret ?_
    refine inBlk_ret ?_
    refine thn_ret ?_
    refine bodyQ_ret2 Hvac.results115 rfl rfl (.slice _ _ _) (.int _ _) rfl rfl ?_
    unfold ydep
    repeat (first | rw [if_pos (by assumption)] | rw [if_neg (by assumption)])
    exact ⟨(by repeat (first | assumption | exact Ext.refl _ | refine Ext.alloc ?_ _ | refine Ext.drew ?_ | refine Ext.setB ?_ (by first | omega | (simp only [size_alloc, size_setB, size_drew]; omega)) _ | refine Ext.trans ?_ (by assumption))), (_, _, _), rfl, (by first | exact NN.nil _ | assumption | exact NN.ext (by assumption) (by repeat (first | assumption | exact Ext.refl _ | refine Ext.alloc ?_ _ | refine Ext.drew ?_ | refine Ext.setB ?_ (by first | omega | (simp only [size_alloc, size_setB, size_drew]; omega)) _ | refine Ext.trans ?_ (by assumption))))⟩
  · have hb5p := hb5.h; try simp only [al_ete, al_dfn, Bool.not_eq_true', Bool.not_eq_false', al_ne, Bool.not_not, al_nn] at hb5p
    have hc1 : ¬ 256 < L.length := by omega
    refine W_seq ?_
    refine W_region rfl ?_
    refine WO_p (PS_move_slice rfl) ?_
    refine WO_p (PS_lenS Hvac.runUnderlying32 rfl) ?_
    refine WO_p (PS_gtr rfl rfl) ?_
    refine WO_p (PS_move_bool rfl) ?_
    refine WO_if (t := 21) rfl (fun hb7 => ?_) (fun hb7 => ?_)
    · have hb7p := hb7.h; try simp only [al_ete, al_dfn, Bool.not_eq_true', Bool.not_eq_false', al_ne, Bool.not_not, al_nn] at hb7p
      obtain ⟨b, ob, rb, Tb, fzb, hp, hb, hrs, hat⟩ := AB.at_ (AB.ext hs (by repeat (first | assumption | exact Ext.refl _ | refine Ext.alloc ?_ _ | refine Ext.drew ?_ | refine Ext.setB ?_ (by first | omega | (simp only [size_alloc, size_setB, size_drew]; omega)) _ | exact Ext.trans (by assumption) (by assumption) | refine Ext.trans ?_ (by assumption)))) (by omega)
      subst hp
      have hce := hat 0 (by omega)
      refine WO_guardT rfl rfl hb7.h ?_
      refine WO_p (PS_move_slice rfl) ?_
      refine WO_guardT rfl rfl hb7.h ?_
      refine WO_p (PS_indexS Hvac.runUnderlying32 Hvac.sizeOf5 rfl rfl (by omega) (by omega)) ?_
      refine WO_guardT rfl rfl hb7.h ?_
      refine WO_load (.int _ _) Hvac.isAgg5 rfl (Hb.h (by repeat (first | assumption | exact Hb.newY _ _ | refine Hb.alloc ?_ | refine Hb.drew ?_ | refine Hb.ext (by assumption) ?_ | exact Hb.setSameL (by first | omega | (simp only [size_alloc, size_setB, size_drew]; omega)) | exact Hb.setSame (by assumption) | refine Hb.set (by first | omega | (simp only [size_alloc, size_setB, size_drew]; omega)) ?_ ))) (Ce.h (by first | assumption | exact ⟨rfl⟩)) ?_
      refine WO_guardT rfl rfl hb7.h ?_
      refine WO_p (PS_eql rfl rfl) ?_
      refine WO_p (PS_pickT rfl hb7.h rfl) ?_
      refine WO_p (PS_assign_bool rfl) ?_
      refine WO_nil ?_
      refine thn_normal ?_
      refine W_if rfl (fun hb9 => ?_) (fun hb9 => ?_)
      · have hb9p := hb9.h; try simp only [al_ete, al_dfn, Bool.not_eq_true', Bool.not_eq_false', al_ne, Bool.not_not, al_nn] at hb9p
        have hc2 : 0 < L.length ∧ L.getD 0 0 = 239 := ⟨by omega, hb9p⟩
        refine W_seq ?_
        refine W_region rfl ?_
        refine WO_p (PS_assign_slice rfl) ?_
        refine WO_p (PS_assign_int rfl) ?_
        refine WO_nil ?_
        refine thn_normal ?_
        refine W_ret ?_
        refine inBlk_ret ?_
        refine thn_ret ?_
        refine bodyQ_ret2 Hvac.results115 rfl rfl (.slice _ _ _) (.int _ _) rfl rfl ?_
        unfold ydep
        repeat (first | rw [if_pos (by assumption)] | rw [if_neg (by assumption)])
        exact ⟨(by repeat (first | assumption | exact Ext.refl _ | refine Ext.alloc ?_ _ | refine Ext.drew ?_ | refine Ext.setB ?_ (by first | omega | (simp only [size_alloc, size_setB, size_drew]; omega)) _ | refine Ext.trans ?_ (by assumption))), (_, _, _), rfl, (by first | exact NN.nil _ | assumption | exact NN.ext (by assumption) (by repeat (first | assumption | exact Ext.refl _ | refine Ext.alloc ?_ _ | refine Ext.drew ?_ | refine Ext.setB ?_ (by first | omega | (simp only [size_alloc, size_setB, size_drew]; omega)) _ | refine Ext.trans ?_ (by assumption))))⟩
      · have hb9p := hb9.h; try simp only [al_ete, al_dfn, Bool.not_eq_true', Bool.not_eq_false', al_ne, Bool.not_not, al_nn] at hb9p
        have hc2 : ¬ (0 < L.length ∧ L.getD 0 0 = 239) := fun h9 => hb9p h9.2
        refine W_seq ?_
        refine W_region rfl ?_
        refine WO_p (PS_move_slice rfl) ?_
        refine WO_p (PS_move_ptr rfl) ?_
        refine WO_p (PS_nilCheck rfl) ?_
        refine WO_p (PS_fieldAddr 4 Hvac.runUnderlying121 rfl Hvac.sizeOf92 rfl rfl) ?_
        refine WO_load (.slice _ _ _) Hvac.isAgg92 rfl (Hb.h (by repeat (first | assumption | exact Hb.newY _ _ | refine Hb.alloc ?_ | refine Hb.drew ?_ | refine Hb.ext (by assumption) ?_ | exact Hb.setSameL (by first | omega | (simp only [size_alloc, size_setB, size_drew]; omega)) | exact Hb.setSame (by assumption) | refine Hb.set (by first | omega | (simp only [size_alloc, size_setB, size_drew]; omega)) ?_ ))) (Ce.h (by first | assumption | exact ⟨rfl⟩)) ?_
        refine WO_call Hvac.call76 (by rfl) (Ret.mono (nCmp_spec (by first | exact NN.nil _ | assumption | exact NN.ext (by assumption) (by repeat (first | assumption | exact Ext.refl _ | refine Ext.alloc ?_ _ | refine Ext.drew ?_ | refine Ext.setB ?_ (by first | omega | (simp only [size_alloc, size_setB, size_drew]; omega)) _ | exact Ext.trans (by assumption) (by assumption) | refine Ext.trans ?_ (by assumption)))) (by first | exact NN.nil _ | assumption | exact NN.ext (by assumption) (by repeat (first | assumption | exact Ext.refl _ | refine Ext.alloc ?_ _ | refine Ext.drew ?_ | refine Ext.setB ?_ (by first | omega | (simp only [size_alloc, size_setB, size_drew]; omega)) _ | exact Ext.trans (by assumption) (by assumption) | refine Ext.trans ?_ (by assumption)))) (by first | assumption | omega | (rw [sz_zero]; omega)) (by first | assumption | omega | (rw [sz_zero]; omega))) ?_)
        rintro _ w76_9 ⟨hE76_9, rfl⟩
        have hz76_9 := hE76_9.1
        try simp only [size_alloc, size_setB, size_drew] at hz76_9
        refine WO_p (PS_gtr rfl rfl) ?_
        refine WO_p (PS_assign_bool rfl) ?_
        refine WO_nil ?_
        refine thn_normal ?_
        refine W_if rfl (fun hb12 => ?_) (fun hb12 => ?_)
        · have hb12p := hb12.h; try simp only [al_ete, al_dfn, Bool.not_eq_true', Bool.not_eq_false', al_ne, Bool.not_not, al_nn] at hb12p
          have hc3 : f.gas < 200 * L.length := by rw [cmpI_gt2] at hb12p; omega
          refine W_seq ?_
          refine W_region rfl ?_
          refine WO_p (PS_assign_slice rfl) ?_
          refine WO_p (PS_assign_int rfl) ?_
          refine WO_nil ?_
          refine thn_normal ?_
          refine W_ret ?_
          refine inBlk_ret ?_
          refine thn_ret ?_
          refine bodyQ_ret2 Hvac.results115 rfl rfl (.slice _ _ _) (.int _ _) rfl rfl ?_
          unfold ydep
          repeat (first | rw [if_pos (by assumption)] | rw [if_neg (by assumption)])
          exact ⟨(by repeat (first | assumption | exact Ext.refl _ | refine Ext.alloc ?_ _ | refine Ext.drew ?_ | refine Ext.setB ?_ (by first | omega | (simp only [size_alloc, size_setB, size_drew]; omega)) _ | refine Ext.trans ?_ (by assumption))), (_, _, _), rfl, (by first | exact NN.nil _ | assumption | exact NN.ext (by assumption) (by repeat (first | assumption | exact Ext.refl _ | refine Ext.alloc ?_ _ | refine Ext.drew ?_ | refine Ext.setB ?_ (by first | omega | (simp only [size_alloc, size_setB, size_drew]; omega)) _ | refine Ext.trans ?_ (by assumption))))⟩
        · have hb12p := hb12.h; try simp only [al_ete, al_dfn, Bool.not_eq_true', Bool.not_eq_false', al_ne, Bool.not_not, al_nn] at hb12p
          have hc3 : ¬ f.gas < 200 * L.length := fun h9 => hb12p (by rw [cmpI_gt2]; omega)
          refine W_skip ?_
          refine inBlk_normal ?_
          refine thn_normal ?_
          refine W_seq ?_
          refine W_region rfl ?_
          refine WO_p (PS_move_ptr rfl) ?_
          refine WO_p (PS_nilCheck rfl) ?_
          refine WO_p (PS_fieldAddr 4 Hvac.runUnderlying121 rfl Hvac.sizeOf92 rfl rfl) ?_
          refine WO_load (.slice _ _ _) Hvac.isAgg92 rfl (Hb.h (by repeat (first | assumption | exact Hb.newY _ _ | refine Hb.alloc ?_ | refine Hb.drew ?_ | refine Hb.ext (by assumption) ?_ | exact Hb.setSameL (by first | omega | (simp only [size_alloc, size_setB, size_drew]; omega)) | exact Hb.setSame (by assumption) | refine Hb.set (by first | omega | (simp only [size_alloc, size_setB, size_drew]; omega)) ?_ ))) (Ce.h (by first | assumption | exact ⟨rfl⟩)) ?_
          refine WO_p (PS_move_slice rfl) ?_
          refine WO_call Hvac.call20 (by rfl) (Ret.mono (less_spec _ (OmB.ext hO (by repeat (first | assumption | exact Ext.refl _ | refine Ext.alloc ?_ _ | refine Ext.drew ?_ | refine Ext.setB ?_ (by first | omega | (simp only [size_alloc, size_setB, size_drew]; omega)) _ | exact Ext.trans (by assumption) (by assumption) | refine Ext.trans ?_ (by assumption)))) _ _ _ _ (by first | exact NN.nil _ | assumption | exact NN.ext (by assumption) (by repeat (first | assumption | exact Ext.refl _ | refine Ext.alloc ?_ _ | refine Ext.drew ?_ | refine Ext.setB ?_ (by first | omega | (simp only [size_alloc, size_setB, size_drew]; omega)) _ | exact Ext.trans (by assumption) (by assumption) | refine Ext.trans ?_ (by assumption)))) (by first | assumption | omega | (rw [sz_zero]; omega)) _ _ _ _ (by first | exact NN.nil _ | assumption | exact NN.ext (by assumption) (by repeat (first | assumption | exact Ext.refl _ | refine Ext.alloc ?_ _ | refine Ext.drew ?_ | refine Ext.setB ?_ (by first | omega | (simp only [size_alloc, size_setB, size_drew]; omega)) _ | exact Ext.trans (by assumption) (by assumption) | refine Ext.trans ?_ (by assumption)))) (by first | assumption | omega | (rw [sz_zero]; omega))) ?_)
          rintro _ w20_12 ⟨hE20_12, s20_12, rfl, hN20_12⟩
          have hz20_12 := hE20_12.1
          try simp only [size_alloc, size_setB, size_drew] at hz20_12
          have hs20_12 := hN20_12.z_sub
          refine WO_p (PS_assign_slice rfl) ?_
          refine WO_p (PS_assign_int rfl) ?_
          refine WO_nil ?_
          refine thn_normal ?_
          refine W_ret ?_
          refine bodyQ_ret2 Hvac.results115 rfl rfl (.slice _ _ _) (.int _ _) rfl rfl ?_
          unfold ydep
          repeat (first | rw [if_pos (by assumption)] | rw [if_neg (by assumption)])
          exact ⟨(by repeat (first | assumption | exact Ext.refl _ | refine Ext.alloc ?_ _ | refine Ext.drew ?_ | refine Ext.setB ?_ (by first | omega | (simp only [size_alloc, size_setB, size_drew]; omega)) _ | refine Ext.trans ?_ (by assumption))), (_, _, _), rfl, (by first | exact NN.nil _ | assumption | exact NN.ext (by assumption) (by repeat (first | assumption | exact Ext.refl _ | refine Ext.alloc ?_ _ | refine Ext.drew ?_ | refine Ext.setB ?_ (by first | omega | (simp only [size_alloc, size_setB, size_drew]; omega)) _ | refine Ext.trans ?_ (by assumption))))⟩
    · have hb7p := hb7.h; try simp only [al_ete, al_dfn, Bool.not_eq_true', Bool.not_eq_false', al_ne, Bool.not_not, al_nn] at hb7p
      have hc2 : ¬ (0 < L.length ∧ L.getD 0 0 = 239) := fun h9 => by omega
      refine WO_guardF rfl rfl hb7.h ?_
      refine WO_guardF rfl rfl hb7.h ?_
      refine WO_guardF rfl rfl hb7.h ?_
      refine WO_guardF rfl rfl hb7.h ?_
      refine WO_p (PS_pickF rfl hb7.h rfl) ?_
      refine WO_p (PS_assign_bool rfl) ?_
      refine WO_nil ?_
      refine thn_normal ?_
      refine W_condF rfl rfl ?_
      refine W_seq ?_
      refine W_region rfl ?_
      refine WO_p (PS_move_slice rfl) ?_
      refine WO_p (PS_move_ptr rfl) ?_
      refine WO_p (PS_nilCheck rfl) ?_
      refine WO_p (PS_fieldAddr 4 Hvac.runUnderlying121 rfl Hvac.sizeOf92 rfl rfl) ?_
      refine WO_load (.slice _ _ _) Hvac.isAgg92 rfl (Hb.h (by repeat (first | assumption | exact Hb.newY _ _ | refine Hb.alloc ?_ | refine Hb.drew ?_ | refine Hb.ext (by assumption) ?_ | exact Hb.setSameL (by first | omega | (simp only [size_alloc, size_setB, size_drew]; omega)) | exact Hb.setSame (by assumption) | refine Hb.set (by first | omega | (simp only [size_alloc, size_setB, size_drew]; omega)) ?_ ))) (Ce.h (by first | assumption | exact ⟨rfl⟩)) ?_
      refine WO_call Hvac.call76 (by rfl) (Ret.mono (nCmp_spec (by first | exact NN.nil _ | assumption | exact NN.ext (by assumption) (by repeat (first | assumption | exact Ext.refl _ | refine Ext.alloc ?_ _ | refine Ext.drew ?_ | refine Ext.setB ?_ (by first | omega | (simp only [size_alloc, size_setB, size_drew]; omega)) _ | exact Ext.trans (by assumption) (by assumption) | refine Ext.trans ?_ (by assumption)))) (by first | exact NN.nil _ | assumption | exact NN.ext (by assumption) (by repeat (first | assumption | exact Ext.refl _ | refine Ext.alloc ?_ _ | refine Ext.drew ?_ | refine Ext.setB ?_ (by first | omega | (simp only [size_alloc, size_setB, size_drew]; omega)) _ | exact Ext.trans (by assumption) (by assumption) | refine Ext.trans ?_ (by assumption)))) (by first | assumption | omega | (rw [sz_zero]; omega)) (by first | assumption | omega | (rw [sz_zero]; omega))) ?_)
      rintro _ w76_13 ⟨hE76_13, rfl⟩
      have hz76_13 := hE76_13.1
      try simp only [size_alloc, size_setB, size_drew] at hz76_13
      refine WO_p (PS_gtr rfl rfl) ?_
      refine WO_p (PS_assign_bool rfl) ?_
      refine WO_nil ?_
      refine thn_normal ?_
      refine W_if rfl (fun hb16 => ?_) (fun hb16 => ?_)
      · have hb16p := hb16.h; try simp only [al_ete, al_dfn, Bool.not_eq_true', Bool.not_eq_false', al_ne, Bool.not_not, al_nn] at hb16p
        have hc3 : f.gas < 200 * L.length := by rw [cmpI_gt2] at hb16p; omega
        refine W_seq ?_
        refine W_region rfl ?_
        refine WO_p (PS_assign_slice rfl) ?_
        refine WO_p (PS_assign_int rfl) ?_
        refine WO_nil ?_
        refine thn_normal ?_
        refine W_ret ?_
        refine inBlk_ret ?_
        refine thn_ret ?_
        refine bodyQ_ret2 Hvac.results115 rfl rfl (.slice _ _ _) (.int _ _) rfl rfl ?_
        unfold ydep
        repeat (first | rw [if_pos (by assumption)] | rw [if_neg (by assumption)])
        exact ⟨(by repeat (first | assumption | exact Ext.refl _ | refine Ext.alloc ?_ _ | refine Ext.drew ?_ | refine Ext.setB ?_ (by first | omega | (simp only [size_alloc, size_setB, size_drew]; omega)) _ | refine Ext.trans ?_ (by assumption))), (_, _, _), rfl, (by first | exact NN.nil _ | assumption | exact NN.ext (by assumption) (by repeat (first | assumption | exact Ext.refl _ | refine Ext.alloc ?_ _ | refine Ext.drew ?_ | refine Ext.setB ?_ (by first | omega | (simp only [size_alloc, size_setB, size_drew]; omega)) _ | refine Ext.trans ?_ (by assumption))))⟩
      · have hb16p := hb16.h; try simp only [al_ete, al_dfn, Bool.not_eq_true', Bool.not_eq_false', al_ne, Bool.not_not, al_nn] at hb16p
        have hc3 : ¬ f.gas < 200 * L.length := fun h9 => hb16p (by rw [cmpI_gt2]; omega)
        refine W_skip ?_
        refine inBlk_normal ?_
        refine thn_normal ?_
        refine W_seq ?_
        refine W_region rfl ?_
        refine WO_p (PS_move_ptr rfl) ?_
        refine WO_p (PS_nilCheck rfl) ?_
        refine WO_p (PS_fieldAddr 4 Hvac.runUnderlying121 rfl Hvac.sizeOf92 rfl rfl) ?_
        refine WO_load (.slice _ _ _) Hvac.isAgg92 rfl (Hb.h (by repeat (first | assumption | exact Hb.newY _ _ | refine Hb.alloc ?_ | refine Hb.drew ?_ | refine Hb.ext (by assumption) ?_ | exact Hb.setSameL (by first | omega | (simp only [size_alloc, size_setB, size_drew]; omega)) | exact Hb.setSame (by assumption) | refine Hb.set (by first | omega | (simp only [size_alloc, size_setB, size_drew]; omega)) ?_ ))) (Ce.h (by first | assumption | exact ⟨rfl⟩)) ?_
        refine WO_p (PS_move_slice rfl) ?_
        refine WO_call Hvac.call20 (by rfl) (Ret.mono (less_spec _ (OmB.ext hO (by repeat (first | assumption | exact Ext.refl _ | refine Ext.alloc ?_ _ | refine Ext.drew ?_ | refine Ext.setB ?_ (by first | omega | (simp only [size_alloc, size_setB, size_drew]; omega)) _ | exact Ext.trans (by assumption) (by assumption) | refine Ext.trans ?_ (by assumption)))) _ _ _ _ (by first | exact NN.nil _ | assumption | exact NN.ext (by assumption) (by repeat (first | assumption | exact Ext.refl _ | refine Ext.alloc ?_ _ | refine Ext.drew ?_ | refine Ext.setB ?_ (by first | omega | (simp only [size_alloc, size_setB, size_drew]; omega)) _ | exact Ext.trans (by assumption) (by assumption) | refine Ext.trans ?_ (by assumption)))) (by first | assumption | omega | (rw [sz_zero]; omega)) _ _ _ _ (by first | exact NN.nil _ | assumption | exact NN.ext (by assumption) (by repeat (first | assumption | exact Ext.refl _ | refine Ext.alloc ?_ _ | refine Ext.drew ?_ | refine Ext.setB ?_ (by first | omega | (simp only [size_alloc, size_setB, size_drew]; omega)) _ | exact Ext.trans (by assumption) (by assumption) | refine Ext.trans ?_ (by assumption)))) (by first | assumption | omega | (rw [sz_zero]; omega))) ?_)
        rintro _ w20_16 ⟨hE20_16, s20_16, rfl, hN20_16⟩
        have hz20_16 := hE20_16.1
        try simp only [size_alloc, size_setB, size_drew] at hz20_16
        have hs20_16 := hN20_16.z_sub
        refine WO_p (PS_assign_slice rfl) ?_
        refine WO_p (PS_assign_int rfl) ?_
        refine WO_nil ?_
        refine thn_normal ?_
        refine W_ret ?_
        refine bodyQ_ret2 Hvac.results115 rfl rfl (.slice _ _ _) (.int _ _) rfl rfl ?_
        unfold ydep
        repeat (first | rw [if_pos (by assumption)] | rw [if_neg (by assumption)])
        exact ⟨(by repeat (first | assumption | exact Ext.refl _ | refine Ext.alloc ?_ _ | refine Ext.drew ?_ | refine Ext.setB ?_ (by first | omega | (simp only [size_alloc, size_setB, size_drew]; omega)) _ | refine Ext.trans ?_ (by assumption))), (_, _, _), rfl, (by first | exact NN.nil _ | assumption | exact NN.ext (by assumption) (by repeat (first | assumption | exact Ext.refl _ | refine Ext.alloc ?_ _ | refine Ext.drew ?_ | refine Ext.setB ?_ (by first | omega | (simp only [size_alloc, size_setB, size_drew]; omega)) _ | refine Ext.trans ?_ (by assumption))))⟩

end Go.Proofs.YgvacwGreat
