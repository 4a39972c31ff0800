import Derived.Test.YgvacwGreatHl
namespace Go.Proofs.YgvacwGreat
set_option linter.unusedSimpArgs false
set_option linter.unusedVariables false
/-! the block's values -/
structure EvC (r : Array Value) (o : Nat) (E : Ev) : Prop where
  cb : Xt r (o + 0) (o + 0 + 20) (ic .u8 E.cb)
  num : Ce r (o + 20) (.int .u64 E.num)
  timeY : Ce r (o + 21) (.int .u64 E.timeY)
  glim : Ce r (o + 22) (.int .u64 E.glim)
  rand : Xt r (o + 23) (o + 23 + 32) (ic .u8 E.rand)
  cid : Xt r (o + 55) (o + 55 + 32) (ic .u8 E.cid)
  bfee : Xt r (o + 87) (o + 87 + 32) (ic .u8 E.bfee)
  hash : Ce r (o + 119) (.slice E.hash.1 E.hash.2.1 E.hash.2.2)
theorem xt_list {l P M S : List Value} {a n : Nat} (h : l = P ++ (M ++ S)) (hp : P.length = a) (hm : M.length = n) : Xt l.toArray a (a + n) M.toArray := ⟨by
  subst h; subst hp; subst hm
  simp [List.extract_toArray, List.extract_eq_take_drop, List.drop_append, List.take_append]⟩
theorem ce_list {l P S : List Value} {a : Nat} {v : Value} (h : l = P ++ (v :: S)) (hp : P.length = a) : Ce l.toArray a v := ⟨by
  subst h; subst hp; simp⟩
theorem EvC.of {P : List Value} {E : Ev} {l : List Value} {o : Nat} (hl : l = P ++ encEv E) (hP : P.length = o) (h1 : E.cb.length = 20) (h2 : E.rand.length = 32) (h3 : E.cid.length = 32) (h4 : E.bfee.length = 32) : EvC l.toArray o E := by
  have m : ∀ (A : List Int), (ic .u8 A) = (A.map (Value.int .u8)).toArray := fun A => rfl
  have hS : sv E.hash = .slice E.hash.1 E.hash.2.1 E.hash.2.2 := rfl
  refine ⟨?_, ?_, ?_, ?_, ?_, ?_, ?_, ?_⟩
  · rw [m]; exact xt_list (P := P) (S := .int .u64 E.num :: .int .u64 E.timeY :: .int .u64 E.glim :: (E.rand.map (Value.int .u8) ++ (E.cid.map (Value.int .u8) ++ (E.bfee.map (Value.int .u8) ++ [sv E.hash])))) (by rw [hl]; simp [encEv]) (by simp [hP]) (by simp [h1])
  · exact ce_list (P := P ++ E.cb.map (Value.int .u8)) (S := .int .u64 E.timeY :: .int .u64 E.glim :: (E.rand.map (Value.int .u8) ++ (E.cid.map (Value.int .u8) ++ (E.bfee.map (Value.int .u8) ++ [sv E.hash])))) (by rw [hl]; simp [encEv]) (by simp [hP, h1])
  · exact ce_list (P := P ++ (E.cb.map (Value.int .u8) ++ [.int .u64 E.num])) (S := .int .u64 E.glim :: (E.rand.map (Value.int .u8) ++ (E.cid.map (Value.int .u8) ++ (E.bfee.map (Value.int .u8) ++ [sv E.hash])))) (by rw [hl]; simp [encEv]) (by simp [hP, h1])
  · exact ce_list (P := P ++ (E.cb.map (Value.int .u8) ++ [.int .u64 E.num, .int .u64 E.timeY])) (S := (E.rand.map (Value.int .u8) ++ (E.cid.map (Value.int .u8) ++ (E.bfee.map (Value.int .u8) ++ [sv E.hash])))) (by rw [hl]; simp [encEv]) (by simp [hP, h1])
  · rw [m]; exact xt_list (P := P ++ (E.cb.map (Value.int .u8) ++ [.int .u64 E.num, .int .u64 E.timeY, .int .u64 E.glim])) (S := (E.cid.map (Value.int .u8) ++ (E.bfee.map (Value.int .u8) ++ [sv E.hash]))) (by rw [hl]; simp [encEv]) (by simp [hP, h1]) (by simp [h2])
  · rw [m]; exact xt_list (P := P ++ (E.cb.map (Value.int .u8) ++ [.int .u64 E.num, .int .u64 E.timeY, .int .u64 E.glim] ++ E.rand.map (Value.int .u8))) (S := (E.bfee.map (Value.int .u8) ++ [sv E.hash])) (by rw [hl]; simp [encEv]) (by simp [hP, h1, h2]) (by simp [h3])
  · rw [m]; exact xt_list (P := P ++ (E.cb.map (Value.int .u8) ++ [.int .u64 E.num, .int .u64 E.timeY, .int .u64 E.glim] ++ E.rand.map (Value.int .u8) ++ E.cid.map (Value.int .u8))) (S := [sv E.hash]) (by rw [hl]; simp [encEv]) (by simp [hP, h1, h2, h3]) (by simp [h4])
  · rw [← hS]; exact ce_list (P := P ++ (E.cb.map (Value.int .u8) ++ [.int .u64 E.num, .int .u64 E.timeY, .int .u64 E.glim] ++ E.rand.map (Value.int .u8) ++ E.cid.map (Value.int .u8) ++ E.bfee.map (Value.int .u8))) (S := []) (by rw [hl]; simp [encEv]) (by simp [hP, h1, h2, h3, h4])
def hdYS (x : YSt) : List Value := sv x.now.accts :: sv x.now.warmA :: sv x.now.warmS :: sv x.now.ref :: sv x.now.logs :: sv x.now.temps :: sv x.now.made :: sv x.now.gone :: sv x.start :: sv x.frames :: sv x.ret :: .int .u8 x.phase :: .int .u8 x.status :: .int .u8 x.applied :: sv x.limit :: sv x.txGas :: sv x.left :: sv x.price :: [sv x.total]
theorem encYS_env {x : YSt} (h1 : x.origin.length = 20) (h2 : x.made.length = 20) (hE : EvB x.env) : EvC (encYS x).toArray (0 + 59) x.env :=
  EvC.of (P := hdYS x ++ x.origin.map (Value.int .u8) ++ x.made.map (Value.int .u8)) (by simp [encYS, hdYS]) (by simp [hdYS, h1, h2]) hE.cb.1 hE.rand.1 hE.cid.1 hE.bfee.1
theorem encYS_org {x : YSt} (h1 : x.origin.length = 20) : Xt (encYS x).toArray (0 + 19) (0 + 19 + 20) (ic .u8 x.origin) :=
  xt_list (P := hdYS x) (S := x.made.map (Value.int .u8) ++ encEv x.env) (by simp [encYS, hdYS]) rfl (by simp [h1])
theorem encYS_sz {x : YSt} (h1 : x.origin.length = 20) (h2 : x.made.length = 20) (hE : EvB x.env) : (encYS x).toArray.size = 179 := by
  simp [encYS, encEv, h1, h2, hE.cb.1, hE.rand.1, hE.cid.1, hE.bfee.1]
/-- what the hash function gives -/
structure KSum (ks : List Int → List Int) : Prop where
  by_ : ∀ L, By (ks L) 32
  spec : ∀ (w : World) (p : Option Addr) (n cp : Nat) (L : List Int), AB w (p, n, cp) L → n ≤ 10000000 → Ret Hvac.prog 160 #[.slice p n cp] w fun u w' => Ext w w' ∧ u = .agg (ic .u8 (ks L))
def yblock (E : Ev) (hs : List (List Int)) (o : Int) (a : Nat) : Nat :=
  if o = 64 then (if a + 1 ≤ E.num.toNat ∧ E.num.toNat - (a + 1) < hs.length then bvY (hs.getD (E.num.toNat - (a + 1)) []) else 0)
  else if o = 65 then bvY E.cb else if o = 66 then E.timeY.toNat else if o = 67 then E.num.toNat else if o = 68 then bvY E.rand else if o = 69 then E.glim.toNat else if o = 72 then bvY E.bfee else bvY E.cid
def yacval (ks : List Int → List Int) (a : PA) (o : Int) : Nat := if o = 49 then a.bal else if o = 59 then a.code.length else if yempty a = true then 0 else bvY (ks a.code)

set_option maxRecDepth 10000 in
set_option maxHeartbeats 4000000 in
theorem yBaseFee_spec [Om] (w : World) (hO : OmB w) (C : Nat) (x : YSt) (y : PSt) (hS : YSS w C x y) : Ret Hvac.prog 78 #[.pointer (some ⟨C, 0, none⟩)] w fun u w' => Ext w w' ∧ ∃ s' : SV, u = .slice s'.1 s'.2.1 s'.2.2 ∧ NN w' s' (bvY y.env.bfee) := by
  have hSb := hS.blk
  have hSl := hSb.lt
  have hol : x.origin.length = 20 := by rw [hS.rel.origin]; exact hS.rel.ob.1
  have hml : x.made.length = 20 := by rw [hS.rel.made]; exact hS.rel.mb.1
  have hEB : EvB x.env := by rw [hS.rel.env]; exact hS.rel.evb
  have hEC := encYS_env hol hml hEB
  have hszS := encYS_sz hol hml hEB
  have hEe := hS.rel.env
  have hk1 := hEC.num
  have hk2 := hEC.timeY
  have hk3 := hEC.glim
  have hk7 := hEC.hash
  have hnb := hEB.num
  have htb := hEB.timeY
  have hgb := hEB.glim
  have hABc : AB w (some ⟨C, 0 + 59 + 0, none⟩, 20, 20) x.env.cb := AB.xt hSb hEC.cb (by omega) hEB.cb.1 hEB.cb.2
  have hABr : AB w (some ⟨C, 0 + 59 + 23, none⟩, 32, 32) x.env.rand := AB.xt hSb hEC.rand (by omega) hEB.rand.1 hEB.rand.2
  have hABi : AB w (some ⟨C, 0 + 59 + 55, none⟩, 32, 32) x.env.cid := AB.xt hSb hEC.cid (by omega) hEB.cid.1 hEB.cid.2
  have hABb : AB w (some ⟨C, 0 + 59 + 87, none⟩, 32, 32) x.env.bfee := AB.xt hSb hEC.bfee (by omega) hEB.bfee.1 hEB.bfee.2
  refine Ret_of_W Hvac.func78 rfl rfl ?_
  refine W_seq ?_
  refine W_region rfl ?_
  refine WO_p (PS_assign_slice rfl) ?_
  refine WO_nil ?_
  refine thn_normal ?_
  refine W_seq ?_
  refine W_region rfl ?_
  refine WO_p (PS_move_ptr rfl) ?_
  refine WO_p (PS_nilCheck rfl) ?_
  refine WO_p (PS_fieldAddr 59 Hvac.runUnderlying99 rfl Hvac.sizeOf31 rfl rfl) ?_
  refine WO_p (PS_fieldAddr 87 Hvac.runUnderlying31 rfl Hvac.sizeOf28 rfl rfl) ?_
  refine WO_p (PS_slA Hvac.runUnderlying28 Hvac.sizeOf5 rfl (by omega)) ?_
  refine WO_call Hvac.call29 (by rfl) (Ret.mono (nBE_spec (OmB.ext hO (by repeat (first | assumption | exact Ext.refl _ | refine Ext.alloc ?_ _ | refine Ext.drew ?_ | refine Ext.setB ?_ (by first | omega | (simp only [size_alloc, size_setB, size_drew]; omega)) _ | exact Ext.trans (by assumption) (by assumption) | refine Ext.trans ?_ (by assumption)))) (by first | assumption | exact AB.ext (by assumption) (by repeat (first | assumption | exact Ext.refl _ | refine Ext.alloc ?_ _ | refine Ext.drew ?_ | refine Ext.setB ?_ (by first | omega | (simp only [size_alloc, size_setB, size_drew]; omega)) _ | exact Ext.trans (by assumption) (by assumption) | refine Ext.trans ?_ (by assumption))) | exact PB.ab (by assumption) | exact PB.ab (PB.ext (by assumption) (by repeat (first | assumption | exact Ext.refl _ | refine Ext.alloc ?_ _ | refine Ext.drew ?_ | refine Ext.setB ?_ (by first | omega | (simp only [size_alloc, size_setB, size_drew]; omega)) _ | exact Ext.trans (by assumption) (by assumption) | refine Ext.trans ?_ (by assumption))))) (by omega)) ?_)
  rintro _ w29_0 ⟨hE29_0, s29_0, rfl, hN29_0⟩
  have hz29_0 := hE29_0.1
  try simp only [size_alloc, size_setB, size_drew] at hz29_0
  have hs29_0 := hN29_0.z_bv
  refine WO_p (PS_assign_slice rfl) ?_
  refine WO_nil ?_
  refine thn_normal ?_
  refine W_ret ?_
  refine bodyQ_ret1 Hvac.results78 rfl (.slice _ _ _) rfl ?_
  rw [← hEe]
  exact ⟨(by repeat (first | assumption | exact Ext.refl _ | refine Ext.alloc ?_ _ | refine Ext.drew ?_ | refine Ext.setB ?_ (by first | omega | (simp only [size_alloc, size_setB, size_drew]; omega)) _ | refine Ext.trans ?_ (by assumption))), (_, _, _), rfl, (by first | exact NN.nil _ | assumption | exact NN.ext (by assumption) (by repeat (first | assumption | exact Ext.refl _ | refine Ext.alloc ?_ _ | refine Ext.drew ?_ | refine Ext.setB ?_ (by first | omega | (simp only [size_alloc, size_setB, size_drew]; omega)) _ | refine Ext.trans ?_ (by assumption))))⟩

set_option maxRecDepth 10000 in
set_option maxHeartbeats 4000000 in
theorem yBlock_spec [Om] (w : World) (hO : OmB w) (C : Nat) (x : YSt) (y : PSt) (hS : YSS w C x y) (hhl : y.hashes.length ≤ 1000) (o : Int) (ho : 64 ≤ o ∧ o ≤ 72 ∧ o ≠ 71) (ap : Option Addr) (an acY a : Nat) (ha : NN w (ap, an, acY) a) (za : sz a ≤ 32) : Ret Hvac.prog 204 #[.pointer (some ⟨C, 0, none⟩), .int .u8 o, .slice ap an acY] w fun u w' => Ext w w' ∧ ∃ s' : SV, u = .slice s'.1 s'.2.1 s'.2.2 ∧ NN w' s' (yblock y.env y.hashes o a) := by
  have hSb := hS.blk
  have hSl := hSb.lt
  have hol : x.origin.length = 20 := by rw [hS.rel.origin]; exact hS.rel.ob.1
  have hml : x.made.length = 20 := by rw [hS.rel.made]; exact hS.rel.mb.1
  have hEB : EvB x.env := by rw [hS.rel.env]; exact hS.rel.evb
  have hEC := encYS_env hol hml hEB
  have hszS := encYS_sz hol hml hEB
  have hEe := hS.rel.env
  have hk1 := hEC.num
  have hk2 := hEC.timeY
  have hk3 := hEC.glim
  have hk7 := hEC.hash
  have hnb := hEB.num
  have htb := hEB.timeY
  have hgb := hEB.glim
  have hABc : AB w (some ⟨C, 0 + 59 + 0, none⟩, 20, 20) x.env.cb := AB.xt hSb hEC.cb (by omega) hEB.cb.1 hEB.cb.2
  have hABr : AB w (some ⟨C, 0 + 59 + 23, none⟩, 32, 32) x.env.rand := AB.xt hSb hEC.rand (by omega) hEB.rand.1 hEB.rand.2
  have hABi : AB w (some ⟨C, 0 + 59 + 55, none⟩, 32, 32) x.env.cid := AB.xt hSb hEC.cid (by omega) hEB.cid.1 hEB.cid.2
  have hABb : AB w (some ⟨C, 0 + 59 + 87, none⟩, 32, 32) x.env.bfee := AB.xt hSb hEC.bfee (by omega) hEB.bfee.1 hEB.bfee.2
  have hhs := hS.rel.hs
  have hhn := hhs.len
  have hN0 : ((x.env.num.toNat : Nat) : Int) = x.env.num := Int.toNat_of_nonneg hnb.1
  refine Ret_of_W Hvac.func204 rfl rfl ?_
  refine W_seq ?_
  refine W_region rfl ?_
  refine WO_p (PS_assign_slice rfl) ?_
  refine WO_nil ?_
  refine thn_normal ?_
  refine W_seq ?_
  refine W_region rfl ?_
  refine WO_p (PS_move_ptr rfl) ?_
  refine WO_p (PS_nilCheck rfl) ?_
  refine WO_p (PS_fieldAddr 59 Hvac.runUnderlying99 rfl Hvac.sizeOf31 rfl rfl) ?_
  refine WO_p (PS_assign_ptr rfl) ?_
  refine WO_nil ?_
  refine thn_normal ?_
  refine W_seq ?_
  refine W_seq ?_
  refine W_region rfl ?_
  refine WO_p (PS_move_int rfl) ?_
  refine WO_nil ?_
  refine thn_normal ?_
  refine W_block ?_
  refine W_seq ?_
  refine W_region rfl ?_
  refine WO_p (PS_eql rfl rfl) ?_
  refine WO_p (PS_assign_bool rfl) ?_
  refine WO_nil ?_
  refine thn_normal ?_
  refine W_if rfl (fun hb2 => ?_) (fun hb2 => ?_)
  · have hb2p := hb2.h; try simp only [al_ete, al_dfn, Bool.not_eq_true', Bool.not_eq_false', al_ne, Bool.not_not, al_nn] at hb2p
    have ho5 : o = 64 := by omega
    refine W_seq ?_
    refine W_region rfl ?_
    refine WO_p (PS_move_ptr rfl) ?_
    refine WO_p (PS_nilCheck rfl) ?_
    refine WO_p (PS_fieldAddr 20 Hvac.runUnderlying31 rfl Hvac.sizeOf26 rfl rfl) ?_
    refine WO_load (.int _ _) Hvac.isAgg26 rfl (Hb.h (by repeat (first | assumption | exact Hb.newY _ _ | refine Hb.alloc ?_ | refine Hb.drew ?_ | refine Hb.ext (by assumption) ?_ | exact Hb.setSameL (by first | omega | (simp only [size_alloc, size_setB, size_drew]; omega)) | exact Hb.setSame (by assumption) | refine Hb.set (by first | omega | (simp only [size_alloc, size_setB, size_drew]; omega)) ?_ ))) (Ce.h (by first | assumption | exact ⟨rfl⟩)) ?_
    refine WO_call Hvac.call19 (by rfl) (Ret.mono (nNum_spec (OmB.ext hO (by repeat (first | assumption | exact Ext.refl _ | refine Ext.alloc ?_ _ | refine Ext.drew ?_ | refine Ext.setB ?_ (by first | omega | (simp only [size_alloc, size_setB, size_drew]; omega)) _ | exact Ext.trans (by assumption) (by assumption) | refine Ext.trans ?_ (by assumption)))) ⟨by omega, by omega⟩) ?_)
    rintro _ w19_2 ⟨hE19_2, s19_2, rfl, hN19_2, hs19_2⟩
    have hz19_2 := hE19_2.1
    try simp only [size_alloc, size_setB, size_drew] at hz19_2
    try simp only [Int.toNat_natCast, toNat_lit] at hN19_2 hs19_2
    try simp only [show Int.toNat 1 = 1 from rfl] at hN19_2 hs19_2
    refine WO_p (PS_move_slice rfl) ?_
    refine WO_call Hvac.call19 (by rfl) (Ret.mono (nNum_spec (OmB.ext hO (by repeat (first | assumption | exact Ext.refl _ | refine Ext.alloc ?_ _ | refine Ext.drew ?_ | refine Ext.setB ?_ (by first | omega | (simp only [size_alloc, size_setB, size_drew]; omega)) _ | exact Ext.trans (by assumption) (by assumption) | refine Ext.trans ?_ (by assumption)))) ⟨by omega, by omega⟩) ?_)
    rintro _ w19_3 ⟨hE19_3, s19_3, rfl, hN19_3, hs19_3⟩
    have hz19_3 := hE19_3.1
    try simp only [size_alloc, size_setB, size_drew] at hz19_3
    try simp only [Int.toNat_natCast, toNat_lit] at hN19_3 hs19_3
    try simp only [show Int.toNat 1 = 1 from rfl] at hN19_3 hs19_3
    refine WO_call Hvac.call24 (by rfl) (Ret.mono (nAdd_spec (OmB.ext hO (by repeat (first | assumption | exact Ext.refl _ | refine Ext.alloc ?_ _ | refine Ext.drew ?_ | refine Ext.setB ?_ (by first | omega | (simp only [size_alloc, size_setB, size_drew]; omega)) _ | exact Ext.trans (by assumption) (by assumption) | refine Ext.trans ?_ (by assumption)))) (by first | exact NN.nil _ | assumption | exact NN.ext (by assumption) (by repeat (first | assumption | exact Ext.refl _ | refine Ext.alloc ?_ _ | refine Ext.drew ?_ | refine Ext.setB ?_ (by first | omega | (simp only [size_alloc, size_setB, size_drew]; omega)) _ | exact Ext.trans (by assumption) (by assumption) | refine Ext.trans ?_ (by assumption)))) (by first | exact NN.nil _ | assumption | exact NN.ext (by assumption) (by repeat (first | assumption | exact Ext.refl _ | refine Ext.alloc ?_ _ | refine Ext.drew ?_ | refine Ext.setB ?_ (by first | omega | (simp only [size_alloc, size_setB, size_drew]; omega)) _ | exact Ext.trans (by assumption) (by assumption) | refine Ext.trans ?_ (by assumption)))) (by first | assumption | omega | (rw [sz_zero]; omega)) (by first | assumption | omega | (rw [sz_zero]; omega))) ?_)
    rintro _ w24_4 ⟨hE24_4, s24_4, rfl, hN24_4⟩
    have hz24_4 := hE24_4.1
    try simp only [size_alloc, size_setB, size_drew] at hz24_4
    have hs24_4 := hN24_4.z_add
    refine WO_call Hvac.call82 (by rfl) (Ret.mono (nSub_spec (OmB.ext hO (by repeat (first | assumption | exact Ext.refl _ | refine Ext.alloc ?_ _ | refine Ext.drew ?_ | refine Ext.setB ?_ (by first | omega | (simp only [size_alloc, size_setB, size_drew]; omega)) _ | exact Ext.trans (by assumption) (by assumption) | refine Ext.trans ?_ (by assumption)))) (by first | exact NN.nil _ | assumption | exact NN.ext (by assumption) (by repeat (first | assumption | exact Ext.refl _ | refine Ext.alloc ?_ _ | refine Ext.drew ?_ | refine Ext.setB ?_ (by first | omega | (simp only [size_alloc, size_setB, size_drew]; omega)) _ | exact Ext.trans (by assumption) (by assumption) | refine Ext.trans ?_ (by assumption)))) (by first | exact NN.nil _ | assumption | exact NN.ext (by assumption) (by repeat (first | assumption | exact Ext.refl _ | refine Ext.alloc ?_ _ | refine Ext.drew ?_ | refine Ext.setB ?_ (by first | omega | (simp only [size_alloc, size_setB, size_drew]; omega)) _ | exact Ext.trans (by assumption) (by assumption) | refine Ext.trans ?_ (by assumption)))) (by first | assumption | omega | (rw [sz_zero]; omega)) (by first | assumption | omega | (rw [sz_zero]; omega))) ?_)
    rintro _ w82_5 ⟨hE82_5, s82_5, rfl, hN82_5⟩
    have hz82_5 := hE82_5.1
    try simp only [size_alloc, size_setB, size_drew] at hz82_5
    have hs82_5 := hN82_5.z_sub
    refine WO_p (PS_move_tuple rfl) ?_
    refine WO_p (PS_extract_slice rfl rfl) ?_
    refine WO_p (PS_extract_bool rfl rfl) ?_
    refine WO_p (PS_assign_slice rfl) ?_
    refine WO_p (PS_assign_bool rfl) ?_
    refine WO_nil ?_
    refine thn_normal ?_
    refine W_seq ?_
    refine W_seq ?_
    refine W_region rfl ?_
    refine WO_p (PS_move_bool rfl) ?_
    refine WO_p (PS_not rfl) ?_
    refine WO_nil ?_
    refine thn_normal ?_
    refine W_if rfl (fun hb9 => ?_) (fun hb9 => ?_)
    · have hb9p := hb9.h; try simp only [al_ete, al_dfn, Bool.not_eq_true', Bool.not_eq_false', al_ne, Bool.not_not, al_nn] at hb9p
      have hb1 : ¬ a + 1 ≤ x.env.num.toNat := by simpa using hb9p
      refine W_seq ?_
      refine W_region rfl ?_
      refine WO_p (PS_assign_slice rfl) ?_
      refine WO_nil ?_
      refine thn_normal ?_
      refine W_ret ?_
      refine thn_ret ?_
      refine inBlk_ret ?_
      refine thn_ret ?_
      refine bodyQ_ret1 Hvac.results204 rfl (.slice _ _ _) rfl ?_
      subst ho5; rw [← hEe]; exact ⟨(by repeat (first | assumption | exact Ext.refl _ | refine Ext.alloc ?_ _ | refine Ext.drew ?_ | refine Ext.setB ?_ (by first | omega | (simp only [size_alloc, size_setB, size_drew]; omega)) _ | refine Ext.trans ?_ (by assumption))), (none, 0, 0), rfl, NN.castY (NN.nil _) (by unfold yblock; rw [if_pos rfl, if_neg (fun h9 => by omega)])⟩
    · have hb9p := hb9.h; try simp only [al_ete, al_dfn, Bool.not_eq_true', Bool.not_eq_false', al_ne, Bool.not_not, al_nn] at hb9p
      have hb1 : a + 1 ≤ x.env.num.toNat := by simpa using hb9p
      refine W_skip ?_
      refine thn_normal ?_
      refine W_seq ?_
      refine W_seq ?_
      refine W_region rfl ?_
      refine WO_p (PS_move_slice rfl) ?_
      refine WO_p (PS_move_ptr rfl) ?_
      refine WO_p (PS_nilCheck rfl) ?_
      refine WO_p (PS_fieldAddr 119 Hvac.runUnderlying31 rfl Hvac.sizeOf29 rfl rfl) ?_
      refine WO_load (.slice _ _ _) Hvac.isAgg29 rfl (Hb.h (by repeat (first | assumption | exact Hb.newY _ _ | refine Hb.alloc ?_ | refine Hb.drew ?_ | refine Hb.ext (by assumption) ?_ | exact Hb.setSameL (by first | omega | (simp only [size_alloc, size_setB, size_drew]; omega)) | exact Hb.setSame (by assumption) | refine Hb.set (by first | omega | (simp only [size_alloc, size_setB, size_drew]; omega)) ?_ ))) (Ce.h (by first | assumption | exact ⟨rfl⟩)) ?_
      refine WO_p (PS_lenS Hvac.runUnderlying29 rfl) ?_
      refine WO_call Hvac.call110 (by rfl) (Ret.mono (place_spec _ (OmB.ext hO (by repeat (first | assumption | exact Ext.refl _ | refine Ext.alloc ?_ _ | refine Ext.drew ?_ | refine Ext.setB ?_ (by first | omega | (simp only [size_alloc, size_setB, size_drew]; omega)) _ | exact Ext.trans (by assumption) (by assumption) | refine Ext.trans ?_ (by assumption)))) _ _ _ _ (by first | exact NN.nil _ | assumption | exact NN.ext (by assumption) (by repeat (first | assumption | exact Ext.refl _ | refine Ext.alloc ?_ _ | refine Ext.drew ?_ | refine Ext.setB ?_ (by first | omega | (simp only [size_alloc, size_setB, size_drew]; omega)) _ | exact Ext.trans (by assumption) (by assumption) | refine Ext.trans ?_ (by assumption)))) (by first | assumption | omega | (rw [sz_zero]; omega)) _ (by omega)) ?_)
      rintro _ w110_9 ⟨hE110_9, rfl⟩
      have hz110_9 := hE110_9.1
      try simp only [size_alloc, size_setB, size_drew] at hz110_9
      refine WO_p (PS_move_tuple rfl) ?_
      refine WO_p (PS_extract_int rfl rfl) ?_
      refine WO_p (PS_extract_bool rfl rfl) ?_
      refine WO_p (PS_assign_int rfl) ?_
      refine WO_p (PS_assign_bool rfl) ?_
      refine WO_nil ?_
      refine thn_normal ?_
      refine W_seq ?_
      refine W_region rfl ?_
      refine WO_p (PS_move_bool rfl) ?_
      refine WO_nil ?_
      refine thn_normal ?_
      refine W_if rfl (fun hb12 => ?_) (fun hb12 => ?_)
      · have hb12p := hb12.h; try simp only [al_ete, al_dfn, Bool.not_eq_true', Bool.not_eq_false', al_ne, Bool.not_not, al_nn] at hb12p
        have hb2 : x.env.num.toNat - (a + 1) < x.env.hash.2.1 := by simpa using hb12p
        have hif : (if x.env.num.toNat - (a + 1) < x.env.hash.2.1 then ((x.env.num.toNat - (a + 1) : Nat) : Int) else 0) = ((x.env.num.toNat - (a + 1) : Nat) : Int) := if_pos hb2
        rw [hif]
        obtain ⟨H, hH⟩ : ∃ H, y.hashes[x.env.num.toNat - (a + 1)]? = some H := ⟨_, List.getElem?_eq_getElem (by omega)⟩
        have hHb := hS.rel.hb H (List.mem_of_getElem? hH)
        obtain ⟨xh, hxh⟩ : ∃ xh, xh = x.env.hash := ⟨_, rfl⟩
        rw [← hxh] at hhs hk7 hb2
        obtain ⟨hp1, hp2, hp3⟩ := xh
        obtain ⟨bH, rH, fzH, hpH, hbH, hrsH, hXH⟩ := pl_at hhs hH (by simp [encW32, hHb.1])
        subst hpH
        dsimp only at hb2 hk7
        have hABH : AB w (some ⟨bH, 0 + ((x.env.num.toNat - (a + 1) : Nat) : Int).toNat * 32, none⟩, 32, 32) H := AB.xt hbH (by rw [Int.toNat_natCast]; exact hXH) (by rw [Int.toNat_natCast]; exact hrsH) hHb.1 hHb.2
        refine W_seq ?_
        refine W_region rfl ?_
        refine WO_p (PS_move_ptr rfl) ?_
        refine WO_p (PS_nilCheck rfl) ?_
        refine WO_p (PS_fieldAddr 119 Hvac.runUnderlying31 rfl Hvac.sizeOf29 rfl rfl) ?_
        refine WO_load (.slice _ _ _) Hvac.isAgg29 rfl (Hb.h (by repeat (first | assumption | exact Hb.newY _ _ | refine Hb.alloc ?_ | refine Hb.drew ?_ | refine Hb.ext (by assumption) ?_ | exact Hb.setSameL (by first | omega | (simp only [size_alloc, size_setB, size_drew]; omega)) | exact Hb.setSame (by assumption) | refine Hb.set (by first | omega | (simp only [size_alloc, size_setB, size_drew]; omega)) ?_ ))) (Ce.h (by first | assumption | exact ⟨rfl⟩)) ?_
        refine WO_p (PS_move_int rfl) ?_
        refine WO_p (PS_indexS Hvac.runUnderlying29 Hvac.sizeOf28 rfl rfl (by omega) (by omega)) ?_
        refine WO_p (PS_slA Hvac.runUnderlying28 Hvac.sizeOf5 rfl (by omega)) ?_
        refine WO_call Hvac.call29 (by rfl) (Ret.mono (nBE_spec (OmB.ext hO (by repeat (first | assumption | exact Ext.refl _ | refine Ext.alloc ?_ _ | refine Ext.drew ?_ | refine Ext.setB ?_ (by first | omega | (simp only [size_alloc, size_setB, size_drew]; omega)) _ | exact Ext.trans (by assumption) (by assumption) | refine Ext.trans ?_ (by assumption)))) (by first | assumption | exact AB.ext (by assumption) (by repeat (first | assumption | exact Ext.refl _ | refine Ext.alloc ?_ _ | refine Ext.drew ?_ | refine Ext.setB ?_ (by first | omega | (simp only [size_alloc, size_setB, size_drew]; omega)) _ | exact Ext.trans (by assumption) (by assumption) | refine Ext.trans ?_ (by assumption))) | exact PB.ab (by assumption) | exact PB.ab (PB.ext (by assumption) (by repeat (first | assumption | exact Ext.refl _ | refine Ext.alloc ?_ _ | refine Ext.drew ?_ | refine Ext.setB ?_ (by first | omega | (simp only [size_alloc, size_setB, size_drew]; omega)) _ | exact Ext.trans (by assumption) (by assumption) | refine Ext.trans ?_ (by assumption))))) (by omega)) ?_)
        rintro _ w29_12 ⟨hE29_12, s29_12, rfl, hN29_12⟩
        have hz29_12 := hE29_12.1
        try simp only [size_alloc, size_setB, size_drew] at hz29_12
        have hs29_12 := hN29_12.z_bv
        refine WO_p (PS_assign_slice rfl) ?_
        refine WO_nil ?_
        refine thn_normal ?_
        refine W_ret ?_
        refine thn_ret ?_
        refine inBlk_ret ?_
        refine thn_ret ?_
        refine bodyQ_ret1 Hvac.results204 rfl (.slice _ _ _) rfl ?_
        subst ho5; rw [← hEe]; refine ⟨(by repeat (first | assumption | exact Ext.refl _ | refine Ext.alloc ?_ _ | refine Ext.drew ?_ | refine Ext.setB ?_ (by first | omega | (simp only [size_alloc, size_setB, size_drew]; omega)) _ | refine Ext.trans ?_ (by assumption))), (_, _, _), rfl, NN.castY (by first | exact NN.nil _ | assumption | exact NN.ext (by assumption) (by repeat (first | assumption | exact Ext.refl _ | refine Ext.alloc ?_ _ | refine Ext.drew ?_ | refine Ext.setB ?_ (by first | omega | (simp only [size_alloc, size_setB, size_drew]; omega)) _ | refine Ext.trans ?_ (by assumption)))) ?_⟩; unfold yblock; rw [if_pos rfl, if_pos ⟨hb1, by omega⟩, List.getD_eq_getElem?_getD, hH]; rfl
      · have hb12p := hb12.h; try simp only [al_ete, al_dfn, Bool.not_eq_true', Bool.not_eq_false', al_ne, Bool.not_not, al_nn] at hb12p
        have hb2 : ¬ x.env.num.toNat - (a + 1) < x.env.hash.2.1 := by simpa using hb12p
        refine W_skip ?_
        refine thn_normal ?_
        refine W_seq ?_
        refine W_region rfl ?_
        refine WO_p (PS_assign_slice rfl) ?_
        refine WO_nil ?_
        refine thn_normal ?_
        refine W_ret ?_
        refine inBlk_ret ?_
        refine thn_ret ?_
        refine bodyQ_ret1 Hvac.results204 rfl (.slice _ _ _) rfl ?_
        subst ho5; rw [← hEe]; exact ⟨(by repeat (first | assumption | exact Ext.refl _ | refine Ext.alloc ?_ _ | refine Ext.drew ?_ | refine Ext.setB ?_ (by first | omega | (simp only [size_alloc, size_setB, size_drew]; omega)) _ | refine Ext.trans ?_ (by assumption))), (none, 0, 0), rfl, NN.castY (NN.nil _) (by unfold yblock; rw [if_pos rfl, if_neg (fun h9 => by omega)])⟩
  · have hb2p := hb2.h; try simp only [al_ete, al_dfn, Bool.not_eq_true', Bool.not_eq_false', al_ne, Bool.not_not, al_nn] at hb2p
    refine W_seq ?_
    refine W_region rfl ?_
    refine WO_p (PS_eql rfl rfl) ?_
    refine WO_p (PS_assign_bool rfl) ?_
    refine WO_nil ?_
    refine thn_normal ?_
    refine W_if rfl (fun hb15 => ?_) (fun hb15 => ?_)
    · have hb15p := hb15.h; try simp only [al_ete, al_dfn, Bool.not_eq_true', Bool.not_eq_false', al_ne, Bool.not_not, al_nn] at hb15p
      have ho5 : o = 65 := by omega
      refine W_seq ?_
      refine W_region rfl ?_
      refine WO_p (PS_move_ptr rfl) ?_
      refine WO_p (PS_nilCheck rfl) ?_
      refine WO_p (PS_fieldAddr 0 Hvac.runUnderlying31 rfl Hvac.sizeOf25 rfl rfl) ?_
      refine WO_p (PS_slA Hvac.runUnderlying25 Hvac.sizeOf5 rfl (by omega)) ?_
      refine WO_call Hvac.call29 (by rfl) (Ret.mono (nBE_spec (OmB.ext hO (by repeat (first | assumption | exact Ext.refl _ | refine Ext.alloc ?_ _ | refine Ext.drew ?_ | refine Ext.setB ?_ (by first | omega | (simp only [size_alloc, size_setB, size_drew]; omega)) _ | exact Ext.trans (by assumption) (by assumption) | refine Ext.trans ?_ (by assumption)))) (by first | assumption | exact AB.ext (by assumption) (by repeat (first | assumption | exact Ext.refl _ | refine Ext.alloc ?_ _ | refine Ext.drew ?_ | refine Ext.setB ?_ (by first | omega | (simp only [size_alloc, size_setB, size_drew]; omega)) _ | exact Ext.trans (by assumption) (by assumption) | refine Ext.trans ?_ (by assumption))) | exact PB.ab (by assumption) | exact PB.ab (PB.ext (by assumption) (by repeat (first | assumption | exact Ext.refl _ | refine Ext.alloc ?_ _ | refine Ext.drew ?_ | refine Ext.setB ?_ (by first | omega | (simp only [size_alloc, size_setB, size_drew]; omega)) _ | exact Ext.trans (by assumption) (by assumption) | refine Ext.trans ?_ (by assumption))))) (by omega)) ?_)
      rintro _ w29_15 ⟨hE29_15, s29_15, rfl, hN29_15⟩
      have hz29_15 := hE29_15.1
      try simp only [size_alloc, size_setB, size_drew] at hz29_15
      have hs29_15 := hN29_15.z_bv
      refine WO_p (PS_assign_slice rfl) ?_
      refine WO_nil ?_
      refine thn_normal ?_
      refine W_ret ?_
      refine inBlk_ret ?_
      refine thn_ret ?_
      refine bodyQ_ret1 Hvac.results204 rfl (.slice _ _ _) rfl ?_
      subst ho5; rw [← hEe]; exact ⟨(by repeat (first | assumption | exact Ext.refl _ | refine Ext.alloc ?_ _ | refine Ext.drew ?_ | refine Ext.setB ?_ (by first | omega | (simp only [size_alloc, size_setB, size_drew]; omega)) _ | refine Ext.trans ?_ (by assumption))), (_, _, _), rfl, NN.castY (by first | exact NN.nil _ | assumption | exact NN.ext (by assumption) (by repeat (first | assumption | exact Ext.refl _ | refine Ext.alloc ?_ _ | refine Ext.drew ?_ | refine Ext.setB ?_ (by first | omega | (simp only [size_alloc, size_setB, size_drew]; omega)) _ | refine Ext.trans ?_ (by assumption)))) (by simp [yblock])⟩
    · have hb15p := hb15.h; try simp only [al_ete, al_dfn, Bool.not_eq_true', Bool.not_eq_false', al_ne, Bool.not_not, al_nn] at hb15p
      refine W_seq ?_
      refine W_region rfl ?_
      refine WO_p (PS_eql rfl rfl) ?_
      refine WO_p (PS_assign_bool rfl) ?_
      refine WO_nil ?_
      refine thn_normal ?_
      refine W_if rfl (fun hb18 => ?_) (fun hb18 => ?_)
      · have hb18p := hb18.h; try simp only [al_ete, al_dfn, Bool.not_eq_true', Bool.not_eq_false', al_ne, Bool.not_not, al_nn] at hb18p
        have ho5 : o = 66 := by omega
        refine W_seq ?_
        refine W_region rfl ?_
        refine WO_p (PS_move_ptr rfl) ?_
        refine WO_p (PS_nilCheck rfl) ?_
        refine WO_p (PS_fieldAddr 21 Hvac.runUnderlying31 rfl Hvac.sizeOf26 rfl rfl) ?_
        refine WO_load (.int _ _) Hvac.isAgg26 rfl (Hb.h (by repeat (first | assumption | exact Hb.newY _ _ | refine Hb.alloc ?_ | refine Hb.drew ?_ | refine Hb.ext (by assumption) ?_ | exact Hb.setSameL (by first | omega | (simp only [size_alloc, size_setB, size_drew]; omega)) | exact Hb.setSame (by assumption) | refine Hb.set (by first | omega | (simp only [size_alloc, size_setB, size_drew]; omega)) ?_ ))) (Ce.h (by first | assumption | exact ⟨rfl⟩)) ?_
        refine WO_call Hvac.call19 (by rfl) (Ret.mono (nNum_spec (OmB.ext hO (by repeat (first | assumption | exact Ext.refl _ | refine Ext.alloc ?_ _ | refine Ext.drew ?_ | refine Ext.setB ?_ (by first | omega | (simp only [size_alloc, size_setB, size_drew]; omega)) _ | exact Ext.trans (by assumption) (by assumption) | refine Ext.trans ?_ (by assumption)))) ⟨by omega, by omega⟩) ?_)
        rintro _ w19_18 ⟨hE19_18, s19_18, rfl, hN19_18, hs19_18⟩
        have hz19_18 := hE19_18.1
        try simp only [size_alloc, size_setB, size_drew] at hz19_18
        try simp only [Int.toNat_natCast, toNat_lit] at hN19_18 hs19_18
        try simp only [show Int.toNat 1 = 1 from rfl] at hN19_18 hs19_18
        refine WO_p (PS_assign_slice rfl) ?_
        refine WO_nil ?_
        refine thn_normal ?_
        refine W_ret ?_
        refine inBlk_ret ?_
        refine thn_ret ?_
        refine bodyQ_ret1 Hvac.results204 rfl (.slice _ _ _) rfl ?_
        subst ho5; rw [← hEe]; exact ⟨(by repeat (first | assumption | exact Ext.refl _ | refine Ext.alloc ?_ _ | refine Ext.drew ?_ | refine Ext.setB ?_ (by first | omega | (simp only [size_alloc, size_setB, size_drew]; omega)) _ | refine Ext.trans ?_ (by assumption))), (_, _, _), rfl, NN.castY (by first | exact NN.nil _ | assumption | exact NN.ext (by assumption) (by repeat (first | assumption | exact Ext.refl _ | refine Ext.alloc ?_ _ | refine Ext.drew ?_ | refine Ext.setB ?_ (by first | omega | (simp only [size_alloc, size_setB, size_drew]; omega)) _ | refine Ext.trans ?_ (by assumption)))) (by simp [yblock])⟩
      · have hb18p := hb18.h; try simp only [al_ete, al_dfn, Bool.not_eq_true', Bool.not_eq_false', al_ne, Bool.not_not, al_nn] at hb18p
        refine W_seq ?_
        refine W_region rfl ?_
        refine WO_p (PS_eql rfl rfl) ?_
        refine WO_p (PS_assign_bool rfl) ?_
        refine WO_nil ?_
        refine thn_normal ?_
        refine W_if rfl (fun hb21 => ?_) (fun hb21 => ?_)
        · have hb21p := hb21.h; try simp only [al_ete, al_dfn, Bool.not_eq_true', Bool.not_eq_false', al_ne, Bool.not_not, al_nn] at hb21p
          have ho5 : o = 67 := by omega
          refine W_seq ?_
          refine W_region rfl ?_
          refine WO_p (PS_move_ptr rfl) ?_
          refine WO_p (PS_nilCheck rfl) ?_
          refine WO_p (PS_fieldAddr 20 Hvac.runUnderlying31 rfl Hvac.sizeOf26 rfl rfl) ?_
          refine WO_load (.int _ _) Hvac.isAgg26 rfl (Hb.h (by repeat (first | assumption | exact Hb.newY _ _ | refine Hb.alloc ?_ | refine Hb.drew ?_ | refine Hb.ext (by assumption) ?_ | exact Hb.setSameL (by first | omega | (simp only [size_alloc, size_setB, size_drew]; omega)) | exact Hb.setSame (by assumption) | refine Hb.set (by first | omega | (simp only [size_alloc, size_setB, size_drew]; omega)) ?_ ))) (Ce.h (by first | assumption | exact ⟨rfl⟩)) ?_
          refine WO_call Hvac.call19 (by rfl) (Ret.mono (nNum_spec (OmB.ext hO (by repeat (first | assumption | exact Ext.refl _ | refine Ext.alloc ?_ _ | refine Ext.drew ?_ | refine Ext.setB ?_ (by first | omega | (simp only [size_alloc, size_setB, size_drew]; omega)) _ | exact Ext.trans (by assumption) (by assumption) | refine Ext.trans ?_ (by assumption)))) ⟨by omega, by omega⟩) ?_)
          rintro _ w19_21 ⟨hE19_21, s19_21, rfl, hN19_21, hs19_21⟩
          have hz19_21 := hE19_21.1
          try simp only [size_alloc, size_setB, size_drew] at hz19_21
          try simp only [Int.toNat_natCast, toNat_lit] at hN19_21 hs19_21
          try simp only [show Int.toNat 1 = 1 from rfl] at hN19_21 hs19_21
          refine WO_p (PS_assign_slice rfl) ?_
          refine WO_nil ?_
          refine thn_normal ?_
          refine W_ret ?_
          refine inBlk_ret ?_
          refine thn_ret ?_
          refine bodyQ_ret1 Hvac.results204 rfl (.slice _ _ _) rfl ?_
          subst ho5; rw [← hEe]; exact ⟨(by repeat (first | assumption | exact Ext.refl _ | refine Ext.alloc ?_ _ | refine Ext.drew ?_ | refine Ext.setB ?_ (by first | omega | (simp only [size_alloc, size_setB, size_drew]; omega)) _ | refine Ext.trans ?_ (by assumption))), (_, _, _), rfl, NN.castY (by first | exact NN.nil _ | assumption | exact NN.ext (by assumption) (by repeat (first | assumption | exact Ext.refl _ | refine Ext.alloc ?_ _ | refine Ext.drew ?_ | refine Ext.setB ?_ (by first | omega | (simp only [size_alloc, size_setB, size_drew]; omega)) _ | refine Ext.trans ?_ (by assumption)))) (by simp [yblock])⟩
        · have hb21p := hb21.h; try simp only [al_ete, al_dfn, Bool.not_eq_true', Bool.not_eq_false', al_ne, Bool.not_not, al_nn] at hb21p
          refine W_seq ?_
          refine W_region rfl ?_
          refine WO_p (PS_eql rfl rfl) ?_
          refine WO_p (PS_assign_bool rfl) ?_
          refine WO_nil ?_
          refine thn_normal ?_
          refine W_if rfl (fun hb24 => ?_) (fun hb24 => ?_)
          · have hb24p := hb24.h; try simp only [al_ete, al_dfn, Bool.not_eq_true', Bool.not_eq_false', al_ne, Bool.not_not, al_nn] at hb24p
            have ho5 : o = 68 := by omega
            refine W_seq ?_
            refine W_region rfl ?_
            refine WO_p (PS_move_ptr rfl) ?_
            refine WO_p (PS_nilCheck rfl) ?_
            refine WO_p (PS_fieldAddr 23 Hvac.runUnderlying31 rfl Hvac.sizeOf28 rfl rfl) ?_
            refine WO_p (PS_slA Hvac.runUnderlying28 Hvac.sizeOf5 rfl (by omega)) ?_
            refine WO_call Hvac.call29 (by rfl) (Ret.mono (nBE_spec (OmB.ext hO (by repeat (first | assumption | exact Ext.refl _ | refine Ext.alloc ?_ _ | refine Ext.drew ?_ | refine Ext.setB ?_ (by first | omega | (simp only [size_alloc, size_setB, size_drew]; omega)) _ | exact Ext.trans (by assumption) (by assumption) | refine Ext.trans ?_ (by assumption)))) (by first | assumption | exact AB.ext (by assumption) (by repeat (first | assumption | exact Ext.refl _ | refine Ext.alloc ?_ _ | refine Ext.drew ?_ | refine Ext.setB ?_ (by first | omega | (simp only [size_alloc, size_setB, size_drew]; omega)) _ | exact Ext.trans (by assumption) (by assumption) | refine Ext.trans ?_ (by assumption))) | exact PB.ab (by assumption) | exact PB.ab (PB.ext (by assumption) (by repeat (first | assumption | exact Ext.refl _ | refine Ext.alloc ?_ _ | refine Ext.drew ?_ | refine Ext.setB ?_ (by first | omega | (simp only [size_alloc, size_setB, size_drew]; omega)) _ | exact Ext.trans (by assumption) (by assumption) | refine Ext.trans ?_ (by assumption))))) (by omega)) ?_)
            rintro _ w29_24 ⟨hE29_24, s29_24, rfl, hN29_24⟩
            have hz29_24 := hE29_24.1
            try simp only [size_alloc, size_setB, size_drew] at hz29_24
            have hs29_24 := hN29_24.z_bv
            refine WO_p (PS_assign_slice rfl) ?_
            refine WO_nil ?_
            refine thn_normal ?_
            refine W_ret ?_
            refine inBlk_ret ?_
            refine thn_ret ?_
            refine bodyQ_ret1 Hvac.results204 rfl (.slice _ _ _) rfl ?_
            subst ho5; rw [← hEe]; exact ⟨(by repeat (first | assumption | exact Ext.refl _ | refine Ext.alloc ?_ _ | refine Ext.drew ?_ | refine Ext.setB ?_ (by first | omega | (simp only [size_alloc, size_setB, size_drew]; omega)) _ | refine Ext.trans ?_ (by assumption))), (_, _, _), rfl, NN.castY (by first | exact NN.nil _ | assumption | exact NN.ext (by assumption) (by repeat (first | assumption | exact Ext.refl _ | refine Ext.alloc ?_ _ | refine Ext.drew ?_ | refine Ext.setB ?_ (by first | omega | (simp only [size_alloc, size_setB, size_drew]; omega)) _ | refine Ext.trans ?_ (by assumption)))) (by simp [yblock])⟩
          · have hb24p := hb24.h; try simp only [al_ete, al_dfn, Bool.not_eq_true', Bool.not_eq_false', al_ne, Bool.not_not, al_nn] at hb24p
            refine W_seq ?_
            refine W_region rfl ?_
            refine WO_p (PS_eql rfl rfl) ?_
            refine WO_p (PS_assign_bool rfl) ?_
            refine WO_nil ?_
            refine thn_normal ?_
            refine W_if rfl (fun hb27 => ?_) (fun hb27 => ?_)
            · have hb27p := hb27.h; try simp only [al_ete, al_dfn, Bool.not_eq_true', Bool.not_eq_false', al_ne, Bool.not_not, al_nn] at hb27p
              have ho5 : o = 69 := by omega
              refine W_seq ?_
              refine W_region rfl ?_
              refine WO_p (PS_move_ptr rfl) ?_
              refine WO_p (PS_nilCheck rfl) ?_
              refine WO_p (PS_fieldAddr 22 Hvac.runUnderlying31 rfl Hvac.sizeOf26 rfl rfl) ?_
              refine WO_load (.int _ _) Hvac.isAgg26 rfl (Hb.h (by repeat (first | assumption | exact Hb.newY _ _ | refine Hb.alloc ?_ | refine Hb.drew ?_ | refine Hb.ext (by assumption) ?_ | exact Hb.setSameL (by first | omega | (simp only [size_alloc, size_setB, size_drew]; omega)) | exact Hb.setSame (by assumption) | refine Hb.set (by first | omega | (simp only [size_alloc, size_setB, size_drew]; omega)) ?_ ))) (Ce.h (by first | assumption | exact ⟨rfl⟩)) ?_
              refine WO_call Hvac.call19 (by rfl) (Ret.mono (nNum_spec (OmB.ext hO (by repeat (first | assumption | exact Ext.refl _ | refine Ext.alloc ?_ _ | refine Ext.drew ?_ | refine Ext.setB ?_ (by first | omega | (simp only [size_alloc, size_setB, size_drew]; omega)) _ | exact Ext.trans (by assumption) (by assumption) | refine Ext.trans ?_ (by assumption)))) ⟨by omega, by omega⟩) ?_)
              rintro _ w19_27 ⟨hE19_27, s19_27, rfl, hN19_27, hs19_27⟩
              have hz19_27 := hE19_27.1
              try simp only [size_alloc, size_setB, size_drew] at hz19_27
              try simp only [Int.toNat_natCast, toNat_lit] at hN19_27 hs19_27
              try simp only [show Int.toNat 1 = 1 from rfl] at hN19_27 hs19_27
              refine WO_p (PS_assign_slice rfl) ?_
              refine WO_nil ?_
              refine thn_normal ?_
              refine W_ret ?_
              refine inBlk_ret ?_
              refine thn_ret ?_
              refine bodyQ_ret1 Hvac.results204 rfl (.slice _ _ _) rfl ?_
              subst ho5; rw [← hEe]; exact ⟨(by repeat (first | assumption | exact Ext.refl _ | refine Ext.alloc ?_ _ | refine Ext.drew ?_ | refine Ext.setB ?_ (by first | omega | (simp only [size_alloc, size_setB, size_drew]; omega)) _ | refine Ext.trans ?_ (by assumption))), (_, _, _), rfl, NN.castY (by first | exact NN.nil _ | assumption | exact NN.ext (by assumption) (by repeat (first | assumption | exact Ext.refl _ | refine Ext.alloc ?_ _ | refine Ext.drew ?_ | refine Ext.setB ?_ (by first | omega | (simp only [size_alloc, size_setB, size_drew]; omega)) _ | refine Ext.trans ?_ (by assumption)))) (by simp [yblock])⟩
            · have hb27p := hb27.h; try simp only [al_ete, al_dfn, Bool.not_eq_true', Bool.not_eq_false', al_ne, Bool.not_not, al_nn] at hb27p
              refine W_seq ?_
              refine W_region rfl ?_
              refine WO_p (PS_eql rfl rfl) ?_
              refine WO_p (PS_assign_bool rfl) ?_
              refine WO_nil ?_
              refine thn_normal ?_
              refine W_if rfl (fun hb30 => ?_) (fun hb30 => ?_)
              · have hb30p := hb30.h; try simp only [al_ete, al_dfn, Bool.not_eq_true', Bool.not_eq_false', al_ne, Bool.not_not, al_nn] at hb30p
                have ho5 : o = 72 := by omega
                refine W_seq ?_
                refine W_region rfl ?_
                refine WO_p (PS_move_ptr rfl) ?_
                refine WO_call Hvac.call78 (by rfl) (Ret.mono (yBaseFee_spec _ (OmB.ext hO (by repeat (first | assumption | exact Ext.refl _ | refine Ext.alloc ?_ _ | refine Ext.drew ?_ | refine Ext.setB ?_ (by first | omega | (simp only [size_alloc, size_setB, size_drew]; omega)) _ | exact Ext.trans (by assumption) (by assumption) | refine Ext.trans ?_ (by assumption)))) C x y (YSS.ext hS (by repeat (first | assumption | exact Ext.refl _ | refine Ext.alloc ?_ _ | refine Ext.drew ?_ | refine Ext.setB ?_ (by first | omega | (simp only [size_alloc, size_setB, size_drew]; omega)) _ | exact Ext.trans (by assumption) (by assumption) | refine Ext.trans ?_ (by assumption))))) ?_)
                rintro _ w78_30 ⟨hE78_30, s78_30, rfl, hN78_30⟩
                have hz78_30 := hE78_30.1
                try simp only [size_alloc, size_setB, size_drew] at hz78_30
                refine WO_p (PS_assign_slice rfl) ?_
                refine WO_nil ?_
                refine thn_normal ?_
                refine W_ret ?_
                refine inBlk_ret ?_
                refine thn_ret ?_
                refine bodyQ_ret1 Hvac.results204 rfl (.slice _ _ _) rfl ?_
                subst ho5; exact ⟨(by repeat (first | assumption | exact Ext.refl _ | refine Ext.alloc ?_ _ | refine Ext.drew ?_ | refine Ext.setB ?_ (by first | omega | (simp only [size_alloc, size_setB, size_drew]; omega)) _ | refine Ext.trans ?_ (by assumption))), (_, _, _), rfl, NN.castY (by first | exact NN.nil _ | assumption | exact NN.ext (by assumption) (by repeat (first | assumption | exact Ext.refl _ | refine Ext.alloc ?_ _ | refine Ext.drew ?_ | refine Ext.setB ?_ (by first | omega | (simp only [size_alloc, size_setB, size_drew]; omega)) _ | refine Ext.trans ?_ (by assumption)))) (by simp [yblock])⟩
              · have hb30p := hb30.h; try simp only [al_ete, al_dfn, Bool.not_eq_true', Bool.not_eq_false', al_ne, Bool.not_not, al_nn] at hb30p
                have ho5 : o = 70 := by omega
                refine W_skip ?_
                refine inBlk_normal ?_
                refine thn_normal ?_
                refine W_seq ?_
                refine W_region rfl ?_
                refine WO_p (PS_move_ptr rfl) ?_
                refine WO_p (PS_nilCheck rfl) ?_
                refine WO_p (PS_fieldAddr 55 Hvac.runUnderlying31 rfl Hvac.sizeOf28 rfl rfl) ?_
                refine WO_p (PS_slA Hvac.runUnderlying28 Hvac.sizeOf5 rfl (by omega)) ?_
                refine WO_call Hvac.call29 (by rfl) (Ret.mono (nBE_spec (OmB.ext hO (by repeat (first | assumption | exact Ext.refl _ | refine Ext.alloc ?_ _ | refine Ext.drew ?_ | refine Ext.setB ?_ (by first | omega | (simp only [size_alloc, size_setB, size_drew]; omega)) _ | exact Ext.trans (by assumption) (by assumption) | refine Ext.trans ?_ (by assumption)))) (by first | assumption | exact AB.ext (by assumption) (by repeat (first | assumption | exact Ext.refl _ | refine Ext.alloc ?_ _ | refine Ext.drew ?_ | refine Ext.setB ?_ (by first | omega | (simp only [size_alloc, size_setB, size_drew]; omega)) _ | exact Ext.trans (by assumption) (by assumption) | refine Ext.trans ?_ (by assumption))) | exact PB.ab (by assumption) | exact PB.ab (PB.ext (by assumption) (by repeat (first | assumption | exact Ext.refl _ | refine Ext.alloc ?_ _ | refine Ext.drew ?_ | refine Ext.setB ?_ (by first | omega | (simp only [size_alloc, size_setB, size_drew]; omega)) _ | exact Ext.trans (by assumption) (by assumption) | refine Ext.trans ?_ (by assumption))))) (by omega)) ?_)
                rintro _ w29_31 ⟨hE29_31, s29_31, rfl, hN29_31⟩
                have hz29_31 := hE29_31.1
                try simp only [size_alloc, size_setB, size_drew] at hz29_31
                have hs29_31 := hN29_31.z_bv
                refine WO_p (PS_assign_slice rfl) ?_
                refine WO_nil ?_
                refine thn_normal ?_
                refine W_ret ?_
                refine bodyQ_ret1 Hvac.results204 rfl (.slice _ _ _) rfl ?_
                subst ho5; rw [← hEe]; exact ⟨(by repeat (first | assumption | exact Ext.refl _ | refine Ext.alloc ?_ _ | refine Ext.drew ?_ | refine Ext.setB ?_ (by first | omega | (simp only [size_alloc, size_setB, size_drew]; omega)) _ | refine Ext.trans ?_ (by assumption))), (_, _, _), rfl, NN.castY (by first | exact NN.nil _ | assumption | exact NN.ext (by assumption) (by repeat (first | assumption | exact Ext.refl _ | refine Ext.alloc ?_ _ | refine Ext.drew ?_ | refine Ext.setB ?_ (by first | omega | (simp only [size_alloc, size_setB, size_drew]; omega)) _ | refine Ext.trans ?_ (by assumption)))) (by simp [yblock])⟩

set_option maxRecDepth 10000 in
set_option maxHeartbeats 4000000 in
theorem yAcVal_spec [Om] (w : World) (hO : OmB w) (ks : List Int → List Int) (hK : KSum ks) (xa : YAc) (a : PA) (ha : AcR w xa a) (hcd : a.code.length ≤ 1000000) (o : Int) (ho : o = 49 ∨ o = 59 ∨ o = 63) : Ret Hvac.prog 205 #[.agg (encYA xa).toArray, .int .u8 o] w fun u w' => Ext w w' ∧ ∃ s' : SV, u = .slice s'.1 s'.2.1 s'.2.2 ∧ NN w' s' (yacval ks a o) := by
  have hxl : xa.addr.length = 20 := by rw [ha.addr]; exact ha.ab.1
  have hsz : (encYA xa).toArray.size = 24 := by simpa using encYA_len hxl
  have hc2 := encYA_2 hxl
  have hc3 := encYA_3 hxl
  have hnb := ha.bal
  have hzb := ha.bz
  have hcp := ha.code
  have hcl := hcp.len
  have hkl := (hK.by_ a.code).1
  refine Ret_of_W Hvac.func205 rfl rfl ?_
  refine W_seq ?_
  refine W_region rfl ?_
  refine WO_boxG (.agg _) rfl ?_
  intro b2 v2 hg2 hE2 hH2 hl2
  try simp only [size_alloc, size_setB, size_drew] at hg2
  have hzz2 := hE2.1
  try simp only [size_alloc, size_setB, size_drew] at hzz2
  refine WO_p (PS_assign_slice rfl) ?_
  refine WO_nil ?_
  refine thn_normal ?_
  refine W_seq ?_
  refine W_seq ?_
  refine W_region rfl ?_
  refine WO_p (PS_move_int rfl) ?_
  refine WO_nil ?_
  refine thn_normal ?_
  refine W_block ?_
  refine W_seq ?_
  refine W_region rfl ?_
  refine WO_p (PS_eql rfl rfl) ?_
  refine WO_p (PS_assign_bool rfl) ?_
  refine WO_nil ?_
  refine thn_normal ?_
  refine W_if rfl (fun hb2 => ?_) (fun hb2 => ?_)
  · have hb2p := hb2.h; try simp only [al_ete, al_dfn, Bool.not_eq_true', Bool.not_eq_false', al_ne, Bool.not_not, al_nn] at hb2p
    have ho5 : o = 49 := by omega
    refine W_seq ?_
    refine W_region rfl ?_
    refine WO_p (PS_fieldAddr 21 Hvac.runUnderlying104 rfl Hvac.sizeOf92 rfl rfl) ?_
    refine WO_load (.slice _ _ _) Hvac.isAgg92 rfl (Hb.h (by repeat (first | assumption | exact Hb.newY _ _ | refine Hb.alloc ?_ | refine Hb.drew ?_ | refine Hb.ext (by assumption) ?_ | exact Hb.setSameL (by first | omega | (simp only [size_alloc, size_setB, size_drew]; omega)) | exact Hb.setSame (by assumption) | refine Hb.set (by first | omega | (simp only [size_alloc, size_setB, size_drew]; omega)) ?_ ))) (Ce.h (by first | assumption | exact ⟨rfl⟩)) ?_
    refine WO_call Hvac.call79 (by rfl) (Ret.mono (nNorm_spec (OmB.ext hO (by repeat (first | assumption | exact Ext.refl _ | refine Ext.alloc ?_ _ | refine Ext.drew ?_ | refine Ext.setB ?_ (by first | omega | (simp only [size_alloc, size_setB, size_drew]; omega)) _ | exact Ext.trans (by assumption) (by assumption) | refine Ext.trans ?_ (by assumption)))) (by first | exact NN.nil _ | assumption | exact NN.ext (by assumption) (by repeat (first | assumption | exact Ext.refl _ | refine Ext.alloc ?_ _ | refine Ext.drew ?_ | refine Ext.setB ?_ (by first | omega | (simp only [size_alloc, size_setB, size_drew]; omega)) _ | exact Ext.trans (by assumption) (by assumption) | refine Ext.trans ?_ (by assumption)))) (by first | assumption | omega | (rw [sz_zero]; omega))) ?_)
    rintro _ w79_2 ⟨hE79_2, s79_2, rfl, hN79_2⟩
    have hz79_2 := hE79_2.1
    try simp only [size_alloc, size_setB, size_drew] at hz79_2
    refine WO_p (PS_assign_slice rfl) ?_
    refine WO_nil ?_
    refine thn_normal ?_
    refine W_ret ?_
    refine inBlk_ret ?_
    refine thn_ret ?_
    refine bodyQ_ret1 Hvac.results205 rfl (.slice _ _ _) rfl ?_
    subst ho5
    first
    | exact ⟨(by repeat (first | assumption | exact Ext.refl _ | refine Ext.alloc ?_ _ | refine Ext.drew ?_ | refine Ext.setB ?_ (by first | omega | (simp only [size_alloc, size_setB, size_drew]; omega)) _ | refine Ext.trans ?_ (by assumption))), (none, 0, 0), rfl, NN.castY (NN.nil _) (by unfold yacval; rw [if_neg (by decide), if_neg (by decide), if_pos hem])⟩
    | exact ⟨(by repeat (first | assumption | exact Ext.refl _ | refine Ext.alloc ?_ _ | refine Ext.drew ?_ | refine Ext.setB ?_ (by first | omega | (simp only [size_alloc, size_setB, size_drew]; omega)) _ | refine Ext.trans ?_ (by assumption))), (_, _, _), rfl, NN.castY (by first | exact NN.nil _ | assumption | exact NN.ext (by assumption) (by repeat (first | assumption | exact Ext.refl _ | refine Ext.alloc ?_ _ | refine Ext.drew ?_ | refine Ext.setB ?_ (by first | omega | (simp only [size_alloc, size_setB, size_drew]; omega)) _ | refine Ext.trans ?_ (by assumption)))) (by unfold yacval; rw [if_neg (by decide), if_neg (by decide), if_neg hem])⟩
    | exact ⟨(by repeat (first | assumption | exact Ext.refl _ | refine Ext.alloc ?_ _ | refine Ext.drew ?_ | refine Ext.setB ?_ (by first | omega | (simp only [size_alloc, size_setB, size_drew]; omega)) _ | refine Ext.trans ?_ (by assumption))), (_, _, _), rfl, NN.castY (by first | exact NN.nil _ | assumption | exact NN.ext (by assumption) (by repeat (first | assumption | exact Ext.refl _ | refine Ext.alloc ?_ _ | refine Ext.drew ?_ | refine Ext.setB ?_ (by first | omega | (simp only [size_alloc, size_setB, size_drew]; omega)) _ | refine Ext.trans ?_ (by assumption)))) (by simp [yacval, hcl])⟩
  · have hb2p := hb2.h; try simp only [al_ete, al_dfn, Bool.not_eq_true', Bool.not_eq_false', al_ne, Bool.not_not, al_nn] at hb2p
    refine W_seq ?_
    refine W_region rfl ?_
    refine WO_p (PS_eql rfl rfl) ?_
    refine WO_p (PS_assign_bool rfl) ?_
    refine WO_nil ?_
    refine thn_normal ?_
    refine W_if rfl (fun hb5 => ?_) (fun hb5 => ?_)
    · have hb5p := hb5.h; try simp only [al_ete, al_dfn, Bool.not_eq_true', Bool.not_eq_false', al_ne, Bool.not_not, al_nn] at hb5p
      have ho5 : o = 59 := by omega
      refine W_seq ?_
      refine W_region rfl ?_
      refine WO_p (PS_fieldAddr 22 Hvac.runUnderlying104 rfl Hvac.sizeOf32 rfl rfl) ?_
      refine WO_load (.slice _ _ _) Hvac.isAgg32 rfl (Hb.h (by repeat (first | assumption | exact Hb.newY _ _ | refine Hb.alloc ?_ | refine Hb.drew ?_ | refine Hb.ext (by assumption) ?_ | exact Hb.setSameL (by first | omega | (simp only [size_alloc, size_setB, size_drew]; omega)) | exact Hb.setSame (by assumption) | refine Hb.set (by first | omega | (simp only [size_alloc, size_setB, size_drew]; omega)) ?_ ))) (Ce.h (by first | assumption | exact ⟨rfl⟩)) ?_
      refine WO_p (PS_lenS Hvac.runUnderlying32 rfl) ?_
      refine WO_p (PS_conv_u64n Hvac.runUnderlying3 Hvac.runUnderlying26 rfl (by omega) (by omega)) ?_
      refine WO_call Hvac.call19 (by rfl) (Ret.mono (nNum_spec (OmB.ext hO (by repeat (first | assumption | exact Ext.refl _ | refine Ext.alloc ?_ _ | refine Ext.drew ?_ | refine Ext.setB ?_ (by first | omega | (simp only [size_alloc, size_setB, size_drew]; omega)) _ | exact Ext.trans (by assumption) (by assumption) | refine Ext.trans ?_ (by assumption)))) ⟨by omega, by omega⟩) ?_)
      rintro _ w19_5 ⟨hE19_5, s19_5, rfl, hN19_5, hs19_5⟩
      have hz19_5 := hE19_5.1
      try simp only [size_alloc, size_setB, size_drew] at hz19_5
      try simp only [Int.toNat_natCast, toNat_lit] at hN19_5 hs19_5
      refine WO_p (PS_assign_slice rfl) ?_
      refine WO_nil ?_
      refine thn_normal ?_
      refine W_ret ?_
      refine inBlk_ret ?_
      refine thn_ret ?_
      refine bodyQ_ret1 Hvac.results205 rfl (.slice _ _ _) rfl ?_
      subst ho5
      first
      | exact ⟨(by repeat (first | assumption | exact Ext.refl _ | refine Ext.alloc ?_ _ | refine Ext.drew ?_ | refine Ext.setB ?_ (by first | omega | (simp only [size_alloc, size_setB, size_drew]; omega)) _ | refine Ext.trans ?_ (by assumption))), (none, 0, 0), rfl, NN.castY (NN.nil _) (by unfold yacval; rw [if_neg (by decide), if_neg (by decide), if_pos hem])⟩
      | exact ⟨(by repeat (first | assumption | exact Ext.refl _ | refine Ext.alloc ?_ _ | refine Ext.drew ?_ | refine Ext.setB ?_ (by first | omega | (simp only [size_alloc, size_setB, size_drew]; omega)) _ | refine Ext.trans ?_ (by assumption))), (_, _, _), rfl, NN.castY (by first | exact NN.nil _ | assumption | exact NN.ext (by assumption) (by repeat (first | assumption | exact Ext.refl _ | refine Ext.alloc ?_ _ | refine Ext.drew ?_ | refine Ext.setB ?_ (by first | omega | (simp only [size_alloc, size_setB, size_drew]; omega)) _ | refine Ext.trans ?_ (by assumption)))) (by unfold yacval; rw [if_neg (by decide), if_neg (by decide), if_neg hem])⟩
      | exact ⟨(by repeat (first | assumption | exact Ext.refl _ | refine Ext.alloc ?_ _ | refine Ext.drew ?_ | refine Ext.setB ?_ (by first | omega | (simp only [size_alloc, size_setB, size_drew]; omega)) _ | refine Ext.trans ?_ (by assumption))), (_, _, _), rfl, NN.castY (by first | exact NN.nil _ | assumption | exact NN.ext (by assumption) (by repeat (first | assumption | exact Ext.refl _ | refine Ext.alloc ?_ _ | refine Ext.drew ?_ | refine Ext.setB ?_ (by first | omega | (simp only [size_alloc, size_setB, size_drew]; omega)) _ | refine Ext.trans ?_ (by assumption)))) (by simp [yacval, hcl])⟩
    · have hb5p := hb5.h; try simp only [al_ete, al_dfn, Bool.not_eq_true', Bool.not_eq_false', al_ne, Bool.not_not, al_nn] at hb5p
      have ho5 : o = 63 := by omega
      refine W_skip ?_
      refine inBlk_normal ?_
      refine thn_normal ?_
      refine W_seq ?_
      refine W_seq ?_
      refine W_region rfl ?_
      refine WO_call Hvac.call163 (by rfl) (Ret.mono (yEmpty_spec _ (OmB.ext hO (by repeat (first | assumption | exact Ext.refl _ | refine Ext.alloc ?_ _ | refine Ext.drew ?_ | refine Ext.setB ?_ (by first | omega | (simp only [size_alloc, size_setB, size_drew]; omega)) _ | exact Ext.trans (by assumption) (by assumption) | refine Ext.trans ?_ (by assumption)))) _ _ _ xa a (Hb.mk (Hb.h (by repeat (first | assumption | exact Hb.newY _ _ | refine Hb.alloc ?_ | refine Hb.drew ?_ | refine Hb.ext (by assumption) ?_ | exact Hb.setSameL (by first | omega | (simp only [size_alloc, size_setB, size_drew]; omega)) | exact Hb.setSame (by assumption) | refine Hb.set (by first | omega | (simp only [size_alloc, size_setB, size_drew]; omega)) ?_ )))) (AcR.ext ha (by repeat (first | assumption | exact Ext.refl _ | refine Ext.alloc ?_ _ | refine Ext.drew ?_ | refine Ext.setB ?_ (by first | omega | (simp only [size_alloc, size_setB, size_drew]; omega)) _ | exact Ext.trans (by assumption) (by assumption) | refine Ext.trans ?_ (by assumption)))) hcd) ?_)
      rintro _ w163_6 ⟨hE163_6, rfl⟩
      have hz163_6 := hE163_6.1
      try simp only [size_alloc, size_setB, size_drew] at hz163_6
      refine WO_nil ?_
      refine thn_normal ?_
      refine W_if rfl (fun hb8 => ?_) (fun hb8 => ?_)
      · have hb8p := hb8.h; try simp only [al_ete, al_dfn, Bool.not_eq_true', Bool.not_eq_false', al_ne, Bool.not_not, al_nn] at hb8p
        have hem : yempty a = true := hb8p
        refine W_seq ?_
        refine W_region rfl ?_
        refine WO_p (PS_assign_slice rfl) ?_
        refine WO_nil ?_
        refine thn_normal ?_
        refine W_ret ?_
        refine thn_ret ?_
        refine bodyQ_ret1 Hvac.results205 rfl (.slice _ _ _) rfl ?_
        subst ho5
        first
        | exact ⟨(by repeat (first | assumption | exact Ext.refl _ | refine Ext.alloc ?_ _ | refine Ext.drew ?_ | refine Ext.setB ?_ (by first | omega | (simp only [size_alloc, size_setB, size_drew]; omega)) _ | refine Ext.trans ?_ (by assumption))), (none, 0, 0), rfl, NN.castY (NN.nil _) (by unfold yacval; rw [if_neg (by decide), if_neg (by decide), if_pos hem])⟩
        | exact ⟨(by repeat (first | assumption | exact Ext.refl _ | refine Ext.alloc ?_ _ | refine Ext.drew ?_ | refine Ext.setB ?_ (by first | omega | (simp only [size_alloc, size_setB, size_drew]; omega)) _ | refine Ext.trans ?_ (by assumption))), (_, _, _), rfl, NN.castY (by first | exact NN.nil _ | assumption | exact NN.ext (by assumption) (by repeat (first | assumption | exact Ext.refl _ | refine Ext.alloc ?_ _ | refine Ext.drew ?_ | refine Ext.setB ?_ (by first | omega | (simp only [size_alloc, size_setB, size_drew]; omega)) _ | refine Ext.trans ?_ (by assumption)))) (by unfold yacval; rw [if_neg (by decide), if_neg (by decide), if_neg hem])⟩
        | exact ⟨(by repeat (first | assumption | exact Ext.refl _ | refine Ext.alloc ?_ _ | refine Ext.drew ?_ | refine Ext.setB ?_ (by first | omega | (simp only [size_alloc, size_setB, size_drew]; omega)) _ | refine Ext.trans ?_ (by assumption))), (_, _, _), rfl, NN.castY (by first | exact NN.nil _ | assumption | exact NN.ext (by assumption) (by repeat (first | assumption | exact Ext.refl _ | refine Ext.alloc ?_ _ | refine Ext.drew ?_ | refine Ext.setB ?_ (by first | omega | (simp only [size_alloc, size_setB, size_drew]; omega)) _ | refine Ext.trans ?_ (by assumption)))) (by simp [yacval, hcl])⟩
      · have hb8p := hb8.h; try simp only [al_ete, al_dfn, Bool.not_eq_true', Bool.not_eq_false', al_ne, Bool.not_not, al_nn] at hb8p
        have hem : ¬ yempty a = true := by simp [hb8p]
        refine W_skip ?_
        refine thn_normal ?_
        refine W_seq ?_
        refine W_region rfl ?_
        refine WO_p (PS_fieldAddr 22 Hvac.runUnderlying104 rfl Hvac.sizeOf32 rfl rfl) ?_
        refine WO_load (.slice _ _ _) Hvac.isAgg32 rfl (Hb.h (by repeat (first | assumption | exact Hb.newY _ _ | refine Hb.alloc ?_ | refine Hb.drew ?_ | refine Hb.ext (by assumption) ?_ | exact Hb.setSameL (by first | omega | (simp only [size_alloc, size_setB, size_drew]; omega)) | exact Hb.setSame (by assumption) | refine Hb.set (by first | omega | (simp only [size_alloc, size_setB, size_drew]; omega)) ?_ ))) (Ce.h (by first | assumption | exact ⟨rfl⟩)) ?_
        refine WO_call Hvac.call160 (by rfl) (Ret.mono (hK.spec _ _ _ _ _ (by first | assumption | exact AB.ext (by assumption) (by repeat (first | assumption | exact Ext.refl _ | refine Ext.alloc ?_ _ | refine Ext.drew ?_ | refine Ext.setB ?_ (by first | omega | (simp only [size_alloc, size_setB, size_drew]; omega)) _ | exact Ext.trans (by assumption) (by assumption) | refine Ext.trans ?_ (by assumption))) | exact PB.ab (by assumption) | exact PB.ab (PB.ext (by assumption) (by repeat (first | assumption | exact Ext.refl _ | refine Ext.alloc ?_ _ | refine Ext.drew ?_ | refine Ext.setB ?_ (by first | omega | (simp only [size_alloc, size_setB, size_drew]; omega)) _ | exact Ext.trans (by assumption) (by assumption) | refine Ext.trans ?_ (by assumption))))) (by omega)) ?_)
        rintro _ w160_8 ⟨hE160_8, rfl⟩
        have hz160_8 := hE160_8.1
        try simp only [size_alloc, size_setB, size_drew] at hz160_8
        refine WO_allocG Hvac.zeroValue27 ?_
        intro b5 v5 hg5 hE5 hH5 hl5
        try simp only [size_alloc, size_setB, size_drew] at hg5
        have hzz5 := hE5.1
        try simp only [size_alloc, size_setB, size_drew] at hzz5
        replace hH5 : Hb v5 b5 (.cells (ic .u8 (List.replicate 32 0)) 27 (0, 0)) := hH5
        first | refine WO_storeW Hvac.sizeOf27 rfl (v := .agg _) rfl (Hb.h (by repeat (first | assumption | exact Hb.newY _ _ | refine Hb.alloc ?_ | refine Hb.drew ?_ | refine Hb.ext (by assumption) ?_ | exact Hb.setSameL (by first | omega | (simp only [size_alloc, size_setB, size_drew]; omega)) | exact Hb.setSame (by assumption) | refine Hb.set (by first | omega | (simp only [size_alloc, size_setB, size_drew]; omega)) ?_ ))) rfl (by first | omega | assumption | rfl | decide | exact Nat.le_refl _ | (simp only [size_ic, Value.cells]; omega) | (simp [encWs]; done) | (simp; omega) | simp | exact encYA_sz (by assumption) | exact encYT_sz (by assumption) | exact encYM_sz (by assumption)) (by first | omega | assumption | rfl | decide | exact Nat.le_refl _ | (simp only [size_ic, Value.cells]; omega) | (simp [encWs]; done) | (simp; omega) | simp | exact encYA_sz (by assumption) | exact encYT_sz (by assumption) | exact encYM_sz (by assumption)) (by first | exact oneCell_ic | assumption | exact one_Ws2 _ | exact one_YA2 _ | exact one_YSl2 _ | exact one_YM2 _ | exact one_YT2 _ | exact one_L2 _) ?_ | refine WO_store Hvac.sizeOf27 rfl (v := .agg _) rfl (Hb.h (by repeat (first | assumption | exact Hb.newY _ _ | refine Hb.alloc ?_ | refine Hb.drew ?_ | refine Hb.ext (by assumption) ?_ | exact Hb.setSameL (by first | omega | (simp only [size_alloc, size_setB, size_drew]; omega)) | exact Hb.setSame (by assumption) | refine Hb.set (by first | omega | (simp only [size_alloc, size_setB, size_drew]; omega)) ?_ ))) (by first | omega | assumption | rfl | decide | exact Nat.le_refl _ | (simp only [size_ic, Value.cells]; omega) | (simp [encWs]; done) | (simp; omega) | simp | exact encYA_sz (by assumption) | exact encYT_sz (by assumption) | exact encYM_sz (by assumption)) (by first | omega | assumption | rfl | decide | exact Nat.le_refl _ | (simp only [size_ic, Value.cells]; omega) | (simp [encWs]; done) | (simp; omega) | simp | exact encYA_sz (by assumption) | exact encYT_sz (by assumption) | exact encYM_sz (by assumption)) (by first | exact oneCell_ic | assumption | exact one_Ws2 _ | exact one_YA2 _ | exact one_YSl2 _ | exact one_YM2 _ | exact one_YT2 _ | exact one_L2 _) ?_
        refine WO_nil ?_
        refine thn_normal ?_
        refine W_seq ?_
        refine W_region rfl ?_
        refine WO_p (PS_slA Hvac.runUnderlying27 Hvac.sizeOf5 rfl (by omega)) ?_
        refine WO_call Hvac.call29 (by rfl) (Ret.mono (nBE_spec (OmB.ext hO (by repeat (first | assumption | exact Ext.refl _ | refine Ext.alloc ?_ _ | refine Ext.drew ?_ | refine Ext.setB ?_ (by first | omega | (simp only [size_alloc, size_setB, size_drew]; omega)) _ | exact Ext.trans (by assumption) (by assumption) | refine Ext.trans ?_ (by assumption)))) (AB.all (Hb.mk (Hb.h (by repeat (first | assumption | exact Hb.newY _ _ | refine Hb.alloc ?_ | refine Hb.drew ?_ | refine Hb.ext (by assumption) ?_ | exact Hb.setSameL (by first | omega | (simp only [size_alloc, size_setB, size_drew]; omega)) | exact Hb.setSame (by assumption) | refine Hb.set (by first | omega | (simp only [size_alloc, size_setB, size_drew]; omega)) ?_ )))) (hK.by_ a.code).2 hkl) (by omega)) ?_)
        rintro _ w29_9 ⟨hE29_9, s29_9, rfl, hN29_9⟩
        have hz29_9 := hE29_9.1
        try simp only [size_alloc, size_setB, size_drew] at hz29_9
        refine WO_p (PS_assign_slice rfl) ?_
        refine WO_nil ?_
        refine thn_normal ?_
        refine W_ret ?_
        refine bodyQ_ret1 Hvac.results205 rfl (.slice _ _ _) rfl ?_
        subst ho5
        first
        | exact ⟨(by repeat (first | assumption | exact Ext.refl _ | refine Ext.alloc ?_ _ | refine Ext.drew ?_ | refine Ext.setB ?_ (by first | omega | (simp only [size_alloc, size_setB, size_drew]; omega)) _ | refine Ext.trans ?_ (by assumption))), (none, 0, 0), rfl, NN.castY (NN.nil _) (by unfold yacval; rw [if_neg (by decide), if_neg (by decide), if_pos hem])⟩
        | exact ⟨(by repeat (first | assumption | exact Ext.refl _ | refine Ext.alloc ?_ _ | refine Ext.drew ?_ | refine Ext.setB ?_ (by first | omega | (simp only [size_alloc, size_setB, size_drew]; omega)) _ | refine Ext.trans ?_ (by assumption))), (_, _, _), rfl, NN.castY (by first | exact NN.nil _ | assumption | exact NN.ext (by assumption) (by repeat (first | assumption | exact Ext.refl _ | refine Ext.alloc ?_ _ | refine Ext.drew ?_ | refine Ext.setB ?_ (by first | omega | (simp only [size_alloc, size_setB, size_drew]; omega)) _ | refine Ext.trans ?_ (by assumption)))) (by unfold yacval; rw [if_neg (by decide), if_neg (by decide), if_neg hem])⟩
        | exact ⟨(by repeat (first | assumption | exact Ext.refl _ | refine Ext.alloc ?_ _ | refine Ext.drew ?_ | refine Ext.setB ?_ (by first | omega | (simp only [size_alloc, size_setB, size_drew]; omega)) _ | refine Ext.trans ?_ (by assumption))), (_, _, _), rfl, NN.castY (by first | exact NN.nil _ | assumption | exact NN.ext (by assumption) (by repeat (first | assumption | exact Ext.refl _ | refine Ext.alloc ?_ _ | refine Ext.drew ?_ | refine Ext.setB ?_ (by first | omega | (simp only [size_alloc, size_setB, size_drew]; omega)) _ | refine Ext.trans ?_ (by assumption)))) (by simp [yacval, hcl])⟩

end Go.Proofs.YgvacwGreat
