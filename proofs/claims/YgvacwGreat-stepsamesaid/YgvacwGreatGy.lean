import Derived.Test.YgvacwGreatGx
namespace Go.Proofs.YgvacwGreat
set_option linter.unusedSimpArgs false
set_option linter.unusedVariables false
/-! the state is turned -/
structure SStep [Om] (w w' : World) (C : Nat) (x' : YSt) (y' : PSt) : Prop where
  keep : KeepO (fun b => b = C) w w'
  ss : YSS w' C x' y'
theorem SStep.ko [Om] {w w' : World} {C : Nat} {x' : YSt} {y' : PSt} (h : SStep w w' C x' y') : KeepO Om.p w w' := h.keep.om fun b _ e => e ▸ h.ss.om
theorem SStep.put [Om] {w w1 w2 : World} {C : Nat} {x x' : YSt} {y y' : PSt} {c : Array Value} (hS : YSS w C x y) (hE : Ext w w1) (hr : StRel w1 x' y') (hc : c = (encYS x').toArray) (h2 : w2 = setB w1 C (.cells c 101 (0, 0))) : SStep w w2 C x' y' := by
  subst h2; subst hc
  exact ⟨keepS hE _ _, Hb.setSame (hS.blk.ext hE), hr.keep (keepSO (Ext.refl _) hS.om _) (KT.setB (hS.blk.ext hE) (by decide)), hS.om⟩
theorem SStep.trans [Om] {w w1 w2 : World} {C : Nat} {x1 x2 : YSt} {y1 y2 : PSt} (h : SStep w w1 C x1 y1) (h2 : SStep w1 w2 C x2 y2) : SStep w w2 C x2 y2 := ⟨h.keep.trans h2.keep (fun _ _ e => e), h2.ss⟩
theorem SStep.extR [Om] {w w1 w2 : World} {C : Nat} {x1 : YSt} {y1 : PSt} (h : SStep w w1 C x1 y1) (he : Ext w1 w2) : SStep w w2 C x1 y1 := ⟨h.keep.extR he, h.ss.ext he⟩
theorem SStep.refl [Om] {w : World} {C : Nat} {x : YSt} {y : PSt} (h : YSS w C x y) : SStep w w C x y := ⟨KeepO.refl _ _, h⟩
theorem encYS_size (x : YSt) : 18 < (encYS x).toArray.size := by simp [encYS]
theorem encYS_0 (x : YSt) (s : SV) : (encYS x).toArray.setIfInBounds (0 + 0) (.slice s.1 s.2.1 s.2.2) = (encYS ({ x with now := { x.now with accts := s } })).toArray := by rw [List.setIfInBounds_toArray]; rfl
theorem encYS_1 (x : YSt) (s : SV) : (encYS x).toArray.setIfInBounds (0 + 1) (.slice s.1 s.2.1 s.2.2) = (encYS ({ x with now := { x.now with warmA := s } })).toArray := by rw [List.setIfInBounds_toArray]; rfl
theorem encYS_2 (x : YSt) (s : SV) : (encYS x).toArray.setIfInBounds (0 + 2) (.slice s.1 s.2.1 s.2.2) = (encYS ({ x with now := { x.now with warmS := s } })).toArray := by rw [List.setIfInBounds_toArray]; rfl
theorem encYS_3 (x : YSt) (s : SV) : (encYS x).toArray.setIfInBounds (0 + 3) (.slice s.1 s.2.1 s.2.2) = (encYS ({ x with now := { x.now with ref := s } })).toArray := by rw [List.setIfInBounds_toArray]; rfl
theorem encYS_4 (x : YSt) (s : SV) : (encYS x).toArray.setIfInBounds (0 + 4) (.slice s.1 s.2.1 s.2.2) = (encYS ({ x with now := { x.now with logs := s } })).toArray := by rw [List.setIfInBounds_toArray]; rfl
theorem encYS_5 (x : YSt) (s : SV) : (encYS x).toArray.setIfInBounds (0 + 5) (.slice s.1 s.2.1 s.2.2) = (encYS ({ x with now := { x.now with temps := s } })).toArray := by rw [List.setIfInBounds_toArray]; rfl
theorem encYS_6 (x : YSt) (s : SV) : (encYS x).toArray.setIfInBounds (0 + 6) (.slice s.1 s.2.1 s.2.2) = (encYS ({ x with now := { x.now with made := s } })).toArray := by rw [List.setIfInBounds_toArray]; rfl
theorem encYS_7 (x : YSt) (s : SV) : (encYS x).toArray.setIfInBounds (0 + 7) (.slice s.1 s.2.1 s.2.2) = (encYS ({ x with now := { x.now with gone := s } })).toArray := by rw [List.setIfInBounds_toArray]; rfl
theorem encYS_8 (x : YSt) (s : SV) : (encYS x).toArray.setIfInBounds (0 + 8) (.slice s.1 s.2.1 s.2.2) = (encYS ({ x with start := s })).toArray := by rw [List.setIfInBounds_toArray]; rfl
theorem encYS_9 (x : YSt) (s : SV) : (encYS x).toArray.setIfInBounds (0 + 9) (.slice s.1 s.2.1 s.2.2) = (encYS ({ x with frames := s })).toArray := by rw [List.setIfInBounds_toArray]; rfl
theorem encYS_10 (x : YSt) (s : SV) : (encYS x).toArray.setIfInBounds (0 + 10) (.slice s.1 s.2.1 s.2.2) = (encYS ({ x with ret := s })).toArray := by rw [List.setIfInBounds_toArray]; rfl
theorem encYS_14 (x : YSt) (s : SV) : (encYS x).toArray.setIfInBounds (0 + 14) (.slice s.1 s.2.1 s.2.2) = (encYS ({ x with limit := s })).toArray := by rw [List.setIfInBounds_toArray]; rfl
theorem encYS_15 (x : YSt) (s : SV) : (encYS x).toArray.setIfInBounds (0 + 15) (.slice s.1 s.2.1 s.2.2) = (encYS ({ x with txGas := s })).toArray := by rw [List.setIfInBounds_toArray]; rfl
theorem encYS_16 (x : YSt) (s : SV) : (encYS x).toArray.setIfInBounds (0 + 16) (.slice s.1 s.2.1 s.2.2) = (encYS ({ x with left := s })).toArray := by rw [List.setIfInBounds_toArray]; rfl
theorem encYS_17 (x : YSt) (s : SV) : (encYS x).toArray.setIfInBounds (0 + 17) (.slice s.1 s.2.1 s.2.2) = (encYS ({ x with price := s })).toArray := by rw [List.setIfInBounds_toArray]; rfl
theorem encYS_18 (x : YSt) (s : SV) : (encYS x).toArray.setIfInBounds (0 + 18) (.slice s.1 s.2.1 s.2.2) = (encYS ({ x with total := s })).toArray := by rw [List.setIfInBounds_toArray]; rfl
theorem encYS_11 (x : YSt) (n : Nat) : (encYS x).toArray.setIfInBounds (0 + 11) (.int .u8 n) = (encYS { x with phase := n }).toArray := by rw [List.setIfInBounds_toArray]; rfl
theorem encYS_12 (x : YSt) (n : Nat) : (encYS x).toArray.setIfInBounds (0 + 12) (.int .u8 n) = (encYS { x with status := n }).toArray := by rw [List.setIfInBounds_toArray]; rfl
theorem encYS_13 (x : YSt) (n : Nat) : (encYS x).toArray.setIfInBounds (0 + 13) (.int .u8 n) = (encYS { x with applied := n }).toArray := by rw [List.setIfInBounds_toArray]; rfl
def ysAccts (y : PSt) (l : List PA) : PSt := { y with now := { y.now with accts := l } }
def ysWarmA (y : PSt) (l : List (List Int)) : PSt := { y with now := { y.now with warmA := l } }
def ysWarmS (y : PSt) (l : List (List Int × Nat)) : PSt := { y with now := { y.now with warmS := l } }
def ysTemps (y : PSt) (l : List (List Int × Nat × Nat)) : PSt := { y with now := { y.now with temps := l } }
def xsAccts (x : YSt) (s : SV) : YSt := { x with now := { x.now with accts := s } }
def xsWarmA (x : YSt) (s : SV) : YSt := { x with now := { x.now with warmA := s } }
def xsWarmS (x : YSt) (s : SV) : YSt := { x with now := { x.now with warmS := s } }
def xsTemps (x : YSt) (s : SV) : YSt := { x with now := { x.now with temps := s } }
section
variable [Om] {w : World} {C : Nat} {x : YSt} {y : PSt} {N : Nat} {A B : List Int} {vp kp : Option Addr} {vn vc v kn kc k : Nat}
theorem toSS {w' : World} {x' : YSt} {y' : PSt} {c : Array Value} (hS : YSS w C x y) (hk : KeepO (fun b => b = C) w w') (hb : Hb w' C (.cells c 101 (0, 0))) (hc : c = (encYS x').toArray) (hr : StRel w' x' y') : SStep w w' C x' y' := by subst hc; exact ⟨hk, hb, hr, hS.om⟩
theorem YSS.kpC {w' : World} (hS : YSS w C x y) (hk : KeepO (fun b => b = C) w w') : StRel w' x y := hS.rel.keep (hk.om fun b _ e => e ▸ hS.om) (KT.kf hS.blk hk (by decide))
theorem setNonceS (hO : OmB w) (hS : YSS w C x y) (hB : PSB N y) (hN : N ≤ 99999990) (hA : By A 20) (hv : NN w (vp, vn, vc) v) (zv : sz v ≤ 40) : Ret Hvac.prog 23 #[.pointer (some ⟨C, 0, none⟩), .agg (ic .u8 A), .slice vp vn vc] w fun u w' => u = .tuple #[] ∧ ∃ s' : SV, SStep w w' C (xsAccts x s') (ysAccts y (ysetNonce y.now.accts A v)) := by
  refine Ret.mono (ySetNonce_spec w hO C _ 101 x.now.accts y.now.accts hS.blk ⟨rfl⟩ hS.rel.now.accts (Nat.le_trans hB.now.al (by omega)) hS.om (by have := encYS_size x; omega) hB.now.cd A hA vp vn vc v hv zv) ?_
  rintro u w' ⟨h1, h2, s', h3, h4⟩
  exact ⟨h1, s', toSS hS h2 h3 (encYS_0 x s') { hS.kpC h2 with now := { (hS.kpC h2).now with accts := h4 } }⟩
theorem setBalS (hO : OmB w) (hS : YSS w C x y) (hB : PSB N y) (hN : N ≤ 99999990) (hA : By A 20) (hv : NN w (vp, vn, vc) v) (zv : sz v ≤ 40) : Ret Hvac.prog 25 #[.pointer (some ⟨C, 0, none⟩), .agg (ic .u8 A), .slice vp vn vc] w fun u w' => u = .tuple #[] ∧ ∃ s' : SV, SStep w w' C (xsAccts x s') (ysAccts y (ysetBal y.now.accts A v)) := by
  refine Ret.mono (ySetBal_spec w hO C _ 101 x.now.accts y.now.accts hS.blk ⟨rfl⟩ hS.rel.now.accts (Nat.le_trans hB.now.al (by omega)) hS.om (by have := encYS_size x; omega) hB.now.cd A hA vp vn vc v hv zv) ?_
  rintro u w' ⟨h1, h2, s', h3, h4⟩
  exact ⟨h1, s', toSS hS h2 h3 (encYS_0 x s') { hS.kpC h2 with now := { (hS.kpC h2).now with accts := h4 } }⟩
theorem putS (hO : OmB w) (hS : YSS w C x y) (hB : PSB N y) (hN : N ≤ 99999990) {xa : YAc} {a : PA} (hx : AcR w xa a) (hcd : a.code.length ≤ 1000000) : Ret Hvac.prog 85 #[.pointer (some ⟨C, 0, none⟩), .agg (encYA xa).toArray] w fun u w' => u = .tuple #[] ∧ ∃ s' : SV, SStep w w' C (xsAccts x s') (ysAccts y (yput y.now.accts a)) := by
  refine Ret.mono (yPut_spec w hO C _ 101 x.now.accts y.now.accts hS.blk ⟨rfl⟩ hS.rel.now.accts (Nat.le_trans hB.now.al (by omega)) hS.om (by have := encYS_size x; omega) xa a hx hcd) ?_
  rintro u w' ⟨h1, h2, s', h3, h4⟩
  exact ⟨h1, s', toSS hS h2 h3 (encYS_0 x s') { hS.kpC h2 with now := { (hS.kpC h2).now with accts := h4 } }⟩
theorem moveS (hO : OmB w) (hS : YSS w C x y) (hB : PSB N y) (hN : N ≤ 99999990) (hA : By A 20) (hB2 : By B 20) (hv : NN w (vp, vn, vc) v) (zv : sz v ≤ 32) (hsum : v ≤ (yacct y.now.accts A).bal → sz ((yacct (ysetBal y.now.accts A ((yacct y.now.accts A).bal - v)) B).bal + v) ≤ 40) : Ret Hvac.prog 94 #[.pointer (some ⟨C, 0, none⟩), .agg (ic .u8 A), .agg (ic .u8 B), .slice vp vn vc] w fun u w' => u = .tuple #[] ∧ ∃ s' : SV, SStep w w' C (xsAccts x s') (ysAccts y (ymove y.now.accts A B v)) := by
  refine Ret.mono (yMove_spec w hO C _ 101 x.now.accts y.now.accts hS.blk ⟨rfl⟩ hS.rel.now.accts (Nat.le_trans hB.now.al (by omega)) hS.om (by have := encYS_size x; omega) hB.now.cd (Nat.le_trans hB.now.al hN) A B hA hB2 vp vn vc v hv zv hsum) ?_
  rintro u w' ⟨h1, h2, s', h3, h4⟩
  exact ⟨h1, s', toSS hS h2 h3 (encYS_0 x s') { hS.kpC h2 with now := { (hS.kpC h2).now with accts := h4 } }⟩
theorem storeS (hO : OmB w) (hS : YSS w C x y) (hB : PSB N y) (hN : N ≤ 99999990) (hA : By A 20) (hk : NN w (kp, kn, kc) k) (zk : sz k ≤ 32) (hv : NN w (vp, vn, vc) v) (zv : sz v ≤ 32) : Ret Hvac.prog 313 #[.pointer (some ⟨C, 0, none⟩), .agg (ic .u8 A), .slice kp kn kc, .slice vp vn vc] w fun u w' => u = .tuple #[] ∧ ∃ s' : SV, SStep w w' C (xsAccts x s') (ysAccts y (ystore y.now.accts A k v)) := by
  refine Ret.mono (yStore_spec w hO C _ 101 x.now.accts y.now.accts hS.blk ⟨rfl⟩ hS.rel.now.accts (Nat.le_trans hB.now.al (by omega)) hS.om (by have := encYS_size x; omega) hB.now.cd A hA (hB.sl A) kp kn kc k hk zk vp vn vc v hv zv) ?_
  rintro u w' ⟨h1, h2, s', h3, h4⟩
  exact ⟨h1, s', toSS hS h2 h3 (encYS_0 x s') { hS.kpC h2 with now := { (hS.kpC h2).now with accts := h4 } }⟩
theorem warmS_ (hO : OmB w) (hS : YSS w C x y) (hB : PSB N y) (hN : N ≤ 99999990) (hA : By A 20) : Ret Hvac.prog 27 #[.pointer (some ⟨C, 0, none⟩), .agg (ic .u8 A)] w fun u w' => u = .tuple #[] ∧ ∃ s' : SV, SStep w w' C (xsWarmA x s') (ysWarmA y (ywith y.now.warmA A)) := by
  refine Ret.mono (yWarm_spec w hO C _ 101 x.now.warmA y.now.warmA hS.blk ⟨rfl⟩ hS.rel.now.warmA (by rw [hS.rel.now.warmA.len]; exact Nat.le_trans hB.now.wa (by omega)) hS.om (by have := encYS_size x; omega) A hA) ?_
  rintro u w' ⟨h1, h2, s', h3, h4⟩
  exact ⟨h1, s', toSS hS h2 h3 (encYS_1 x s') { hS.kpC h2 with now := { (hS.kpC h2).now with warmA := h4 } }⟩
theorem warmSlotS (hO : OmB w) (hS : YSS w C x y) (hB : PSB N y) (hN : N ≤ 99999990) (hA : By A 20) (hk : NN w (kp, kn, kc) k) (zk : sz k ≤ 32) : Ret Hvac.prog 28 #[.pointer (some ⟨C, 0, none⟩), .agg (ic .u8 A), .slice kp kn kc] w fun u w' => u = .tuple #[] ∧ ∃ s' : SV, SStep w w' C (xsWarmS x s') (ysWarmS y (ymk y.now.warmS A k)) := by
  refine Ret.mono (yWarmS_spec w hO C _ 101 x.now.warmS y.now.warmS hS.blk ⟨rfl⟩ hS.rel.now.warmS (by rw [hS.rel.now.warmS.len]; exact Nat.le_trans hB.now.ws (by omega)) A hA kp kn kc k hk zk hS.om (by have := encYS_size x; omega)) ?_
  rintro u w' ⟨h1, h2, s', h3, h4⟩
  exact ⟨h1, s', toSS hS h2 h3 (encYS_2 x s') { hS.kpC h2 with now := { (hS.kpC h2).now with warmS := h4 } }⟩
theorem tstoreS (hO : OmB w) (hS : YSS w C x y) (hB : PSB N y) (hN : N ≤ 99999990) (hA : By A 20) (hk : NN w (kp, kn, kc) k) (zk : sz k ≤ 32) (hv : NN w (vp, vn, vc) v) (zv : sz v ≤ 32) : Ret Hvac.prog 210 #[.pointer (some ⟨C, 0, none⟩), .agg (ic .u8 A), .slice kp kn kc, .slice vp vn vc] w fun u w' => u = .tuple #[] ∧ ∃ s' : SV, SStep w w' C (xsTemps x s') (ysTemps y (yts y.now.temps A k v)) := by
  refine Ret.mono (yTstore_spec w hO C _ 101 x.now.temps y.now.temps hS.blk ⟨rfl⟩ hS.rel.now.temps (by rw [hS.rel.now.temps.len]; exact Nat.le_trans hB.now.tp (by omega)) A hA kp kn kc k hk zk vp vn vc v hv zv hS.om (by have := encYS_size x; omega)) ?_
  rintro u w' ⟨h1, h2, s', h3, h4⟩
  exact ⟨h1, s', toSS hS h2 h3 (encYS_5 x s') { hS.kpC h2 with now := { (hS.kpC h2).now with temps := h4 } }⟩
end
theorem ystoreGo_len (k v : Nat) (l : List (Nat × Nat)) (b : Bool) : (ystoreGo k v b l).length ≤ l.length + 1 ∧ (b = true → (ystoreGo k v b l).length ≤ l.length) := by
  induction l generalizing b with
  | nil => unfold ystoreGo; cases b <;> simp
  | cons y l ih =>
    unfold ystoreGo
    have h1 := ih true
    have h2 := ih false
    have e1 : (if y.1 ≠ k then [y] else []).length ≤ 1 := by split <;> simp
    cases b with
    | true => simp only [al_bnt, al_bfa, al_bto, List.length_append]; have := h1.2 rfl; refine ⟨?_, fun _ => ?_⟩ <;> simp at * <;> omega
    | false =>
      by_cases hy : k ≤ y.1
      · simp [hy] at *; have := h1.2; omega
      · simp [hy] at *; omega
theorem ytsGo_len (A : List Int) (k v : Nat) (l : List (List Int × Nat × Nat)) (b : Bool) : (ytsGo A k v b l).length ≤ l.length + 1 ∧ (b = true → (ytsGo A k v b l).length ≤ l.length) := by
  induction l generalizing b with
  | nil => unfold ytsGo; cases b <;> simp
  | cons y l ih =>
    unfold ytsGo
    have h1 := ih true
    have h2 := ih false
    have e1 : (if !ytSame A k y then [y] else []).length ≤ 1 := by split <;> simp
    cases b with
    | true => simp only [al_bnt, al_bfa, al_bto, List.length_append]; have := h1.2 rfl; refine ⟨?_, fun _ => ?_⟩ <;> simp at * <;> omega
    | false =>
      cases hy : ytIns A k y
      · simp [hy] at *; omega
      · simp [hy] at *; have := h1.2; omega
theorem ymkGo_len (A : List Int) (k : Nat) (l : List (List Int × Nat)) (b : Bool) : (ymkGo A k b l).length ≤ l.length + 1 ∧ (b = true → (ymkGo A k b l).length ≤ l.length) := by
  induction l generalizing b with
  | nil => unfold ymkGo; cases b <;> simp
  | cons y l ih =>
    unfold ymkGo
    have h1 := ih true
    have h2 := ih false
    cases b with
    | true => simp only [al_bnt, al_bfa, al_bto, List.length_append]; have := h1.2 rfl; refine ⟨?_, fun _ => ?_⟩ <;> simp at * <;> omega
    | false =>
      cases hy : ymIns A k y
      · simp [hy] at *; omega
      · simp [hy] at *; have := h1.2; omega
theorem ywithGo_len (A : List Int) (l : List (List Int)) (b : Bool) : (ywithGo A b l).length ≤ l.length + 1 ∧ (b = true → (ywithGo A b l).length ≤ l.length) := by
  induction l generalizing b with
  | nil => unfold ywithGo; cases b <;> simp
  | cons y l ih =>
    unfold ywithGo
    have h1 := ih true
    have h2 := ih false
    cases b with
    | true => simp only [al_bnt, al_bfa, al_bto, List.length_append]; have := h1.2 rfl; refine ⟨?_, fun _ => ?_⟩ <;> simp at * <;> omega
    | false =>
      cases hy : yless A y
      · simp [hy] at *; omega
      · simp [hy] at *; have := h1.2; omega
theorem yts_len (l : List (List Int × Nat × Nat)) (A : List Int) (k v : Nat) : (yts l A k v).length ≤ l.length + 1 := (ytsGo_len A k v l _).1
theorem ymk_len (l : List (List Int × Nat)) (A : List Int) (k : Nat) : (ymk l A k).length ≤ l.length + 1 := by unfold ymk; split; omega; exact (ymkGo_len A k l _).1
theorem ywith_len (l : List (List Int)) (A : List Int) : (ywith l A).length ≤ l.length + 1 := by unfold ywith; split; omega; exact (ywithGo_len A l _).1
theorem PSB.mono {N M : Nat} {y : PSt} (h : PSB N y) (hm : N ≤ M) : PSB M y := { h with now := h.now.mono hm, st := Nat.le_trans h.st hm }
theorem PWB.slots {N : Nat} {p : PW} (h : PWB N p) (A : List Int) : (yacct p.accts A).slots.length ≤ N := by
  unfold yacct
  split
  · rename_i x hx; exact h.sl x (List.mem_of_find?_eq_some hx)
  · simp
theorem PSB.put {N : Nat} {y : PSt} (h : PSB N y) (hN : N < 100000000) {a : PA} (hc : a.code.length ≤ 1000000) (hs : a.slots.length ≤ N + 1) : PSB (N + 1) (ysAccts y (yput y.now.accts a)) := by
  have hsl : ∀ b ∈ yput y.now.accts a, b.slots.length ≤ N + 1 := by
    intro b hb
    rcases yputGo_mem hb with rfl | hb
    · exact hs
    · exact Nat.le_trans (h.now.sl b hb) (Nat.le_succ N)
  have hw : PWB (N + 1) { y.now with accts := yput y.now.accts a } := { h.now.mono (Nat.le_succ N) with al := Nat.le_trans (yput_len _ _) (Nat.succ_le_succ h.now.al), cd := h.now.cd.put hc, sl := hsl }
  exact { h with now := hw, st := Nat.le_trans h.st (Nat.le_succ N), sl := fun A => Nat.le_trans (hw.slots A) (by omega) }
theorem PSB.setNonce {N : Nat} {y : PSt} (h : PSB N y) (hN : N < 100000000) (A : List Int) (n : Nat) : PSB (N + 1) (ysAccts y (ysetNonce y.now.accts A n)) := h.put hN (h.now.cd.acct A) (Nat.le_trans (h.now.slots A) (Nat.le_succ N))
theorem PSB.setBal {N : Nat} {y : PSt} (h : PSB N y) (hN : N < 100000000) (A : List Int) (n : Nat) : PSB (N + 1) (ysAccts y (ysetBal y.now.accts A n)) := h.put hN (h.now.cd.acct A) (Nat.le_trans (h.now.slots A) (Nat.le_succ N))
theorem PSB.store {N : Nat} {y : PSt} (h : PSB N y) (hN : N < 100000000) (A : List Int) (k v : Nat) : PSB (N + 1) (ysAccts y (ystore y.now.accts A k v)) := h.put hN (h.now.cd.acct A) (Nat.le_trans (ystoreGo_len k v _ _).1 (Nat.succ_le_succ (h.now.slots A)))
theorem PSB.move {N : Nat} {y : PSt} (h : PSB N y) (hN : N < 99999999) (A B : List Int) (v : Nat) : PSB (N + 2) (ysAccts y (ymove y.now.accts A B v)) := by
  unfold ymove
  split
  · exact (h.setBal (by omega) A _).setBal (by omega) B _
  · exact h.mono (by omega)
theorem PSB.warmA {N : Nat} {y : PSt} (h : PSB N y) (A : List Int) : PSB (N + 1) (ysWarmA y (ywith y.now.warmA A)) := { h.mono (Nat.le_succ N) with now := { h.now.mono (Nat.le_succ N) with wa := Nat.le_trans (ywith_len _ _) (Nat.succ_le_succ h.now.wa) } }
theorem PSB.warmS {N : Nat} {y : PSt} (h : PSB N y) (A : List Int) (k : Nat) : PSB (N + 1) (ysWarmS y (ymk y.now.warmS A k)) := { h.mono (Nat.le_succ N) with now := { h.now.mono (Nat.le_succ N) with ws := Nat.le_trans (ymk_len _ _ _) (Nat.succ_le_succ h.now.ws) } }
theorem PSB.temps {N : Nat} {y : PSt} (h : PSB N y) (A : List Int) (k v : Nat) : PSB (N + 1) (ysTemps y (yts y.now.temps A k v)) := { h.mono (Nat.le_succ N) with now := { h.now.mono (Nat.le_succ N) with tp := Nat.le_trans (yts_len _ _ _ _) (Nat.succ_le_succ h.now.tp) } }

end Go.Proofs.YgvacwGreat
