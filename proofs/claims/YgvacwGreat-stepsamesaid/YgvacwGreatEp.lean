import Derived.Test.YgvacwGreatEo
import Derived.Test.YgvacwGreatEn
namespace Go.Proofs.YgvacwGreat
set_option linter.unusedSimpArgs false
set_option linter.unusedVariables false
section
variable [Om] {w w2 w' : World} {C : Nat} {c2 : Array Value} {v2 : V} {B2 : VB} {m : Mc} {t : Nat} {f : Fm} {y y2 : PSt} {rest : List PF} {g g2 : PF} {o n kI st : Int} {k : Nat} {W : List Int}
theorem Rel.fin_eff2 (hR2 : Rel w2 v2 m (y2, rest ++ [g2])) (hM2 : MS w2 C c2 v2 B2 m) (hI : MI m t) (hf : m.frames[t]? = some f) (h5 : KT 5 w2 w') (h28 : KT 28 w2 w') (ho : o = n) (hg : ygives n ≠ 1) (hq : ¬ ypq g n) (h85 : n = 85 → (ysstA y g).2.2 ≤ y.now.ref) (hk : (ytakes n).toNat = k) (hkI : kI = (k : Int)) (hst : st = 1) (him : immOf n = 0)
    (he : yeff y g n (yargs g k) = (y2, g2)) (hks : kI ≤ f.sp) : Rel w' v2 (m.settle t f kI false W st) (yplain khash y rest g o) := by
  subst ho
  rw [yplain_ef2 hg hq h85, hk, he]
  have := hR2.settle hM2 hI hf h5 h28 (k := k) (st := 1) (gv := false) (W := W) (by omega) (fun h => by cases h)
  rw [hkI, hst]
  simp only [psettle] at this ⊢
  rw [him]
  exact this
theorem Rel.fin_val2 (hR2 : Rel w2 v2 m (y2, rest ++ [g])) (hM2 : MS w2 C c2 v2 B2 m) (hI : MI m t) (hf : m.frames[t]? = some f) (h5 : KT 5 w2 w') (h28 : KT 28 w2 w') (ho : o = n) (hg : ygives n = 1) (hk : (ytakes n).toNat = k) (hkI : kI = (k : Int)) (hst : st = 1 + immOf n) (him : 0 ≤ immOf n)
    (hv : yvst y g n (yargs g k) = y2) (hW : wn W = yval khash y g n (yargs g k)) (hks : kI ≤ f.sp) (hlt : f.sp - kI < 64) : Rel w' v2 (m.settle t f kI true W st) (yplain khash y rest g o) := by
  subst ho
  rw [yplain_val hg, hk, hv, ← hW]
  have := hR2.settle hM2 hI hf h5 h28 (k := k) (st := (1 + immOf o).toNat) (gv := true) (W := W) (by omega) (fun _ => by omega)
  rw [hkI, hst]
  rw [show (((1 + immOf o).toNat : Nat) : Int) = 1 + immOf o by omega] at this
  exact this
end
theorem rdH_len (w : World) (s : SV) : (rdH w s).length = s.2.1 := by simp [rdH]
theorem byteOf_ic (L : List Int) : (ic .u8 L).toList.map byteOf = L := by
  simp [ic, al_cd, byteOf]
theorem rdH_get {w : World} {s : SV} {b : Nat} {L : List Int} {fz : Nat × Nat} (h1 : s.1 = some ⟨b, 0, none⟩) (h2 : Hb w b (.cells (ic .u8 L) 28 fz)) {i : Nat} (hi : i < s.2.1) : (rdH w s).getD i [] = (L.drop (32 * i)).take 32 := by
  unfold rdH rdC
  rw [h1]
  simp only
  rw [h2.h]
  simp only [byteOf_ic]
  rw [List.getD_eq_getElem?_getD]
  simp [hi]
theorem yplain_dup {ks : List Int → List Int} {y : PSt} {rest : List PF} {g : PF} {o : Int} (ho : 128 ≤ o ∧ o ≤ 143) : yplain ks y rest g o = (y, rest ++ [psettle g 0 true (yarg g (o - 128).toNat) 1]) := by
  have h1 : ¬ yisj g o := by rintro (h | h) <;> omega
  have hq : ypq g o := Or.inr (Or.inl ho)
  have hi : immOf o = 0 := by unfold immOf; rw [if_neg (by omega)]
  have hf : yfam o ≠ 0 := by unfold yfam; repeat (first | omega | split)
  have ht : (ytakes o).toNat - 1 = (o - 128).toNat := by unfold ytakes; rw [if_neg hf, if_pos ho]; omega
  unfold yplain
  rw [if_neg (fun h => h.1 hq)]
  unfold ypst ypfr ypkept ypnext psettle
  rw [if_pos hq, if_pos (Or.inl hq), if_neg h1, if_pos ho, if_neg h1, ht, hi]
  simp
theorem ylast_eq {W : List Int} {l0 l1 l2 l3 : Int} (hW : Wd W) (h : W = [l0, l1, l2, l3]) : ylast (wn W) = [l0 % 256] := by
  have hb : be32N (wn W) = be 32 (wn W) := by unfold be32N; rw [if_pos (wn_lt hW)]
  unfold ylast
  rw [hb, be_drop _ _ _ (by decide)]
  obtain ⟨a, b, c, d, e, h0, h1, h2, h3⟩ := isZ hW
  have : (be (32 - 31) (wn W)).take 1 = be 1 (wn W) := List.take_of_length_le (by rw [be_len]; decide)
  rw [this]
  refine list_gd (by rw [be_len]; rfl) fun i hi => ?_
  rw [be_len] at hi
  rw [be_gd _ _ _ hi, show i = 0 by omega]
  rw [h] at e
  obtain ⟨rfl, rfl, rfl, rfl, _⟩ : l0 = a ∧ l1 = b ∧ l2 = c ∧ l3 = d ∧ True := by simpa using e
  rw [h, wn_limbs h0 h1 h2 h3]
  simp only [List.getD_cons_zero]
  simp
  omega

set_option maxRecDepth 10000 in
set_option maxHeartbeats 4000000 in
theorem opBlock_ex [Om] (scan : List Int → List Int) (C : Nat) (c : Array Value) (v : V) (B : VB) (m : Mc) (t : Nat) (f : Fm) (o c' S : Int) (w : World) (hM : MS w C c v B m) (hop : Mc.opc f = o) (hAd : Adm scan v m t f o (infoW o).2.2.1 c' S) (hk : (infoW o).1 ≤ f.sp ∧ f.sp - (infoW o).1 + (infoW o).2.1 ≤ 64) (hc : 0 < c') (y : PSt) (rest : List PF) (g : PF) (hRl : Rel w v m (y, rest ++ [g])) (ho : (64 ≤ o ∧ o ≤ 70) ∨ o = 72) (hhl : m.ehash.2.1 ≤ 4) : Ret Hvac.prog 182 #[.pointer (some ⟨C, 0, none⟩)] w fun _ w' => ∃ v' m', MRet w C B m w' v' m' ∧ OpP scan m t c' S v' m' ∧ Rel w' v' m' (yplain khash y rest g o) := by
  have hI := hAd.ri
  have hf := hAd.fr
  have hR := hI.run hf
  have hA := hR.fa
  have hblk := hM.vs.blk
  have hCl := hblk.lt
  have hcs := hM.sz
  have hc_s := hM.rep.s
  obtain ⟨ht7, hfty, hF⟩ := hM.openF hf
  have hFk := hI.fr t f (Nat.le_refl _) hf
  have hvi := hI.ti.vi
  have hcbl := (hM.code f (List.mem_of_getElem? hf)).1.len
  have hcb5 := hFk.cl
  have hcl : f.code.2.1 ≤ 100000 := by omega
  have hpct := hfty.pc
  have hspt := hfty.sp
  have hwdA := fun i => argW_wd hM.ty f i
  have hMI := hI.mi
  have hAr := fun i => hRl.arg hM hMI hf i
  have htl := hRl.len hMI
  have hy0 : yarg g 0 = wn (m.argW f 0) := hAr 0
  have hy1 : yarg g 1 = wn (m.argW f 1) := hAr 1
  have hy2 : yarg g 2 = wn (m.argW f 2) := hAr 2
  have hy3 : yarg g 3 = wn (m.argW f 3) := hAr 3
  have hy4 : yarg g 4 = wn (m.argW f 4) := hAr 4
  have hy5 : yarg g 5 = wn (m.argW f 5) := hAr 5
  have hy6 : yarg g 6 = wn (m.argW f 6) := hAr 6
  have hpcl : f.pc < (f.cb.length : Int) := opc_pc (by rw [hop]; omega)
  have hc_num := hM.rep.enum
  have hc_time := hM.rep.etime
  have hc_gl := hM.rep.eglim
  have hc_cb := hM.rep.ecb
  have hc_rand := hM.rep.erand
  have hc_cid := hM.rep.ecid
  have hc_bf := hM.rep.ebfee
  have hc_hash := hM.rep.ehash
  have hnum := hM.ty.enum
  have htim := hM.ty.etime
  have hgl := hM.ty.eglim
  have hby4 := hM.ty.ecb
  have hbr := hM.ty.erand
  have hbc := hM.ty.ecid
  have hbb := hM.ty.ebfee
  have hfr := fromB_wd hbr.2
  have hfc := fromB_wd hbc.2
  have hfb := fromB_wd hbb.2
  have hfr1 := hfr.1
  have hfc1 := hfc.1
  have hfb1 := hfb.1
  
  obtain ⟨Lm, hLm, hFP, hRP⟩ := hRl.top hMI hf
  have hnE := hRP.enum
  have hhl2 : y.hashes.length = m.ehash.2.1 := by rw [← hRP.hs, rdH_len]
  have hwi := wn_int (hwdA 0)
  
  refine Ret_of_W Hvac.func182 rfl rfl ?_
  refine W_seq ?_
  refine W_region rfl ?_
  refine WO_p (PS_move_ptr rfl) ?_
  refine WO_call Hvac.call95 (by rfl) (Ret.mono (running_spec C c v B m t f _ (MS.ext hM (by repeat (first | assumption | exact Ext.refl _ | refine Ext.alloc ?_ _ | refine Ext.drew ?_ | refine Ext.setB ?_ (by first | omega | (simp only [size_alloc, size_setB, size_drew]; omega)) _ | exact Ext.trans (by assumption) (by assumption) | refine Ext.trans ?_ (by assumption)))) hR) ?_)
  rintro _ w95_0 ⟨hE95_0, rfl⟩
  have hz95_0 := hE95_0.1
  try simp only [size_alloc, size_setB, size_drew] at hz95_0
  refine WO_p (PS_assign_ptr rfl) ?_
  refine WO_nil ?_
  refine thn_normal ?_
  refine W_seq ?_
  refine W_seq ?_
  refine W_region rfl ?_
  refine WO_p (PS_move_ptr rfl) ?_
  refine WO_p (PS_eqlnil Hvac.underlying187 rfl) ?_
  refine WO_nil ?_
  refine thn_normal ?_
  refine W_if rfl (fun hb3 => ?_) (fun hb3 => ?_)
  · have hb3p := hb3.h; try simp only [al_ete, al_dfn, Bool.not_eq_true', Bool.not_eq_false', al_ne, Bool.not_not, al_nn] at hb3p
    simp at hb3p --END
  · have hb3p := hb3.h; try simp only [al_ete, al_dfn, Bool.not_eq_true', Bool.not_eq_false', al_ne, Bool.not_not, al_nn] at hb3p
    refine W_skip ?_
    refine thn_normal ?_
    refine W_seq ?_
    refine W_region rfl ?_
    refine WO_p (PS_buildI (k := .u64) (zs := [0, 0, 0, 0]) (ps := []) (L := [0, 0, 0, 0]) Hvac.zeroValue61 Hvac.runUnderlying61 Hvac.sizeOf26 rfl rfl rfl rfl) ?_
    refine WO_allocG Hvac.zeroValue61 ?_
    intro b3 v3 hg3 hE3 hH3 hl3
    try simp only [size_alloc, size_setB, size_drew] at hg3
    have hzz3 := hE3.1
    try simp only [size_alloc, size_setB, size_drew] at hzz3
    first | refine WO_storeW Hvac.sizeOf61 rfl (v := .agg _) rfl (Hb.h (by repeat (first | assumption | exact Hb.newY _ _ | refine Hb.alloc ?_ | refine Hb.drew ?_ | refine Hb.ext (by assumption) ?_ | exact Hb.setSameL (by first | omega | (simp only [size_alloc, size_setB, size_drew]; omega)) | exact Hb.setSame (by assumption) | refine Hb.set (by first | omega | (simp only [size_alloc, size_setB, size_drew]; omega)) ?_ ))) rfl (by first | omega | assumption | rfl | decide | exact Nat.le_refl _ | (simp only [size_ic, Value.cells]; omega) | (simp; omega) | simp) (by first | omega | assumption | rfl | decide | exact Nat.le_refl _ | (simp only [size_ic, Value.cells]; omega) | (simp; omega) | simp) (by first | exact oneCell_ic | assumption | exact one_Ws2 _ | exact one_YA2 _ | exact one_YSl2 _ | exact one_YM2 _ | exact one_YT2 _ | exact one_L2 _) ?_ | refine WO_store Hvac.sizeOf61 rfl (v := .agg _) rfl (Hb.h (by repeat (first | assumption | exact Hb.newY _ _ | refine Hb.alloc ?_ | refine Hb.drew ?_ | refine Hb.ext (by assumption) ?_ | exact Hb.setSameL (by first | omega | (simp only [size_alloc, size_setB, size_drew]; omega)) | exact Hb.setSame (by assumption) | refine Hb.set (by first | omega | (simp only [size_alloc, size_setB, size_drew]; omega)) ?_ ))) (by first | omega | assumption | rfl | decide | exact Nat.le_refl _ | (simp only [size_ic, Value.cells]; omega) | (simp; omega) | simp) (by first | omega | assumption | rfl | decide | exact Nat.le_refl _ | (simp only [size_ic, Value.cells]; omega) | (simp; omega) | simp) (by first | exact oneCell_ic | assumption | exact one_Ws2 _ | exact one_YA2 _ | exact one_YSl2 _ | exact one_YM2 _ | exact one_YT2 _ | exact one_L2 _) ?_
    refine WO_nil ?_
    refine thn_normal ?_
    refine W_seq ?_
    refine W_region rfl ?_
    refine WO_p (PS_assign_int rfl) ?_
    refine WO_nil ?_
    refine thn_normal ?_
    refine W_seq ?_
    refine W_seq ?_
    refine W_region rfl ?_
    refine WO_p (PS_move_ptr rfl) ?_
    refine WO_call Hvac.call104 (by rfl) (Ret.mono (opcode_spec C c v B m t f _ (MS.ext hM (by repeat (first | assumption | exact Ext.refl _ | refine Ext.alloc ?_ _ | refine Ext.drew ?_ | refine Ext.setB ?_ (by first | omega | (simp only [size_alloc, size_setB, size_drew]; omega)) _ | exact Ext.trans (by assumption) (by assumption) | refine Ext.trans ?_ (by assumption)))) hR hcl) ?_)
    rintro _ w104_3 ⟨hE104_3, rfl⟩
    have hz104_3 := hE104_3.1
    try simp only [size_alloc, size_setB, size_drew] at hz104_3
    try rw [hop]
    refine WO_nil ?_
    refine thn_normal ?_
    refine W_block ?_
    refine W_seq ?_
    refine W_region rfl ?_
    refine WO_p (PS_eql rfl rfl) ?_
    refine WO_p (PS_assign_bool rfl) ?_
    refine WO_nil ?_
    refine thn_normal ?_
    refine W_if rfl (fun hb6 => ?_) (fun hb6 => ?_)
    · have hb6p := hb6.h; try simp only [al_ete, al_dfn, Bool.not_eq_true', Bool.not_eq_false', al_ne, Bool.not_not, al_nn] at hb6p
      have hin : (1 : Int) ≤ f.sp ∧ f.sp - 1 + 1 ≤ 64 := by have h := hk; rw [show o = 64 from by omega] at h; exact h
      have hoN : o = 64 := by omega
      refine W_seq ?_
      refine W_region rfl ?_
      refine WO_p (PS_assign_int rfl) ?_
      refine WO_nil ?_
      refine thn_normal ?_
      refine W_seq ?_
      refine W_region rfl ?_
      refine WO_p (PS_move_ptr rfl) ?_
      refine WO_p (PS_move_ptr rfl) ?_
      refine WO_call Hvac.call239 (by rfl) (Ret.mono (arg_spec C c v B m t f _ _ (MS.ext hM (by repeat (first | assumption | exact Ext.refl _ | refine Ext.alloc ?_ _ | refine Ext.drew ?_ | refine Ext.setB ?_ (by first | omega | (simp only [size_alloc, size_setB, size_drew]; omega)) _ | exact Ext.trans (by assumption) (by assumption) | refine Ext.trans ?_ (by assumption)))) hA (by omega)) ?_)
      rintro _ w239_6 ⟨hE239_6, rfl⟩
      have hz239_6 := hE239_6.1
      try simp only [size_alloc, size_setB, size_drew] at hz239_6
      refine WO_call Hvac.call274 (by rfl) (Ret.mono (u64x_spec _ _ (hwdA _)) ?_)
      rintro _ w274_7 ⟨hE274_7, xq, rfl, hxq, hxqb⟩
      have hz274_7 := hE274_7.1
      try simp only [size_alloc, size_setB, size_drew] at hz274_7
      refine WO_p (PS_move_tuple rfl) ?_
      refine WO_p (PS_extract_int rfl rfl) ?_
      refine WO_p (PS_extract_bool rfl rfl) ?_
      refine WO_p (PS_assign_int rfl) ?_
      refine WO_p (PS_assign_bool rfl) ?_
      refine WO_nil ?_
      refine thn_normal ?_
      refine W_seq ?_
      refine W_region rfl ?_
      refine WO_p (PS_move_bool rfl) ?_
      refine WO_p (PS_move_bool rfl) ?_
      refine WO_if (t := 25) rfl (fun hb10 => ?_) (fun hb10 => ?_)
      · have hb10p := hb10.h; try simp only [al_ete, al_dfn, Bool.not_eq_true', Bool.not_eq_false', al_ne, Bool.not_not, al_nn] at hb10p
        refine WO_guardT rfl rfl hb10.h ?_
        refine WO_p (PS_move_int rfl) ?_
        refine WO_guardT rfl rfl hb10.h ?_
        refine WO_p (PS_move_ptr rfl) ?_
        refine WO_guardT rfl rfl hb10.h ?_
        refine WO_p (PS_nilCheck rfl) ?_
        refine WO_guardT rfl rfl hb10.h ?_
        refine WO_p (PS_fieldAddr 2260 Hvac.runUnderlying70 rfl Hvac.sizeOf31 rfl rfl) ?_
        refine WO_guardT rfl rfl hb10.h ?_
        refine WO_p (PS_fieldAddr 20 Hvac.runUnderlying31 rfl Hvac.sizeOf26 rfl rfl) ?_
        refine WO_guardT rfl rfl hb10.h ?_
        refine WO_load (.int _ _) Hvac.isAgg26 rfl (Hb.h (by repeat (first | assumption | exact Hb.newY _ _ | refine Hb.alloc ?_ | refine Hb.drew ?_ | refine Hb.ext (by assumption) ?_ | exact Hb.setSameL (by first | omega | (simp only [size_alloc, size_setB, size_drew]; omega)) | exact Hb.setSame (by assumption) | refine Hb.set (by first | omega | (simp only [size_alloc, size_setB, size_drew]; omega)) ?_ ))) (Ce.h (by first | assumption | exact ⟨rfl⟩)) ?_
        refine WO_guardT rfl rfl hb10.h ?_
        refine WO_p (PS_lss rfl rfl) ?_
        refine WO_p (PS_pickT rfl hb10.h rfl) ?_
        refine WO_nil ?_
        refine thn_normal ?_
        refine W_if rfl (fun hb12 => ?_) (fun hb12 => ?_)
        · have hb12p := hb12.h; try simp only [al_ete, al_dfn, Bool.not_eq_true', Bool.not_eq_false', al_ne, Bool.not_not, al_nn] at hb12p
          refine W_seq ?_
          refine W_region rfl ?_
          refine WO_p (PS_move_ptr rfl) ?_
          refine WO_p (PS_nilCheck rfl) ?_
          refine WO_p (PS_fieldAddr 2260 Hvac.runUnderlying70 rfl Hvac.sizeOf31 rfl rfl) ?_
          refine WO_p (PS_fieldAddr 20 Hvac.runUnderlying31 rfl Hvac.sizeOf26 rfl rfl) ?_
          refine WO_load (.int _ _) Hvac.isAgg26 rfl (Hb.h (by repeat (first | assumption | exact Hb.newY _ _ | refine Hb.alloc ?_ | refine Hb.drew ?_ | refine Hb.ext (by assumption) ?_ | exact Hb.setSameL (by first | omega | (simp only [size_alloc, size_setB, size_drew]; omega)) | exact Hb.setSame (by assumption) | refine Hb.set (by first | omega | (simp only [size_alloc, size_setB, size_drew]; omega)) ?_ ))) (Ce.h (by first | assumption | exact ⟨rfl⟩)) ?_
          refine WO_p (PS_move_int rfl) ?_
          refine WO_p (PS_sub_u64n rfl rfl (by omega) (by omega)) ?_
          refine WO_p (PS_sub_u64n rfl rfl (by omega) (by omega)) ?_
          refine WO_p (PS_assign_int rfl) ?_
          refine WO_nil ?_
          refine thn_normal ?_
          refine W_seq ?_
          refine W_region rfl ?_
          refine WO_p (PS_move_int rfl) ?_
          refine WO_p (PS_move_ptr rfl) ?_
          refine WO_p (PS_nilCheck rfl) ?_
          refine WO_p (PS_fieldAddr 2260 Hvac.runUnderlying70 rfl Hvac.sizeOf31 rfl rfl) ?_
          refine WO_p (PS_fieldAddr 119 Hvac.runUnderlying31 rfl Hvac.sizeOf29 rfl rfl) ?_
          refine WO_load (.slice _ _ _) Hvac.isAgg29 rfl (Hb.h (by repeat (first | assumption | exact Hb.newY _ _ | refine Hb.alloc ?_ | refine Hb.drew ?_ | refine Hb.ext (by assumption) ?_ | exact Hb.setSameL (by first | omega | (simp only [size_alloc, size_setB, size_drew]; omega)) | exact Hb.setSame (by assumption) | refine Hb.set (by first | omega | (simp only [size_alloc, size_setB, size_drew]; omega)) ?_ ))) (Ce.h (by first | assumption | exact ⟨rfl⟩)) ?_
          refine WO_p (PS_lenS Hvac.runUnderlying29 rfl) ?_
          refine WO_p (PS_conv_u64n Hvac.runUnderlying3 Hvac.runUnderlying26 rfl (by omega) (by omega)) ?_
          refine WO_p (PS_lss rfl rfl) ?_
          refine WO_nil ?_
          refine thn_normal ?_
          refine W_if rfl (fun hb14 => ?_) (fun hb14 => ?_)
          · have hb14p := hb14.h; try simp only [al_ete, al_dfn, Bool.not_eq_true', Bool.not_eq_false', al_ne, Bool.not_not, al_nn] at hb14p
            rcases hM.hash with ⟨_, hh0⟩ | ⟨bh, Lh, fzh, hh1, hh2, hh3, hh4⟩
            · omega
            have hlh := hh2.lt
            rw [hh1] at hc_hash
            have hlq : (m.enum - xq - 1).toNat * 32 + 32 ≤ Lh.length := by omega
            have hxth : Xt (ic .u8 Lh) (0 + (m.enum - xq - 1).toNat * 32) (0 + (m.enum - xq - 1).toNat * 32 + 32) _ := Xt.ic .u8 Lh (0 + (m.enum - xq - 1).toNat * 32) 32 (by omega)
            have hbyh : By ((Lh.drop (0 + (m.enum - xq - 1).toNat * 32)).take 32) 32 := ⟨len_part (by omega), by_part hh3 _ _⟩
            have hszh : (ic .u8 Lh).size = Lh.length := size_ic _ _
            have hfh := fromB_wd hbyh.2
            have hfh1 := hfh.1
            refine W_region rfl ?_
            refine WO_p (PS_move_ptr rfl) ?_
            refine WO_p (PS_nilCheck rfl) ?_
            refine WO_p (PS_fieldAddr 2260 Hvac.runUnderlying70 rfl Hvac.sizeOf31 rfl rfl) ?_
            refine WO_p (PS_fieldAddr 119 Hvac.runUnderlying31 rfl Hvac.sizeOf29 rfl rfl) ?_
            refine WO_load (.slice _ _ _) Hvac.isAgg29 rfl (Hb.h (by repeat (first | assumption | exact Hb.newY _ _ | refine Hb.alloc ?_ | refine Hb.drew ?_ | refine Hb.ext (by assumption) ?_ | exact Hb.setSameL (by first | omega | (simp only [size_alloc, size_setB, size_drew]; omega)) | exact Hb.setSame (by assumption) | refine Hb.set (by first | omega | (simp only [size_alloc, size_setB, size_drew]; omega)) ?_ ))) (Ce.h (by first | assumption | exact ⟨rfl⟩)) ?_
            refine WO_p (PS_move_int rfl) ?_
            refine WO_p (PS_indexS Hvac.runUnderlying29 Hvac.sizeOf28 rfl rfl (by omega) (by omega)) ?_
            refine WO_loadA _ Hvac.isAgg28 Hvac.sizeOf28 rfl (Hb.h (by repeat (first | assumption | exact Hb.newY _ _ | refine Hb.alloc ?_ | refine Hb.drew ?_ | refine Hb.ext (by assumption) ?_ | exact Hb.setSameL (by first | omega | (simp only [size_alloc, size_setB, size_drew]; omega)) | exact Hb.setSame (by assumption) | refine Hb.set (by first | omega | (simp only [size_alloc, size_setB, size_drew]; omega)) ?_ ))) (by first | omega | assumption | rfl | decide | exact Nat.le_refl _ | (simp only [size_ic, Value.cells]; omega) | (simp; omega) | simp) (Xt.h (by first | assumption | exact Xt.whole rfl rfl | exact Xt.whole rfl (by assumption) | exact Xt.whole rfl (by simp only [size_ic, Value.cells]; omega) | exact ⟨rfl⟩)) ?_
            refine WO_call Hvac.call69 (by rfl) (Ret.mono (fromBytes_spec _ _ (by assumption)) ?_)
            rintro _ w69_14 ⟨rfl, hE69_14⟩
            have hz69_14 := hE69_14.1
            try simp only [size_alloc, size_setB, size_drew] at hz69_14
            first | refine WO_storeW Hvac.sizeOf61 rfl (v := .agg _) rfl (Hb.h (by repeat (first | assumption | exact Hb.newY _ _ | refine Hb.alloc ?_ | refine Hb.drew ?_ | refine Hb.ext (by assumption) ?_ | exact Hb.setSameL (by first | omega | (simp only [size_alloc, size_setB, size_drew]; omega)) | exact Hb.setSame (by assumption) | refine Hb.set (by first | omega | (simp only [size_alloc, size_setB, size_drew]; omega)) ?_ ))) rfl (by first | omega | assumption | rfl | decide | exact Nat.le_refl _ | (simp only [size_ic, Value.cells]; omega) | (simp; omega) | simp) (by first | omega | assumption | rfl | decide | exact Nat.le_refl _ | (simp only [size_ic, Value.cells]; omega) | (simp; omega) | simp) (by first | exact oneCell_ic | assumption | exact one_Ws2 _ | exact one_YA2 _ | exact one_YSl2 _ | exact one_YM2 _ | exact one_YT2 _ | exact one_L2 _) ?_ | refine WO_store Hvac.sizeOf61 rfl (v := .agg _) rfl (Hb.h (by repeat (first | assumption | exact Hb.newY _ _ | refine Hb.alloc ?_ | refine Hb.drew ?_ | refine Hb.ext (by assumption) ?_ | exact Hb.setSameL (by first | omega | (simp only [size_alloc, size_setB, size_drew]; omega)) | exact Hb.setSame (by assumption) | refine Hb.set (by first | omega | (simp only [size_alloc, size_setB, size_drew]; omega)) ?_ ))) (by first | omega | assumption | rfl | decide | exact Nat.le_refl _ | (simp only [size_ic, Value.cells]; omega) | (simp; omega) | simp) (by first | omega | assumption | rfl | decide | exact Nat.le_refl _ | (simp only [size_ic, Value.cells]; omega) | (simp; omega) | simp) (by first | exact oneCell_ic | assumption | exact one_Ws2 _ | exact one_YA2 _ | exact one_YSl2 _ | exact one_YM2 _ | exact one_YT2 _ | exact one_L2 _) ?_
            refine WO_nil ?_
            refine inBlk_normal ?_
            refine thn_normal ?_
            refine W_region rfl ?_
            refine WO_p (PS_move_ptr rfl) ?_
            refine WO_p (PS_move_ptr rfl) ?_
            refine WO_p (PS_move_int rfl) ?_
            refine WO_loadA _ Hvac.isAgg61 Hvac.sizeOf61 rfl (Hb.h (by repeat (first | assumption | exact Hb.newY _ _ | refine Hb.alloc ?_ | refine Hb.drew ?_ | refine Hb.ext (by assumption) ?_ | exact Hb.setSameL (by first | omega | (simp only [size_alloc, size_setB, size_drew]; omega)) | exact Hb.setSame (by assumption) | refine Hb.set (by first | omega | (simp only [size_alloc, size_setB, size_drew]; omega)) ?_ ))) (by first | omega | assumption | rfl | decide | exact Nat.le_refl _ | (simp only [size_ic, Value.cells]; omega) | (simp; omega) | simp) (Xt.h (by first | assumption | exact Xt.whole rfl rfl | exact Xt.whole rfl (by assumption) | exact Xt.whole rfl (by simp only [size_ic, Value.cells]; omega) | exact ⟨rfl⟩)) ?_
            refine WO_call Hvac.call235 (by rfl) (Ret.mono (settle_ex C c v B m t f _ _ _ _ _ (MS.ext hM (by repeat (first | assumption | exact Ext.refl _ | refine Ext.alloc ?_ _ | refine Ext.drew ?_ | refine Ext.setB ?_ (by first | omega | (simp only [size_alloc, size_setB, size_drew]; omega)) _ | exact Ext.trans (by assumption) (by assumption) | refine Ext.trans ?_ (by assumption)))) hA (by omega) (by first | (intro _; omega) | (intro h; cases h)) (by first | assumption | exact argW_wd hM.ty _ _ | exact Wd0 | exact flagW_wd _ | exact Wd1 | exact limb_wd (by omega)) (by omega)) ?_)
            rintro _ wS ⟨hRS, hKS⟩
            have hRS2 := MRet.pre (w := w) (by repeat (first | assumption | exact Ext.refl _ | refine Ext.alloc ?_ _ | refine Ext.drew ?_ | refine Ext.setB ?_ (by first | omega | (simp only [size_alloc, size_setB, size_drew]; omega)) _ | exact Ext.trans (by assumption) (by assumption) | refine Ext.trans ?_ (by assumption))) hRS
            have hKC := KC.pre (a := w) (by repeat (first | assumption | exact Ext.refl _ | refine Ext.alloc ?_ _ | refine Ext.drew ?_ | refine Ext.setB ?_ (by first | omega | (simp only [size_alloc, size_setB, size_drew]; omega)) _ | exact Ext.trans (by assumption) (by assumption) | refine Ext.trans ?_ (by assumption))) hKS
            have hK5 : KT 5 w wS := KC.kt hKC hblk (by decide)
            have hK28 : KT 28 w wS := KC.kt hKC hblk (by decide)
            refine WO_nil ?_
            first | refine bodyQ_ret0 Hvac.results182 ?_ | refine bodyQ_end0 Hvac.results182 ?_
            first
            | (exfalso; omega)
            | exact ⟨v, _, hRS2, (hI.settle hf hI.rw0 hvi (fun _ h => h) (Int.le_refl _) (by omega) (by first | (intro _; omega) | (intro h; cases h)) (by omega) hc).2, hRl.fin_val hM hMI hf hK5 hK28 hoN (by decide) (k := 1) (by decide) rfl (by decide) (by decide) (yvst_q (by decide) (by decide) _) (by rw [wn_fromB hbyh]; show _ = if (yargs g 1).getD 0 0 + 1 ≤ y.env.num.toNat ∧ y.env.num.toNat - ((yargs g 1).getD 0 0 + 1) < y.hashes.length then bvY (y.hashes.getD (y.env.num.toNat - ((yargs g 1).getD 0 0 + 1)) []) else 0; rw [yargs_d (by decide), hy0, if_pos (by omega), ← hRP.hs, rdH_get hh1 hh2 (by omega)]; congr 3; omega) (by omega) (by omega)⟩
          · have hb14p := hb14.h; try simp only [al_ete, al_dfn, Bool.not_eq_true', Bool.not_eq_false', al_ne, Bool.not_not, al_nn] at hb14p
            refine W_skip ?_
            refine inBlk_normal ?_
            refine thn_normal ?_
            refine W_region rfl ?_
            refine WO_p (PS_move_ptr rfl) ?_
            refine WO_p (PS_move_ptr rfl) ?_
            refine WO_p (PS_move_int rfl) ?_
            refine WO_loadA _ Hvac.isAgg61 Hvac.sizeOf61 rfl (Hb.h (by repeat (first | assumption | exact Hb.newY _ _ | refine Hb.alloc ?_ | refine Hb.drew ?_ | refine Hb.ext (by assumption) ?_ | exact Hb.setSameL (by first | omega | (simp only [size_alloc, size_setB, size_drew]; omega)) | exact Hb.setSame (by assumption) | refine Hb.set (by first | omega | (simp only [size_alloc, size_setB, size_drew]; omega)) ?_ ))) (by first | omega | assumption | rfl | decide | exact Nat.le_refl _ | (simp only [size_ic, Value.cells]; omega) | (simp; omega) | simp) (Xt.h (by first | assumption | exact Xt.whole rfl rfl | exact Xt.whole rfl (by assumption) | exact Xt.whole rfl (by simp only [size_ic, Value.cells]; omega) | exact ⟨rfl⟩)) ?_
            refine WO_call Hvac.call235 (by rfl) (Ret.mono (settle_ex C c v B m t f _ _ _ _ _ (MS.ext hM (by repeat (first | assumption | exact Ext.refl _ | refine Ext.alloc ?_ _ | refine Ext.drew ?_ | refine Ext.setB ?_ (by first | omega | (simp only [size_alloc, size_setB, size_drew]; omega)) _ | exact Ext.trans (by assumption) (by assumption) | refine Ext.trans ?_ (by assumption)))) hA (by omega) (by first | (intro _; omega) | (intro h; cases h)) (by first | assumption | exact argW_wd hM.ty _ _ | exact Wd0 | exact flagW_wd _ | exact Wd1 | exact limb_wd (by omega)) (by omega)) ?_)
            rintro _ wS ⟨hRS, hKS⟩
            have hRS2 := MRet.pre (w := w) (by repeat (first | assumption | exact Ext.refl _ | refine Ext.alloc ?_ _ | refine Ext.drew ?_ | refine Ext.setB ?_ (by first | omega | (simp only [size_alloc, size_setB, size_drew]; omega)) _ | exact Ext.trans (by assumption) (by assumption) | refine Ext.trans ?_ (by assumption))) hRS
            have hKC := KC.pre (a := w) (by repeat (first | assumption | exact Ext.refl _ | refine Ext.alloc ?_ _ | refine Ext.drew ?_ | refine Ext.setB ?_ (by first | omega | (simp only [size_alloc, size_setB, size_drew]; omega)) _ | exact Ext.trans (by assumption) (by assumption) | refine Ext.trans ?_ (by assumption))) hKS
            have hK5 : KT 5 w wS := KC.kt hKC hblk (by decide)
            have hK28 : KT 28 w wS := KC.kt hKC hblk (by decide)
            refine WO_nil ?_
            first | refine bodyQ_ret0 Hvac.results182 ?_ | refine bodyQ_end0 Hvac.results182 ?_
            first
            | (exfalso; omega)
            | exact ⟨v, _, hRS2, (hI.settle hf hI.rw0 hvi (fun _ h => h) (Int.le_refl _) (by omega) (by first | (intro _; omega) | (intro h; cases h)) (by omega) hc).2, hRl.fin_val hM hMI hf hK5 hK28 hoN (by decide) (k := 1) (by decide) rfl (by decide) (by decide) (yvst_q (by decide) (by decide) _) (by show (0 : Nat) = if (yargs g 1).getD 0 0 + 1 ≤ y.env.num.toNat ∧ y.env.num.toNat - ((yargs g 1).getD 0 0 + 1) < y.hashes.length then _ else 0; rw [yargs_d (by decide), hy0, if_neg (by omega)]) (by omega) (by omega)⟩
        · have hb12p := hb12.h; try simp only [al_ete, al_dfn, Bool.not_eq_true', Bool.not_eq_false', al_ne, Bool.not_not, al_nn] at hb12p
          refine W_skip ?_
          refine inBlk_normal ?_
          refine thn_normal ?_
          refine W_region rfl ?_
          refine WO_p (PS_move_ptr rfl) ?_
          refine WO_p (PS_move_ptr rfl) ?_
          refine WO_p (PS_move_int rfl) ?_
          refine WO_loadA _ Hvac.isAgg61 Hvac.sizeOf61 rfl (Hb.h (by repeat (first | assumption | exact Hb.newY _ _ | refine Hb.alloc ?_ | refine Hb.drew ?_ | refine Hb.ext (by assumption) ?_ | exact Hb.setSameL (by first | omega | (simp only [size_alloc, size_setB, size_drew]; omega)) | exact Hb.setSame (by assumption) | refine Hb.set (by first | omega | (simp only [size_alloc, size_setB, size_drew]; omega)) ?_ ))) (by first | omega | assumption | rfl | decide | exact Nat.le_refl _ | (simp only [size_ic, Value.cells]; omega) | (simp; omega) | simp) (Xt.h (by first | assumption | exact Xt.whole rfl rfl | exact Xt.whole rfl (by assumption) | exact Xt.whole rfl (by simp only [size_ic, Value.cells]; omega) | exact ⟨rfl⟩)) ?_
          refine WO_call Hvac.call235 (by rfl) (Ret.mono (settle_ex C c v B m t f _ _ _ _ _ (MS.ext hM (by repeat (first | assumption | exact Ext.refl _ | refine Ext.alloc ?_ _ | refine Ext.drew ?_ | refine Ext.setB ?_ (by first | omega | (simp only [size_alloc, size_setB, size_drew]; omega)) _ | exact Ext.trans (by assumption) (by assumption) | refine Ext.trans ?_ (by assumption)))) hA (by omega) (by first | (intro _; omega) | (intro h; cases h)) (by first | assumption | exact argW_wd hM.ty _ _ | exact Wd0 | exact flagW_wd _ | exact Wd1 | exact limb_wd (by omega)) (by omega)) ?_)
          rintro _ wS ⟨hRS, hKS⟩
          have hRS2 := MRet.pre (w := w) (by repeat (first | assumption | exact Ext.refl _ | refine Ext.alloc ?_ _ | refine Ext.drew ?_ | refine Ext.setB ?_ (by first | omega | (simp only [size_alloc, size_setB, size_drew]; omega)) _ | exact Ext.trans (by assumption) (by assumption) | refine Ext.trans ?_ (by assumption))) hRS
          have hKC := KC.pre (a := w) (by repeat (first | assumption | exact Ext.refl _ | refine Ext.alloc ?_ _ | refine Ext.drew ?_ | refine Ext.setB ?_ (by first | omega | (simp only [size_alloc, size_setB, size_drew]; omega)) _ | exact Ext.trans (by assumption) (by assumption) | refine Ext.trans ?_ (by assumption))) hKS
          have hK5 : KT 5 w wS := KC.kt hKC hblk (by decide)
          have hK28 : KT 28 w wS := KC.kt hKC hblk (by decide)
          refine WO_nil ?_
          first | refine bodyQ_ret0 Hvac.results182 ?_ | refine bodyQ_end0 Hvac.results182 ?_
          first
          | (exfalso; omega)
          | exact ⟨v, _, hRS2, (hI.settle hf hI.rw0 hvi (fun _ h => h) (Int.le_refl _) (by omega) (by first | (intro _; omega) | (intro h; cases h)) (by omega) hc).2, hRl.fin_val hM hMI hf hK5 hK28 hoN (by decide) (k := 1) (by decide) rfl (by decide) (by decide) (yvst_q (by decide) (by decide) _) (by show (0 : Nat) = if (yargs g 1).getD 0 0 + 1 ≤ y.env.num.toNat ∧ y.env.num.toNat - ((yargs g 1).getD 0 0 + 1) < y.hashes.length then _ else 0; rw [yargs_d (by decide), hy0, if_neg (by omega)]) (by omega) (by omega)⟩
      · have hb10p := hb10.h; try simp only [al_ete, al_dfn, Bool.not_eq_true', Bool.not_eq_false', al_ne, Bool.not_not, al_nn] at hb10p
        refine WO_guardF rfl rfl hb10.h ?_
        refine WO_guardF rfl rfl hb10.h ?_
        refine WO_guardF rfl rfl hb10.h ?_
        refine WO_guardF rfl rfl hb10.h ?_
        refine WO_guardF rfl rfl hb10.h ?_
        refine WO_guardF rfl rfl hb10.h ?_
        refine WO_guardF rfl rfl hb10.h ?_
        refine WO_p (PS_pickF rfl hb10.h rfl) ?_
        refine WO_nil ?_
        refine thn_normal ?_
        refine W_condF rfl rfl ?_
        refine W_skip ?_
        refine inBlk_normal ?_
        refine thn_normal ?_
        refine W_region rfl ?_
        refine WO_p (PS_move_ptr rfl) ?_
        refine WO_p (PS_move_ptr rfl) ?_
        refine WO_p (PS_move_int rfl) ?_
        refine WO_loadA _ Hvac.isAgg61 Hvac.sizeOf61 rfl (Hb.h (by repeat (first | assumption | exact Hb.newY _ _ | refine Hb.alloc ?_ | refine Hb.drew ?_ | refine Hb.ext (by assumption) ?_ | exact Hb.setSameL (by first | omega | (simp only [size_alloc, size_setB, size_drew]; omega)) | exact Hb.setSame (by assumption) | refine Hb.set (by first | omega | (simp only [size_alloc, size_setB, size_drew]; omega)) ?_ ))) (by first | omega | assumption | rfl | decide | exact Nat.le_refl _ | (simp only [size_ic, Value.cells]; omega) | (simp; omega) | simp) (Xt.h (by first | assumption | exact Xt.whole rfl rfl | exact Xt.whole rfl (by assumption) | exact Xt.whole rfl (by simp only [size_ic, Value.cells]; omega) | exact ⟨rfl⟩)) ?_
        refine WO_call Hvac.call235 (by rfl) (Ret.mono (settle_ex C c v B m t f _ _ _ _ _ (MS.ext hM (by repeat (first | assumption | exact Ext.refl _ | refine Ext.alloc ?_ _ | refine Ext.drew ?_ | refine Ext.setB ?_ (by first | omega | (simp only [size_alloc, size_setB, size_drew]; omega)) _ | exact Ext.trans (by assumption) (by assumption) | refine Ext.trans ?_ (by assumption)))) hA (by omega) (by first | (intro _; omega) | (intro h; cases h)) (by first | assumption | exact argW_wd hM.ty _ _ | exact Wd0 | exact flagW_wd _ | exact Wd1 | exact limb_wd (by omega)) (by omega)) ?_)
        rintro _ wS ⟨hRS, hKS⟩
        have hRS2 := MRet.pre (w := w) (by repeat (first | assumption | exact Ext.refl _ | refine Ext.alloc ?_ _ | refine Ext.drew ?_ | refine Ext.setB ?_ (by first | omega | (simp only [size_alloc, size_setB, size_drew]; omega)) _ | exact Ext.trans (by assumption) (by assumption) | refine Ext.trans ?_ (by assumption))) hRS
        have hKC := KC.pre (a := w) (by repeat (first | assumption | exact Ext.refl _ | refine Ext.alloc ?_ _ | refine Ext.drew ?_ | refine Ext.setB ?_ (by first | omega | (simp only [size_alloc, size_setB, size_drew]; omega)) _ | exact Ext.trans (by assumption) (by assumption) | refine Ext.trans ?_ (by assumption))) hKS
        have hK5 : KT 5 w wS := KC.kt hKC hblk (by decide)
        have hK28 : KT 28 w wS := KC.kt hKC hblk (by decide)
        refine WO_nil ?_
        first | refine bodyQ_ret0 Hvac.results182 ?_ | refine bodyQ_end0 Hvac.results182 ?_
        first
        | (exfalso; omega)
        | exact ⟨v, _, hRS2, (hI.settle hf hI.rw0 hvi (fun _ h => h) (Int.le_refl _) (by omega) (by first | (intro _; omega) | (intro h; cases h)) (by omega) hc).2, hRl.fin_val hM hMI hf hK5 hK28 hoN (by decide) (k := 1) (by decide) rfl (by decide) (by decide) (yvst_q (by decide) (by decide) _) (by show (0 : Nat) = if (yargs g 1).getD 0 0 + 1 ≤ y.env.num.toNat ∧ y.env.num.toNat - ((yargs g 1).getD 0 0 + 1) < y.hashes.length then _ else 0; rw [yargs_d (by decide), hy0, if_neg (by omega)]) (by omega) (by omega)⟩
    · have hb6p := hb6.h; try simp only [al_ete, al_dfn, Bool.not_eq_true', Bool.not_eq_false', al_ne, Bool.not_not, al_nn] at hb6p
      refine W_seq ?_
      refine W_region rfl ?_
      refine WO_p (PS_eql rfl rfl) ?_
      refine WO_p (PS_assign_bool rfl) ?_
      refine WO_nil ?_
      refine thn_normal ?_
      refine W_if rfl (fun hb21 => ?_) (fun hb21 => ?_)
      · have hb21p := hb21.h; try simp only [al_ete, al_dfn, Bool.not_eq_true', Bool.not_eq_false', al_ne, Bool.not_not, al_nn] at hb21p
        have hin : (0 : Int) ≤ f.sp ∧ f.sp - 0 + 1 ≤ 64 := by have h := hk; rw [show o = 65 from by omega] at h; exact h
        have hoN : o = 65 := by omega
        refine W_region rfl ?_
        refine WO_p (PS_move_ptr rfl) ?_
        refine WO_p (PS_nilCheck rfl) ?_
        refine WO_p (PS_fieldAddr 2260 Hvac.runUnderlying70 rfl Hvac.sizeOf31 rfl rfl) ?_
        refine WO_p (PS_fieldAddr 0 Hvac.runUnderlying31 rfl Hvac.sizeOf25 rfl rfl) ?_
        refine WO_loadA _ Hvac.isAgg25 Hvac.sizeOf25 rfl (Hb.h (by repeat (first | assumption | exact Hb.newY _ _ | refine Hb.alloc ?_ | refine Hb.drew ?_ | refine Hb.ext (by assumption) ?_ | exact Hb.setSameL (by first | omega | (simp only [size_alloc, size_setB, size_drew]; omega)) | exact Hb.setSame (by assumption) | refine Hb.set (by first | omega | (simp only [size_alloc, size_setB, size_drew]; omega)) ?_ ))) (by first | omega | assumption | rfl | decide | exact Nat.le_refl _ | (simp only [size_ic, Value.cells]; omega) | (simp; omega) | simp) (Xt.h (by first | assumption | exact Xt.whole rfl rfl | exact Xt.whole rfl (by assumption) | exact Xt.whole rfl (by simp only [size_ic, Value.cells]; omega) | exact ⟨rfl⟩)) ?_
        refine WO_call Hvac.call233 (by rfl) (Ret.mono (addrWord_ex _ _ (by assumption)) ?_)
        rintro _ w233_21 ⟨hE233_21, RX, rfl, hRX, hRn⟩
        have hz233_21 := hE233_21.1
        try simp only [size_alloc, size_setB, size_drew] at hz233_21
        have hRXl := hRX.1
        first | refine WO_storeW Hvac.sizeOf61 rfl (v := .agg _) rfl (Hb.h (by repeat (first | assumption | exact Hb.newY _ _ | refine Hb.alloc ?_ | refine Hb.drew ?_ | refine Hb.ext (by assumption) ?_ | exact Hb.setSameL (by first | omega | (simp only [size_alloc, size_setB, size_drew]; omega)) | exact Hb.setSame (by assumption) | refine Hb.set (by first | omega | (simp only [size_alloc, size_setB, size_drew]; omega)) ?_ ))) rfl (by first | omega | assumption | rfl | decide | exact Nat.le_refl _ | (simp only [size_ic, Value.cells]; omega) | (simp; omega) | simp) (by first | omega | assumption | rfl | decide | exact Nat.le_refl _ | (simp only [size_ic, Value.cells]; omega) | (simp; omega) | simp) (by first | exact oneCell_ic | assumption | exact one_Ws2 _ | exact one_YA2 _ | exact one_YSl2 _ | exact one_YM2 _ | exact one_YT2 _ | exact one_L2 _) ?_ | refine WO_store Hvac.sizeOf61 rfl (v := .agg _) rfl (Hb.h (by repeat (first | assumption | exact Hb.newY _ _ | refine Hb.alloc ?_ | refine Hb.drew ?_ | refine Hb.ext (by assumption) ?_ | exact Hb.setSameL (by first | omega | (simp only [size_alloc, size_setB, size_drew]; omega)) | exact Hb.setSame (by assumption) | refine Hb.set (by first | omega | (simp only [size_alloc, size_setB, size_drew]; omega)) ?_ ))) (by first | omega | assumption | rfl | decide | exact Nat.le_refl _ | (simp only [size_ic, Value.cells]; omega) | (simp; omega) | simp) (by first | omega | assumption | rfl | decide | exact Nat.le_refl _ | (simp only [size_ic, Value.cells]; omega) | (simp; omega) | simp) (by first | exact oneCell_ic | assumption | exact one_Ws2 _ | exact one_YA2 _ | exact one_YSl2 _ | exact one_YM2 _ | exact one_YT2 _ | exact one_L2 _) ?_
        refine WO_nil ?_
        refine inBlk_normal ?_
        refine thn_normal ?_
        refine W_region rfl ?_
        refine WO_p (PS_move_ptr rfl) ?_
        refine WO_p (PS_move_ptr rfl) ?_
        refine WO_p (PS_move_int rfl) ?_
        refine WO_loadA _ Hvac.isAgg61 Hvac.sizeOf61 rfl (Hb.h (by repeat (first | assumption | exact Hb.newY _ _ | refine Hb.alloc ?_ | refine Hb.drew ?_ | refine Hb.ext (by assumption) ?_ | exact Hb.setSameL (by first | omega | (simp only [size_alloc, size_setB, size_drew]; omega)) | exact Hb.setSame (by assumption) | refine Hb.set (by first | omega | (simp only [size_alloc, size_setB, size_drew]; omega)) ?_ ))) (by first | omega | assumption | rfl | decide | exact Nat.le_refl _ | (simp only [size_ic, Value.cells]; omega) | (simp; omega) | simp) (Xt.h (by first | assumption | exact Xt.whole rfl rfl | exact Xt.whole rfl (by assumption) | exact Xt.whole rfl (by simp only [size_ic, Value.cells]; omega) | exact ⟨rfl⟩)) ?_
        refine WO_call Hvac.call235 (by rfl) (Ret.mono (settle_ex C c v B m t f _ _ _ _ _ (MS.ext hM (by repeat (first | assumption | exact Ext.refl _ | refine Ext.alloc ?_ _ | refine Ext.drew ?_ | refine Ext.setB ?_ (by first | omega | (simp only [size_alloc, size_setB, size_drew]; omega)) _ | exact Ext.trans (by assumption) (by assumption) | refine Ext.trans ?_ (by assumption)))) hA (by omega) (by first | (intro _; omega) | (intro h; cases h)) (by first | assumption | exact argW_wd hM.ty _ _ | exact Wd0 | exact flagW_wd _ | exact Wd1 | exact limb_wd (by omega)) (by omega)) ?_)
        rintro _ wS ⟨hRS, hKS⟩
        have hRS2 := MRet.pre (w := w) (by repeat (first | assumption | exact Ext.refl _ | refine Ext.alloc ?_ _ | refine Ext.drew ?_ | refine Ext.setB ?_ (by first | omega | (simp only [size_alloc, size_setB, size_drew]; omega)) _ | exact Ext.trans (by assumption) (by assumption) | refine Ext.trans ?_ (by assumption))) hRS
        have hKC := KC.pre (a := w) (by repeat (first | assumption | exact Ext.refl _ | refine Ext.alloc ?_ _ | refine Ext.drew ?_ | refine Ext.setB ?_ (by first | omega | (simp only [size_alloc, size_setB, size_drew]; omega)) _ | exact Ext.trans (by assumption) (by assumption) | refine Ext.trans ?_ (by assumption))) hKS
        have hK5 : KT 5 w wS := KC.kt hKC hblk (by decide)
        have hK28 : KT 28 w wS := KC.kt hKC hblk (by decide)
        refine WO_nil ?_
        first | refine bodyQ_ret0 Hvac.results182 ?_ | refine bodyQ_end0 Hvac.results182 ?_
        first
        | (exfalso; omega)
        | exact ⟨v, _, hRS2, (hI.settle hf hI.rw0 hvi (fun _ h => h) (Int.le_refl _) (by omega) (by first | (intro _; omega) | (intro h; cases h)) (by omega) hc).2, hRl.fin_val hM hMI hf hK5 hK28 hoN (by decide) (k := 0) (by decide) rfl (by decide) (by decide) (yvst_q (by decide) (by decide) _) (hRn.trans (by rw [hRP.ecb]; rfl)) (by omega) (by omega)⟩
      · have hb21p := hb21.h; try simp only [al_ete, al_dfn, Bool.not_eq_true', Bool.not_eq_false', al_ne, Bool.not_not, al_nn] at hb21p
        refine W_seq ?_
        refine W_region rfl ?_
        refine WO_p (PS_eql rfl rfl) ?_
        refine WO_p (PS_assign_bool rfl) ?_
        refine WO_nil ?_
        refine thn_normal ?_
        refine W_if rfl (fun hb25 => ?_) (fun hb25 => ?_)
        · have hb25p := hb25.h; try simp only [al_ete, al_dfn, Bool.not_eq_true', Bool.not_eq_false', al_ne, Bool.not_not, al_nn] at hb25p
          have hin : (0 : Int) ≤ f.sp ∧ f.sp - 0 + 1 ≤ 64 := by have h := hk; rw [show o = 66 from by omega] at h; exact h
          have hoN : o = 66 := by omega
          refine W_region rfl ?_
          refine WO_p (PS_move_ptr rfl) ?_
          refine WO_p (PS_nilCheck rfl) ?_
          refine WO_p (PS_fieldAddr 2260 Hvac.runUnderlying70 rfl Hvac.sizeOf31 rfl rfl) ?_
          refine WO_p (PS_fieldAddr 21 Hvac.runUnderlying31 rfl Hvac.sizeOf26 rfl rfl) ?_
          refine WO_load (.int _ _) Hvac.isAgg26 rfl (Hb.h (by repeat (first | assumption | exact Hb.newY _ _ | refine Hb.alloc ?_ | refine Hb.drew ?_ | refine Hb.ext (by assumption) ?_ | exact Hb.setSameL (by first | omega | (simp only [size_alloc, size_setB, size_drew]; omega)) | exact Hb.setSame (by assumption) | refine Hb.set (by first | omega | (simp only [size_alloc, size_setB, size_drew]; omega)) ?_ ))) (Ce.h (by first | assumption | exact ⟨rfl⟩)) ?_
          refine WO_p (PS_indexA Hvac.runUnderlying61 Hvac.sizeOf26 rfl rfl (by omega) (by omega)) ?_
          refine WO_store1 Hvac.sizeOf26 rfl (v := .int _ _) rfl (Hb.h (by repeat (first | assumption | exact Hb.newY _ _ | refine Hb.alloc ?_ | refine Hb.drew ?_ | refine Hb.ext (by assumption) ?_ | exact Hb.setSameL (by first | omega | (simp only [size_alloc, size_setB, size_drew]; omega)) | exact Hb.setSame (by assumption) | refine Hb.set (by first | omega | (simp only [size_alloc, size_setB, size_drew]; omega)) ?_ ))) rfl (by first | omega | assumption | rfl | decide | exact Nat.le_refl _ | (simp only [size_ic, Value.cells]; omega) | (simp; omega) | simp) rfl ?_
          change WO _ _ _ _ _ (setB _ _ (.cells (ic .u64 [_, 0, 0, 0]) 61 (0, 0)))
          refine WO_nil ?_
          refine inBlk_normal ?_
          refine thn_normal ?_
          refine W_region rfl ?_
          refine WO_p (PS_move_ptr rfl) ?_
          refine WO_p (PS_move_ptr rfl) ?_
          refine WO_p (PS_move_int rfl) ?_
          refine WO_loadA _ Hvac.isAgg61 Hvac.sizeOf61 rfl (Hb.h (by repeat (first | assumption | exact Hb.newY _ _ | refine Hb.alloc ?_ | refine Hb.drew ?_ | refine Hb.ext (by assumption) ?_ | exact Hb.setSameL (by first | omega | (simp only [size_alloc, size_setB, size_drew]; omega)) | exact Hb.setSame (by assumption) | refine Hb.set (by first | omega | (simp only [size_alloc, size_setB, size_drew]; omega)) ?_ ))) (by first | omega | assumption | rfl | decide | exact Nat.le_refl _ | (simp only [size_ic, Value.cells]; omega) | (simp; omega) | simp) (Xt.h (by first | assumption | exact Xt.whole rfl rfl | exact Xt.whole rfl (by assumption) | exact Xt.whole rfl (by simp only [size_ic, Value.cells]; omega) | exact ⟨rfl⟩)) ?_
          refine WO_call Hvac.call235 (by rfl) (Ret.mono (settle_ex C c v B m t f _ _ _ _ _ (MS.ext hM (by repeat (first | assumption | exact Ext.refl _ | refine Ext.alloc ?_ _ | refine Ext.drew ?_ | refine Ext.setB ?_ (by first | omega | (simp only [size_alloc, size_setB, size_drew]; omega)) _ | exact Ext.trans (by assumption) (by assumption) | refine Ext.trans ?_ (by assumption)))) hA (by omega) (by first | (intro _; omega) | (intro h; cases h)) (by first | assumption | exact argW_wd hM.ty _ _ | exact Wd0 | exact flagW_wd _ | exact Wd1 | exact limb_wd (by omega)) (by omega)) ?_)
          rintro _ wS ⟨hRS, hKS⟩
          have hRS2 := MRet.pre (w := w) (by repeat (first | assumption | exact Ext.refl _ | refine Ext.alloc ?_ _ | refine Ext.drew ?_ | refine Ext.setB ?_ (by first | omega | (simp only [size_alloc, size_setB, size_drew]; omega)) _ | exact Ext.trans (by assumption) (by assumption) | refine Ext.trans ?_ (by assumption))) hRS
          have hKC := KC.pre (a := w) (by repeat (first | assumption | exact Ext.refl _ | refine Ext.alloc ?_ _ | refine Ext.drew ?_ | refine Ext.setB ?_ (by first | omega | (simp only [size_alloc, size_setB, size_drew]; omega)) _ | exact Ext.trans (by assumption) (by assumption) | refine Ext.trans ?_ (by assumption))) hKS
          have hK5 : KT 5 w wS := KC.kt hKC hblk (by decide)
          have hK28 : KT 28 w wS := KC.kt hKC hblk (by decide)
          refine WO_nil ?_
          first | refine bodyQ_ret0 Hvac.results182 ?_ | refine bodyQ_end0 Hvac.results182 ?_
          first
          | (exfalso; omega)
          | exact ⟨v, _, hRS2, (hI.settle hf hI.rw0 hvi (fun _ h => h) (Int.le_refl _) (by omega) (by first | (intro _; omega) | (intro h; cases h)) (by omega) hc).2, hRl.fin_val hM hMI hf hK5 hK28 hoN (by decide) (k := 0) (by decide) rfl (by decide) (by decide) (yvst_q (by decide) (by decide) _) (by rw [wn_one (by omega)]; show _ = y.env.timeY.toNat; rw [hRP.etime]) (by omega) (by omega)⟩
        · have hb25p := hb25.h; try simp only [al_ete, al_dfn, Bool.not_eq_true', Bool.not_eq_false', al_ne, Bool.not_not, al_nn] at hb25p
          refine W_seq ?_
          refine W_region rfl ?_
          refine WO_p (PS_eql rfl rfl) ?_
          refine WO_p (PS_assign_bool rfl) ?_
          refine WO_nil ?_
          refine thn_normal ?_
          refine W_if rfl (fun hb28 => ?_) (fun hb28 => ?_)
          · have hb28p := hb28.h; try simp only [al_ete, al_dfn, Bool.not_eq_true', Bool.not_eq_false', al_ne, Bool.not_not, al_nn] at hb28p
            have hin : (0 : Int) ≤ f.sp ∧ f.sp - 0 + 1 ≤ 64 := by have h := hk; rw [show o = 67 from by omega] at h; exact h
            have hoN : o = 67 := by omega
            refine W_region rfl ?_
            refine WO_p (PS_move_ptr rfl) ?_
            refine WO_p (PS_nilCheck rfl) ?_
            refine WO_p (PS_fieldAddr 2260 Hvac.runUnderlying70 rfl Hvac.sizeOf31 rfl rfl) ?_
            refine WO_p (PS_fieldAddr 20 Hvac.runUnderlying31 rfl Hvac.sizeOf26 rfl rfl) ?_
            refine WO_load (.int _ _) Hvac.isAgg26 rfl (Hb.h (by repeat (first | assumption | exact Hb.newY _ _ | refine Hb.alloc ?_ | refine Hb.drew ?_ | refine Hb.ext (by assumption) ?_ | exact Hb.setSameL (by first | omega | (simp only [size_alloc, size_setB, size_drew]; omega)) | exact Hb.setSame (by assumption) | refine Hb.set (by first | omega | (simp only [size_alloc, size_setB, size_drew]; omega)) ?_ ))) (Ce.h (by first | assumption | exact ⟨rfl⟩)) ?_
            refine WO_p (PS_indexA Hvac.runUnderlying61 Hvac.sizeOf26 rfl rfl (by omega) (by omega)) ?_
            refine WO_store1 Hvac.sizeOf26 rfl (v := .int _ _) rfl (Hb.h (by repeat (first | assumption | exact Hb.newY _ _ | refine Hb.alloc ?_ | refine Hb.drew ?_ | refine Hb.ext (by assumption) ?_ | exact Hb.setSameL (by first | omega | (simp only [size_alloc, size_setB, size_drew]; omega)) | exact Hb.setSame (by assumption) | refine Hb.set (by first | omega | (simp only [size_alloc, size_setB, size_drew]; omega)) ?_ ))) rfl (by first | omega | assumption | rfl | decide | exact Nat.le_refl _ | (simp only [size_ic, Value.cells]; omega) | (simp; omega) | simp) rfl ?_
            change WO _ _ _ _ _ (setB _ _ (.cells (ic .u64 [_, 0, 0, 0]) 61 (0, 0)))
            refine WO_nil ?_
            refine inBlk_normal ?_
            refine thn_normal ?_
            refine W_region rfl ?_
            refine WO_p (PS_move_ptr rfl) ?_
            refine WO_p (PS_move_ptr rfl) ?_
            refine WO_p (PS_move_int rfl) ?_
            refine WO_loadA _ Hvac.isAgg61 Hvac.sizeOf61 rfl (Hb.h (by repeat (first | assumption | exact Hb.newY _ _ | refine Hb.alloc ?_ | refine Hb.drew ?_ | refine Hb.ext (by assumption) ?_ | exact Hb.setSameL (by first | omega | (simp only [size_alloc, size_setB, size_drew]; omega)) | exact Hb.setSame (by assumption) | refine Hb.set (by first | omega | (simp only [size_alloc, size_setB, size_drew]; omega)) ?_ ))) (by first | omega | assumption | rfl | decide | exact Nat.le_refl _ | (simp only [size_ic, Value.cells]; omega) | (simp; omega) | simp) (Xt.h (by first | assumption | exact Xt.whole rfl rfl | exact Xt.whole rfl (by assumption) | exact Xt.whole rfl (by simp only [size_ic, Value.cells]; omega) | exact ⟨rfl⟩)) ?_
            refine WO_call Hvac.call235 (by rfl) (Ret.mono (settle_ex C c v B m t f _ _ _ _ _ (MS.ext hM (by repeat (first | assumption | exact Ext.refl _ | refine Ext.alloc ?_ _ | refine Ext.drew ?_ | refine Ext.setB ?_ (by first | omega | (simp only [size_alloc, size_setB, size_drew]; omega)) _ | exact Ext.trans (by assumption) (by assumption) | refine Ext.trans ?_ (by assumption)))) hA (by omega) (by first | (intro _; omega) | (intro h; cases h)) (by first | assumption | exact argW_wd hM.ty _ _ | exact Wd0 | exact flagW_wd _ | exact Wd1 | exact limb_wd (by omega)) (by omega)) ?_)
            rintro _ wS ⟨hRS, hKS⟩
            have hRS2 := MRet.pre (w := w) (by repeat (first | assumption | exact Ext.refl _ | refine Ext.alloc ?_ _ | refine Ext.drew ?_ | refine Ext.setB ?_ (by first | omega | (simp only [size_alloc, size_setB, size_drew]; omega)) _ | exact Ext.trans (by assumption) (by assumption) | refine Ext.trans ?_ (by assumption))) hRS
            have hKC := KC.pre (a := w) (by repeat (first | assumption | exact Ext.refl _ | refine Ext.alloc ?_ _ | refine Ext.drew ?_ | refine Ext.setB ?_ (by first | omega | (simp only [size_alloc, size_setB, size_drew]; omega)) _ | exact Ext.trans (by assumption) (by assumption) | refine Ext.trans ?_ (by assumption))) hKS
            have hK5 : KT 5 w wS := KC.kt hKC hblk (by decide)
            have hK28 : KT 28 w wS := KC.kt hKC hblk (by decide)
            refine WO_nil ?_
            first | refine bodyQ_ret0 Hvac.results182 ?_ | refine bodyQ_end0 Hvac.results182 ?_
            first
            | (exfalso; omega)
            | exact ⟨v, _, hRS2, (hI.settle hf hI.rw0 hvi (fun _ h => h) (Int.le_refl _) (by omega) (by first | (intro _; omega) | (intro h; cases h)) (by omega) hc).2, hRl.fin_val hM hMI hf hK5 hK28 hoN (by decide) (k := 0) (by decide) rfl (by decide) (by decide) (yvst_q (by decide) (by decide) _) (by rw [wn_one (by omega)]; show _ = y.env.num.toNat; rw [hRP.enum]) (by omega) (by omega)⟩
          · have hb28p := hb28.h; try simp only [al_ete, al_dfn, Bool.not_eq_true', Bool.not_eq_false', al_ne, Bool.not_not, al_nn] at hb28p
            refine W_seq ?_
            refine W_region rfl ?_
            refine WO_p (PS_eql rfl rfl) ?_
            refine WO_p (PS_assign_bool rfl) ?_
            refine WO_nil ?_
            refine thn_normal ?_
            refine W_if rfl (fun hb31 => ?_) (fun hb31 => ?_)
            · have hb31p := hb31.h; try simp only [al_ete, al_dfn, Bool.not_eq_true', Bool.not_eq_false', al_ne, Bool.not_not, al_nn] at hb31p
              have hin : (0 : Int) ≤ f.sp ∧ f.sp - 0 + 1 ≤ 64 := by have h := hk; rw [show o = 68 from by omega] at h; exact h
              have hoN : o = 68 := by omega
              refine W_region rfl ?_
              refine WO_p (PS_move_ptr rfl) ?_
              refine WO_p (PS_nilCheck rfl) ?_
              refine WO_p (PS_fieldAddr 2260 Hvac.runUnderlying70 rfl Hvac.sizeOf31 rfl rfl) ?_
              refine WO_p (PS_fieldAddr 23 Hvac.runUnderlying31 rfl Hvac.sizeOf28 rfl rfl) ?_
              refine WO_loadA _ Hvac.isAgg28 Hvac.sizeOf28 rfl (Hb.h (by repeat (first | assumption | exact Hb.newY _ _ | refine Hb.alloc ?_ | refine Hb.drew ?_ | refine Hb.ext (by assumption) ?_ | exact Hb.setSameL (by first | omega | (simp only [size_alloc, size_setB, size_drew]; omega)) | exact Hb.setSame (by assumption) | refine Hb.set (by first | omega | (simp only [size_alloc, size_setB, size_drew]; omega)) ?_ ))) (by first | omega | assumption | rfl | decide | exact Nat.le_refl _ | (simp only [size_ic, Value.cells]; omega) | (simp; omega) | simp) (Xt.h (by first | assumption | exact Xt.whole rfl rfl | exact Xt.whole rfl (by assumption) | exact Xt.whole rfl (by simp only [size_ic, Value.cells]; omega) | exact ⟨rfl⟩)) ?_
              refine WO_call Hvac.call69 (by rfl) (Ret.mono (fromBytes_spec _ _ (by assumption)) ?_)
              rintro _ w69_31 ⟨rfl, hE69_31⟩
              have hz69_31 := hE69_31.1
              try simp only [size_alloc, size_setB, size_drew] at hz69_31
              first | refine WO_storeW Hvac.sizeOf61 rfl (v := .agg _) rfl (Hb.h (by repeat (first | assumption | exact Hb.newY _ _ | refine Hb.alloc ?_ | refine Hb.drew ?_ | refine Hb.ext (by assumption) ?_ | exact Hb.setSameL (by first | omega | (simp only [size_alloc, size_setB, size_drew]; omega)) | exact Hb.setSame (by assumption) | refine Hb.set (by first | omega | (simp only [size_alloc, size_setB, size_drew]; omega)) ?_ ))) rfl (by first | omega | assumption | rfl | decide | exact Nat.le_refl _ | (simp only [size_ic, Value.cells]; omega) | (simp; omega) | simp) (by first | omega | assumption | rfl | decide | exact Nat.le_refl _ | (simp only [size_ic, Value.cells]; omega) | (simp; omega) | simp) (by first | exact oneCell_ic | assumption | exact one_Ws2 _ | exact one_YA2 _ | exact one_YSl2 _ | exact one_YM2 _ | exact one_YT2 _ | exact one_L2 _) ?_ | refine WO_store Hvac.sizeOf61 rfl (v := .agg _) rfl (Hb.h (by repeat (first | assumption | exact Hb.newY _ _ | refine Hb.alloc ?_ | refine Hb.drew ?_ | refine Hb.ext (by assumption) ?_ | exact Hb.setSameL (by first | omega | (simp only [size_alloc, size_setB, size_drew]; omega)) | exact Hb.setSame (by assumption) | refine Hb.set (by first | omega | (simp only [size_alloc, size_setB, size_drew]; omega)) ?_ ))) (by first | omega | assumption | rfl | decide | exact Nat.le_refl _ | (simp only [size_ic, Value.cells]; omega) | (simp; omega) | simp) (by first | omega | assumption | rfl | decide | exact Nat.le_refl _ | (simp only [size_ic, Value.cells]; omega) | (simp; omega) | simp) (by first | exact oneCell_ic | assumption | exact one_Ws2 _ | exact one_YA2 _ | exact one_YSl2 _ | exact one_YM2 _ | exact one_YT2 _ | exact one_L2 _) ?_
              refine WO_nil ?_
              refine inBlk_normal ?_
              refine thn_normal ?_
              refine W_region rfl ?_
              refine WO_p (PS_move_ptr rfl) ?_
              refine WO_p (PS_move_ptr rfl) ?_
              refine WO_p (PS_move_int rfl) ?_
              refine WO_loadA _ Hvac.isAgg61 Hvac.sizeOf61 rfl (Hb.h (by repeat (first | assumption | exact Hb.newY _ _ | refine Hb.alloc ?_ | refine Hb.drew ?_ | refine Hb.ext (by assumption) ?_ | exact Hb.setSameL (by first | omega | (simp only [size_alloc, size_setB, size_drew]; omega)) | exact Hb.setSame (by assumption) | refine Hb.set (by first | omega | (simp only [size_alloc, size_setB, size_drew]; omega)) ?_ ))) (by first | omega | assumption | rfl | decide | exact Nat.le_refl _ | (simp only [size_ic, Value.cells]; omega) | (simp; omega) | simp) (Xt.h (by first | assumption | exact Xt.whole rfl rfl | exact Xt.whole rfl (by assumption) | exact Xt.whole rfl (by simp only [size_ic, Value.cells]; omega) | exact ⟨rfl⟩)) ?_
              refine WO_call Hvac.call235 (by rfl) (Ret.mono (settle_ex C c v B m t f _ _ _ _ _ (MS.ext hM (by repeat (first | assumption | exact Ext.refl _ | refine Ext.alloc ?_ _ | refine Ext.drew ?_ | refine Ext.setB ?_ (by first | omega | (simp only [size_alloc, size_setB, size_drew]; omega)) _ | exact Ext.trans (by assumption) (by assumption) | refine Ext.trans ?_ (by assumption)))) hA (by omega) (by first | (intro _; omega) | (intro h; cases h)) (by first | assumption | exact argW_wd hM.ty _ _ | exact Wd0 | exact flagW_wd _ | exact Wd1 | exact limb_wd (by omega)) (by omega)) ?_)
              rintro _ wS ⟨hRS, hKS⟩
              have hRS2 := MRet.pre (w := w) (by repeat (first | assumption | exact Ext.refl _ | refine Ext.alloc ?_ _ | refine Ext.drew ?_ | refine Ext.setB ?_ (by first | omega | (simp only [size_alloc, size_setB, size_drew]; omega)) _ | exact Ext.trans (by assumption) (by assumption) | refine Ext.trans ?_ (by assumption))) hRS
              have hKC := KC.pre (a := w) (by repeat (first | assumption | exact Ext.refl _ | refine Ext.alloc ?_ _ | refine Ext.drew ?_ | refine Ext.setB ?_ (by first | omega | (simp only [size_alloc, size_setB, size_drew]; omega)) _ | exact Ext.trans (by assumption) (by assumption) | refine Ext.trans ?_ (by assumption))) hKS
              have hK5 : KT 5 w wS := KC.kt hKC hblk (by decide)
              have hK28 : KT 28 w wS := KC.kt hKC hblk (by decide)
              refine WO_nil ?_
              first | refine bodyQ_ret0 Hvac.results182 ?_ | refine bodyQ_end0 Hvac.results182 ?_
              first
              | (exfalso; omega)
              | exact ⟨v, _, hRS2, (hI.settle hf hI.rw0 hvi (fun _ h => h) (Int.le_refl _) (by omega) (by first | (intro _; omega) | (intro h; cases h)) (by omega) hc).2, hRl.fin_val hM hMI hf hK5 hK28 hoN (by decide) (k := 0) (by decide) rfl (by decide) (by decide) (yvst_q (by decide) (by decide) _) (by rw [wn_fromB hbr, hRP.erand]; rfl) (by omega) (by omega)⟩
            · have hb31p := hb31.h; try simp only [al_ete, al_dfn, Bool.not_eq_true', Bool.not_eq_false', al_ne, Bool.not_not, al_nn] at hb31p
              refine W_seq ?_
              refine W_region rfl ?_
              refine WO_p (PS_eql rfl rfl) ?_
              refine WO_p (PS_assign_bool rfl) ?_
              refine WO_nil ?_
              refine thn_normal ?_
              refine W_if rfl (fun hb35 => ?_) (fun hb35 => ?_)
              · have hb35p := hb35.h; try simp only [al_ete, al_dfn, Bool.not_eq_true', Bool.not_eq_false', al_ne, Bool.not_not, al_nn] at hb35p
                have hin : (0 : Int) ≤ f.sp ∧ f.sp - 0 + 1 ≤ 64 := by have h := hk; rw [show o = 69 from by omega] at h; exact h
                have hoN : o = 69 := by omega
                refine W_region rfl ?_
                refine WO_p (PS_move_ptr rfl) ?_
                refine WO_p (PS_nilCheck rfl) ?_
                refine WO_p (PS_fieldAddr 2260 Hvac.runUnderlying70 rfl Hvac.sizeOf31 rfl rfl) ?_
                refine WO_p (PS_fieldAddr 22 Hvac.runUnderlying31 rfl Hvac.sizeOf26 rfl rfl) ?_
                refine WO_load (.int _ _) Hvac.isAgg26 rfl (Hb.h (by repeat (first | assumption | exact Hb.newY _ _ | refine Hb.alloc ?_ | refine Hb.drew ?_ | refine Hb.ext (by assumption) ?_ | exact Hb.setSameL (by first | omega | (simp only [size_alloc, size_setB, size_drew]; omega)) | exact Hb.setSame (by assumption) | refine Hb.set (by first | omega | (simp only [size_alloc, size_setB, size_drew]; omega)) ?_ ))) (Ce.h (by first | assumption | exact ⟨rfl⟩)) ?_
                refine WO_p (PS_indexA Hvac.runUnderlying61 Hvac.sizeOf26 rfl rfl (by omega) (by omega)) ?_
                refine WO_store1 Hvac.sizeOf26 rfl (v := .int _ _) rfl (Hb.h (by repeat (first | assumption | exact Hb.newY _ _ | refine Hb.alloc ?_ | refine Hb.drew ?_ | refine Hb.ext (by assumption) ?_ | exact Hb.setSameL (by first | omega | (simp only [size_alloc, size_setB, size_drew]; omega)) | exact Hb.setSame (by assumption) | refine Hb.set (by first | omega | (simp only [size_alloc, size_setB, size_drew]; omega)) ?_ ))) rfl (by first | omega | assumption | rfl | decide | exact Nat.le_refl _ | (simp only [size_ic, Value.cells]; omega) | (simp; omega) | simp) rfl ?_
                change WO _ _ _ _ _ (setB _ _ (.cells (ic .u64 [_, 0, 0, 0]) 61 (0, 0)))
                refine WO_nil ?_
                refine inBlk_normal ?_
                refine thn_normal ?_
                refine W_region rfl ?_
                refine WO_p (PS_move_ptr rfl) ?_
                refine WO_p (PS_move_ptr rfl) ?_
                refine WO_p (PS_move_int rfl) ?_
                refine WO_loadA _ Hvac.isAgg61 Hvac.sizeOf61 rfl (Hb.h (by repeat (first | assumption | exact Hb.newY _ _ | refine Hb.alloc ?_ | refine Hb.drew ?_ | refine Hb.ext (by assumption) ?_ | exact Hb.setSameL (by first | omega | (simp only [size_alloc, size_setB, size_drew]; omega)) | exact Hb.setSame (by assumption) | refine Hb.set (by first | omega | (simp only [size_alloc, size_setB, size_drew]; omega)) ?_ ))) (by first | omega | assumption | rfl | decide | exact Nat.le_refl _ | (simp only [size_ic, Value.cells]; omega) | (simp; omega) | simp) (Xt.h (by first | assumption | exact Xt.whole rfl rfl | exact Xt.whole rfl (by assumption) | exact Xt.whole rfl (by simp only [size_ic, Value.cells]; omega) | exact ⟨rfl⟩)) ?_
                refine WO_call Hvac.call235 (by rfl) (Ret.mono (settle_ex C c v B m t f _ _ _ _ _ (MS.ext hM (by repeat (first | assumption | exact Ext.refl _ | refine Ext.alloc ?_ _ | refine Ext.drew ?_ | refine Ext.setB ?_ (by first | omega | (simp only [size_alloc, size_setB, size_drew]; omega)) _ | exact Ext.trans (by assumption) (by assumption) | refine Ext.trans ?_ (by assumption)))) hA (by omega) (by first | (intro _; omega) | (intro h; cases h)) (by first | assumption | exact argW_wd hM.ty _ _ | exact Wd0 | exact flagW_wd _ | exact Wd1 | exact limb_wd (by omega)) (by omega)) ?_)
                rintro _ wS ⟨hRS, hKS⟩
                have hRS2 := MRet.pre (w := w) (by repeat (first | assumption | exact Ext.refl _ | refine Ext.alloc ?_ _ | refine Ext.drew ?_ | refine Ext.setB ?_ (by first | omega | (simp only [size_alloc, size_setB, size_drew]; omega)) _ | exact Ext.trans (by assumption) (by assumption) | refine Ext.trans ?_ (by assumption))) hRS
                have hKC := KC.pre (a := w) (by repeat (first | assumption | exact Ext.refl _ | refine Ext.alloc ?_ _ | refine Ext.drew ?_ | refine Ext.setB ?_ (by first | omega | (simp only [size_alloc, size_setB, size_drew]; omega)) _ | exact Ext.trans (by assumption) (by assumption) | refine Ext.trans ?_ (by assumption))) hKS
                have hK5 : KT 5 w wS := KC.kt hKC hblk (by decide)
                have hK28 : KT 28 w wS := KC.kt hKC hblk (by decide)
                refine WO_nil ?_
                first | refine bodyQ_ret0 Hvac.results182 ?_ | refine bodyQ_end0 Hvac.results182 ?_
                first
                | (exfalso; omega)
                | exact ⟨v, _, hRS2, (hI.settle hf hI.rw0 hvi (fun _ h => h) (Int.le_refl _) (by omega) (by first | (intro _; omega) | (intro h; cases h)) (by omega) hc).2, hRl.fin_val hM hMI hf hK5 hK28 hoN (by decide) (k := 0) (by decide) rfl (by decide) (by decide) (yvst_q (by decide) (by decide) _) (by rw [wn_one (by omega)]; show _ = y.env.glim.toNat; rw [hRP.eglim]) (by omega) (by omega)⟩
              · have hb35p := hb35.h; try simp only [al_ete, al_dfn, Bool.not_eq_true', Bool.not_eq_false', al_ne, Bool.not_not, al_nn] at hb35p
                refine W_seq ?_
                refine W_region rfl ?_
                refine WO_p (PS_eql rfl rfl) ?_
                refine WO_p (PS_assign_bool rfl) ?_
                refine WO_nil ?_
                refine thn_normal ?_
                refine W_if rfl (fun hb38 => ?_) (fun hb38 => ?_)
                · have hb38p := hb38.h; try simp only [al_ete, al_dfn, Bool.not_eq_true', Bool.not_eq_false', al_ne, Bool.not_not, al_nn] at hb38p
                  have hin : (0 : Int) ≤ f.sp ∧ f.sp - 0 + 1 ≤ 64 := by have h := hk; rw [show o = 70 from by omega] at h; exact h
                  have hoN : o = 70 := by omega
                  refine W_region rfl ?_
                  refine WO_p (PS_move_ptr rfl) ?_
                  refine WO_p (PS_nilCheck rfl) ?_
                  refine WO_p (PS_fieldAddr 2260 Hvac.runUnderlying70 rfl Hvac.sizeOf31 rfl rfl) ?_
                  refine WO_p (PS_fieldAddr 55 Hvac.runUnderlying31 rfl Hvac.sizeOf28 rfl rfl) ?_
                  refine WO_loadA _ Hvac.isAgg28 Hvac.sizeOf28 rfl (Hb.h (by repeat (first | assumption | exact Hb.newY _ _ | refine Hb.alloc ?_ | refine Hb.drew ?_ | refine Hb.ext (by assumption) ?_ | exact Hb.setSameL (by first | omega | (simp only [size_alloc, size_setB, size_drew]; omega)) | exact Hb.setSame (by assumption) | refine Hb.set (by first | omega | (simp only [size_alloc, size_setB, size_drew]; omega)) ?_ ))) (by first | omega | assumption | rfl | decide | exact Nat.le_refl _ | (simp only [size_ic, Value.cells]; omega) | (simp; omega) | simp) (Xt.h (by first | assumption | exact Xt.whole rfl rfl | exact Xt.whole rfl (by assumption) | exact Xt.whole rfl (by simp only [size_ic, Value.cells]; omega) | exact ⟨rfl⟩)) ?_
                  refine WO_call Hvac.call69 (by rfl) (Ret.mono (fromBytes_spec _ _ (by assumption)) ?_)
                  rintro _ w69_38 ⟨rfl, hE69_38⟩
                  have hz69_38 := hE69_38.1
                  try simp only [size_alloc, size_setB, size_drew] at hz69_38
                  first | refine WO_storeW Hvac.sizeOf61 rfl (v := .agg _) rfl (Hb.h (by repeat (first | assumption | exact Hb.newY _ _ | refine Hb.alloc ?_ | refine Hb.drew ?_ | refine Hb.ext (by assumption) ?_ | exact Hb.setSameL (by first | omega | (simp only [size_alloc, size_setB, size_drew]; omega)) | exact Hb.setSame (by assumption) | refine Hb.set (by first | omega | (simp only [size_alloc, size_setB, size_drew]; omega)) ?_ ))) rfl (by first | omega | assumption | rfl | decide | exact Nat.le_refl _ | (simp only [size_ic, Value.cells]; omega) | (simp; omega) | simp) (by first | omega | assumption | rfl | decide | exact Nat.le_refl _ | (simp only [size_ic, Value.cells]; omega) | (simp; omega) | simp) (by first | exact oneCell_ic | assumption | exact one_Ws2 _ | exact one_YA2 _ | exact one_YSl2 _ | exact one_YM2 _ | exact one_YT2 _ | exact one_L2 _) ?_ | refine WO_store Hvac.sizeOf61 rfl (v := .agg _) rfl (Hb.h (by repeat (first | assumption | exact Hb.newY _ _ | refine Hb.alloc ?_ | refine Hb.drew ?_ | refine Hb.ext (by assumption) ?_ | exact Hb.setSameL (by first | omega | (simp only [size_alloc, size_setB, size_drew]; omega)) | exact Hb.setSame (by assumption) | refine Hb.set (by first | omega | (simp only [size_alloc, size_setB, size_drew]; omega)) ?_ ))) (by first | omega | assumption | rfl | decide | exact Nat.le_refl _ | (simp only [size_ic, Value.cells]; omega) | (simp; omega) | simp) (by first | omega | assumption | rfl | decide | exact Nat.le_refl _ | (simp only [size_ic, Value.cells]; omega) | (simp; omega) | simp) (by first | exact oneCell_ic | assumption | exact one_Ws2 _ | exact one_YA2 _ | exact one_YSl2 _ | exact one_YM2 _ | exact one_YT2 _ | exact one_L2 _) ?_
                  refine WO_nil ?_
                  refine inBlk_normal ?_
                  refine thn_normal ?_
                  refine W_region rfl ?_
                  refine WO_p (PS_move_ptr rfl) ?_
                  refine WO_p (PS_move_ptr rfl) ?_
                  refine WO_p (PS_move_int rfl) ?_
                  refine WO_loadA _ Hvac.isAgg61 Hvac.sizeOf61 rfl (Hb.h (by repeat (first | assumption | exact Hb.newY _ _ | refine Hb.alloc ?_ | refine Hb.drew ?_ | refine Hb.ext (by assumption) ?_ | exact Hb.setSameL (by first | omega | (simp only [size_alloc, size_setB, size_drew]; omega)) | exact Hb.setSame (by assumption) | refine Hb.set (by first | omega | (simp only [size_alloc, size_setB, size_drew]; omega)) ?_ ))) (by first | omega | assumption | rfl | decide | exact Nat.le_refl _ | (simp only [size_ic, Value.cells]; omega) | (simp; omega) | simp) (Xt.h (by first | assumption | exact Xt.whole rfl rfl | exact Xt.whole rfl (by assumption) | exact Xt.whole rfl (by simp only [size_ic, Value.cells]; omega) | exact ⟨rfl⟩)) ?_
                  refine WO_call Hvac.call235 (by rfl) (Ret.mono (settle_ex C c v B m t f _ _ _ _ _ (MS.ext hM (by repeat (first | assumption | exact Ext.refl _ | refine Ext.alloc ?_ _ | refine Ext.drew ?_ | refine Ext.setB ?_ (by first | omega | (simp only [size_alloc, size_setB, size_drew]; omega)) _ | exact Ext.trans (by assumption) (by assumption) | refine Ext.trans ?_ (by assumption)))) hA (by omega) (by first | (intro _; omega) | (intro h; cases h)) (by first | assumption | exact argW_wd hM.ty _ _ | exact Wd0 | exact flagW_wd _ | exact Wd1 | exact limb_wd (by omega)) (by omega)) ?_)
                  rintro _ wS ⟨hRS, hKS⟩
                  have hRS2 := MRet.pre (w := w) (by repeat (first | assumption | exact Ext.refl _ | refine Ext.alloc ?_ _ | refine Ext.drew ?_ | refine Ext.setB ?_ (by first | omega | (simp only [size_alloc, size_setB, size_drew]; omega)) _ | exact Ext.trans (by assumption) (by assumption) | refine Ext.trans ?_ (by assumption))) hRS
                  have hKC := KC.pre (a := w) (by repeat (first | assumption | exact Ext.refl _ | refine Ext.alloc ?_ _ | refine Ext.drew ?_ | refine Ext.setB ?_ (by first | omega | (simp only [size_alloc, size_setB, size_drew]; omega)) _ | exact Ext.trans (by assumption) (by assumption) | refine Ext.trans ?_ (by assumption))) hKS
                  have hK5 : KT 5 w wS := KC.kt hKC hblk (by decide)
                  have hK28 : KT 28 w wS := KC.kt hKC hblk (by decide)
                  refine WO_nil ?_
                  first | refine bodyQ_ret0 Hvac.results182 ?_ | refine bodyQ_end0 Hvac.results182 ?_
                  first
                  | (exfalso; omega)
                  | exact ⟨v, _, hRS2, (hI.settle hf hI.rw0 hvi (fun _ h => h) (Int.le_refl _) (by omega) (by first | (intro _; omega) | (intro h; cases h)) (by omega) hc).2, hRl.fin_val hM hMI hf hK5 hK28 hoN (by decide) (k := 0) (by decide) rfl (by decide) (by decide) (yvst_q (by decide) (by decide) _) (by rw [wn_fromB hbc, hRP.ecid]; rfl) (by omega) (by omega)⟩
                · have hb38p := hb38.h; try simp only [al_ete, al_dfn, Bool.not_eq_true', Bool.not_eq_false', al_ne, Bool.not_not, al_nn] at hb38p
                  refine W_seq ?_
                  refine W_region rfl ?_
                  refine WO_p (PS_eql rfl rfl) ?_
                  refine WO_p (PS_assign_bool rfl) ?_
                  refine WO_nil ?_
                  refine thn_normal ?_
                  refine W_if rfl (fun hb42 => ?_) (fun hb42 => ?_)
                  · have hb42p := hb42.h; try simp only [al_ete, al_dfn, Bool.not_eq_true', Bool.not_eq_false', al_ne, Bool.not_not, al_nn] at hb42p
                    have hin : (0 : Int) ≤ f.sp ∧ f.sp - 0 + 1 ≤ 64 := by have h := hk; rw [show o = 72 from by omega] at h; exact h
                    have hoN : o = 72 := by omega
                    refine W_region rfl ?_
                    refine WO_p (PS_move_ptr rfl) ?_
                    refine WO_p (PS_nilCheck rfl) ?_
                    refine WO_p (PS_fieldAddr 2260 Hvac.runUnderlying70 rfl Hvac.sizeOf31 rfl rfl) ?_
                    refine WO_p (PS_fieldAddr 87 Hvac.runUnderlying31 rfl Hvac.sizeOf28 rfl rfl) ?_
                    refine WO_loadA _ Hvac.isAgg28 Hvac.sizeOf28 rfl (Hb.h (by repeat (first | assumption | exact Hb.newY _ _ | refine Hb.alloc ?_ | refine Hb.drew ?_ | refine Hb.ext (by assumption) ?_ | exact Hb.setSameL (by first | omega | (simp only [size_alloc, size_setB, size_drew]; omega)) | exact Hb.setSame (by assumption) | refine Hb.set (by first | omega | (simp only [size_alloc, size_setB, size_drew]; omega)) ?_ ))) (by first | omega | assumption | rfl | decide | exact Nat.le_refl _ | (simp only [size_ic, Value.cells]; omega) | (simp; omega) | simp) (Xt.h (by first | assumption | exact Xt.whole rfl rfl | exact Xt.whole rfl (by assumption) | exact Xt.whole rfl (by simp only [size_ic, Value.cells]; omega) | exact ⟨rfl⟩)) ?_
                    refine WO_call Hvac.call69 (by rfl) (Ret.mono (fromBytes_spec _ _ (by assumption)) ?_)
                    rintro _ w69_42 ⟨rfl, hE69_42⟩
                    have hz69_42 := hE69_42.1
                    try simp only [size_alloc, size_setB, size_drew] at hz69_42
                    first | refine WO_storeW Hvac.sizeOf61 rfl (v := .agg _) rfl (Hb.h (by repeat (first | assumption | exact Hb.newY _ _ | refine Hb.alloc ?_ | refine Hb.drew ?_ | refine Hb.ext (by assumption) ?_ | exact Hb.setSameL (by first | omega | (simp only [size_alloc, size_setB, size_drew]; omega)) | exact Hb.setSame (by assumption) | refine Hb.set (by first | omega | (simp only [size_alloc, size_setB, size_drew]; omega)) ?_ ))) rfl (by first | omega | assumption | rfl | decide | exact Nat.le_refl _ | (simp only [size_ic, Value.cells]; omega) | (simp; omega) | simp) (by first | omega | assumption | rfl | decide | exact Nat.le_refl _ | (simp only [size_ic, Value.cells]; omega) | (simp; omega) | simp) (by first | exact oneCell_ic | assumption | exact one_Ws2 _ | exact one_YA2 _ | exact one_YSl2 _ | exact one_YM2 _ | exact one_YT2 _ | exact one_L2 _) ?_ | refine WO_store Hvac.sizeOf61 rfl (v := .agg _) rfl (Hb.h (by repeat (first | assumption | exact Hb.newY _ _ | refine Hb.alloc ?_ | refine Hb.drew ?_ | refine Hb.ext (by assumption) ?_ | exact Hb.setSameL (by first | omega | (simp only [size_alloc, size_setB, size_drew]; omega)) | exact Hb.setSame (by assumption) | refine Hb.set (by first | omega | (simp only [size_alloc, size_setB, size_drew]; omega)) ?_ ))) (by first | omega | assumption | rfl | decide | exact Nat.le_refl _ | (simp only [size_ic, Value.cells]; omega) | (simp; omega) | simp) (by first | omega | assumption | rfl | decide | exact Nat.le_refl _ | (simp only [size_ic, Value.cells]; omega) | (simp; omega) | simp) (by first | exact oneCell_ic | assumption | exact one_Ws2 _ | exact one_YA2 _ | exact one_YSl2 _ | exact one_YM2 _ | exact one_YT2 _ | exact one_L2 _) ?_
                    refine WO_nil ?_
                    refine inBlk_normal ?_
                    refine thn_normal ?_
                    refine W_region rfl ?_
                    refine WO_p (PS_move_ptr rfl) ?_
                    refine WO_p (PS_move_ptr rfl) ?_
                    refine WO_p (PS_move_int rfl) ?_
                    refine WO_loadA _ Hvac.isAgg61 Hvac.sizeOf61 rfl (Hb.h (by repeat (first | assumption | exact Hb.newY _ _ | refine Hb.alloc ?_ | refine Hb.drew ?_ | refine Hb.ext (by assumption) ?_ | exact Hb.setSameL (by first | omega | (simp only [size_alloc, size_setB, size_drew]; omega)) | exact Hb.setSame (by assumption) | refine Hb.set (by first | omega | (simp only [size_alloc, size_setB, size_drew]; omega)) ?_ ))) (by first | omega | assumption | rfl | decide | exact Nat.le_refl _ | (simp only [size_ic, Value.cells]; omega) | (simp; omega) | simp) (Xt.h (by first | assumption | exact Xt.whole rfl rfl | exact Xt.whole rfl (by assumption) | exact Xt.whole rfl (by simp only [size_ic, Value.cells]; omega) | exact ⟨rfl⟩)) ?_
                    refine WO_call Hvac.call235 (by rfl) (Ret.mono (settle_ex C c v B m t f _ _ _ _ _ (MS.ext hM (by repeat (first | assumption | exact Ext.refl _ | refine Ext.alloc ?_ _ | refine Ext.drew ?_ | refine Ext.setB ?_ (by first | omega | (simp only [size_alloc, size_setB, size_drew]; omega)) _ | exact Ext.trans (by assumption) (by assumption) | refine Ext.trans ?_ (by assumption)))) hA (by omega) (by first | (intro _; omega) | (intro h; cases h)) (by first | assumption | exact argW_wd hM.ty _ _ | exact Wd0 | exact flagW_wd _ | exact Wd1 | exact limb_wd (by omega)) (by omega)) ?_)
                    rintro _ wS ⟨hRS, hKS⟩
                    have hRS2 := MRet.pre (w := w) (by repeat (first | assumption | exact Ext.refl _ | refine Ext.alloc ?_ _ | refine Ext.drew ?_ | refine Ext.setB ?_ (by first | omega | (simp only [size_alloc, size_setB, size_drew]; omega)) _ | exact Ext.trans (by assumption) (by assumption) | refine Ext.trans ?_ (by assumption))) hRS
                    have hKC := KC.pre (a := w) (by repeat (first | assumption | exact Ext.refl _ | refine Ext.alloc ?_ _ | refine Ext.drew ?_ | refine Ext.setB ?_ (by first | omega | (simp only [size_alloc, size_setB, size_drew]; omega)) _ | exact Ext.trans (by assumption) (by assumption) | refine Ext.trans ?_ (by assumption))) hKS
                    have hK5 : KT 5 w wS := KC.kt hKC hblk (by decide)
                    have hK28 : KT 28 w wS := KC.kt hKC hblk (by decide)
                    refine WO_nil ?_
                    first | refine bodyQ_ret0 Hvac.results182 ?_ | refine bodyQ_end0 Hvac.results182 ?_
                    first
                    | (exfalso; omega)
                    | exact ⟨v, _, hRS2, (hI.settle hf hI.rw0 hvi (fun _ h => h) (Int.le_refl _) (by omega) (by first | (intro _; omega) | (intro h; cases h)) (by omega) hc).2, hRl.fin_val hM hMI hf hK5 hK28 hoN (by decide) (k := 0) (by decide) rfl (by decide) (by decide) (yvst_q (by decide) (by decide) _) (by rw [wn_fromB hbb, hRP.ebfee]; rfl) (by omega) (by omega)⟩
                  · have hb42p := hb42.h; try simp only [al_ete, al_dfn, Bool.not_eq_true', Bool.not_eq_false', al_ne, Bool.not_not, al_nn] at hb42p
                    refine W_skip ?_
                    refine inBlk_normal ?_
                    refine thn_normal ?_
                    refine W_region rfl ?_
                    refine WO_p (PS_move_ptr rfl) ?_
                    refine WO_p (PS_move_ptr rfl) ?_
                    refine WO_p (PS_move_int rfl) ?_
                    refine WO_loadA _ Hvac.isAgg61 Hvac.sizeOf61 rfl (Hb.h (by repeat (first | assumption | exact Hb.newY _ _ | refine Hb.alloc ?_ | refine Hb.drew ?_ | refine Hb.ext (by assumption) ?_ | exact Hb.setSameL (by first | omega | (simp only [size_alloc, size_setB, size_drew]; omega)) | exact Hb.setSame (by assumption) | refine Hb.set (by first | omega | (simp only [size_alloc, size_setB, size_drew]; omega)) ?_ ))) (by first | omega | assumption | rfl | decide | exact Nat.le_refl _ | (simp only [size_ic, Value.cells]; omega) | (simp; omega) | simp) (Xt.h (by first | assumption | exact Xt.whole rfl rfl | exact Xt.whole rfl (by assumption) | exact Xt.whole rfl (by simp only [size_ic, Value.cells]; omega) | exact ⟨rfl⟩)) ?_
                    refine WO_call Hvac.call235 (by rfl) (Ret.mono (settle_ex C c v B m t f _ _ _ _ _ (MS.ext hM (by repeat (first | assumption | exact Ext.refl _ | refine Ext.alloc ?_ _ | refine Ext.drew ?_ | refine Ext.setB ?_ (by first | omega | (simp only [size_alloc, size_setB, size_drew]; omega)) _ | exact Ext.trans (by assumption) (by assumption) | refine Ext.trans ?_ (by assumption)))) hA (by omega) (by first | (intro _; omega) | (intro h; cases h)) (by first | assumption | exact argW_wd hM.ty _ _ | exact Wd0 | exact flagW_wd _ | exact Wd1 | exact limb_wd (by omega)) (by omega)) ?_)
                    rintro _ wS ⟨hRS, hKS⟩
                    have hRS2 := MRet.pre (w := w) (by repeat (first | assumption | exact Ext.refl _ | refine Ext.alloc ?_ _ | refine Ext.drew ?_ | refine Ext.setB ?_ (by first | omega | (simp only [size_alloc, size_setB, size_drew]; omega)) _ | exact Ext.trans (by assumption) (by assumption) | refine Ext.trans ?_ (by assumption))) hRS
                    have hKC := KC.pre (a := w) (by repeat (first | assumption | exact Ext.refl _ | refine Ext.alloc ?_ _ | refine Ext.drew ?_ | refine Ext.setB ?_ (by first | omega | (simp only [size_alloc, size_setB, size_drew]; omega)) _ | exact Ext.trans (by assumption) (by assumption) | refine Ext.trans ?_ (by assumption))) hKS
                    have hK5 : KT 5 w wS := KC.kt hKC hblk (by decide)
                    have hK28 : KT 28 w wS := KC.kt hKC hblk (by decide)
                    refine WO_nil ?_
                    first | refine bodyQ_ret0 Hvac.results182 ?_ | refine bodyQ_end0 Hvac.results182 ?_
                    first
                    | (exfalso; omega)
                    | exact ⟨v, _, hRS2, (hI.settle hf hI.rw0 hvi (fun _ h => h) (Int.le_refl _) (by omega) (by first | (intro _; omega) | (intro h; cases h)) (by omega) hc).2, hRl.fin_val hM hMI hf hK5 hK28 hoN (by decide) (k := $TK) (by decide) rfl (by decide) (by decide) (yvst_q (by decide) (by decide) _) $HW (by omega) (by omega)⟩

set_option maxRecDepth 10000 in
theorem opDup_ex [Om] (scan : List Int → List Int) (C : Nat) (c : Array Value) (v : V) (B : VB) (m : Mc) (t : Nat) (f : Fm) (o c' S : Int) (w : World) (hM : MS w C c v B m) (hop : Mc.opc f = o) (hAd : Adm scan v m t f o (infoW o).2.2.1 c' S) (hk : (infoW o).1 ≤ f.sp ∧ f.sp - (infoW o).1 + (infoW o).2.1 ≤ 64) (hc : 0 < c') (y : PSt) (rest : List PF) (g : PF) (hRl : Rel w v m (y, rest ++ [g])) (ho : 128 ≤ o ∧ o ≤ 143) : Ret Hvac.prog 291 #[.pointer (some ⟨C, 0, none⟩)] w fun _ w' => ∃ v' m', MRet w C B m w' v' m' ∧ OpP scan m t c' S v' m' ∧ Rel w' v' m' (yplain khash y rest g o) := by
  have hI := hAd.ri
  have hf := hAd.fr
  have hR := hI.run hf
  have hA := hR.fa
  have hblk := hM.vs.blk
  have hCl := hblk.lt
  have hcs := hM.sz
  have hc_s := hM.rep.s
  obtain ⟨ht7, hfty, hF⟩ := hM.openF hf
  have hFk := hI.fr t f (Nat.le_refl _) hf
  have hvi := hI.ti.vi
  have hcbl := (hM.code f (List.mem_of_getElem? hf)).1.len
  have hcb5 := hFk.cl
  have hcl : f.code.2.1 ≤ 100000 := by omega
  have hpct := hfty.pc
  have hspt := hfty.sp
  have hwdA := fun i => argW_wd hM.ty f i
  have hMI := hI.mi
  have hAr := fun i => hRl.arg hM hMI hf i
  have htl := hRl.len hMI
  have hy0 : yarg g 0 = wn (m.argW f 0) := hAr 0
  have hy1 : yarg g 1 = wn (m.argW f 1) := hAr 1
  have hy2 : yarg g 2 = wn (m.argW f 2) := hAr 2
  have hy3 : yarg g 3 = wn (m.argW f 3) := hAr 3
  have hy4 : yarg g 4 = wn (m.argW f 4) := hAr 4
  have hy5 : yarg g 5 = wn (m.argW f 5) := hAr 5
  have hy6 : yarg g 6 = wn (m.argW f 6) := hAr 6
  have hpcl : f.pc < (f.cb.length : Int) := opc_pc (by rw [hop]; omega)
  have e : infoW o = (o - 128 + 1, o - 128 + 2, 3, true) := by unfold infoW; rw [if_neg (by omega), if_pos (by omega)]
  have hin := hk
  rw [e] at hin
  replace hin : o - 128 + 1 ≤ f.sp ∧ f.sp - (o - 128 + 1) + (o - 128 + 2) ≤ 64 := hin
  refine Ret_of_W Hvac.func291 rfl rfl ?_
  refine W_seq ?_
  refine W_region rfl ?_
  refine WO_p (PS_move_ptr rfl) ?_
  refine WO_call Hvac.call95 (by rfl) (Ret.mono (running_spec C c v B m t f _ (MS.ext hM (by repeat (first | assumption | exact Ext.refl _ | refine Ext.alloc ?_ _ | refine Ext.drew ?_ | refine Ext.setB ?_ (by first | omega | (simp only [size_alloc, size_setB, size_drew]; omega)) _ | exact Ext.trans (by assumption) (by assumption) | refine Ext.trans ?_ (by assumption)))) hR) ?_)
  rintro _ w95_0 ⟨hE95_0, rfl⟩
  have hz95_0 := hE95_0.1
  try simp only [size_alloc, size_setB, size_drew] at hz95_0
  refine WO_p (PS_assign_ptr rfl) ?_
  refine WO_nil ?_
  refine thn_normal ?_
  refine W_seq ?_
  refine W_region rfl ?_
  refine WO_p (PS_move_ptr rfl) ?_
  refine WO_p (PS_neqnil Hvac.underlying187 rfl) ?_
  refine WO_nil ?_
  refine thn_normal ?_
  refine W_if rfl (fun hb3 => ?_) (fun hb3 => ?_)
  · have hb3p := hb3.h; try simp only [al_ete, al_dfn, Bool.not_eq_true', Bool.not_eq_false', al_ne, Bool.not_not, al_nn] at hb3p
    refine W_region rfl ?_
    refine WO_p (PS_move_ptr rfl) ?_
    refine WO_p (PS_move_ptr rfl) ?_
    refine WO_p (PS_move_ptr rfl) ?_
    refine WO_p (PS_move_ptr rfl) ?_
    refine WO_p (PS_move_ptr rfl) ?_
    refine WO_call Hvac.call104 (by rfl) (Ret.mono (opcode_spec C c v B m t f _ (MS.ext hM (by repeat (first | assumption | exact Ext.refl _ | refine Ext.alloc ?_ _ | refine Ext.drew ?_ | refine Ext.setB ?_ (by first | omega | (simp only [size_alloc, size_setB, size_drew]; omega)) _ | exact Ext.trans (by assumption) (by assumption) | refine Ext.trans ?_ (by assumption)))) hR hcl) ?_)
    rintro _ w104_3 ⟨hE104_3, rfl⟩
    have hz104_3 := hE104_3.1
    try simp only [size_alloc, size_setB, size_drew] at hz104_3
    try rw [hop]
    refine WO_p (PS_sub_u8n rfl rfl (by omega) (by omega)) ?_
    refine WO_p (PS_conv_i64n Hvac.runUnderlying5 Hvac.runUnderlying3 rfl (by omega) (by omega)) ?_
    refine WO_call Hvac.call239 (by rfl) (Ret.mono (arg_spec C c v B m t f _ _ (MS.ext hM (by repeat (first | assumption | exact Ext.refl _ | refine Ext.alloc ?_ _ | refine Ext.drew ?_ | refine Ext.setB ?_ (by first | omega | (simp only [size_alloc, size_setB, size_drew]; omega)) _ | exact Ext.trans (by assumption) (by assumption) | refine Ext.trans ?_ (by assumption)))) hA (by omega)) ?_)
    rintro _ w239_4 ⟨hE239_4, rfl⟩
    have hz239_4 := hE239_4.1
    try simp only [size_alloc, size_setB, size_drew] at hz239_4
    refine WO_call Hvac.call235 (by rfl) (Ret.mono (settle_ex C c v B m t f _ _ _ _ _ (MS.ext hM (by repeat (first | assumption | exact Ext.refl _ | refine Ext.alloc ?_ _ | refine Ext.drew ?_ | refine Ext.setB ?_ (by first | omega | (simp only [size_alloc, size_setB, size_drew]; omega)) _ | exact Ext.trans (by assumption) (by assumption) | refine Ext.trans ?_ (by assumption)))) hA (by omega) (by first | (intro _; omega) | (intro h; cases h)) (by first | assumption | exact argW_wd hM.ty _ _ | exact Wd0 | exact flagW_wd _ | exact Wd1 | exact limb_wd (by omega)) (by omega)) ?_)
    rintro _ wS ⟨hRS, hKS⟩
    have hRS2 := MRet.pre (w := w) (by repeat (first | assumption | exact Ext.refl _ | refine Ext.alloc ?_ _ | refine Ext.drew ?_ | refine Ext.setB ?_ (by first | omega | (simp only [size_alloc, size_setB, size_drew]; omega)) _ | exact Ext.trans (by assumption) (by assumption) | refine Ext.trans ?_ (by assumption))) hRS
    have hKC := KC.pre (a := w) (by repeat (first | assumption | exact Ext.refl _ | refine Ext.alloc ?_ _ | refine Ext.drew ?_ | refine Ext.setB ?_ (by first | omega | (simp only [size_alloc, size_setB, size_drew]; omega)) _ | exact Ext.trans (by assumption) (by assumption) | refine Ext.trans ?_ (by assumption))) hKS
    have hK5 : KT 5 w wS := KC.kt hKC hblk (by decide)
    have hK28 : KT 28 w wS := KC.kt hKC hblk (by decide)
    refine WO_nil ?_
    first | refine bodyQ_ret0 Hvac.results291 ?_ | refine bodyQ_end0 Hvac.results291 ?_
    exact ⟨v, _, hRS2, (hI.settle hf hI.rw0 hvi (fun _ h => h) (Int.le_refl _) (by omega) (by first | (intro _; omega) | (intro h; cases h)) (by omega) hc).2, by
      rw [yplain_dup ho, hAr, show (((o - 128).toNat : Nat) : Int) = o - 128 by omega]
      exact hRl.settle hM hMI hf hK5 hK28 (k := 0) (st := 1) (gv := true) (by omega) (fun _ => by omega)⟩
  · have hb3p := hb3.h; try simp only [al_ete, al_dfn, Bool.not_eq_true', Bool.not_eq_false', al_ne, Bool.not_not, al_nn] at hb3p
    simp at hb3p --END

set_option maxRecDepth 10000 in
set_option maxHeartbeats 4000000 in
theorem opMemory_ex [Om] (scan : List Int → List Int) (C : Nat) (c : Array Value) (v : V) (B : VB) (m : Mc) (t : Nat) (f : Fm) (o c' S : Int) (w : World) (hM : MS w C c v B m) (hop : Mc.opc f = o) (hAd : Adm scan v m t f o (infoW o).2.2.1 c' S) (hk : (infoW o).1 ≤ f.sp ∧ f.sp - (infoW o).1 + (infoW o).2.1 ≤ 64) (hc : 0 < c') (y : PSt) (rest : List PF) (g : PF) (hRl : Rel w v m (y, rest ++ [g])) (ho : 81 ≤ o ∧ o ≤ 83) : Ret Hvac.prog 183 #[.pointer (some ⟨C, 0, none⟩)] w fun _ w' => ∃ v' m', MRet w C B m w' v' m' ∧ OpP scan m t c' S v' m' ∧ Rel w' v' m' (yplain khash y rest g o) := by
  have hI := hAd.ri
  have hf := hAd.fr
  have hR := hI.run hf
  have hA := hR.fa
  have hblk := hM.vs.blk
  have hCl := hblk.lt
  have hcs := hM.sz
  have hc_s := hM.rep.s
  obtain ⟨ht7, hfty, hF⟩ := hM.openF hf
  have hFk := hI.fr t f (Nat.le_refl _) hf
  have hvi := hI.ti.vi
  have hcbl := (hM.code f (List.mem_of_getElem? hf)).1.len
  have hcb5 := hFk.cl
  have hcl : f.code.2.1 ≤ 100000 := by omega
  have hpct := hfty.pc
  have hspt := hfty.sp
  have hwdA := fun i => argW_wd hM.ty f i
  have hMI := hI.mi
  have hAr := fun i => hRl.arg hM hMI hf i
  have htl := hRl.len hMI
  have hy0 : yarg g 0 = wn (m.argW f 0) := hAr 0
  have hy1 : yarg g 1 = wn (m.argW f 1) := hAr 1
  have hy2 : yarg g 2 = wn (m.argW f 2) := hAr 2
  have hy3 : yarg g 3 = wn (m.argW f 3) := hAr 3
  have hy4 : yarg g 4 = wn (m.argW f 4) := hAr 4
  have hy5 : yarg g 5 = wn (m.argW f 5) := hAr 5
  have hy6 : yarg g 6 = wn (m.argW f 6) := hAr 6
  have hpcl : f.pc < (f.cb.length : Int) := opc_pc (by rw [hop]; omega)
  have hl0 := (hwdA 0).1
  have hl1 := (hwdA 1).1
  obtain ⟨lo, n, hlo, hhi, hszn, hlon, hn32⟩ := hI.mem hM.ty (i := t) (Nat.le_refl _)
  have hbl0 := hI.ti.bl
  have hT : MemT m t lo n := ⟨hI.mtY, by omega, hlo, hhi, hlon, by omega⟩
  have hMB := hI.mbs hM.ty hlo hszn hlon
  have hw32 : wv [32, 0, 0, 0] = 32 := rfl
  have hw1 : wv [1, 0, 0, 0] = 1 := rfl
  have ha0 := wv_bd (hwdA 0)
  obtain ⟨Lm, hLm, hFP, hRP⟩ := hRl.top hMI hf
  have hLle := hLm.le
  have hmc := Rel.mem_cut hFP hMB
  obtain ⟨l0, l1, l2, l3, hlw, hlb0, hlb1, hlb2, hlb3⟩ := isZ (hwdA 1)
  refine Ret_of_W Hvac.func183 rfl rfl ?_
  refine W_seq ?_
  refine W_region rfl ?_
  refine WO_p (PS_move_ptr rfl) ?_
  refine WO_call Hvac.call95 (by rfl) (Ret.mono (running_spec C c v B m t f _ (MS.ext hM (by repeat (first | assumption | exact Ext.refl _ | refine Ext.alloc ?_ _ | refine Ext.drew ?_ | refine Ext.setB ?_ (by first | omega | (simp only [size_alloc, size_setB, size_drew]; omega)) _ | exact Ext.trans (by assumption) (by assumption) | refine Ext.trans ?_ (by assumption)))) hR) ?_)
  rintro _ w95_0 ⟨hE95_0, rfl⟩
  have hz95_0 := hE95_0.1
  try simp only [size_alloc, size_setB, size_drew] at hz95_0
  refine WO_p (PS_assign_ptr rfl) ?_
  refine WO_nil ?_
  refine thn_normal ?_
  refine W_seq ?_
  refine W_seq ?_
  refine W_region rfl ?_
  refine WO_p (PS_move_ptr rfl) ?_
  refine WO_p (PS_eqlnil Hvac.underlying187 rfl) ?_
  refine WO_nil ?_
  refine thn_normal ?_
  refine W_if rfl (fun hb3 => ?_) (fun hb3 => ?_)
  · have hb3p := hb3.h; try simp only [al_ete, al_dfn, Bool.not_eq_true', Bool.not_eq_false', al_ne, Bool.not_not, al_nn] at hb3p
    simp at hb3p --END
  · have hb3p := hb3.h; try simp only [al_ete, al_dfn, Bool.not_eq_true', Bool.not_eq_false', al_ne, Bool.not_not, al_nn] at hb3p
    refine W_skip ?_
    refine thn_normal ?_
    refine W_seq ?_
    refine W_region rfl ?_
    refine WO_p (PS_move_ptr rfl) ?_
    refine WO_p (PS_move_ptr rfl) ?_
    refine WO_call Hvac.call239 (by rfl) (Ret.mono (arg_spec C c v B m t f _ _ (MS.ext hM (by repeat (first | assumption | exact Ext.refl _ | refine Ext.alloc ?_ _ | refine Ext.drew ?_ | refine Ext.setB ?_ (by first | omega | (simp only [size_alloc, size_setB, size_drew]; omega)) _ | exact Ext.trans (by assumption) (by assumption) | refine Ext.trans ?_ (by assumption)))) hA (by omega)) ?_)
    rintro _ w239_3 ⟨hE239_3, rfl⟩
    have hz239_3 := hE239_3.1
    try simp only [size_alloc, size_setB, size_drew] at hz239_3
    refine WO_call Hvac.call273 (by rfl) (Ret.mono (small_spec _ _ (hwdA _)) ?_)
    rintro _ w273_4 ⟨hE273_4, rfl⟩
    have hz273_4 := hE273_4.1
    try simp only [size_alloc, size_setB, size_drew] at hz273_4
    refine WO_p (PS_assign_int rfl) ?_
    refine WO_nil ?_
    refine thn_normal ?_
    refine W_seq ?_
    refine W_region rfl ?_
    refine WO_p (PS_move_ptr rfl) ?_
    refine WO_p (PS_move_ptr rfl) ?_
    refine WO_call Hvac.call239 (by rfl) (Ret.mono (arg_spec C c v B m t f _ _ (MS.ext hM (by repeat (first | assumption | exact Ext.refl _ | refine Ext.alloc ?_ _ | refine Ext.drew ?_ | refine Ext.setB ?_ (by first | omega | (simp only [size_alloc, size_setB, size_drew]; omega)) _ | exact Ext.trans (by assumption) (by assumption) | refine Ext.trans ?_ (by assumption)))) hA (by omega)) ?_)
    rintro _ w239_5 ⟨hE239_5, rfl⟩
    have hz239_5 := hE239_5.1
    try simp only [size_alloc, size_setB, size_drew] at hz239_5
    refine WO_allocG Hvac.zeroValue61 ?_
    intro b4 v4 hg4 hE4 hH4 hl4
    try simp only [size_alloc, size_setB, size_drew] at hg4
    have hzz4 := hE4.1
    try simp only [size_alloc, size_setB, size_drew] at hzz4
    first | refine WO_storeW Hvac.sizeOf61 rfl (v := .agg _) rfl (Hb.h (by repeat (first | assumption | exact Hb.newY _ _ | refine Hb.alloc ?_ | refine Hb.drew ?_ | refine Hb.ext (by assumption) ?_ | exact Hb.setSameL (by first | omega | (simp only [size_alloc, size_setB, size_drew]; omega)) | exact Hb.setSame (by assumption) | refine Hb.set (by first | omega | (simp only [size_alloc, size_setB, size_drew]; omega)) ?_ ))) rfl (by first | omega | assumption | rfl | decide | exact Nat.le_refl _ | (simp only [size_ic, Value.cells]; omega) | (simp; omega) | simp) (by first | omega | assumption | rfl | decide | exact Nat.le_refl _ | (simp only [size_ic, Value.cells]; omega) | (simp; omega) | simp) (by first | exact oneCell_ic | assumption | exact one_Ws2 _ | exact one_YA2 _ | exact one_YSl2 _ | exact one_YM2 _ | exact one_YT2 _ | exact one_L2 _) ?_ | refine WO_store Hvac.sizeOf61 rfl (v := .agg _) rfl (Hb.h (by repeat (first | assumption | exact Hb.newY _ _ | refine Hb.alloc ?_ | refine Hb.drew ?_ | refine Hb.ext (by assumption) ?_ | exact Hb.setSameL (by first | omega | (simp only [size_alloc, size_setB, size_drew]; omega)) | exact Hb.setSame (by assumption) | refine Hb.set (by first | omega | (simp only [size_alloc, size_setB, size_drew]; omega)) ?_ ))) (by first | omega | assumption | rfl | decide | exact Nat.le_refl _ | (simp only [size_ic, Value.cells]; omega) | (simp; omega) | simp) (by first | omega | assumption | rfl | decide | exact Nat.le_refl _ | (simp only [size_ic, Value.cells]; omega) | (simp; omega) | simp) (by first | exact oneCell_ic | assumption | exact one_Ws2 _ | exact one_YA2 _ | exact one_YSl2 _ | exact one_YM2 _ | exact one_YT2 _ | exact one_L2 _) ?_
    refine WO_nil ?_
    refine thn_normal ?_
    refine W_seq ?_
    refine W_seq ?_
    refine W_region rfl ?_
    refine WO_p (PS_move_ptr rfl) ?_
    refine WO_call Hvac.call104 (by rfl) (Ret.mono (opcode_spec C c v B m t f _ (MS.ext hM (by repeat (first | assumption | exact Ext.refl _ | refine Ext.alloc ?_ _ | refine Ext.drew ?_ | refine Ext.setB ?_ (by first | omega | (simp only [size_alloc, size_setB, size_drew]; omega)) _ | exact Ext.trans (by assumption) (by assumption) | refine Ext.trans ?_ (by assumption)))) hR hcl) ?_)
    rintro _ w104_6 ⟨hE104_6, rfl⟩
    have hz104_6 := hE104_6.1
    try simp only [size_alloc, size_setB, size_drew] at hz104_6
    try rw [hop]
    refine WO_nil ?_
    refine thn_normal ?_
    refine W_block ?_
    refine W_seq ?_
    refine W_region rfl ?_
    refine WO_p (PS_eql rfl rfl) ?_
    refine WO_p (PS_assign_bool rfl) ?_
    refine WO_nil ?_
    refine thn_normal ?_
    refine W_if rfl (fun hb9 => ?_) (fun hb9 => ?_)
    · have hb9p := hb9.h; try simp only [al_ete, al_dfn, Bool.not_eq_true', Bool.not_eq_false', al_ne, Bool.not_not, al_nn] at hb9p
      have hin : (1 : Int) ≤ f.sp ∧ f.sp - 1 + 1 ≤ 64 := by have h := hk; rw [show o = 81 from by omega] at h; exact h
      have hre := hAd.re (by rw [show o = 81 from by omega]; rfl)
      rw [show o = 81 from by omega] at hre
      replace hre : (reachW (m.argW f 0) [32, 0, 0, 0]).2 = true ∧ 32 * (reachW (m.argW f 0) [32, 0, 0, 0]).1 ≤ szOf m.base t := hre
      have hft := reach_fit (by first | exact Wd32 | exact Wd1 | exact hwdA _) hre.1
      have hre2 := hre.2
      obtain ⟨bq, Lq, hbq, _⟩ := hM.buf.some (by omega)
      rw [small_nat (hwdA 0) (by omega)]
      have hoN : o = 81 := by omega
      refine W_seq ?_
      refine W_region rfl ?_
      refine WO_p (PS_move_ptr rfl) ?_
      refine WO_p (PS_nilCheck rfl) ?_
      refine WO_p (PS_fieldAddr 1 Hvac.runUnderlying70 rfl Hvac.sizeOf59 rfl rfl) ?_
      refine WO_p (PS_move_int rfl) ?_
      refine WO_call Hvac.call275 (by rfl) (Ret.mono (memLoad32_ex C c v B m t lo n (wv (m.argW f 0)).toNat bq _ (MS.ext hM (by repeat (first | assumption | exact Ext.refl _ | refine Ext.alloc ?_ _ | refine Ext.drew ?_ | refine Ext.setB ?_ (by first | omega | (simp only [size_alloc, size_setB, size_drew]; omega)) _ | exact Ext.trans (by assumption) (by assumption) | refine Ext.trans ?_ (by assumption)))) Lm (BufX.ext hLm (by repeat (first | assumption | exact Ext.refl _ | refine Ext.alloc ?_ _ | refine Ext.drew ?_ | refine Ext.setB ?_ (by first | omega | (simp only [size_alloc, size_setB, size_drew]; omega)) _ | exact Ext.trans (by assumption) (by assumption) | refine Ext.trans ?_ (by assumption)))) hT hbq (by omega)) ?_)
      rintro _ w275_9 ⟨hE275_9, rfl, hL5⟩
      have hz275_9 := hE275_9.1
      try simp only [size_alloc, size_setB, size_drew] at hz275_9
      have hv5 : wn (fromB ((Lm.drop (lo + (wv (m.argW f 0)).toNat)).take 32)) = bvY (ycut g.mem (wv (m.argW f 0)).toNat 32) := (wn_fromB hL5).trans (by rw [cut_mem (n := n) (by omega) (by omega), ← hmc])
      generalize hL5g : (Lm.drop (lo + (wv (m.argW f 0)).toNat)).take 32 = L5 at *
      have hL5l := hL5.1
      have hf5 := fromB_wd hL5.2
      have hf5l := hf5.1
      refine WO_p (PS_move_tuple rfl) ?_
      refine WO_p (PS_extract_agg rfl rfl) ?_
      refine WO_p (PS_extract_bool rfl rfl) ?_
      refine WO_allocG Hvac.zeroValue27 ?_
      intro b5 v5 hg5 hE5 hH5 hl5
      try simp only [size_alloc, size_setB, size_drew] at hg5
      have hzz5 := hE5.1
      try simp only [size_alloc, size_setB, size_drew] at hzz5
      replace hH5 : Hb v5 b5 (.cells (ic .u8 (List.replicate 32 0)) 27 (0, 0)) := hH5
      first | refine WO_storeW Hvac.sizeOf27 rfl (v := .agg _) rfl (Hb.h (by repeat (first | assumption | exact Hb.newY _ _ | refine Hb.alloc ?_ | refine Hb.drew ?_ | refine Hb.ext (by assumption) ?_ | exact Hb.setSameL (by first | omega | (simp only [size_alloc, size_setB, size_drew]; omega)) | exact Hb.setSame (by assumption) | refine Hb.set (by first | omega | (simp only [size_alloc, size_setB, size_drew]; omega)) ?_ ))) rfl (by first | omega | assumption | rfl | decide | exact Nat.le_refl _ | (simp only [size_ic, Value.cells]; omega) | (simp; omega) | simp) (by first | omega | assumption | rfl | decide | exact Nat.le_refl _ | (simp only [size_ic, Value.cells]; omega) | (simp; omega) | simp) (by first | exact oneCell_ic | assumption | exact one_Ws2 _ | exact one_YA2 _ | exact one_YSl2 _ | exact one_YM2 _ | exact one_YT2 _ | exact one_L2 _) ?_ | refine WO_store Hvac.sizeOf27 rfl (v := .agg _) rfl (Hb.h (by repeat (first | assumption | exact Hb.newY _ _ | refine Hb.alloc ?_ | refine Hb.drew ?_ | refine Hb.ext (by assumption) ?_ | exact Hb.setSameL (by first | omega | (simp only [size_alloc, size_setB, size_drew]; omega)) | exact Hb.setSame (by assumption) | refine Hb.set (by first | omega | (simp only [size_alloc, size_setB, size_drew]; omega)) ?_ ))) (by first | omega | assumption | rfl | decide | exact Nat.le_refl _ | (simp only [size_ic, Value.cells]; omega) | (simp; omega) | simp) (by first | omega | assumption | rfl | decide | exact Nat.le_refl _ | (simp only [size_ic, Value.cells]; omega) | (simp; omega) | simp) (by first | exact oneCell_ic | assumption | exact one_Ws2 _ | exact one_YA2 _ | exact one_YSl2 _ | exact one_YM2 _ | exact one_YT2 _ | exact one_L2 _) ?_
      refine WO_p (PS_assign_bool rfl) ?_
      refine WO_nil ?_
      refine thn_normal ?_
      refine W_seq ?_
      refine W_seq ?_
      refine W_region rfl ?_
      refine WO_p (PS_move_bool rfl) ?_
      refine WO_p (PS_not rfl) ?_
      refine WO_nil ?_
      refine thn_normal ?_
      refine W_if rfl (fun hb13 => ?_) (fun hb13 => ?_)
      · have hb13p := hb13.h; try simp only [al_ete, al_dfn, Bool.not_eq_true', Bool.not_eq_false', al_ne, Bool.not_not, al_nn] at hb13p
        simp at hb13p --END
      · have hb13p := hb13.h; try simp only [al_ete, al_dfn, Bool.not_eq_true', Bool.not_eq_false', al_ne, Bool.not_not, al_nn] at hb13p
        refine W_skip ?_
        refine thn_normal ?_
        refine W_seq ?_
        refine W_region rfl ?_
        refine WO_p (PS_move_ptr rfl) ?_
        refine WO_p (PS_move_ptr rfl) ?_
        refine WO_loadA _ Hvac.isAgg27 Hvac.sizeOf27 rfl (Hb.h (by repeat (first | assumption | exact Hb.newY _ _ | refine Hb.alloc ?_ | refine Hb.drew ?_ | refine Hb.ext (by assumption) ?_ | exact Hb.setSameL (by first | omega | (simp only [size_alloc, size_setB, size_drew]; omega)) | exact Hb.setSame (by assumption) | refine Hb.set (by first | omega | (simp only [size_alloc, size_setB, size_drew]; omega)) ?_ ))) (by first | omega | assumption | rfl | decide | exact Nat.le_refl _ | (simp only [size_ic, Value.cells]; omega) | (simp; omega) | simp) (Xt.h (by first | assumption | exact Xt.whole rfl rfl | exact Xt.whole rfl (by assumption) | exact Xt.whole rfl (by simp only [size_ic, Value.cells]; omega) | exact ⟨rfl⟩)) ?_
        refine WO_call Hvac.call69 (by rfl) (Ret.mono (fromBytes_spec _ _ (by assumption)) ?_)
        rintro _ w69_13 ⟨rfl, hE69_13⟩
        have hz69_13 := hE69_13.1
        try simp only [size_alloc, size_setB, size_drew] at hz69_13
        refine WO_call Hvac.call235 (by rfl) (Ret.mono (settle_ex C c v B m t f _ _ _ _ _ (MS.ext hM (by repeat (first | assumption | exact Ext.refl _ | refine Ext.alloc ?_ _ | refine Ext.drew ?_ | refine Ext.setB ?_ (by first | omega | (simp only [size_alloc, size_setB, size_drew]; omega)) _ | exact Ext.trans (by assumption) (by assumption) | refine Ext.trans ?_ (by assumption)))) hA (by omega) (by first | (intro _; omega) | (intro h; cases h)) (by first | assumption | exact argW_wd hM.ty _ _ | exact Wd0 | exact flagW_wd _ | exact Wd1 | exact limb_wd (by omega)) (by omega)) ?_)
        rintro _ wS ⟨hRS, hKS⟩
        have hRS2 := MRet.pre (w := w) (by repeat (first | assumption | exact Ext.refl _ | refine Ext.alloc ?_ _ | refine Ext.drew ?_ | refine Ext.setB ?_ (by first | omega | (simp only [size_alloc, size_setB, size_drew]; omega)) _ | exact Ext.trans (by assumption) (by assumption) | refine Ext.trans ?_ (by assumption))) hRS
        have hKC := KC.pre (a := w) (by repeat (first | assumption | exact Ext.refl _ | refine Ext.alloc ?_ _ | refine Ext.drew ?_ | refine Ext.setB ?_ (by first | omega | (simp only [size_alloc, size_setB, size_drew]; omega)) _ | exact Ext.trans (by assumption) (by assumption) | refine Ext.trans ?_ (by assumption))) hKS
        have hK5 : KT 5 w wS := KC.kt hKC hblk (by decide)
        have hK28 : KT 28 w wS := KC.kt hKC hblk (by decide)
        refine WO_nil ?_
        refine thn_normal ?_
        refine W_ret ?_
        refine inBlk_ret ?_
        refine thn_ret ?_
        first | refine bodyQ_ret0 Hvac.results183 ?_ | refine bodyQ_end0 Hvac.results183 ?_
        exact ⟨v, _, hRS2, (hI.settle hf hI.rw0 hvi (fun _ h => h) (Int.le_refl _) (by omega) (by first | (intro _; omega) | (intro h; cases h)) (by omega) hc).2, hRl.fin_val hM hMI hf hK5 hK28 hoN (by decide) (k := 1) (by decide) rfl (by decide) (by decide) (yvst_q (by decide) (by decide) _) (by rw [hv5]; show _ = bvY (ycut g.mem ((yargs g 1).getD 0 0) 32); rw [yargs_d (by decide), hy0]; rfl) (by omega) (by omega)⟩
    · have hb9p := hb9.h; try simp only [al_ete, al_dfn, Bool.not_eq_true', Bool.not_eq_false', al_ne, Bool.not_not, al_nn] at hb9p
      refine W_seq ?_
      refine W_region rfl ?_
      refine WO_p (PS_eql rfl rfl) ?_
      refine WO_p (PS_assign_bool rfl) ?_
      refine WO_nil ?_
      refine thn_normal ?_
      refine W_if rfl (fun hb17 => ?_) (fun hb17 => ?_)
      · have hb17p := hb17.h; try simp only [al_ete, al_dfn, Bool.not_eq_true', Bool.not_eq_false', al_ne, Bool.not_not, al_nn] at hb17p
        have hin : (2 : Int) ≤ f.sp ∧ f.sp - 2 + 0 ≤ 64 := by have h := hk; rw [show o = 82 from by omega] at h; exact h
        have hre := hAd.re (by rw [show o = 82 from by omega]; rfl)
        rw [show o = 82 from by omega] at hre
        replace hre : (reachW (m.argW f 0) [32, 0, 0, 0]).2 = true ∧ 32 * (reachW (m.argW f 0) [32, 0, 0, 0]).1 ≤ szOf m.base t := hre
        have hft := reach_fit (by first | exact Wd32 | exact Wd1 | exact hwdA _) hre.1
        have hre2 := hre.2
        obtain ⟨bq, Lq, hbq, _⟩ := hM.buf.some (by omega)
        rw [small_nat (hwdA 0) (by omega)]
        have hoN : o = 82 := by omega
        refine W_seq ?_
        refine W_drawE [false, false, false, false, false, false, false, false] hmix (by kernel_rfl) rfl ?_
        refine WH_p (PS_move_ptr rfl) rfl ?_
        refine WH_p (PS_nilCheck rfl) rfl ?_
        refine WH_p (PS_fieldAddr 1 Hvac.runUnderlying70 rfl Hvac.sizeOf59 rfl rfl) rfl ?_
        refine WH_p (PS_move_int rfl) rfl ?_
        refine WH_loadA _ Hvac.isAgg61 Hvac.sizeOf61 rfl (Hb.h (by repeat (first | assumption | exact Hb.newY _ _ | refine Hb.alloc ?_ | refine Hb.drew ?_ | refine Hb.ext (by assumption) ?_ | exact Hb.setSameL (by first | omega | (simp only [size_alloc, size_setB, size_drew]; omega)) | exact Hb.setSame (by assumption) | refine Hb.set (by first | omega | (simp only [size_alloc, size_setB, size_drew]; omega)) ?_ ))) (by first | omega | assumption | rfl | decide | exact Nat.le_refl _ | (simp only [size_ic, Value.cells]; omega) | (simp; omega) | simp) (Xt.h (by first | assumption | exact Xt.whole rfl rfl | exact Xt.whole rfl (by assumption) | exact Xt.whole rfl (by simp only [size_ic, Value.cells]; omega) | exact ⟨rfl⟩)) ?_
        refine WH_call Hvac.call100 (by rfl) (Ret.mono (be32_spec _ _ (hwdA _)) ?_)
        rintro _ w100_17 ⟨hE100_17, rfl⟩
        refine ⟨(fun h => by cases h), ?_⟩
        have hz100_17 := hE100_17.1
        try simp only [size_alloc, size_setB, size_drew] at hz100_17
        refine WH_call Hvac.call276 (by rfl) (Ret.mono (memStore32_ex C c v B m t lo n (wv (m.argW f 0)).toNat bq _ _ (MS.ext hM (by repeat (first | assumption | exact Ext.refl _ | refine Ext.alloc ?_ _ | refine Ext.drew ?_ | refine Ext.setB ?_ (by first | omega | (simp only [size_alloc, size_setB, size_drew]; omega)) _ | exact Ext.trans (by assumption) (by assumption) | refine Ext.trans ?_ (by assumption)))) Lm (BufX.ext hLm (by repeat (first | assumption | exact Ext.refl _ | refine Ext.alloc ?_ _ | refine Ext.drew ?_ | refine Ext.setB ?_ (by first | omega | (simp only [size_alloc, size_setB, size_drew]; omega)) _ | exact Ext.trans (by assumption) (by assumption) | refine Ext.trans ?_ (by assumption)))) hT hbq (by omega) (be32_by _)) ?_)
        rintro _ w2 ⟨rfl, hR2, hBX2⟩
        refine ⟨(fun h => by cases h), ?_⟩
        obtain ⟨c2, B2, hM2, hS2⟩ := MRet.pre (w := w) (by repeat (first | assumption | exact Ext.refl _ | refine Ext.alloc ?_ _ | refine Ext.drew ?_ | refine Ext.setB ?_ (by first | omega | (simp only [size_alloc, size_setB, size_drew]; omega)) _ | exact Ext.trans (by assumption) (by assumption) | refine Ext.trans ?_ (by assumption))) hR2
        have hRw := Rel.write hRP hM hS2 hLm hMB htl hMI hf (by rw [(be32_by _).1]; omega) hBX2
        refine WH_p (PS_not rfl) rfl ?_
        refine WH_nil ?_
        refine thn_normal ?_
        refine W_if rfl (fun hb22 => ?_) (fun hb22 => ?_)
        · have hb22p := hb22.h; try simp only [al_ete, al_dfn, Bool.not_eq_true', Bool.not_eq_false', al_ne, Bool.not_not, al_nn] at hb22p
          simp at hb22p --END
        · have hb22p := hb22.h; try simp only [al_ete, al_dfn, Bool.not_eq_true', Bool.not_eq_false', al_ne, Bool.not_not, al_nn] at hb22p
          refine W_skip ?_
          refine inBlk_normal ?_
          refine thn_normal ?_
          refine W_region rfl ?_
          refine WO_p (PS_move_ptr rfl) ?_
          refine WO_p (PS_move_ptr rfl) ?_
          refine WO_p (PS_buildI (k := .u64) (zs := [0, 0, 0, 0]) (ps := []) (L := [0, 0, 0, 0]) Hvac.zeroValue61 Hvac.runUnderlying61 Hvac.sizeOf26 rfl rfl rfl rfl) ?_
          refine WO_call Hvac.call235 (by rfl) (Ret.mono (settle_ex C c2 v B2 m t f _ _ _ _ _ (MS.ext hM2 (by repeat (first | assumption | exact Ext.refl _ | refine Ext.alloc ?_ _ | refine Ext.drew ?_ | refine Ext.setB ?_ (by first | omega | (simp only [size_alloc, size_setB, size_drew]; omega)) _ | exact Ext.trans (by assumption) (by assumption) | refine Ext.trans ?_ (by assumption)))) hA (by omega) (by first | (intro _; omega) | (intro h; cases h)) Wd0 (by omega)) ?_)
          rintro _ wS ⟨hRS, hKS⟩
          have hRS2 := MRet.trans hS2 (MRet.pre (by repeat (first | assumption | exact Ext.refl _ | refine Ext.alloc ?_ _ | refine Ext.drew ?_ | refine Ext.setB ?_ (by first | omega | (simp only [size_alloc, size_setB, size_drew]; omega)) _ | exact Ext.trans (by assumption) (by assumption) | refine Ext.trans ?_ (by assumption))) hRS)
          have hKC := KC.pre (a := w2) (by repeat (first | assumption | exact Ext.refl _ | refine Ext.alloc ?_ _ | refine Ext.drew ?_ | refine Ext.setB ?_ (by first | omega | (simp only [size_alloc, size_setB, size_drew]; omega)) _ | exact Ext.trans (by assumption) (by assumption) | refine Ext.trans ?_ (by assumption))) hKS
          have hK5 : KT 5 w2 wS := KC.kt hKC hM2.vs.blk (by decide)
          have hK28 : KT 28 w2 wS := KC.kt hKC hM2.vs.blk (by decide)
          refine WO_nil ?_
          first | refine bodyQ_ret0 Hvac.results183 ?_ | refine bodyQ_end0 Hvac.results183 ?_
          exact ⟨v, _, hRS2, (hI.settle hf hI.rw0 hvi (fun _ h => h) (Int.le_refl _) (by omega) (by first | (intro _; omega) | (intro h; cases h)) (by omega) hc).2, hRw.fin_eff2 hM2 hMI hf hK5 hK28 hoN (by decide) (by simp [yisj]) (fun h => absurd h (by decide)) (k := 2) (by decide) rfl rfl (by decide) (by show (y, ywrite g ((yargs g 2).getD 0 0) (be32N ((yargs g 2).getD 1 0))) = _; rw [yargs_d (by decide), yargs_d (by decide), hy0, hy1]; unfold be32N; rw [if_pos (wn_lt (hwdA 1)), ← be32_be (hwdA 1)]; rfl) (by omega)⟩
      · have hb17p := hb17.h; try simp only [al_ete, al_dfn, Bool.not_eq_true', Bool.not_eq_false', al_ne, Bool.not_not, al_nn] at hb17p
        refine W_seq ?_
        refine W_region rfl ?_
        refine WO_p (PS_eql rfl rfl) ?_
        refine WO_p (PS_assign_bool rfl) ?_
        refine WO_nil ?_
        refine thn_normal ?_
        refine W_if rfl (fun hb25 => ?_) (fun hb25 => ?_)
        · have hb25p := hb25.h; try simp only [al_ete, al_dfn, Bool.not_eq_true', Bool.not_eq_false', al_ne, Bool.not_not, al_nn] at hb25p
          have hin : (2 : Int) ≤ f.sp ∧ f.sp - 2 + 0 ≤ 64 := by have h := hk; rw [show o = 83 from by omega] at h; exact h
          have hre := hAd.re (by rw [show o = 83 from by omega]; rfl)
          rw [show o = 83 from by omega] at hre
          replace hre : (reachW (m.argW f 0) [1, 0, 0, 0]).2 = true ∧ 32 * (reachW (m.argW f 0) [1, 0, 0, 0]).1 ≤ szOf m.base t := hre
          have hft := reach_fit (by first | exact Wd32 | exact Wd1 | exact hwdA _) hre.1
          have hre2 := hre.2
          obtain ⟨bq, Lq, hbq, _⟩ := hM.buf.some (by omega)
          rw [small_nat (hwdA 0) (by omega)]
          have hoN : o = 83 := by omega
          refine W_seq ?_
          have hce0 : Ce (ic .u64 (m.argW f 1)) (0 + (0 : Int).toNat * 1) (.int .u64 l0) := ⟨by rw [hlw]; rfl⟩
          refine W_drawE [false, false, false, false, false, false, false, false, false, false] hmix (by kernel_rfl) rfl ?_
          refine WH_p (PS_move_ptr rfl) rfl ?_
          refine WH_p (PS_nilCheck rfl) rfl ?_
          refine WH_p (PS_fieldAddr 1 Hvac.runUnderlying70 rfl Hvac.sizeOf59 rfl rfl) rfl ?_
          refine WH_p (PS_move_int rfl) rfl ?_
          refine WH_p (PS_indexA Hvac.runUnderlying61 Hvac.sizeOf26 rfl rfl (by omega) (by omega)) rfl ?_
          refine WH_load (.int _ _) Hvac.isAgg26 rfl (Hb.h (by repeat (first | assumption | exact Hb.newY _ _ | refine Hb.alloc ?_ | refine Hb.drew ?_ | refine Hb.ext (by assumption) ?_ | exact Hb.setSameL (by first | omega | (simp only [size_alloc, size_setB, size_drew]; omega)) | exact Hb.setSame (by assumption) | refine Hb.set (by first | omega | (simp only [size_alloc, size_setB, size_drew]; omega)) ?_ ))) (Ce.h (by first | assumption | exact ⟨rfl⟩)) ?_
          refine WH_p (PS_and_u64 rfl rfl) rfl ?_
          refine WH_p (PS_conv_u8w Hvac.runUnderlying26 Hvac.runUnderlying5 rfl) rfl ?_
          refine WH_call Hvac.call277 (by rfl) (Ret.mono (memStore8_ex C c v B m t lo n (wv (m.argW f 0)).toNat bq _ _ (MS.ext hM (by repeat (first | assumption | exact Ext.refl _ | refine Ext.alloc ?_ _ | refine Ext.drew ?_ | refine Ext.setB ?_ (by first | omega | (simp only [size_alloc, size_setB, size_drew]; omega)) _ | exact Ext.trans (by assumption) (by assumption) | refine Ext.trans ?_ (by assumption)))) Lm (BufX.ext hLm (by repeat (first | assumption | exact Ext.refl _ | refine Ext.alloc ?_ _ | refine Ext.drew ?_ | refine Ext.setB ?_ (by first | omega | (simp only [size_alloc, size_setB, size_drew]; omega)) _ | exact Ext.trans (by assumption) (by assumption) | refine Ext.trans ?_ (by assumption)))) hT hbq (by omega) (by omega)) ?_)
          rintro _ w2 ⟨rfl, hR2, hBX2⟩
          refine ⟨(fun h => by cases h), ?_⟩
          obtain ⟨c2, B2, hM2, hS2⟩ := MRet.pre (w := w) (by repeat (first | assumption | exact Ext.refl _ | refine Ext.alloc ?_ _ | refine Ext.drew ?_ | refine Ext.setB ?_ (by first | omega | (simp only [size_alloc, size_setB, size_drew]; omega)) _ | exact Ext.trans (by assumption) (by assumption) | refine Ext.trans ?_ (by assumption))) hR2
          have hRw := Rel.write hRP hM hS2 hLm hMB htl hMI hf (by simp only [List.length_singleton]; omega) hBX2
          refine WH_p (PS_not rfl) rfl ?_
          refine WH_nil ?_
          refine thn_normal ?_
          refine W_if rfl (fun hb29 => ?_) (fun hb29 => ?_)
          · have hb29p := hb29.h; try simp only [al_ete, al_dfn, Bool.not_eq_true', Bool.not_eq_false', al_ne, Bool.not_not, al_nn] at hb29p
            simp at hb29p --END
          · have hb29p := hb29.h; try simp only [al_ete, al_dfn, Bool.not_eq_true', Bool.not_eq_false', al_ne, Bool.not_not, al_nn] at hb29p
            refine W_skip ?_
            refine inBlk_normal ?_
            refine thn_normal ?_
            refine W_region rfl ?_
            refine WO_p (PS_move_ptr rfl) ?_
            refine WO_p (PS_move_ptr rfl) ?_
            refine WO_p (PS_buildI (k := .u64) (zs := [0, 0, 0, 0]) (ps := []) (L := [0, 0, 0, 0]) Hvac.zeroValue61 Hvac.runUnderlying61 Hvac.sizeOf26 rfl rfl rfl rfl) ?_
            refine WO_call Hvac.call235 (by rfl) (Ret.mono (settle_ex C c2 v B2 m t f _ _ _ _ _ (MS.ext hM2 (by repeat (first | assumption | exact Ext.refl _ | refine Ext.alloc ?_ _ | refine Ext.drew ?_ | refine Ext.setB ?_ (by first | omega | (simp only [size_alloc, size_setB, size_drew]; omega)) _ | exact Ext.trans (by assumption) (by assumption) | refine Ext.trans ?_ (by assumption)))) hA (by omega) (by first | (intro _; omega) | (intro h; cases h)) Wd0 (by omega)) ?_)
            rintro _ wS ⟨hRS, hKS⟩
            have hRS2 := MRet.trans hS2 (MRet.pre (by repeat (first | assumption | exact Ext.refl _ | refine Ext.alloc ?_ _ | refine Ext.drew ?_ | refine Ext.setB ?_ (by first | omega | (simp only [size_alloc, size_setB, size_drew]; omega)) _ | exact Ext.trans (by assumption) (by assumption) | refine Ext.trans ?_ (by assumption))) hRS)
            have hKC := KC.pre (a := w2) (by repeat (first | assumption | exact Ext.refl _ | refine Ext.alloc ?_ _ | refine Ext.drew ?_ | refine Ext.setB ?_ (by first | omega | (simp only [size_alloc, size_setB, size_drew]; omega)) _ | exact Ext.trans (by assumption) (by assumption) | refine Ext.trans ?_ (by assumption))) hKS
            have hK5 : KT 5 w2 wS := KC.kt hKC hM2.vs.blk (by decide)
            have hK28 : KT 28 w2 wS := KC.kt hKC hM2.vs.blk (by decide)
            refine WO_nil ?_
            first | refine bodyQ_ret0 Hvac.results183 ?_ | refine bodyQ_end0 Hvac.results183 ?_
            exact ⟨v, _, hRS2, (hI.settle hf hI.rw0 hvi (fun _ h => h) (Int.le_refl _) (by omega) (by first | (intro _; omega) | (intro h; cases h)) (by omega) hc).2, hRw.fin_eff2 hM2 hMI hf hK5 hK28 hoN (by decide) (by simp [yisj]) (fun h => absurd h (by decide)) (k := 2) (by decide) rfl rfl (by decide) (by show (y, ywrite g ((yargs g 2).getD 0 0) (ylast ((yargs g 2).getD 1 0))) = _; rw [yargs_d (by decide), yargs_d (by decide), hy0, hy1, ylast_eq (hwdA 1) hlw, show bAnd l0 255 % 256 = l0 % 256 from by rw [bAnd_255 hlb0]; omega]; rfl) (by omega)⟩
        · have hb25p := hb25.h; try simp only [al_ete, al_dfn, Bool.not_eq_true', Bool.not_eq_false', al_ne, Bool.not_not, al_nn] at hb25p
          omega --END

end Go.Proofs.YgvacwGreat
