import Derived.Test.YgvacwGreatEy
import Derived.Test.YgvacwGreatOf
namespace Go.Proofs.YgvacwGreat
set_option linter.unusedSimpArgs false
set_option linter.unusedVariables false
theorem end_exL [Om] (scan : List Int → List Int) (C : Nat) (c : Array Value) (v : V) (B : VB) (m : Mc) (t : Nat) (f : Fm) (cr S st : Int) (out : SV) (w : World) (hM : MS w C c v B m) (hf : m.frames[t]? = some f) (hI : RI scan v m t cr S) (hst : 0 ≤ st ∧ st ≤ 11) (ho : BS w (bb m) out) (hol : out.2.1 ≤ 717280 ∧ out.2.1 ≤ out.2.2) (y : PSt) (rest : List PF) (g : PF) (hRl : Rel w v m (y, rest ++ [g])) (sn : Nat) (hsN : st = (sn : Int)) (Lo : List Int) (hLo : rdB w out = Lo) : Ret Hvac.prog 172 #[.pointer (some ⟨C, 0, none⟩), .int .u8 st, .slice out.1 out.2.1 out.2.2] w fun _ w' => ∃ v' m', MRet w C B m w' v' m' ∧ EndP scan m t f S v' m' ∧ Rel w' v' m' (yleave y rest g sn Lo) := by
  subst hLo
  exact end_ex scan C c v B m t f cr S st out w hM hf hI hst ho hol y rest g hRl sn hsN
def yendX (y : PSt) (rest : List PF) (g : PF) (o : Int) : PSt × List PF := if o = 0 then yleave y rest g 0 [] else if o = 243 then yleave y rest g 0 (ycut g.mem (yarg g 0) (yarg g 1)) else yleave y rest g 1 (ycut g.mem (yarg g 0) (yarg g 1))

set_option maxRecDepth 10000 in
theorem fail_ex [Om] (scan : List Int → List Int) (C : Nat) (c : Array Value) (v : V) (B : VB) (m : Mc) (t : Nat) (f : Fm) (cr S st : Int) (w : World) (hM : MS w C c v B m) (hf : m.frames[t]? = some f) (hI : RI scan v m t cr S) (hst : 0 ≤ st ∧ st ≤ 11) (y : PSt) (rest : List PF) (g : PF) (hRl : Rel w v m (y, rest ++ [g])) (sn : Nat) (hsN : st = (sn : Int)) : Ret Hvac.prog 171 #[.pointer (some ⟨C, 0, none⟩), .int .u8 st] w fun u w' => u = .bool false ∧ ∃ v' m', MRet w C B m w' v' m' ∧ EndP scan m t f S v' m' ∧ Rel w' v' m' (yleave y rest g sn []) := by
  refine Ret_of_W Hvac.func171 rfl rfl ?_
  refine W_seq ?_
  refine W_region rfl ?_
  refine WO_p (PS_assign_bool rfl) ?_
  refine WO_nil ?_
  refine thn_normal ?_
  refine W_seq ?_
  refine W_region rfl ?_
  refine WO_p (PS_move_ptr rfl) ?_
  refine WO_p (PS_move_int rfl) ?_
  refine WO_call Hvac.call172 (by rfl) (Ret.mono (end_exL scan C c v B m t f cr S st (none, 0, 0) _ hM hf hI hst (Or.inl ⟨rfl, rfl⟩) (by simp) y rest g hRl sn hsN [] (rdB_nil _ _ _)) ?_)
  rintro _ w1 ⟨v1, m1, hR1, hP1, hX1⟩
  refine WO_nil ?_
  refine thn_normal ?_
  refine W_seq ?_
  refine W_region rfl ?_
  refine WO_p (PS_assign_bool rfl) ?_
  refine WO_nil ?_
  refine thn_normal ?_
  refine W_ret ?_
  refine bodyQ_ret1 Hvac.results171 rfl (.bool _) rfl ?_
  exact ⟨rfl, v1, m1, hR1, hP1, hX1⟩

set_option maxRecDepth 10000 in
set_option maxHeartbeats 4000000 in
theorem opEnd_ex [Om] (scan : List Int → List Int) (C : Nat) (c : Array Value) (v : V) (B : VB) (m : Mc) (t : Nat) (f : Fm) (o c' S : Int) (w : World) (hM : MS w C c v B m) (hop : Mc.opc f = o) (hAd : Adm scan v m t f o (infoW o).2.2.1 c' S) (hk : (infoW o).1 ≤ f.sp ∧ f.sp - (infoW o).1 + (infoW o).2.1 ≤ 64) (y : PSt) (rest : List PF) (g : PF) (hRl : Rel w v m (y, rest ++ [g])) (ho : o = 0 ∨ o = 243 ∨ o = 253) : Ret Hvac.prog 190 #[.pointer (some ⟨C, 0, none⟩)] w fun _ w' => ∃ v' m', MRet w C B m w' v' m' ∧ OpP scan m t c' S v' m' ∧ Rel w' v' m' (yendX y rest g o) := by
  have hI := hAd.ri
  have hf := hAd.fr
  have hR := hI.run hf
  have hA := hR.fa
  have hblk := hM.vs.blk
  have hCl := hblk.lt
  have hcs := hM.sz
  have hc_s := hM.rep.s
  obtain ⟨ht7, hfty, hF⟩ := hM.openF hf
  have hFk := hI.fr t f (Nat.le_refl _) hf
  have hvi := hI.ti.vi
  have hcbl := (hM.code f (List.mem_of_getElem? hf)).1.len
  have hcb5 := hFk.cl
  have hcl : f.code.2.1 ≤ 100000 := by omega
  have hpct := hfty.pc
  have hspt := hfty.sp
  have hwdA := fun i => argW_wd hM.ty f i
  have hMI := hI.mi
  have hAr := fun i => hRl.arg hM hMI hf i
  have htl := hRl.len hMI
  have hy0 : yarg g 0 = wn (m.argW f 0) := hAr 0
  have hy1 : yarg g 1 = wn (m.argW f 1) := hAr 1
  have hy2 : yarg g 2 = wn (m.argW f 2) := hAr 2
  have hy3 : yarg g 3 = wn (m.argW f 3) := hAr 3
  have hy4 : yarg g 4 = wn (m.argW f 4) := hAr 4
  have hy5 : yarg g 5 = wn (m.argW f 5) := hAr 5
  have hy6 : yarg g 6 = wn (m.argW f 6) := hAr 6
  obtain ⟨lo, n, hlo, hhi, hszn, hlon, hn32⟩ := hI.mem hM.ty (i := t) (Nat.le_refl _)
  have hbl0 := hI.ti.bl
  have hT : MemT m t lo n := ⟨hI.mtY, by omega, hlo, hhi, hlon, by omega⟩
  have hwi1 := wn_int (hwdA 1)
  have hMB := hI.mbs hM.ty hlo hszn hlon
  obtain ⟨Lm, hLm, hFP, hRP⟩ := hRl.top hMI hf
  have hmc := Rel.mem_cut hFP hMB
  
  refine Ret_of_W Hvac.func190 rfl rfl ?_
  refine W_seq ?_
  refine W_region rfl ?_
  refine WO_p (PS_move_ptr rfl) ?_
  refine WO_call Hvac.call95 (by rfl) (Ret.mono (running_spec C c v B m t f _ (MS.ext hM (by repeat (first | assumption | exact Ext.refl _ | refine Ext.alloc ?_ _ | refine Ext.drew ?_ | refine Ext.setB ?_ (by first | omega | (simp only [size_alloc, size_setB, size_drew]; omega)) _ | exact Ext.trans (by assumption) (by assumption) | refine Ext.trans ?_ (by assumption)))) hR) ?_)
  rintro _ w95_0 ⟨hE95_0, rfl⟩
  have hz95_0 := hE95_0.1
  try simp only [size_alloc, size_setB, size_drew] at hz95_0
  refine WO_p (PS_assign_ptr rfl) ?_
  refine WO_nil ?_
  refine thn_normal ?_
  refine W_seq ?_
  refine W_seq ?_
  refine W_region rfl ?_
  refine WO_p (PS_move_ptr rfl) ?_
  refine WO_p (PS_eqlnil Hvac.underlying187 rfl) ?_
  refine WO_nil ?_
  refine thn_normal ?_
  refine W_if rfl (fun hb3 => ?_) (fun hb3 => ?_)
  · have hb3p := hb3.h; try simp only [al_ete, al_dfn, Bool.not_eq_true', Bool.not_eq_false', al_ne, Bool.not_not, al_nn] at hb3p
    simp at hb3p --END
  · have hb3p := hb3.h; try simp only [al_ete, al_dfn, Bool.not_eq_true', Bool.not_eq_false', al_ne, Bool.not_not, al_nn] at hb3p
    refine W_skip ?_
    refine thn_normal ?_
    refine W_seq ?_
    refine W_region rfl ?_
    refine WO_p (PS_move_ptr rfl) ?_
    refine WO_call Hvac.call104 (by rfl) (Ret.mono (opcode_spec C c v B m t f _ (MS.ext hM (by repeat (first | assumption | exact Ext.refl _ | refine Ext.alloc ?_ _ | refine Ext.drew ?_ | refine Ext.setB ?_ (by first | omega | (simp only [size_alloc, size_setB, size_drew]; omega)) _ | exact Ext.trans (by assumption) (by assumption) | refine Ext.trans ?_ (by assumption)))) hR hcl) ?_)
    rintro _ w104_3 ⟨hE104_3, rfl⟩
    have hz104_3 := hE104_3.1
    try simp only [size_alloc, size_setB, size_drew] at hz104_3
    try rw [hop]
    refine WO_p (PS_assign_int rfl) ?_
    refine WO_nil ?_
    refine thn_normal ?_
    refine W_seq ?_
    refine W_seq ?_
    refine W_region rfl ?_
    refine WO_p (PS_move_int rfl) ?_
    refine WO_p (PS_eql rfl rfl) ?_
    refine WO_nil ?_
    refine thn_normal ?_
    refine W_if rfl (fun hb6 => ?_) (fun hb6 => ?_)
    · have hb6p := hb6.h; try simp only [al_ete, al_dfn, Bool.not_eq_true', Bool.not_eq_false', al_ne, Bool.not_not, al_nn] at hb6p
      have hoN : o = 0 := by omega
      refine W_seq ?_
      refine W_region rfl ?_
      refine WO_p (PS_move_ptr rfl) ?_
      refine WO_call Hvac.call172 (by rfl) (Ret.mono (end_exL scan C c v B m t f c' S 0 (none, 0, 0) _ (MS.ext hM (by repeat (first | assumption | exact Ext.refl _ | refine Ext.alloc ?_ _ | refine Ext.drew ?_ | refine Ext.setB ?_ (by first | omega | (simp only [size_alloc, size_setB, size_drew]; omega)) _ | exact Ext.trans (by assumption) (by assumption) | refine Ext.trans ?_ (by assumption)))) hf hI (by omega) (Or.inl ⟨rfl, rfl⟩) (by simp) y rest g (hRl.ext hM (by repeat (first | assumption | exact Ext.refl _ | refine Ext.alloc ?_ _ | refine Ext.drew ?_ | refine Ext.setB ?_ (by first | omega | (simp only [size_alloc, size_setB, size_drew]; omega)) _ | exact Ext.trans (by assumption) (by assumption) | refine Ext.trans ?_ (by assumption)))) 0 rfl [] (rdB_nil _ _ _)) ?_)
      rintro _ w1 ⟨v1, m1, hR1, hP1, hX1⟩
      refine WO_nil ?_
      refine thn_normal ?_
      refine W_ret ?_
      refine thn_ret ?_
      first | refine bodyQ_ret0 Hvac.results190 ?_ | refine bodyQ_end0 Hvac.results190 ?_
      exact ⟨v1, m1, MRet.pre (by repeat (first | assumption | exact Ext.refl _ | refine Ext.alloc ?_ _ | refine Ext.drew ?_ | refine Ext.setB ?_ (by first | omega | (simp only [size_alloc, size_setB, size_drew]; omega)) _ | refine Ext.trans ?_ (by assumption))) hR1, EndP.op hI hM.ty hf hI.c0 hP1, (by unfold yendX; rw [if_pos hoN]; exact hX1)⟩
    · have hb6p := hb6.h; try simp only [al_ete, al_dfn, Bool.not_eq_true', Bool.not_eq_false', al_ne, Bool.not_not, al_nn] at hb6p
      have hre := hAd.re (by rcases (show o = 243 ∨ o = 253 by omega) with h | h <;> (rw [h]; rfl))
      have hre0 : reachesW m f o = reachW (m.argW f 0) (m.argW f 1) := by rcases (show o = 243 ∨ o = 253 by omega) with h | h <;> (rw [h]; rfl)
      rw [hre0] at hre
      have hft := reach_fit (hwdA 1) hre.1
      have hre2 := hre.2
      have hrd : wv (m.argW f 1) = 0 ∨ wv (m.argW f 0) + wv (m.argW f 1) ≤ n := by rcases hft with h | h; exact Or.inl h; exact Or.inr (by omega)
      have hx7 : wv (m.argW f 1) ≤ 717280 := by rcases hft with h | h <;> omega
      have hl0 := (hwdA 0).1
      have hl1 := (hwdA 1).1
      refine W_skip ?_
      refine thn_normal ?_
      refine W_seq ?_
      refine W_region rfl ?_
      refine WO_p (PS_move_ptr rfl) ?_
      refine WO_p (PS_move_ptr rfl) ?_
      refine WO_p (PS_move_ptr rfl) ?_
      refine WO_call Hvac.call239 (by rfl) (Ret.mono (arg_spec C c v B m t f _ _ (MS.ext hM (by repeat (first | assumption | exact Ext.refl _ | refine Ext.alloc ?_ _ | refine Ext.drew ?_ | refine Ext.setB ?_ (by first | omega | (simp only [size_alloc, size_setB, size_drew]; omega)) _ | exact Ext.trans (by assumption) (by assumption) | refine Ext.trans ?_ (by assumption)))) hA (by omega)) ?_)
      rintro _ w239_7 ⟨hE239_7, rfl⟩
      have hz239_7 := hE239_7.1
      try simp only [size_alloc, size_setB, size_drew] at hz239_7
      refine WO_p (PS_move_ptr rfl) ?_
      refine WO_p (PS_move_ptr rfl) ?_
      refine WO_call Hvac.call239 (by rfl) (Ret.mono (arg_spec C c v B m t f _ _ (MS.ext hM (by repeat (first | assumption | exact Ext.refl _ | refine Ext.alloc ?_ _ | refine Ext.drew ?_ | refine Ext.setB ?_ (by first | omega | (simp only [size_alloc, size_setB, size_drew]; omega)) _ | exact Ext.trans (by assumption) (by assumption) | refine Ext.trans ?_ (by assumption)))) hA (by omega)) ?_)
      rintro _ w239_8 ⟨hE239_8, rfl⟩
      have hz239_8 := hE239_8.1
      try simp only [size_alloc, size_setB, size_drew] at hz239_8
      refine WO_call Hvac.call266 (by rfl) (Ret.mono (read_ex C c v B m t lo n _ _ _ (MS.ext hM (by repeat (first | assumption | exact Ext.refl _ | refine Ext.alloc ?_ _ | refine Ext.drew ?_ | refine Ext.setB ?_ (by first | omega | (simp only [size_alloc, size_setB, size_drew]; omega)) _ | exact Ext.trans (by assumption) (by assumption) | refine Ext.trans ?_ (by assumption)))) Lm (BufX.ext hLm (by repeat (first | assumption | exact Ext.refl _ | refine Ext.alloc ?_ _ | refine Ext.drew ?_ | refine Ext.setB ?_ (by first | omega | (simp only [size_alloc, size_setB, size_drew]; omega)) _ | exact Ext.trans (by assumption) (by assumption) | refine Ext.trans ?_ (by assumption)))) hT (hwdA _) (hwdA _) hrd) ?_)
      rintro _ w266_9 ⟨hE266_9, s5, rfl, hN5, hB5⟩
      have hz266_9 := hE266_9.1
      try simp only [size_alloc, size_setB, size_drew] at hz266_9
      have hcap5 := hN5.cap
      have hlen5 := hN5.len
      rw [ycut_len] at hlen5
      have hbs5 : BS _ (bb m) s5 := hN5.bs (fun b hb => bb_lt (MS.ext hM (by repeat (first | assumption | exact Ext.refl _ | refine Ext.alloc ?_ _ | refine Ext.drew ?_ | refine Ext.setB ?_ (by first | omega | (simp only [size_alloc, size_setB, size_drew]; omega)) _ | exact Ext.trans (by assumption) (by assumption) | refine Ext.trans ?_ (by assumption)))) b hb) hB5
      have hbx5 : BX _ (bb m) s5 _ := hN5.bx (fun b hb => bb_lt (MS.ext hM (by repeat (first | assumption | exact Ext.refl _ | refine Ext.alloc ?_ _ | refine Ext.drew ?_ | refine Ext.setB ?_ (by first | omega | (simp only [size_alloc, size_setB, size_drew]; omega)) _ | exact Ext.trans (by assumption) (by assumption) | refine Ext.trans ?_ (by assumption)))) b hb) hB5
      refine WO_p (PS_move_tuple rfl) ?_
      refine WO_p (PS_extract_slice rfl rfl) ?_
      refine WO_p (PS_extract_bool rfl rfl) ?_
      refine WO_p (PS_assign_slice rfl) ?_
      refine WO_p (PS_assign_bool rfl) ?_
      refine WO_nil ?_
      refine thn_normal ?_
      refine W_seq ?_
      refine W_seq ?_
      refine W_region rfl ?_
      refine WO_p (PS_move_bool rfl) ?_
      refine WO_p (PS_not rfl) ?_
      refine WO_nil ?_
      refine thn_normal ?_
      refine W_if rfl (fun hb13 => ?_) (fun hb13 => ?_)
      · have hb13p := hb13.h; try simp only [al_ete, al_dfn, Bool.not_eq_true', Bool.not_eq_false', al_ne, Bool.not_not, al_nn] at hb13p
        simp at hb13p --END
      · have hb13p := hb13.h; try simp only [al_ete, al_dfn, Bool.not_eq_true', Bool.not_eq_false', al_ne, Bool.not_not, al_nn] at hb13p
        refine W_skip ?_
        refine thn_normal ?_
        refine W_seq ?_
        refine W_region rfl ?_
        refine WO_p (PS_move_int rfl) ?_
        refine WO_p (PS_eql rfl rfl) ?_
        refine WO_nil ?_
        refine thn_normal ?_
        refine W_if rfl (fun hb15 => ?_) (fun hb15 => ?_)
        · have hb15p := hb15.h; try simp only [al_ete, al_dfn, Bool.not_eq_true', Bool.not_eq_false', al_ne, Bool.not_not, al_nn] at hb15p
          refine W_region rfl ?_
          refine WO_p (PS_move_ptr rfl) ?_
          refine WO_p (PS_move_slice rfl) ?_
          refine WO_call Hvac.call172 (by rfl) (Ret.mono (end_exL scan C c v B m t f c' S 1 s5 _ (MS.ext hM (by repeat (first | assumption | exact Ext.refl _ | refine Ext.alloc ?_ _ | refine Ext.drew ?_ | refine Ext.setB ?_ (by first | omega | (simp only [size_alloc, size_setB, size_drew]; omega)) _ | exact Ext.trans (by assumption) (by assumption) | refine Ext.trans ?_ (by assumption)))) hf hI (by omega) (BS.ext hbs5 (by repeat (first | assumption | exact Ext.refl _ | refine Ext.alloc ?_ _ | refine Ext.drew ?_ | refine Ext.setB ?_ (by first | omega | (simp only [size_alloc, size_setB, size_drew]; omega)) _ | exact Ext.trans (by assumption) (by assumption) | refine Ext.trans ?_ (by assumption)))) (by omega) y rest g (hRl.ext hM (by repeat (first | assumption | exact Ext.refl _ | refine Ext.alloc ?_ _ | refine Ext.drew ?_ | refine Ext.setB ?_ (by first | omega | (simp only [size_alloc, size_setB, size_drew]; omega)) _ | exact Ext.trans (by assumption) (by assumption) | refine Ext.trans ?_ (by assumption)))) 1 rfl _ ((BX.ext hbx5 (by repeat (first | assumption | exact Ext.refl _ | refine Ext.alloc ?_ _ | refine Ext.drew ?_ | refine Ext.setB ?_ (by first | omega | (simp only [size_alloc, size_setB, size_drew]; omega)) _ | exact Ext.trans (by assumption) (by assumption) | refine Ext.trans ?_ (by assumption)))).rd)) ?_)
          rintro _ w1 ⟨v1, m1, hR1, hP1, hX1⟩
          refine WO_nil ?_
          first | refine bodyQ_ret0 Hvac.results190 ?_ | refine bodyQ_end0 Hvac.results190 ?_
          exact ⟨v1, m1, MRet.pre (by repeat (first | assumption | exact Ext.refl _ | refine Ext.alloc ?_ _ | refine Ext.drew ?_ | refine Ext.setB ?_ (by first | omega | (simp only [size_alloc, size_setB, size_drew]; omega)) _ | refine Ext.trans ?_ (by assumption))) hR1, EndP.op hI hM.ty hf hI.c0 hP1, (by unfold yendX; rw [if_neg (by omega), if_neg (by omega), hmc, hy0, hy1]; exact hX1)⟩
        · have hb15p := hb15.h; try simp only [al_ete, al_dfn, Bool.not_eq_true', Bool.not_eq_false', al_ne, Bool.not_not, al_nn] at hb15p
          refine W_region rfl ?_
          refine WO_p (PS_move_ptr rfl) ?_
          refine WO_p (PS_move_slice rfl) ?_
          refine WO_call Hvac.call172 (by rfl) (Ret.mono (end_exL scan C c v B m t f c' S 0 s5 _ (MS.ext hM (by repeat (first | assumption | exact Ext.refl _ | refine Ext.alloc ?_ _ | refine Ext.drew ?_ | refine Ext.setB ?_ (by first | omega | (simp only [size_alloc, size_setB, size_drew]; omega)) _ | exact Ext.trans (by assumption) (by assumption) | refine Ext.trans ?_ (by assumption)))) hf hI (by omega) (BS.ext hbs5 (by repeat (first | assumption | exact Ext.refl _ | refine Ext.alloc ?_ _ | refine Ext.drew ?_ | refine Ext.setB ?_ (by first | omega | (simp only [size_alloc, size_setB, size_drew]; omega)) _ | exact Ext.trans (by assumption) (by assumption) | refine Ext.trans ?_ (by assumption)))) (by omega) y rest g (hRl.ext hM (by repeat (first | assumption | exact Ext.refl _ | refine Ext.alloc ?_ _ | refine Ext.drew ?_ | refine Ext.setB ?_ (by first | omega | (simp only [size_alloc, size_setB, size_drew]; omega)) _ | exact Ext.trans (by assumption) (by assumption) | refine Ext.trans ?_ (by assumption)))) 0 rfl _ ((BX.ext hbx5 (by repeat (first | assumption | exact Ext.refl _ | refine Ext.alloc ?_ _ | refine Ext.drew ?_ | refine Ext.setB ?_ (by first | omega | (simp only [size_alloc, size_setB, size_drew]; omega)) _ | exact Ext.trans (by assumption) (by assumption) | refine Ext.trans ?_ (by assumption)))).rd)) ?_)
          rintro _ w1 ⟨v1, m1, hR1, hP1, hX1⟩
          refine WO_nil ?_
          first | refine bodyQ_ret0 Hvac.results190 ?_ | refine bodyQ_end0 Hvac.results190 ?_
          exact ⟨v1, m1, MRet.pre (by repeat (first | assumption | exact Ext.refl _ | refine Ext.alloc ?_ _ | refine Ext.drew ?_ | refine Ext.setB ?_ (by first | omega | (simp only [size_alloc, size_setB, size_drew]; omega)) _ | refine Ext.trans ?_ (by assumption))) hR1, EndP.op hI hM.ty hf hI.c0 hP1, (by unfold yendX; rw [if_neg (by omega), if_pos (by omega), hmc, hy0, hy1]; exact hX1)⟩

end Go.Proofs.YgvacwGreat
