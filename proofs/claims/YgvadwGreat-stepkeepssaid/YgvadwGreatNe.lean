import Derived.Test.YgvadwGreatNd
namespace Go.Proofs.YgvadwGreat
set_option linter.unusedSimpArgs false
set_option linter.unusedVariables false
theorem reach_le {W X : List Int} (hW : Wd W) (hX : Wd X) : 0 ≤ (reachW W X).1 ∧ (reachW W X).1 ≤ 22415 := by
  have h1 := wv_bd hW
  have h2 := wv_bd hX
  unfold reachW
  split
  · simp
  · split
    · simp only; omega
    · simp
theorem reaches_le {m : Mc} (h : MTy m) (f : Fm) (o : Int) : 0 ≤ (reachesW m f o).1 ∧ (reachesW m f o).1 ≤ 22415 := by
  have a := fun i => argW_wd h f i
  have r := fun i j => reach_le (a i) (a j)
  have r32 := fun i => reach_le (a i) Wd32
  have r1 := fun i => reach_le (a i) Wd1
  have mx : ∀ x y : Int, (0 ≤ x ∧ x ≤ 22415) → (0 ≤ y ∧ y ≤ 22415) → 0 ≤ max x y ∧ max x y ≤ 22415 := by intro x y hx hy; omega
  unfold reachesW
  split; exact r 0 1
  split; exact r 0 2
  split; exact r 1 3
  split; exact r32 0
  split; exact r1 0
  split; exact mx _ _ (r 0 2) (r 1 2)
  split; exact r 1 2
  split; exact mx _ _ (r 3 4) (r 5 6)
  split; exact mx _ _ (r 2 3) (r 4 5)
  exact ⟨Int.le_refl _, by show (0 : Int) ≤ _; decide⟩
theorem memCost_le {n : Int} (h0 : 0 ≤ n) (h1 : n ≤ 22415) : 0 ≤ memCost n ∧ memCost n ≤ 2000000 := by
  have h2 : n * n ≤ 22415 * 22415 := Int.mul_le_mul h1 h1 h0 (by decide)
  have h3 := Int.mul_nonneg h0 h0
  unfold memCost
  omega
theorem memCost_mono {a b : Int} (h0 : 0 ≤ a) (h1 : a ≤ b) : memCost a ≤ memCost b := by
  have h2 : a * a ≤ b * b := Int.mul_le_mul h1 h1 h0 (by omega)
  unfold memCost
  omega

set_option maxRecDepth 10000 in
theorem fail_spec (scan : List Int → List Int) (C : Nat) (c : Array Value) (v : V) (B : VB) (m : Mc) (t : Nat) (f : Fm) (cr S st : Int) (w : World) (hM : MS w C c v B m) (hf : m.frames[t]? = some f) (hI : RI scan v m t cr S) (hst : 0 ≤ st ∧ st ≤ 11) : Ret Hvad.prog 93 #[.pointer (some ⟨C, 0, none⟩), .int .u8 st] w fun u w' => u = .bool false ∧ ∃ v' m', MRet w C B m w' v' m' ∧ EndP scan m t f S v' m' := by
  refine Ret_of_W Hvad.func93 rfl rfl ?_
  refine W_seq ?_
  refine W_region rfl ?_
  refine WO_p (PS_assign_bool rfl) ?_
  refine WO_nil ?_
  refine thn_normal ?_
  refine W_seq ?_
  refine W_region rfl ?_
  refine WO_p (PS_move_ptr rfl) ?_
  refine WO_p (PS_move_int rfl) ?_
  refine WO_call Hvad.call94 (by rfl) (Ret.mono (end_spec scan C c v B m t f cr S st (none, 0, 0) _ hM hf hI hst (Or.inl ⟨rfl, rfl⟩) (by simp)) ?_)
  rintro _ w1 ⟨v1, m1, hR1, hP1⟩
  refine WO_nil ?_
  refine thn_normal ?_
  refine W_seq ?_
  refine W_region rfl ?_
  refine WO_p (PS_assign_bool rfl) ?_
  refine WO_nil ?_
  refine thn_normal ?_
  refine W_ret ?_
  refine bodyQ_ret1 Hvad.results93 rfl (.bool _) rfl ?_
  exact ⟨rfl, v1, m1, hR1, hP1⟩

set_option maxRecDepth 10000 in
set_option maxHeartbeats 4000000 in
theorem pass_spec (scan : List Int → List Int) (C : Nat) (c : Array Value) (v : V) (B : VB) (m : Mc) (t : Nat) (f : Fm) (S o s : Int) (w : World) (hM : MS w C c v B m) (hf : m.frames[t]? = some f) (hI : RI scan v m t 0 S) (ho : 0 ≤ o ∧ o ≤ 255) (hs : 0 ≤ s ∧ s ≤ 32000) : Ret Hvad.prog 96 #[.pointer (some ⟨C, 0, none⟩), .int .u8 o, .int .u16 s] w fun u w' => (u = .bool false ∧ ∃ v' m', MRet w C B m w' v' m' ∧ EndP scan m t f S v' m') ∨ (u = .bool true ∧ ∃ m' c', MRet w C B m w' v m' ∧ Adm scan v m' t { f with gas := f.gas - c' } o s c' S ∧ gasTo m'.frames (t + 1) + c' = gasTo m.frames (t + 1)) := by
  have hR := hI.run hf
  have hA := hR.fa
  have hblk := hM.vs.blk
  have hCl := hblk.lt
  have hcs := hM.sz
  obtain ⟨ht7, hfty, hF⟩ := hM.openF hf
  have hf_gas := hF.gas
  have hf_st := hF.static
  have hgt := hfty.gas
  have hrl := hI.ti.rt
  have hcl : f.code.2.1 ≤ 100000 := by have h1 := (hI.fr t f (Nat.le_refl _) hf).cl; have h2 := (hM.code f (List.mem_of_getElem? hf)).1.len; omega
  have hcbl := (hM.code f (List.mem_of_getElem? hf)).1.len
  have hwle := reaches_le hM.ty f o
  have hw0 := argW_wd hM.ty f 0
  have hw1 := argW_wd hM.ty f 1
  have hw2 := argW_wd hM.ty f 2
  have hl1 := hw1.1
  obtain ⟨lo, n, hlo, hhi, hszn, hlon, hn32⟩ := hI.mem hM.ty (i := t) (Nat.le_refl _)
  have hnb := (hI.bs t (Nat.le_refl _)).2.2
  have hbl0 := hI.ti.bl
  have hlob := hI.base_le t (by omega)
  rw [baseOf_some hlo] at hlob
  have hT : MemT m t lo n := ⟨hI.mtY, by omega, hlo, hhi, hlon, by omega⟩
  have hwd512 : Wd [512, 0, 0, 0] := ⟨rfl, by decide⟩
  obtain ⟨nw, hnw⟩ : ∃ nw : Nat, (reachesW m f o).1 = nw := ⟨_, (Int.toNat_of_nonneg hwle.1).symm⟩
  rw [hnw] at hwle
  have h512 : wv [512, 0, 0, 0] = 512 := rfl
  have hset : ∀ x : Fm, (m.frames.set t x)[t]? = some x := fun x => by rw [List.getElem?_set_self (lt_of_getElem? hf)]
  refine Ret_of_W Hvad.func96 rfl rfl ?_
  refine W_seq ?_
  refine W_region rfl ?_
  refine WO_p (PS_assign_bool rfl) ?_
  refine WO_nil ?_
  refine thn_normal ?_
  refine W_seq ?_
  refine W_region rfl ?_
  refine WO_p (PS_move_ptr rfl) ?_
  refine WO_call Hvad.call91 (by rfl) (Ret.mono (running_spec C c v B m t f _ (MS.ext hM (by repeat (first | assumption | exact Ext.refl _ | refine Ext.alloc ?_ _ | refine Ext.drew ?_ | refine Ext.setB ?_ (by first | omega | (simp only [size_alloc, size_setB, size_drew]; omega)) _ | exact Ext.trans (by assumption) (by assumption) | refine Ext.trans ?_ (by assumption)))) hR) ?_)
  rintro _ w91_0 ⟨hE91_0, rfl⟩
  have hz91_0 := hE91_0.1
  try simp only [size_alloc, size_setB, size_drew] at hz91_0
  refine WO_p (PS_assign_ptr rfl) ?_
  refine WO_nil ?_
  refine thn_normal ?_
  refine W_seq ?_
  refine W_seq ?_
  refine W_region rfl ?_
  refine WO_p (PS_move_ptr rfl) ?_
  refine WO_p (PS_eqlnil Hvad.underlying182 rfl) ?_
  refine WO_nil ?_
  refine thn_normal ?_
  refine W_if rfl (fun hb3 => ?_) (fun hb3 => ?_)
  · have hb3p := hb3.h; try simp only [al_ete, al_dfn, Bool.not_eq_true', Bool.not_eq_false', al_ne, Bool.not_not, al_nn] at hb3p
    simp at hb3p --END
  · have hb3p := hb3.h; try simp only [al_ete, al_dfn, Bool.not_eq_true', Bool.not_eq_false', al_ne, Bool.not_not, al_nn] at hb3p
    refine W_skip ?_
    refine thn_normal ?_
    refine W_seqJ (fun ρ w' => Fr [(0, .pointer (some ⟨C, 0, none⟩)), (7, .pointer (some ⟨C, 1803 + t * 65, none⟩)), (1, .int .u8 o), (2, .int .u16 s)] ρ ∧ Ext w w' ∧ ((o = 240 ∨ o = 245) → wv (m.argW f 2) ≤ 512)) ?_ ?_
    · skip
      refine W_block ?_
      refine W_seq ?_
      refine W_region rfl ?_
      refine WO_p (PS_move_ptr rfl) ?_
      refine WO_p (PS_nilCheck rfl) ?_
      refine WO_p (PS_fieldAddr 3 Hvad.runUnderlying65 rfl Hvad.sizeOf4 rfl rfl) ?_
      refine WO_load (.bool _) Hvad.isAgg4 rfl (Hb.h (by repeat (first | assumption | exact Hb.newY _ _ | refine Hb.alloc ?_ | refine Hb.drew ?_ | refine Hb.ext (by assumption) ?_ | exact Hb.setSameL (by first | omega | (simp only [size_alloc, size_setB, size_drew]; omega)) | exact Hb.setSame (by assumption) | refine Hb.set (by first | omega | (simp only [size_alloc, size_setB, size_drew]; omega)) ?_ ))) (Ce.h (by first | assumption | exact ⟨rfl⟩)) ?_
      refine WO_p (PS_move_bool rfl) ?_
      refine WO_if (t := 24) rfl (fun hb5 => ?_) (fun hb5 => ?_)
      · have hb5p := hb5.h; try simp only [al_ete, al_dfn, Bool.not_eq_true', Bool.not_eq_false', al_ne, Bool.not_not, al_nn] at hb5p
        refine WO_guardT rfl rfl hb5.h ?_
        refine WO_p (PS_move_ptr rfl) ?_
        refine WO_guardT rfl rfl hb5.h ?_
        refine WO_p (PS_move_ptr rfl) ?_
        refine WO_guardT rfl rfl hb5.h ?_
        refine WO_p (PS_move_int rfl) ?_
        refine WO_guardT rfl rfl hb5.h ?_
        refine WO_call Hvad.call159 (by rfl) (Ret.mono (writes_spec C c v B m t f o _ (MS.ext hM (by repeat (first | assumption | exact Ext.refl _ | refine Ext.alloc ?_ _ | refine Ext.drew ?_ | refine Ext.setB ?_ (by first | omega | (simp only [size_alloc, size_setB, size_drew]; omega)) _ | exact Ext.trans (by assumption) (by assumption) | refine Ext.trans ?_ (by assumption)))) hA ho) ?_)
        rintro _ w159_5 ⟨hE159_5, q159_5, rfl⟩
        have hz159_5 := hE159_5.1
        try simp only [size_alloc, size_setB, size_drew] at hz159_5
        refine WO_p (PS_pickT rfl hb5.h rfl) ?_
        refine WO_p (PS_assign_bool rfl) ?_
        refine WO_nil ?_
        refine thn_normal ?_
        refine W_if rfl (fun hb8 => ?_) (fun hb8 => ?_)
        · have hb8p := hb8.h; try simp only [al_ete, al_dfn, Bool.not_eq_true', Bool.not_eq_false', al_ne, Bool.not_not, al_nn] at hb8p
          refine W_seq ?_
          refine W_region rfl ?_
          refine WO_p (PS_move_ptr rfl) ?_
          refine WO_call Hvad.call93 (by rfl) (Ret.mono (fail_spec scan C c v B m t f 0 S _ _ (MS.ext hM (by repeat (first | assumption | exact Ext.refl _ | refine Ext.alloc ?_ _ | refine Ext.drew ?_ | refine Ext.setB ?_ (by first | omega | (simp only [size_alloc, size_setB, size_drew]; omega)) _ | exact Ext.trans (by assumption) (by assumption) | refine Ext.trans ?_ (by assumption)))) hf hI (by omega)) ?_)
          rintro _ wq ⟨rfl, vq, mq, hRq, hPq⟩
          replace hRq := MRet.pre (w := w) (by repeat (first | assumption | exact Ext.refl _ | refine Ext.alloc ?_ _ | refine Ext.drew ?_ | refine Ext.setB ?_ (by first | omega | (simp only [size_alloc, size_setB, size_drew]; omega)) _ | exact Ext.trans (by assumption) (by assumption) | refine Ext.trans ?_ (by assumption))) hRq
          refine WO_p (PS_assign_bool rfl) ?_
          refine WO_nil ?_
          refine thn_normal ?_
          refine W_ret ?_
          refine inBlk_ret ?_
          refine thn_ret ?_
          refine bodyQ_ret1 Hvad.results96 rfl (.bool _) rfl ?_
          exact Or.inl ⟨rfl, vq, mq, hRq, hPq⟩
        · have hb8p := hb8.h; try simp only [al_ete, al_dfn, Bool.not_eq_true', Bool.not_eq_false', al_ne, Bool.not_not, al_nn] at hb8p
          refine W_seq ?_
          refine W_region rfl ?_
          refine WO_p (PS_move_int rfl) ?_
          refine WO_p (PS_eql rfl rfl) ?_
          refine WO_p (PS_move_bool rfl) ?_
          refine WO_if (t := 35) rfl (fun hb12 => ?_) (fun hb12 => ?_)
          · have hb12p := hb12.h; try simp only [al_ete, al_dfn, Bool.not_eq_true', Bool.not_eq_false', al_ne, Bool.not_not, al_nn] at hb12p
            refine WO_guardF rfl rfl hb12.h ?_
            refine WO_guardF rfl rfl hb12.h ?_
            refine WO_p (PS_pickT rfl hb12.h rfl) ?_
            refine WO_p (PS_move_bool rfl) ?_
            refine WO_guardT rfl rfl rfl ?_
            refine WO_p (PS_move_ptr rfl) ?_
            refine WO_guardT rfl rfl rfl ?_
            refine WO_p (PS_move_ptr rfl) ?_
            refine WO_guardT rfl rfl rfl ?_
            refine WO_call Hvad.call160 (by rfl) (Ret.mono (arg_spec C c v B m t f _ _ (MS.ext hM (by repeat (first | assumption | exact Ext.refl _ | refine Ext.alloc ?_ _ | refine Ext.drew ?_ | refine Ext.setB ?_ (by first | omega | (simp only [size_alloc, size_setB, size_drew]; omega)) _ | exact Ext.trans (by assumption) (by assumption) | refine Ext.trans ?_ (by assumption)))) hA (by omega)) ?_)
            rintro _ w160_12 ⟨hE160_12, rfl⟩
            have hz160_12 := hE160_12.1
            try simp only [size_alloc, size_setB, size_drew] at hz160_12
            refine WO_guardT rfl rfl rfl ?_
            refine WO_p (PS_buildI (k := .u64) (zs := [0, 0, 0, 0]) (ps := [(0, _)]) (L := [_, 0, 0, 0]) Hvad.zeroValue59 Hvad.runUnderlying59 Hvad.sizeOf26 rfl rfl rfl rfl) ?_
            refine WO_guardT rfl rfl rfl ?_
            refine WO_call Hvad.call67 (by rfl) (Ret.mono (gt_spec _ _ _ hw2 hwd512) ?_)
            rintro _ w67_13 ⟨rfl, hE67_13⟩
            have hz67_13 := hE67_13.1
            try simp only [size_alloc, size_setB, size_drew] at hz67_13
            refine WO_p (PS_pickT rfl rfl rfl) ?_
            refine WO_p (PS_assign_bool rfl) ?_
            refine WO_nil ?_
            refine thn_normal ?_
            refine W_if rfl (fun hb16 => ?_) (fun hb16 => ?_)
            · have hb16p := hb16.h; try simp only [al_ete, al_dfn, Bool.not_eq_true', Bool.not_eq_false', al_ne, Bool.not_not, al_nn] at hb16p
              refine W_seq ?_
              refine W_region rfl ?_
              refine WO_p (PS_move_ptr rfl) ?_
              refine WO_call Hvad.call93 (by rfl) (Ret.mono (fail_spec scan C c v B m t f 0 S _ _ (MS.ext hM (by repeat (first | assumption | exact Ext.refl _ | refine Ext.alloc ?_ _ | refine Ext.drew ?_ | refine Ext.setB ?_ (by first | omega | (simp only [size_alloc, size_setB, size_drew]; omega)) _ | exact Ext.trans (by assumption) (by assumption) | refine Ext.trans ?_ (by assumption)))) hf hI (by omega)) ?_)
              rintro _ wq ⟨rfl, vq, mq, hRq, hPq⟩
              replace hRq := MRet.pre (w := w) (by repeat (first | assumption | exact Ext.refl _ | refine Ext.alloc ?_ _ | refine Ext.drew ?_ | refine Ext.setB ?_ (by first | omega | (simp only [size_alloc, size_setB, size_drew]; omega)) _ | exact Ext.trans (by assumption) (by assumption) | refine Ext.trans ?_ (by assumption))) hRq
              refine WO_p (PS_assign_bool rfl) ?_
              refine WO_nil ?_
              refine thn_normal ?_
              refine W_ret ?_
              refine inBlk_ret ?_
              refine thn_ret ?_
              refine bodyQ_ret1 Hvad.results96 rfl (.bool _) rfl ?_
              exact Or.inl ⟨rfl, vq, mq, hRq, hPq⟩
            · have hb16p := hb16.h; try simp only [al_ete, al_dfn, Bool.not_eq_true', Bool.not_eq_false', al_ne, Bool.not_not, al_nn] at hb16p
              refine W_seq ?_
              refine W_region rfl ?_
              refine WO_p (PS_move_int rfl) ?_
              refine WO_p (PS_eql rfl rfl) ?_
              refine WO_p (PS_move_bool rfl) ?_
              refine WO_if (t := 51) rfl (fun hb20 => ?_) (fun hb20 => ?_)
              · have hb20p := hb20.h; try simp only [al_ete, al_dfn, Bool.not_eq_true', Bool.not_eq_false', al_ne, Bool.not_not, al_nn] at hb20p
                refine WO_guardT rfl rfl hb20.h ?_
                refine WO_p (PS_move_ptr rfl) ?_
                refine WO_guardT rfl rfl hb20.h ?_
                refine WO_p (PS_move_ptr rfl) ?_
                refine WO_guardT rfl rfl hb20.h ?_
                refine WO_p (PS_move_ptr rfl) ?_
                refine WO_guardT rfl rfl hb20.h ?_
                refine WO_call Hvad.call160 (by rfl) (Ret.mono (arg_spec C c v B m t f _ _ (MS.ext hM (by repeat (first | assumption | exact Ext.refl _ | refine Ext.alloc ?_ _ | refine Ext.drew ?_ | refine Ext.setB ?_ (by first | omega | (simp only [size_alloc, size_setB, size_drew]; omega)) _ | exact Ext.trans (by assumption) (by assumption) | refine Ext.trans ?_ (by assumption)))) hA (by omega)) ?_)
                rintro _ w160_20 ⟨hE160_20, rfl⟩
                have hz160_20 := hE160_20.1
                try simp only [size_alloc, size_setB, size_drew] at hz160_20
                refine WO_guardT rfl rfl hb20.h ?_
                refine WO_p (PS_move_ptr rfl) ?_
                refine WO_guardT rfl rfl hb20.h ?_
                refine WO_p (PS_move_ptr rfl) ?_
                refine WO_guardT rfl rfl hb20.h ?_
                refine WO_call Hvad.call160 (by rfl) (Ret.mono (arg_spec C c v B m t f _ _ (MS.ext hM (by repeat (first | assumption | exact Ext.refl _ | refine Ext.alloc ?_ _ | refine Ext.drew ?_ | refine Ext.setB ?_ (by first | omega | (simp only [size_alloc, size_setB, size_drew]; omega)) _ | exact Ext.trans (by assumption) (by assumption) | refine Ext.trans ?_ (by assumption)))) hA (by omega)) ?_)
                rintro _ w160_21 ⟨hE160_21, rfl⟩
                have hz160_21 := hE160_21.1
                try simp only [size_alloc, size_setB, size_drew] at hz160_21
                refine WO_guardT rfl rfl hb20.h ?_
                refine WO_call Hvad.call161 (by rfl) (Ret.mono (past_spec C c v B m _ _ _ (MS.ext hM (by repeat (first | assumption | exact Ext.refl _ | refine Ext.alloc ?_ _ | refine Ext.drew ?_ | refine Ext.setB ?_ (by first | omega | (simp only [size_alloc, size_setB, size_drew]; omega)) _ | exact Ext.trans (by assumption) (by assumption) | refine Ext.trans ?_ (by assumption)))) hw1 hw2 (by omega)) ?_)
                rintro _ w161_22 ⟨hE161_22, q161_22, rfl⟩
                have hz161_22 := hE161_22.1
                try simp only [size_alloc, size_setB, size_drew] at hz161_22
                refine WO_p (PS_pickT rfl hb20.h rfl) ?_
                refine WO_p (PS_assign_bool rfl) ?_
                refine WO_nil ?_
                refine thn_normal ?_
                refine W_if rfl (fun hb25 => ?_) (fun hb25 => ?_)
                · have hb25p := hb25.h; try simp only [al_ete, al_dfn, Bool.not_eq_true', Bool.not_eq_false', al_ne, Bool.not_not, al_nn] at hb25p
                  refine W_seq ?_
                  refine W_region rfl ?_
                  refine WO_p (PS_move_ptr rfl) ?_
                  refine WO_call Hvad.call93 (by rfl) (Ret.mono (fail_spec scan C c v B m t f 0 S _ _ (MS.ext hM (by repeat (first | assumption | exact Ext.refl _ | refine Ext.alloc ?_ _ | refine Ext.drew ?_ | refine Ext.setB ?_ (by first | omega | (simp only [size_alloc, size_setB, size_drew]; omega)) _ | exact Ext.trans (by assumption) (by assumption) | refine Ext.trans ?_ (by assumption)))) hf hI (by omega)) ?_)
                  rintro _ wq ⟨rfl, vq, mq, hRq, hPq⟩
                  replace hRq := MRet.pre (w := w) (by repeat (first | assumption | exact Ext.refl _ | refine Ext.alloc ?_ _ | refine Ext.drew ?_ | refine Ext.setB ?_ (by first | omega | (simp only [size_alloc, size_setB, size_drew]; omega)) _ | exact Ext.trans (by assumption) (by assumption) | refine Ext.trans ?_ (by assumption))) hRq
                  refine WO_p (PS_assign_bool rfl) ?_
                  refine WO_nil ?_
                  refine thn_normal ?_
                  refine W_ret ?_
                  refine inBlk_ret ?_
                  refine thn_ret ?_
                  refine bodyQ_ret1 Hvad.results96 rfl (.bool _) rfl ?_
                  exact Or.inl ⟨rfl, vq, mq, hRq, hPq⟩
                · have hb25p := hb25.h; try simp only [al_ete, al_dfn, Bool.not_eq_true', Bool.not_eq_false', al_ne, Bool.not_not, al_nn] at hb25p
                  refine W_skip ?_
                  refine inBlk_normal ?_
                  refine thn_normal ?_
                  exact ⟨⟨rfl, rfl, rfl, rfl, trivial⟩, (by repeat (first | assumption | exact Ext.refl _ | refine Ext.alloc ?_ _ | refine Ext.drew ?_ | refine Ext.setB ?_ (by first | omega | (simp only [size_alloc, size_setB, size_drew]; omega)) _ | exact Ext.trans (by assumption) (by assumption) | refine Ext.trans ?_ (by assumption))), fun h => by omega⟩
              · have hb20p := hb20.h; try simp only [al_ete, al_dfn, Bool.not_eq_true', Bool.not_eq_false', al_ne, Bool.not_not, al_nn] at hb20p
                refine WO_guardF rfl rfl hb20.h ?_
                refine WO_guardF rfl rfl hb20.h ?_
                refine WO_guardF rfl rfl hb20.h ?_
                refine WO_guardF rfl rfl hb20.h ?_
                refine WO_guardF rfl rfl hb20.h ?_
                refine WO_guardF rfl rfl hb20.h ?_
                refine WO_guardF rfl rfl hb20.h ?_
                refine WO_guardF rfl rfl hb20.h ?_
                refine WO_p (PS_pickF rfl hb20.h rfl) ?_
                refine WO_p (PS_assign_bool rfl) ?_
                refine WO_nil ?_
                refine thn_normal ?_
                refine W_condF rfl rfl ?_
                refine W_skip ?_
                refine inBlk_normal ?_
                refine thn_normal ?_
                exact ⟨⟨rfl, rfl, rfl, rfl, trivial⟩, (by repeat (first | assumption | exact Ext.refl _ | refine Ext.alloc ?_ _ | refine Ext.drew ?_ | refine Ext.setB ?_ (by first | omega | (simp only [size_alloc, size_setB, size_drew]; omega)) _ | exact Ext.trans (by assumption) (by assumption) | refine Ext.trans ?_ (by assumption))), fun h => by omega⟩
          · have hb12p := hb12.h; try simp only [al_ete, al_dfn, Bool.not_eq_true', Bool.not_eq_false', al_ne, Bool.not_not, al_nn] at hb12p
            refine WO_guardT rfl rfl hb12.h ?_
            refine WO_p (PS_move_int rfl) ?_
            refine WO_guardT rfl rfl hb12.h ?_
            refine WO_p (PS_eql rfl rfl) ?_
            refine WO_p (PS_pickF rfl hb12.h rfl) ?_
            refine WO_p (PS_move_bool rfl) ?_
            refine WO_if (t := 39) rfl (fun hb29 => ?_) (fun hb29 => ?_)
            · have hb29p := hb29.h; try simp only [al_ete, al_dfn, Bool.not_eq_true', Bool.not_eq_false', al_ne, Bool.not_not, al_nn] at hb29p
              refine WO_guardT rfl rfl hb29.h ?_
              refine WO_p (PS_move_ptr rfl) ?_
              refine WO_guardT rfl rfl hb29.h ?_
              refine WO_p (PS_move_ptr rfl) ?_
              refine WO_guardT rfl rfl hb29.h ?_
              refine WO_call Hvad.call160 (by rfl) (Ret.mono (arg_spec C c v B m t f _ _ (MS.ext hM (by repeat (first | assumption | exact Ext.refl _ | refine Ext.alloc ?_ _ | refine Ext.drew ?_ | refine Ext.setB ?_ (by first | omega | (simp only [size_alloc, size_setB, size_drew]; omega)) _ | exact Ext.trans (by assumption) (by assumption) | refine Ext.trans ?_ (by assumption)))) hA (by omega)) ?_)
              rintro _ w160_29 ⟨hE160_29, rfl⟩
              have hz160_29 := hE160_29.1
              try simp only [size_alloc, size_setB, size_drew] at hz160_29
              refine WO_guardT rfl rfl hb29.h ?_
              refine WO_p (PS_buildI (k := .u64) (zs := [0, 0, 0, 0]) (ps := [(0, _)]) (L := [_, 0, 0, 0]) Hvad.zeroValue59 Hvad.runUnderlying59 Hvad.sizeOf26 rfl rfl rfl rfl) ?_
              refine WO_guardT rfl rfl hb29.h ?_
              refine WO_call Hvad.call67 (by rfl) (Ret.mono (gt_spec _ _ _ hw2 hwd512) ?_)
              rintro _ w67_30 ⟨rfl, hE67_30⟩
              have hz67_30 := hE67_30.1
              try simp only [size_alloc, size_setB, size_drew] at hz67_30
              refine WO_p (PS_pickT rfl hb29.h rfl) ?_
              refine WO_p (PS_assign_bool rfl) ?_
              refine WO_nil ?_
              refine thn_normal ?_
              refine W_if rfl (fun hb33 => ?_) (fun hb33 => ?_)
              · have hb33p := hb33.h; try simp only [al_ete, al_dfn, Bool.not_eq_true', Bool.not_eq_false', al_ne, Bool.not_not, al_nn] at hb33p
                refine W_seq ?_
                refine W_region rfl ?_
                refine WO_p (PS_move_ptr rfl) ?_
                refine WO_call Hvad.call93 (by rfl) (Ret.mono (fail_spec scan C c v B m t f 0 S _ _ (MS.ext hM (by repeat (first | assumption | exact Ext.refl _ | refine Ext.alloc ?_ _ | refine Ext.drew ?_ | refine Ext.setB ?_ (by first | omega | (simp only [size_alloc, size_setB, size_drew]; omega)) _ | exact Ext.trans (by assumption) (by assumption) | refine Ext.trans ?_ (by assumption)))) hf hI (by omega)) ?_)
                rintro _ wq ⟨rfl, vq, mq, hRq, hPq⟩
                replace hRq := MRet.pre (w := w) (by repeat (first | assumption | exact Ext.refl _ | refine Ext.alloc ?_ _ | refine Ext.drew ?_ | refine Ext.setB ?_ (by first | omega | (simp only [size_alloc, size_setB, size_drew]; omega)) _ | exact Ext.trans (by assumption) (by assumption) | refine Ext.trans ?_ (by assumption))) hRq
                refine WO_p (PS_assign_bool rfl) ?_
                refine WO_nil ?_
                refine thn_normal ?_
                refine W_ret ?_
                refine inBlk_ret ?_
                refine thn_ret ?_
                refine bodyQ_ret1 Hvad.results96 rfl (.bool _) rfl ?_
                exact Or.inl ⟨rfl, vq, mq, hRq, hPq⟩
              · have hb33p := hb33.h; try simp only [al_ete, al_dfn, Bool.not_eq_true', Bool.not_eq_false', al_ne, Bool.not_not, al_nn] at hb33p
                refine W_seq ?_
                refine W_region rfl ?_
                refine WO_p (PS_move_int rfl) ?_
                refine WO_p (PS_eql rfl rfl) ?_
                refine WO_p (PS_move_bool rfl) ?_
                refine WO_if (t := 51) rfl (fun hb37 => ?_) (fun hb37 => ?_)
                · have hb37p := hb37.h; try simp only [al_ete, al_dfn, Bool.not_eq_true', Bool.not_eq_false', al_ne, Bool.not_not, al_nn] at hb37p
                  refine WO_guardT rfl rfl hb37.h ?_
                  refine WO_p (PS_move_ptr rfl) ?_
                  refine WO_guardT rfl rfl hb37.h ?_
                  refine WO_p (PS_move_ptr rfl) ?_
                  refine WO_guardT rfl rfl hb37.h ?_
                  refine WO_p (PS_move_ptr rfl) ?_
                  refine WO_guardT rfl rfl hb37.h ?_
                  refine WO_call Hvad.call160 (by rfl) (Ret.mono (arg_spec C c v B m t f _ _ (MS.ext hM (by repeat (first | assumption | exact Ext.refl _ | refine Ext.alloc ?_ _ | refine Ext.drew ?_ | refine Ext.setB ?_ (by first | omega | (simp only [size_alloc, size_setB, size_drew]; omega)) _ | exact Ext.trans (by assumption) (by assumption) | refine Ext.trans ?_ (by assumption)))) hA (by omega)) ?_)
                  rintro _ w160_37 ⟨hE160_37, rfl⟩
                  have hz160_37 := hE160_37.1
                  try simp only [size_alloc, size_setB, size_drew] at hz160_37
                  refine WO_guardT rfl rfl hb37.h ?_
                  refine WO_p (PS_move_ptr rfl) ?_
                  refine WO_guardT rfl rfl hb37.h ?_
                  refine WO_p (PS_move_ptr rfl) ?_
                  refine WO_guardT rfl rfl hb37.h ?_
                  refine WO_call Hvad.call160 (by rfl) (Ret.mono (arg_spec C c v B m t f _ _ (MS.ext hM (by repeat (first | assumption | exact Ext.refl _ | refine Ext.alloc ?_ _ | refine Ext.drew ?_ | refine Ext.setB ?_ (by first | omega | (simp only [size_alloc, size_setB, size_drew]; omega)) _ | exact Ext.trans (by assumption) (by assumption) | refine Ext.trans ?_ (by assumption)))) hA (by omega)) ?_)
                  rintro _ w160_38 ⟨hE160_38, rfl⟩
                  have hz160_38 := hE160_38.1
                  try simp only [size_alloc, size_setB, size_drew] at hz160_38
                  refine WO_guardT rfl rfl hb37.h ?_
                  refine WO_call Hvad.call161 (by rfl) (Ret.mono (past_spec C c v B m _ _ _ (MS.ext hM (by repeat (first | assumption | exact Ext.refl _ | refine Ext.alloc ?_ _ | refine Ext.drew ?_ | refine Ext.setB ?_ (by first | omega | (simp only [size_alloc, size_setB, size_drew]; omega)) _ | exact Ext.trans (by assumption) (by assumption) | refine Ext.trans ?_ (by assumption)))) hw1 hw2 (by omega)) ?_)
                  rintro _ w161_39 ⟨hE161_39, q161_39, rfl⟩
                  have hz161_39 := hE161_39.1
                  try simp only [size_alloc, size_setB, size_drew] at hz161_39
                  refine WO_p (PS_pickT rfl hb37.h rfl) ?_
                  refine WO_p (PS_assign_bool rfl) ?_
                  refine WO_nil ?_
                  refine thn_normal ?_
                  refine W_if rfl (fun hb42 => ?_) (fun hb42 => ?_)
                  · have hb42p := hb42.h; try simp only [al_ete, al_dfn, Bool.not_eq_true', Bool.not_eq_false', al_ne, Bool.not_not, al_nn] at hb42p
                    refine W_seq ?_
                    refine W_region rfl ?_
                    refine WO_p (PS_move_ptr rfl) ?_
                    refine WO_call Hvad.call93 (by rfl) (Ret.mono (fail_spec scan C c v B m t f 0 S _ _ (MS.ext hM (by repeat (first | assumption | exact Ext.refl _ | refine Ext.alloc ?_ _ | refine Ext.drew ?_ | refine Ext.setB ?_ (by first | omega | (simp only [size_alloc, size_setB, size_drew]; omega)) _ | exact Ext.trans (by assumption) (by assumption) | refine Ext.trans ?_ (by assumption)))) hf hI (by omega)) ?_)
                    rintro _ wq ⟨rfl, vq, mq, hRq, hPq⟩
                    replace hRq := MRet.pre (w := w) (by repeat (first | assumption | exact Ext.refl _ | refine Ext.alloc ?_ _ | refine Ext.drew ?_ | refine Ext.setB ?_ (by first | omega | (simp only [size_alloc, size_setB, size_drew]; omega)) _ | exact Ext.trans (by assumption) (by assumption) | refine Ext.trans ?_ (by assumption))) hRq
                    refine WO_p (PS_assign_bool rfl) ?_
                    refine WO_nil ?_
                    refine thn_normal ?_
                    refine W_ret ?_
                    refine inBlk_ret ?_
                    refine thn_ret ?_
                    refine bodyQ_ret1 Hvad.results96 rfl (.bool _) rfl ?_
                    exact Or.inl ⟨rfl, vq, mq, hRq, hPq⟩
                  · have hb42p := hb42.h; try simp only [al_ete, al_dfn, Bool.not_eq_true', Bool.not_eq_false', al_ne, Bool.not_not, al_nn] at hb42p
                    refine W_skip ?_
                    refine inBlk_normal ?_
                    refine thn_normal ?_
                    exact ⟨⟨rfl, rfl, rfl, rfl, trivial⟩, (by repeat (first | assumption | exact Ext.refl _ | refine Ext.alloc ?_ _ | refine Ext.drew ?_ | refine Ext.setB ?_ (by first | omega | (simp only [size_alloc, size_setB, size_drew]; omega)) _ | exact Ext.trans (by assumption) (by assumption) | refine Ext.trans ?_ (by assumption))), fun h => by omega⟩
                · have hb37p := hb37.h; try simp only [al_ete, al_dfn, Bool.not_eq_true', Bool.not_eq_false', al_ne, Bool.not_not, al_nn] at hb37p
                  refine WO_guardF rfl rfl hb37.h ?_
                  refine WO_guardF rfl rfl hb37.h ?_
                  refine WO_guardF rfl rfl hb37.h ?_
                  refine WO_guardF rfl rfl hb37.h ?_
                  refine WO_guardF rfl rfl hb37.h ?_
                  refine WO_guardF rfl rfl hb37.h ?_
                  refine WO_guardF rfl rfl hb37.h ?_
                  refine WO_guardF rfl rfl hb37.h ?_
                  refine WO_p (PS_pickF rfl hb37.h rfl) ?_
                  refine WO_p (PS_assign_bool rfl) ?_
                  refine WO_nil ?_
                  refine thn_normal ?_
                  refine W_condF rfl rfl ?_
                  refine W_skip ?_
                  refine inBlk_normal ?_
                  refine thn_normal ?_
                  exact ⟨⟨rfl, rfl, rfl, rfl, trivial⟩, (by repeat (first | assumption | exact Ext.refl _ | refine Ext.alloc ?_ _ | refine Ext.drew ?_ | refine Ext.setB ?_ (by first | omega | (simp only [size_alloc, size_setB, size_drew]; omega)) _ | exact Ext.trans (by assumption) (by assumption) | refine Ext.trans ?_ (by assumption))), fun h => by omega⟩
            · have hb29p := hb29.h; try simp only [al_ete, al_dfn, Bool.not_eq_true', Bool.not_eq_false', al_ne, Bool.not_not, al_nn] at hb29p
              refine WO_guardF rfl rfl hb29.h ?_
              refine WO_guardF rfl rfl hb29.h ?_
              refine WO_guardF rfl rfl hb29.h ?_
              refine WO_guardF rfl rfl hb29.h ?_
              refine WO_guardF rfl rfl hb29.h ?_
              refine WO_p (PS_pickF rfl hb29.h rfl) ?_
              refine WO_p (PS_assign_bool rfl) ?_
              refine WO_nil ?_
              refine thn_normal ?_
              refine W_condF rfl rfl ?_
              refine W_seq ?_
              refine W_region rfl ?_
              refine WO_p (PS_move_int rfl) ?_
              refine WO_p (PS_eql rfl rfl) ?_
              refine WO_p (PS_move_bool rfl) ?_
              refine WO_if (t := 51) rfl (fun hb46 => ?_) (fun hb46 => ?_)
              · have hb46p := hb46.h; try simp only [al_ete, al_dfn, Bool.not_eq_true', Bool.not_eq_false', al_ne, Bool.not_not, al_nn] at hb46p
                refine WO_guardT rfl rfl hb46.h ?_
                refine WO_p (PS_move_ptr rfl) ?_
                refine WO_guardT rfl rfl hb46.h ?_
                refine WO_p (PS_move_ptr rfl) ?_
                refine WO_guardT rfl rfl hb46.h ?_
                refine WO_p (PS_move_ptr rfl) ?_
                refine WO_guardT rfl rfl hb46.h ?_
                refine WO_call Hvad.call160 (by rfl) (Ret.mono (arg_spec C c v B m t f _ _ (MS.ext hM (by repeat (first | assumption | exact Ext.refl _ | refine Ext.alloc ?_ _ | refine Ext.drew ?_ | refine Ext.setB ?_ (by first | omega | (simp only [size_alloc, size_setB, size_drew]; omega)) _ | exact Ext.trans (by assumption) (by assumption) | refine Ext.trans ?_ (by assumption)))) hA (by omega)) ?_)
                rintro _ w160_46 ⟨hE160_46, rfl⟩
                have hz160_46 := hE160_46.1
                try simp only [size_alloc, size_setB, size_drew] at hz160_46
                refine WO_guardT rfl rfl hb46.h ?_
                refine WO_p (PS_move_ptr rfl) ?_
                refine WO_guardT rfl rfl hb46.h ?_
                refine WO_p (PS_move_ptr rfl) ?_
                refine WO_guardT rfl rfl hb46.h ?_
                refine WO_call Hvad.call160 (by rfl) (Ret.mono (arg_spec C c v B m t f _ _ (MS.ext hM (by repeat (first | assumption | exact Ext.refl _ | refine Ext.alloc ?_ _ | refine Ext.drew ?_ | refine Ext.setB ?_ (by first | omega | (simp only [size_alloc, size_setB, size_drew]; omega)) _ | exact Ext.trans (by assumption) (by assumption) | refine Ext.trans ?_ (by assumption)))) hA (by omega)) ?_)
                rintro _ w160_47 ⟨hE160_47, rfl⟩
                have hz160_47 := hE160_47.1
                try simp only [size_alloc, size_setB, size_drew] at hz160_47
                refine WO_guardT rfl rfl hb46.h ?_
                refine WO_call Hvad.call161 (by rfl) (Ret.mono (past_spec C c v B m _ _ _ (MS.ext hM (by repeat (first | assumption | exact Ext.refl _ | refine Ext.alloc ?_ _ | refine Ext.drew ?_ | refine Ext.setB ?_ (by first | omega | (simp only [size_alloc, size_setB, size_drew]; omega)) _ | exact Ext.trans (by assumption) (by assumption) | refine Ext.trans ?_ (by assumption)))) hw1 hw2 (by omega)) ?_)
                rintro _ w161_48 ⟨hE161_48, q161_48, rfl⟩
                have hz161_48 := hE161_48.1
                try simp only [size_alloc, size_setB, size_drew] at hz161_48
                refine WO_p (PS_pickT rfl hb46.h rfl) ?_
                refine WO_p (PS_assign_bool rfl) ?_
                refine WO_nil ?_
                refine thn_normal ?_
                refine W_if rfl (fun hb51 => ?_) (fun hb51 => ?_)
                · have hb51p := hb51.h; try simp only [al_ete, al_dfn, Bool.not_eq_true', Bool.not_eq_false', al_ne, Bool.not_not, al_nn] at hb51p
                  refine W_seq ?_
                  refine W_region rfl ?_
                  refine WO_p (PS_move_ptr rfl) ?_
                  refine WO_call Hvad.call93 (by rfl) (Ret.mono (fail_spec scan C c v B m t f 0 S _ _ (MS.ext hM (by repeat (first | assumption | exact Ext.refl _ | refine Ext.alloc ?_ _ | refine Ext.drew ?_ | refine Ext.setB ?_ (by first | omega | (simp only [size_alloc, size_setB, size_drew]; omega)) _ | exact Ext.trans (by assumption) (by assumption) | refine Ext.trans ?_ (by assumption)))) hf hI (by omega)) ?_)
                  rintro _ wq ⟨rfl, vq, mq, hRq, hPq⟩
                  replace hRq := MRet.pre (w := w) (by repeat (first | assumption | exact Ext.refl _ | refine Ext.alloc ?_ _ | refine Ext.drew ?_ | refine Ext.setB ?_ (by first | omega | (simp only [size_alloc, size_setB, size_drew]; omega)) _ | exact Ext.trans (by assumption) (by assumption) | refine Ext.trans ?_ (by assumption))) hRq
                  refine WO_p (PS_assign_bool rfl) ?_
                  refine WO_nil ?_
                  refine thn_normal ?_
                  refine W_ret ?_
                  refine inBlk_ret ?_
                  refine thn_ret ?_
                  refine bodyQ_ret1 Hvad.results96 rfl (.bool _) rfl ?_
                  exact Or.inl ⟨rfl, vq, mq, hRq, hPq⟩
                · have hb51p := hb51.h; try simp only [al_ete, al_dfn, Bool.not_eq_true', Bool.not_eq_false', al_ne, Bool.not_not, al_nn] at hb51p
                  refine W_skip ?_
                  refine inBlk_normal ?_
                  refine thn_normal ?_
                  exact ⟨⟨rfl, rfl, rfl, rfl, trivial⟩, (by repeat (first | assumption | exact Ext.refl _ | refine Ext.alloc ?_ _ | refine Ext.drew ?_ | refine Ext.setB ?_ (by first | omega | (simp only [size_alloc, size_setB, size_drew]; omega)) _ | exact Ext.trans (by assumption) (by assumption) | refine Ext.trans ?_ (by assumption))), fun h => by omega⟩
              · have hb46p := hb46.h; try simp only [al_ete, al_dfn, Bool.not_eq_true', Bool.not_eq_false', al_ne, Bool.not_not, al_nn] at hb46p
                refine WO_guardF rfl rfl hb46.h ?_
                refine WO_guardF rfl rfl hb46.h ?_
                refine WO_guardF rfl rfl hb46.h ?_
                refine WO_guardF rfl rfl hb46.h ?_
                refine WO_guardF rfl rfl hb46.h ?_
                refine WO_guardF rfl rfl hb46.h ?_
                refine WO_guardF rfl rfl hb46.h ?_
                refine WO_guardF rfl rfl hb46.h ?_
                refine WO_p (PS_pickF rfl hb46.h rfl) ?_
                refine WO_p (PS_assign_bool rfl) ?_
                refine WO_nil ?_
                refine thn_normal ?_
                refine W_condF rfl rfl ?_
                refine W_skip ?_
                refine inBlk_normal ?_
                refine thn_normal ?_
                exact ⟨⟨rfl, rfl, rfl, rfl, trivial⟩, (by repeat (first | assumption | exact Ext.refl _ | refine Ext.alloc ?_ _ | refine Ext.drew ?_ | refine Ext.setB ?_ (by first | omega | (simp only [size_alloc, size_setB, size_drew]; omega)) _ | exact Ext.trans (by assumption) (by assumption) | refine Ext.trans ?_ (by assumption))), fun h => by omega⟩
      · have hb5p := hb5.h; try simp only [al_ete, al_dfn, Bool.not_eq_true', Bool.not_eq_false', al_ne, Bool.not_not, al_nn] at hb5p
        refine WO_guardF rfl rfl hb5.h ?_
        refine WO_guardF rfl rfl hb5.h ?_
        refine WO_guardF rfl rfl hb5.h ?_
        refine WO_guardF rfl rfl hb5.h ?_
        refine WO_p (PS_pickF rfl hb5.h rfl) ?_
        refine WO_p (PS_assign_bool rfl) ?_
        refine WO_nil ?_
        refine thn_normal ?_
        refine W_condF rfl rfl ?_
        refine W_seq ?_
        refine W_region rfl ?_
        refine WO_p (PS_move_int rfl) ?_
        refine WO_p (PS_eql rfl rfl) ?_
        refine WO_p (PS_move_bool rfl) ?_
        refine WO_if (t := 35) rfl (fun hb55 => ?_) (fun hb55 => ?_)
        · have hb55p := hb55.h; try simp only [al_ete, al_dfn, Bool.not_eq_true', Bool.not_eq_false', al_ne, Bool.not_not, al_nn] at hb55p
          refine WO_guardF rfl rfl hb55.h ?_
          refine WO_guardF rfl rfl hb55.h ?_
          refine WO_p (PS_pickT rfl hb55.h rfl) ?_
          refine WO_p (PS_move_bool rfl) ?_
          refine WO_guardT rfl rfl rfl ?_
          refine WO_p (PS_move_ptr rfl) ?_
          refine WO_guardT rfl rfl rfl ?_
          refine WO_p (PS_move_ptr rfl) ?_
          refine WO_guardT rfl rfl rfl ?_
          refine WO_call Hvad.call160 (by rfl) (Ret.mono (arg_spec C c v B m t f _ _ (MS.ext hM (by repeat (first | assumption | exact Ext.refl _ | refine Ext.alloc ?_ _ | refine Ext.drew ?_ | refine Ext.setB ?_ (by first | omega | (simp only [size_alloc, size_setB, size_drew]; omega)) _ | exact Ext.trans (by assumption) (by assumption) | refine Ext.trans ?_ (by assumption)))) hA (by omega)) ?_)
          rintro _ w160_55 ⟨hE160_55, rfl⟩
          have hz160_55 := hE160_55.1
          try simp only [size_alloc, size_setB, size_drew] at hz160_55
          refine WO_guardT rfl rfl rfl ?_
          refine WO_p (PS_buildI (k := .u64) (zs := [0, 0, 0, 0]) (ps := [(0, _)]) (L := [_, 0, 0, 0]) Hvad.zeroValue59 Hvad.runUnderlying59 Hvad.sizeOf26 rfl rfl rfl rfl) ?_
          refine WO_guardT rfl rfl rfl ?_
          refine WO_call Hvad.call67 (by rfl) (Ret.mono (gt_spec _ _ _ hw2 hwd512) ?_)
          rintro _ w67_56 ⟨rfl, hE67_56⟩
          have hz67_56 := hE67_56.1
          try simp only [size_alloc, size_setB, size_drew] at hz67_56
          refine WO_p (PS_pickT rfl rfl rfl) ?_
          refine WO_p (PS_assign_bool rfl) ?_
          refine WO_nil ?_
          refine thn_normal ?_
          refine W_if rfl (fun hb59 => ?_) (fun hb59 => ?_)
          · have hb59p := hb59.h; try simp only [al_ete, al_dfn, Bool.not_eq_true', Bool.not_eq_false', al_ne, Bool.not_not, al_nn] at hb59p
            refine W_seq ?_
            refine W_region rfl ?_
            refine WO_p (PS_move_ptr rfl) ?_
            refine WO_call Hvad.call93 (by rfl) (Ret.mono (fail_spec scan C c v B m t f 0 S _ _ (MS.ext hM (by repeat (first | assumption | exact Ext.refl _ | refine Ext.alloc ?_ _ | refine Ext.drew ?_ | refine Ext.setB ?_ (by first | omega | (simp only [size_alloc, size_setB, size_drew]; omega)) _ | exact Ext.trans (by assumption) (by assumption) | refine Ext.trans ?_ (by assumption)))) hf hI (by omega)) ?_)
            rintro _ wq ⟨rfl, vq, mq, hRq, hPq⟩
            replace hRq := MRet.pre (w := w) (by repeat (first | assumption | exact Ext.refl _ | refine Ext.alloc ?_ _ | refine Ext.drew ?_ | refine Ext.setB ?_ (by first | omega | (simp only [size_alloc, size_setB, size_drew]; omega)) _ | exact Ext.trans (by assumption) (by assumption) | refine Ext.trans ?_ (by assumption))) hRq
            refine WO_p (PS_assign_bool rfl) ?_
            refine WO_nil ?_
            refine thn_normal ?_
            refine W_ret ?_
            refine inBlk_ret ?_
            refine thn_ret ?_
            refine bodyQ_ret1 Hvad.results96 rfl (.bool _) rfl ?_
            exact Or.inl ⟨rfl, vq, mq, hRq, hPq⟩
          · have hb59p := hb59.h; try simp only [al_ete, al_dfn, Bool.not_eq_true', Bool.not_eq_false', al_ne, Bool.not_not, al_nn] at hb59p
            refine W_seq ?_
            refine W_region rfl ?_
            refine WO_p (PS_move_int rfl) ?_
            refine WO_p (PS_eql rfl rfl) ?_
            refine WO_p (PS_move_bool rfl) ?_
            refine WO_if (t := 51) rfl (fun hb63 => ?_) (fun hb63 => ?_)
            · have hb63p := hb63.h; try simp only [al_ete, al_dfn, Bool.not_eq_true', Bool.not_eq_false', al_ne, Bool.not_not, al_nn] at hb63p
              refine WO_guardT rfl rfl hb63.h ?_
              refine WO_p (PS_move_ptr rfl) ?_
              refine WO_guardT rfl rfl hb63.h ?_
              refine WO_p (PS_move_ptr rfl) ?_
              refine WO_guardT rfl rfl hb63.h ?_
              refine WO_p (PS_move_ptr rfl) ?_
              refine WO_guardT rfl rfl hb63.h ?_
              refine WO_call Hvad.call160 (by rfl) (Ret.mono (arg_spec C c v B m t f _ _ (MS.ext hM (by repeat (first | assumption | exact Ext.refl _ | refine Ext.alloc ?_ _ | refine Ext.drew ?_ | refine Ext.setB ?_ (by first | omega | (simp only [size_alloc, size_setB, size_drew]; omega)) _ | exact Ext.trans (by assumption) (by assumption) | refine Ext.trans ?_ (by assumption)))) hA (by omega)) ?_)
              rintro _ w160_63 ⟨hE160_63, rfl⟩
              have hz160_63 := hE160_63.1
              try simp only [size_alloc, size_setB, size_drew] at hz160_63
              refine WO_guardT rfl rfl hb63.h ?_
              refine WO_p (PS_move_ptr rfl) ?_
              refine WO_guardT rfl rfl hb63.h ?_
              refine WO_p (PS_move_ptr rfl) ?_
              refine WO_guardT rfl rfl hb63.h ?_
              refine WO_call Hvad.call160 (by rfl) (Ret.mono (arg_spec C c v B m t f _ _ (MS.ext hM (by repeat (first | assumption | exact Ext.refl _ | refine Ext.alloc ?_ _ | refine Ext.drew ?_ | refine Ext.setB ?_ (by first | omega | (simp only [size_alloc, size_setB, size_drew]; omega)) _ | exact Ext.trans (by assumption) (by assumption) | refine Ext.trans ?_ (by assumption)))) hA (by omega)) ?_)
              rintro _ w160_64 ⟨hE160_64, rfl⟩
              have hz160_64 := hE160_64.1
              try simp only [size_alloc, size_setB, size_drew] at hz160_64
              refine WO_guardT rfl rfl hb63.h ?_
              refine WO_call Hvad.call161 (by rfl) (Ret.mono (past_spec C c v B m _ _ _ (MS.ext hM (by repeat (first | assumption | exact Ext.refl _ | refine Ext.alloc ?_ _ | refine Ext.drew ?_ | refine Ext.setB ?_ (by first | omega | (simp only [size_alloc, size_setB, size_drew]; omega)) _ | exact Ext.trans (by assumption) (by assumption) | refine Ext.trans ?_ (by assumption)))) hw1 hw2 (by omega)) ?_)
              rintro _ w161_65 ⟨hE161_65, q161_65, rfl⟩
              have hz161_65 := hE161_65.1
              try simp only [size_alloc, size_setB, size_drew] at hz161_65
              refine WO_p (PS_pickT rfl hb63.h rfl) ?_
              refine WO_p (PS_assign_bool rfl) ?_
              refine WO_nil ?_
              refine thn_normal ?_
              refine W_if rfl (fun hb68 => ?_) (fun hb68 => ?_)
              · have hb68p := hb68.h; try simp only [al_ete, al_dfn, Bool.not_eq_true', Bool.not_eq_false', al_ne, Bool.not_not, al_nn] at hb68p
                refine W_seq ?_
                refine W_region rfl ?_
                refine WO_p (PS_move_ptr rfl) ?_
                refine WO_call Hvad.call93 (by rfl) (Ret.mono (fail_spec scan C c v B m t f 0 S _ _ (MS.ext hM (by repeat (first | assumption | exact Ext.refl _ | refine Ext.alloc ?_ _ | refine Ext.drew ?_ | refine Ext.setB ?_ (by first | omega | (simp only [size_alloc, size_setB, size_drew]; omega)) _ | exact Ext.trans (by assumption) (by assumption) | refine Ext.trans ?_ (by assumption)))) hf hI (by omega)) ?_)
                rintro _ wq ⟨rfl, vq, mq, hRq, hPq⟩
                replace hRq := MRet.pre (w := w) (by repeat (first | assumption | exact Ext.refl _ | refine Ext.alloc ?_ _ | refine Ext.drew ?_ | refine Ext.setB ?_ (by first | omega | (simp only [size_alloc, size_setB, size_drew]; omega)) _ | exact Ext.trans (by assumption) (by assumption) | refine Ext.trans ?_ (by assumption))) hRq
                refine WO_p (PS_assign_bool rfl) ?_
                refine WO_nil ?_
                refine thn_normal ?_
                refine W_ret ?_
                refine inBlk_ret ?_
                refine thn_ret ?_
                refine bodyQ_ret1 Hvad.results96 rfl (.bool _) rfl ?_
                exact Or.inl ⟨rfl, vq, mq, hRq, hPq⟩
              · have hb68p := hb68.h; try simp only [al_ete, al_dfn, Bool.not_eq_true', Bool.not_eq_false', al_ne, Bool.not_not, al_nn] at hb68p
                refine W_skip ?_
                refine inBlk_normal ?_
                refine thn_normal ?_
                exact ⟨⟨rfl, rfl, rfl, rfl, trivial⟩, (by repeat (first | assumption | exact Ext.refl _ | refine Ext.alloc ?_ _ | refine Ext.drew ?_ | refine Ext.setB ?_ (by first | omega | (simp only [size_alloc, size_setB, size_drew]; omega)) _ | exact Ext.trans (by assumption) (by assumption) | refine Ext.trans ?_ (by assumption))), fun h => by omega⟩
            · have hb63p := hb63.h; try simp only [al_ete, al_dfn, Bool.not_eq_true', Bool.not_eq_false', al_ne, Bool.not_not, al_nn] at hb63p
              refine WO_guardF rfl rfl hb63.h ?_
              refine WO_guardF rfl rfl hb63.h ?_
              refine WO_guardF rfl rfl hb63.h ?_
              refine WO_guardF rfl rfl hb63.h ?_
              refine WO_guardF rfl rfl hb63.h ?_
              refine WO_guardF rfl rfl hb63.h ?_
              refine WO_guardF rfl rfl hb63.h ?_
              refine WO_guardF rfl rfl hb63.h ?_
              refine WO_p (PS_pickF rfl hb63.h rfl) ?_
              refine WO_p (PS_assign_bool rfl) ?_
              refine WO_nil ?_
              refine thn_normal ?_
              refine W_condF rfl rfl ?_
              refine W_skip ?_
              refine inBlk_normal ?_
              refine thn_normal ?_
              exact ⟨⟨rfl, rfl, rfl, rfl, trivial⟩, (by repeat (first | assumption | exact Ext.refl _ | refine Ext.alloc ?_ _ | refine Ext.drew ?_ | refine Ext.setB ?_ (by first | omega | (simp only [size_alloc, size_setB, size_drew]; omega)) _ | exact Ext.trans (by assumption) (by assumption) | refine Ext.trans ?_ (by assumption))), fun h => by omega⟩
        · have hb55p := hb55.h; try simp only [al_ete, al_dfn, Bool.not_eq_true', Bool.not_eq_false', al_ne, Bool.not_not, al_nn] at hb55p
          refine WO_guardT rfl rfl hb55.h ?_
          refine WO_p (PS_move_int rfl) ?_
          refine WO_guardT rfl rfl hb55.h ?_
          refine WO_p (PS_eql rfl rfl) ?_
          refine WO_p (PS_pickF rfl hb55.h rfl) ?_
          refine WO_p (PS_move_bool rfl) ?_
          refine WO_if (t := 39) rfl (fun hb72 => ?_) (fun hb72 => ?_)
          · have hb72p := hb72.h; try simp only [al_ete, al_dfn, Bool.not_eq_true', Bool.not_eq_false', al_ne, Bool.not_not, al_nn] at hb72p
            refine WO_guardT rfl rfl hb72.h ?_
            refine WO_p (PS_move_ptr rfl) ?_
            refine WO_guardT rfl rfl hb72.h ?_
            refine WO_p (PS_move_ptr rfl) ?_
            refine WO_guardT rfl rfl hb72.h ?_
            refine WO_call Hvad.call160 (by rfl) (Ret.mono (arg_spec C c v B m t f _ _ (MS.ext hM (by repeat (first | assumption | exact Ext.refl _ | refine Ext.alloc ?_ _ | refine Ext.drew ?_ | refine Ext.setB ?_ (by first | omega | (simp only [size_alloc, size_setB, size_drew]; omega)) _ | exact Ext.trans (by assumption) (by assumption) | refine Ext.trans ?_ (by assumption)))) hA (by omega)) ?_)
            rintro _ w160_72 ⟨hE160_72, rfl⟩
            have hz160_72 := hE160_72.1
            try simp only [size_alloc, size_setB, size_drew] at hz160_72
            refine WO_guardT rfl rfl hb72.h ?_
            refine WO_p (PS_buildI (k := .u64) (zs := [0, 0, 0, 0]) (ps := [(0, _)]) (L := [_, 0, 0, 0]) Hvad.zeroValue59 Hvad.runUnderlying59 Hvad.sizeOf26 rfl rfl rfl rfl) ?_
            refine WO_guardT rfl rfl hb72.h ?_
            refine WO_call Hvad.call67 (by rfl) (Ret.mono (gt_spec _ _ _ hw2 hwd512) ?_)
            rintro _ w67_73 ⟨rfl, hE67_73⟩
            have hz67_73 := hE67_73.1
            try simp only [size_alloc, size_setB, size_drew] at hz67_73
            refine WO_p (PS_pickT rfl hb72.h rfl) ?_
            refine WO_p (PS_assign_bool rfl) ?_
            refine WO_nil ?_
            refine thn_normal ?_
            refine W_if rfl (fun hb76 => ?_) (fun hb76 => ?_)
            · have hb76p := hb76.h; try simp only [al_ete, al_dfn, Bool.not_eq_true', Bool.not_eq_false', al_ne, Bool.not_not, al_nn] at hb76p
              refine W_seq ?_
              refine W_region rfl ?_
              refine WO_p (PS_move_ptr rfl) ?_
              refine WO_call Hvad.call93 (by rfl) (Ret.mono (fail_spec scan C c v B m t f 0 S _ _ (MS.ext hM (by repeat (first | assumption | exact Ext.refl _ | refine Ext.alloc ?_ _ | refine Ext.drew ?_ | refine Ext.setB ?_ (by first | omega | (simp only [size_alloc, size_setB, size_drew]; omega)) _ | exact Ext.trans (by assumption) (by assumption) | refine Ext.trans ?_ (by assumption)))) hf hI (by omega)) ?_)
              rintro _ wq ⟨rfl, vq, mq, hRq, hPq⟩
              replace hRq := MRet.pre (w := w) (by repeat (first | assumption | exact Ext.refl _ | refine Ext.alloc ?_ _ | refine Ext.drew ?_ | refine Ext.setB ?_ (by first | omega | (simp only [size_alloc, size_setB, size_drew]; omega)) _ | exact Ext.trans (by assumption) (by assumption) | refine Ext.trans ?_ (by assumption))) hRq
              refine WO_p (PS_assign_bool rfl) ?_
              refine WO_nil ?_
              refine thn_normal ?_
              refine W_ret ?_
              refine inBlk_ret ?_
              refine thn_ret ?_
              refine bodyQ_ret1 Hvad.results96 rfl (.bool _) rfl ?_
              exact Or.inl ⟨rfl, vq, mq, hRq, hPq⟩
            · have hb76p := hb76.h; try simp only [al_ete, al_dfn, Bool.not_eq_true', Bool.not_eq_false', al_ne, Bool.not_not, al_nn] at hb76p
              refine W_seq ?_
              refine W_region rfl ?_
              refine WO_p (PS_move_int rfl) ?_
              refine WO_p (PS_eql rfl rfl) ?_
              refine WO_p (PS_move_bool rfl) ?_
              refine WO_if (t := 51) rfl (fun hb80 => ?_) (fun hb80 => ?_)
              · have hb80p := hb80.h; try simp only [al_ete, al_dfn, Bool.not_eq_true', Bool.not_eq_false', al_ne, Bool.not_not, al_nn] at hb80p
                refine WO_guardT rfl rfl hb80.h ?_
                refine WO_p (PS_move_ptr rfl) ?_
                refine WO_guardT rfl rfl hb80.h ?_
                refine WO_p (PS_move_ptr rfl) ?_
                refine WO_guardT rfl rfl hb80.h ?_
                refine WO_p (PS_move_ptr rfl) ?_
                refine WO_guardT rfl rfl hb80.h ?_
                refine WO_call Hvad.call160 (by rfl) (Ret.mono (arg_spec C c v B m t f _ _ (MS.ext hM (by repeat (first | assumption | exact Ext.refl _ | refine Ext.alloc ?_ _ | refine Ext.drew ?_ | refine Ext.setB ?_ (by first | omega | (simp only [size_alloc, size_setB, size_drew]; omega)) _ | exact Ext.trans (by assumption) (by assumption) | refine Ext.trans ?_ (by assumption)))) hA (by omega)) ?_)
                rintro _ w160_80 ⟨hE160_80, rfl⟩
                have hz160_80 := hE160_80.1
                try simp only [size_alloc, size_setB, size_drew] at hz160_80
                refine WO_guardT rfl rfl hb80.h ?_
                refine WO_p (PS_move_ptr rfl) ?_
                refine WO_guardT rfl rfl hb80.h ?_
                refine WO_p (PS_move_ptr rfl) ?_
                refine WO_guardT rfl rfl hb80.h ?_
                refine WO_call Hvad.call160 (by rfl) (Ret.mono (arg_spec C c v B m t f _ _ (MS.ext hM (by repeat (first | assumption | exact Ext.refl _ | refine Ext.alloc ?_ _ | refine Ext.drew ?_ | refine Ext.setB ?_ (by first | omega | (simp only [size_alloc, size_setB, size_drew]; omega)) _ | exact Ext.trans (by assumption) (by assumption) | refine Ext.trans ?_ (by assumption)))) hA (by omega)) ?_)
                rintro _ w160_81 ⟨hE160_81, rfl⟩
                have hz160_81 := hE160_81.1
                try simp only [size_alloc, size_setB, size_drew] at hz160_81
                refine WO_guardT rfl rfl hb80.h ?_
                refine WO_call Hvad.call161 (by rfl) (Ret.mono (past_spec C c v B m _ _ _ (MS.ext hM (by repeat (first | assumption | exact Ext.refl _ | refine Ext.alloc ?_ _ | refine Ext.drew ?_ | refine Ext.setB ?_ (by first | omega | (simp only [size_alloc, size_setB, size_drew]; omega)) _ | exact Ext.trans (by assumption) (by assumption) | refine Ext.trans ?_ (by assumption)))) hw1 hw2 (by omega)) ?_)
                rintro _ w161_82 ⟨hE161_82, q161_82, rfl⟩
                have hz161_82 := hE161_82.1
                try simp only [size_alloc, size_setB, size_drew] at hz161_82
                refine WO_p (PS_pickT rfl hb80.h rfl) ?_
                refine WO_p (PS_assign_bool rfl) ?_
                refine WO_nil ?_
                refine thn_normal ?_
                refine W_if rfl (fun hb85 => ?_) (fun hb85 => ?_)
                · have hb85p := hb85.h; try simp only [al_ete, al_dfn, Bool.not_eq_true', Bool.not_eq_false', al_ne, Bool.not_not, al_nn] at hb85p
                  refine W_seq ?_
                  refine W_region rfl ?_
                  refine WO_p (PS_move_ptr rfl) ?_
                  refine WO_call Hvad.call93 (by rfl) (Ret.mono (fail_spec scan C c v B m t f 0 S _ _ (MS.ext hM (by repeat (first | assumption | exact Ext.refl _ | refine Ext.alloc ?_ _ | refine Ext.drew ?_ | refine Ext.setB ?_ (by first | omega | (simp only [size_alloc, size_setB, size_drew]; omega)) _ | exact Ext.trans (by assumption) (by assumption) | refine Ext.trans ?_ (by assumption)))) hf hI (by omega)) ?_)
                  rintro _ wq ⟨rfl, vq, mq, hRq, hPq⟩
                  replace hRq := MRet.pre (w := w) (by repeat (first | assumption | exact Ext.refl _ | refine Ext.alloc ?_ _ | refine Ext.drew ?_ | refine Ext.setB ?_ (by first | omega | (simp only [size_alloc, size_setB, size_drew]; omega)) _ | exact Ext.trans (by assumption) (by assumption) | refine Ext.trans ?_ (by assumption))) hRq
                  refine WO_p (PS_assign_bool rfl) ?_
                  refine WO_nil ?_
                  refine thn_normal ?_
                  refine W_ret ?_
                  refine inBlk_ret ?_
                  refine thn_ret ?_
                  refine bodyQ_ret1 Hvad.results96 rfl (.bool _) rfl ?_
                  exact Or.inl ⟨rfl, vq, mq, hRq, hPq⟩
                · have hb85p := hb85.h; try simp only [al_ete, al_dfn, Bool.not_eq_true', Bool.not_eq_false', al_ne, Bool.not_not, al_nn] at hb85p
                  refine W_skip ?_
                  refine inBlk_normal ?_
                  refine thn_normal ?_
                  exact ⟨⟨rfl, rfl, rfl, rfl, trivial⟩, (by repeat (first | assumption | exact Ext.refl _ | refine Ext.alloc ?_ _ | refine Ext.drew ?_ | refine Ext.setB ?_ (by first | omega | (simp only [size_alloc, size_setB, size_drew]; omega)) _ | exact Ext.trans (by assumption) (by assumption) | refine Ext.trans ?_ (by assumption))), fun h => by omega⟩
              · have hb80p := hb80.h; try simp only [al_ete, al_dfn, Bool.not_eq_true', Bool.not_eq_false', al_ne, Bool.not_not, al_nn] at hb80p
                refine WO_guardF rfl rfl hb80.h ?_
                refine WO_guardF rfl rfl hb80.h ?_
                refine WO_guardF rfl rfl hb80.h ?_
                refine WO_guardF rfl rfl hb80.h ?_
                refine WO_guardF rfl rfl hb80.h ?_
                refine WO_guardF rfl rfl hb80.h ?_
                refine WO_guardF rfl rfl hb80.h ?_
                refine WO_guardF rfl rfl hb80.h ?_
                refine WO_p (PS_pickF rfl hb80.h rfl) ?_
                refine WO_p (PS_assign_bool rfl) ?_
                refine WO_nil ?_
                refine thn_normal ?_
                refine W_condF rfl rfl ?_
                refine W_skip ?_
                refine inBlk_normal ?_
                refine thn_normal ?_
                exact ⟨⟨rfl, rfl, rfl, rfl, trivial⟩, (by repeat (first | assumption | exact Ext.refl _ | refine Ext.alloc ?_ _ | refine Ext.drew ?_ | refine Ext.setB ?_ (by first | omega | (simp only [size_alloc, size_setB, size_drew]; omega)) _ | exact Ext.trans (by assumption) (by assumption) | refine Ext.trans ?_ (by assumption))), fun h => by omega⟩
          · have hb72p := hb72.h; try simp only [al_ete, al_dfn, Bool.not_eq_true', Bool.not_eq_false', al_ne, Bool.not_not, al_nn] at hb72p
            refine WO_guardF rfl rfl hb72.h ?_
            refine WO_guardF rfl rfl hb72.h ?_
            refine WO_guardF rfl rfl hb72.h ?_
            refine WO_guardF rfl rfl hb72.h ?_
            refine WO_guardF rfl rfl hb72.h ?_
            refine WO_p (PS_pickF rfl hb72.h rfl) ?_
            refine WO_p (PS_assign_bool rfl) ?_
            refine WO_nil ?_
            refine thn_normal ?_
            refine W_condF rfl rfl ?_
            refine W_seq ?_
            refine W_region rfl ?_
            refine WO_p (PS_move_int rfl) ?_
            refine WO_p (PS_eql rfl rfl) ?_
            refine WO_p (PS_move_bool rfl) ?_
            refine WO_if (t := 51) rfl (fun hb89 => ?_) (fun hb89 => ?_)
            · have hb89p := hb89.h; try simp only [al_ete, al_dfn, Bool.not_eq_true', Bool.not_eq_false', al_ne, Bool.not_not, al_nn] at hb89p
              refine WO_guardT rfl rfl hb89.h ?_
              refine WO_p (PS_move_ptr rfl) ?_
              refine WO_guardT rfl rfl hb89.h ?_
              refine WO_p (PS_move_ptr rfl) ?_
              refine WO_guardT rfl rfl hb89.h ?_
              refine WO_p (PS_move_ptr rfl) ?_
              refine WO_guardT rfl rfl hb89.h ?_
              refine WO_call Hvad.call160 (by rfl) (Ret.mono (arg_spec C c v B m t f _ _ (MS.ext hM (by repeat (first | assumption | exact Ext.refl _ | refine Ext.alloc ?_ _ | refine Ext.drew ?_ | refine Ext.setB ?_ (by first | omega | (simp only [size_alloc, size_setB, size_drew]; omega)) _ | exact Ext.trans (by assumption) (by assumption) | refine Ext.trans ?_ (by assumption)))) hA (by omega)) ?_)
              rintro _ w160_89 ⟨hE160_89, rfl⟩
              have hz160_89 := hE160_89.1
              try simp only [size_alloc, size_setB, size_drew] at hz160_89
              refine WO_guardT rfl rfl hb89.h ?_
              refine WO_p (PS_move_ptr rfl) ?_
              refine WO_guardT rfl rfl hb89.h ?_
              refine WO_p (PS_move_ptr rfl) ?_
              refine WO_guardT rfl rfl hb89.h ?_
              refine WO_call Hvad.call160 (by rfl) (Ret.mono (arg_spec C c v B m t f _ _ (MS.ext hM (by repeat (first | assumption | exact Ext.refl _ | refine Ext.alloc ?_ _ | refine Ext.drew ?_ | refine Ext.setB ?_ (by first | omega | (simp only [size_alloc, size_setB, size_drew]; omega)) _ | exact Ext.trans (by assumption) (by assumption) | refine Ext.trans ?_ (by assumption)))) hA (by omega)) ?_)
              rintro _ w160_90 ⟨hE160_90, rfl⟩
              have hz160_90 := hE160_90.1
              try simp only [size_alloc, size_setB, size_drew] at hz160_90
              refine WO_guardT rfl rfl hb89.h ?_
              refine WO_call Hvad.call161 (by rfl) (Ret.mono (past_spec C c v B m _ _ _ (MS.ext hM (by repeat (first | assumption | exact Ext.refl _ | refine Ext.alloc ?_ _ | refine Ext.drew ?_ | refine Ext.setB ?_ (by first | omega | (simp only [size_alloc, size_setB, size_drew]; omega)) _ | exact Ext.trans (by assumption) (by assumption) | refine Ext.trans ?_ (by assumption)))) hw1 hw2 (by omega)) ?_)
              rintro _ w161_91 ⟨hE161_91, q161_91, rfl⟩
              have hz161_91 := hE161_91.1
              try simp only [size_alloc, size_setB, size_drew] at hz161_91
              refine WO_p (PS_pickT rfl hb89.h rfl) ?_
              refine WO_p (PS_assign_bool rfl) ?_
              refine WO_nil ?_
              refine thn_normal ?_
              refine W_if rfl (fun hb94 => ?_) (fun hb94 => ?_)
              · have hb94p := hb94.h; try simp only [al_ete, al_dfn, Bool.not_eq_true', Bool.not_eq_false', al_ne, Bool.not_not, al_nn] at hb94p
                refine W_seq ?_
                refine W_region rfl ?_
                refine WO_p (PS_move_ptr rfl) ?_
                refine WO_call Hvad.call93 (by rfl) (Ret.mono (fail_spec scan C c v B m t f 0 S _ _ (MS.ext hM (by repeat (first | assumption | exact Ext.refl _ | refine Ext.alloc ?_ _ | refine Ext.drew ?_ | refine Ext.setB ?_ (by first | omega | (simp only [size_alloc, size_setB, size_drew]; omega)) _ | exact Ext.trans (by assumption) (by assumption) | refine Ext.trans ?_ (by assumption)))) hf hI (by omega)) ?_)
                rintro _ wq ⟨rfl, vq, mq, hRq, hPq⟩
                replace hRq := MRet.pre (w := w) (by repeat (first | assumption | exact Ext.refl _ | refine Ext.alloc ?_ _ | refine Ext.drew ?_ | refine Ext.setB ?_ (by first | omega | (simp only [size_alloc, size_setB, size_drew]; omega)) _ | exact Ext.trans (by assumption) (by assumption) | refine Ext.trans ?_ (by assumption))) hRq
                refine WO_p (PS_assign_bool rfl) ?_
                refine WO_nil ?_
                refine thn_normal ?_
                refine W_ret ?_
                refine inBlk_ret ?_
                refine thn_ret ?_
                refine bodyQ_ret1 Hvad.results96 rfl (.bool _) rfl ?_
                exact Or.inl ⟨rfl, vq, mq, hRq, hPq⟩
              · have hb94p := hb94.h; try simp only [al_ete, al_dfn, Bool.not_eq_true', Bool.not_eq_false', al_ne, Bool.not_not, al_nn] at hb94p
                refine W_skip ?_
                refine inBlk_normal ?_
                refine thn_normal ?_
                exact ⟨⟨rfl, rfl, rfl, rfl, trivial⟩, (by repeat (first | assumption | exact Ext.refl _ | refine Ext.alloc ?_ _ | refine Ext.drew ?_ | refine Ext.setB ?_ (by first | omega | (simp only [size_alloc, size_setB, size_drew]; omega)) _ | exact Ext.trans (by assumption) (by assumption) | refine Ext.trans ?_ (by assumption))), fun h => by omega⟩
            · have hb89p := hb89.h; try simp only [al_ete, al_dfn, Bool.not_eq_true', Bool.not_eq_false', al_ne, Bool.not_not, al_nn] at hb89p
              refine WO_guardF rfl rfl hb89.h ?_
              refine WO_guardF rfl rfl hb89.h ?_
              refine WO_guardF rfl rfl hb89.h ?_
              refine WO_guardF rfl rfl hb89.h ?_
              refine WO_guardF rfl rfl hb89.h ?_
              refine WO_guardF rfl rfl hb89.h ?_
              refine WO_guardF rfl rfl hb89.h ?_
              refine WO_guardF rfl rfl hb89.h ?_
              refine WO_p (PS_pickF rfl hb89.h rfl) ?_
              refine WO_p (PS_assign_bool rfl) ?_
              refine WO_nil ?_
              refine thn_normal ?_
              refine W_condF rfl rfl ?_
              refine W_skip ?_
              refine inBlk_normal ?_
              refine thn_normal ?_
              exact ⟨⟨rfl, rfl, rfl, rfl, trivial⟩, (by repeat (first | assumption | exact Ext.refl _ | refine Ext.alloc ?_ _ | refine Ext.drew ?_ | refine Ext.setB ?_ (by first | omega | (simp only [size_alloc, size_setB, size_drew]; omega)) _ | exact Ext.trans (by assumption) (by assumption) | refine Ext.trans ?_ (by assumption))), fun h => by omega⟩
    · rintro ρ wA ⟨hFr, hEA, hcrd⟩
      refine W_env _ hFr ?_
      have hzA := hEA.1
      refine W_seq ?_
      refine W_seq ?_
      refine W_region rfl ?_
      refine WO_p (PS_move_int rfl) ?_
      refine WO_call Hvad.call162 (by rfl) (Ret.mono (flat_spec _ _ ho) ?_)
      rintro _ wfl ⟨hEfl0, rfl⟩
      have hEfl : Ext w wfl := (by repeat (first | assumption | exact Ext.refl _ | refine Ext.alloc ?_ _ | refine Ext.drew ?_ | refine Ext.setB ?_ (by first | omega | (simp only [size_alloc, size_setB, size_drew]; omega)) _ | exact Ext.trans (by assumption) (by assumption) | refine Ext.trans ?_ (by assumption)))
      have hzfl := hEfl.1
      have hMF := hM.ext hEfl
      have hblkF := hMF.vs.blk
      refine WO_nil ?_
      refine thn_normal ?_
      refine W_if rfl (fun hb98 => ?_) (fun hb98 => ?_)
      · have hb98p := hb98.h; try simp only [al_ete, al_dfn, Bool.not_eq_true', Bool.not_eq_false', al_ne, Bool.not_not, al_nn] at hb98p
        have hflat : isFlat o = true := by simpa using hb98p
        refine W_seq ?_
        refine W_seq ?_
        refine W_region rfl ?_
        refine WO_p (PS_move_int rfl) ?_
        refine WO_p (PS_conv_u64n Hvad.runUnderlying61 Hvad.runUnderlying26 rfl (by omega) (by omega)) ?_
        refine WO_p (PS_move_ptr rfl) ?_
        refine WO_p (PS_nilCheck rfl) ?_
        refine WO_p (PS_fieldAddr 7 Hvad.runUnderlying65 rfl Hvad.sizeOf26 rfl rfl) ?_
        refine WO_load (.int _ _) Hvad.isAgg26 rfl (Hb.h (by repeat (first | assumption | exact Hb.newY _ _ | refine Hb.alloc ?_ | refine Hb.drew ?_ | refine Hb.ext (by assumption) ?_ | exact Hb.setSameL (by first | omega | (simp only [size_alloc, size_setB, size_drew]; omega)) | exact Hb.setSame (by assumption) | refine Hb.set (by first | omega | (simp only [size_alloc, size_setB, size_drew]; omega)) ?_ ))) (Ce.h (by first | assumption | exact ⟨rfl⟩)) ?_
        refine WO_p (PS_gtr rfl rfl) ?_
        refine WO_nil ?_
        refine thn_normal ?_
        refine W_if rfl (fun hb100 => ?_) (fun hb100 => ?_)
        · have hb100p := hb100.h; try simp only [al_ete, al_dfn, Bool.not_eq_true', Bool.not_eq_false', al_ne, Bool.not_not, al_nn] at hb100p
          refine W_seq ?_
          refine W_region rfl ?_
          refine WO_p (PS_move_ptr rfl) ?_
          refine WO_call Hvad.call93 (by rfl) (Ret.mono (fail_spec scan C c v B m t f 0 S _ _ (MS.ext hM (by repeat (first | assumption | exact Ext.refl _ | refine Ext.alloc ?_ _ | refine Ext.drew ?_ | refine Ext.setB ?_ (by first | omega | (simp only [size_alloc, size_setB, size_drew]; omega)) _ | exact Ext.trans (by assumption) (by assumption) | refine Ext.trans ?_ (by assumption)))) hf hI (by omega)) ?_)
          rintro _ wq ⟨rfl, vq, mq, hRq, hPq⟩
          replace hRq := MRet.pre (w := w) (by repeat (first | assumption | exact Ext.refl _ | refine Ext.alloc ?_ _ | refine Ext.drew ?_ | refine Ext.setB ?_ (by first | omega | (simp only [size_alloc, size_setB, size_drew]; omega)) _ | exact Ext.trans (by assumption) (by assumption) | refine Ext.trans ?_ (by assumption))) hRq
          refine WO_p (PS_assign_bool rfl) ?_
          refine WO_nil ?_
          refine thn_normal ?_
          refine W_ret ?_
          refine thn_ret ?_
          refine thn_ret ?_
          refine bodyQ_ret1 Hvad.results96 rfl (.bool _) rfl ?_
          exact Or.inl ⟨rfl, vq, mq, hRq, hPq⟩
        · have hb100p := hb100.h; try simp only [al_ete, al_dfn, Bool.not_eq_true', Bool.not_eq_false', al_ne, Bool.not_not, al_nn] at hb100p
          refine W_skip ?_
          refine thn_normal ?_
          refine W_seq ?_
          refine W_region rfl ?_
          refine WO_p (PS_move_ptr rfl) ?_
          refine WO_p (PS_nilCheck rfl) ?_
          refine WO_p (PS_fieldAddr 7 Hvad.runUnderlying65 rfl Hvad.sizeOf26 rfl rfl) ?_
          refine WO_load (.int _ _) Hvad.isAgg26 rfl (Hb.h (by repeat (first | assumption | exact Hb.newY _ _ | refine Hb.alloc ?_ | refine Hb.drew ?_ | refine Hb.ext (by assumption) ?_ | exact Hb.setSameL (by first | omega | (simp only [size_alloc, size_setB, size_drew]; omega)) | exact Hb.setSame (by assumption) | refine Hb.set (by first | omega | (simp only [size_alloc, size_setB, size_drew]; omega)) ?_ ))) (Ce.h (by first | assumption | exact ⟨rfl⟩)) ?_
          refine WO_p (PS_move_int rfl) ?_
          refine WO_p (PS_conv_u64n Hvad.runUnderlying61 Hvad.runUnderlying26 rfl (by omega) (by omega)) ?_
          refine WO_p (PS_sub_u64n rfl rfl (by omega) (by omega)) ?_
          refine WO_p (PS_nilCheck rfl) ?_
          refine WO_p (PS_fieldAddr 7 Hvad.runUnderlying65 rfl Hvad.sizeOf26 rfl rfl) ?_
          refine WO_store1 Hvad.sizeOf26 rfl (v := (.int _ _)) rfl (Hb.h (by repeat (first | assumption | exact Hb.newY _ _ | refine Hb.alloc ?_ | refine Hb.drew ?_ | refine Hb.ext (by assumption) ?_ | exact Hb.setSameL (by first | omega | (simp only [size_alloc, size_setB, size_drew]; omega)) | exact Hb.setSame (by assumption) | refine Hb.set (by first | omega | (simp only [size_alloc, size_setB, size_drew]; omega)) ?_ ))) rfl (by first | omega | assumption | rfl | decide | exact Nat.le_refl _ | (simp only [size_ic, Value.cells]; omega) | simp) rfl ?_
          refine WO_nil ?_
          refine thn_normal ?_
          refine W_seq ?_
          obtain ⟨hM9, hS9⟩ := hMF.putF_gas hf (f.gas - s) (by omega)
          obtain ⟨hpay, hgq⟩ := hI.pay hM.ty hf (c := s) (buf' := m.buf) (base' := m.base) ⟨hs.1, by omega⟩ hbl0 (Or.inl ⟨rfl, rfl⟩)
          refine W_region rfl ?_
          refine WO_p (PS_assign_bool rfl) ?_
          refine WO_nil ?_
          refine thn_normal ?_
          refine W_ret ?_
          refine thn_ret ?_
          refine bodyQ_ret1 Hvad.results96 rfl (.bool _) rfl ?_
          exact Or.inr ⟨rfl, _, s, ⟨_, _, hM9, (MStep.ext hEfl).trans hS9⟩, ⟨hpay, hset _, Int.le_refl _, fun h => absurd (hflat.symm.trans h) (by decide), fun h => absurd (hflat.symm.trans h) (by decide), hcrd, fun h => absurd (h ▸ hflat) (by decide), fun h => absurd (h ▸ hflat) (by decide), fun h => absurd (hflat.symm.trans h) (by decide)⟩, hgq⟩
      · have hb98p := hb98.h; try simp only [al_ete, al_dfn, Bool.not_eq_true', Bool.not_eq_false', al_ne, Bool.not_not, al_nn] at hb98p
        have hflat : isFlat o = false := by simpa using hb98p
        refine W_skip ?_
        refine thn_normal ?_
        refine W_seq ?_
        refine W_region rfl ?_
        refine WO_p (PS_move_ptr rfl) ?_
        refine WO_p (PS_move_ptr rfl) ?_
        refine WO_p (PS_move_int rfl) ?_
        refine WO_call Hvad.call163 (by rfl) (Ret.mono (reaches_spec C c v B m t f o _ (MS.ext hM (by repeat (first | assumption | exact Ext.refl _ | refine Ext.alloc ?_ _ | refine Ext.drew ?_ | refine Ext.setB ?_ (by first | omega | (simp only [size_alloc, size_setB, size_drew]; omega)) _ | exact Ext.trans (by assumption) (by assumption) | refine Ext.trans ?_ (by assumption)))) hA ho) ?_)
        rintro _ w163_102 ⟨hE163_102, rfl⟩
        have hz163_102 := hE163_102.1
        try simp only [size_alloc, size_setB, size_drew] at hz163_102
        rw [hnw]
        refine WO_p (PS_move_tuple rfl) ?_
        refine WO_p (PS_extract_int rfl rfl) ?_
        refine WO_p (PS_extract_bool rfl rfl) ?_
        refine WO_p (PS_assign_int rfl) ?_
        refine WO_p (PS_assign_bool rfl) ?_
        refine WO_nil ?_
        refine thn_normal ?_
        refine W_seq ?_
        refine W_seq ?_
        refine W_region rfl ?_
        refine WO_p (PS_move_bool rfl) ?_
        refine WO_p (PS_not rfl) ?_
        refine WO_nil ?_
        refine thn_normal ?_
        refine W_if rfl (fun hb106 => ?_) (fun hb106 => ?_)
        · have hb106p := hb106.h; try simp only [al_ete, al_dfn, Bool.not_eq_true', Bool.not_eq_false', al_ne, Bool.not_not, al_nn] at hb106p
          skip
          refine W_seq ?_
          refine W_region rfl ?_
          refine WO_p (PS_move_ptr rfl) ?_
          refine WO_call Hvad.call93 (by rfl) (Ret.mono (fail_spec scan C c v B m t f 0 S _ _ (MS.ext hM (by repeat (first | assumption | exact Ext.refl _ | refine Ext.alloc ?_ _ | refine Ext.drew ?_ | refine Ext.setB ?_ (by first | omega | (simp only [size_alloc, size_setB, size_drew]; omega)) _ | exact Ext.trans (by assumption) (by assumption) | refine Ext.trans ?_ (by assumption)))) hf hI (by omega)) ?_)
          rintro _ wq ⟨rfl, vq, mq, hRq, hPq⟩
          replace hRq := MRet.pre (w := w) (by repeat (first | assumption | exact Ext.refl _ | refine Ext.alloc ?_ _ | refine Ext.drew ?_ | refine Ext.setB ?_ (by first | omega | (simp only [size_alloc, size_setB, size_drew]; omega)) _ | exact Ext.trans (by assumption) (by assumption) | refine Ext.trans ?_ (by assumption))) hRq
          refine WO_p (PS_assign_bool rfl) ?_
          refine WO_nil ?_
          refine thn_normal ?_
          refine W_ret ?_
          refine thn_ret ?_
          refine bodyQ_ret1 Hvad.results96 rfl (.bool _) rfl ?_
          exact Or.inl ⟨rfl, vq, mq, hRq, hPq⟩
        · have hb106p := hb106.h; try simp only [al_ete, al_dfn, Bool.not_eq_true', Bool.not_eq_false', al_ne, Bool.not_not, al_nn] at hb106p
          have hre : (reachesW m f o).2 = true := by simpa using hb106p
          refine W_skip ?_
          refine thn_normal ?_
          refine W_seq ?_
          refine W_region rfl ?_
          refine WO_p (PS_move_ptr rfl) ?_
          refine WO_p (PS_nilCheck rfl) ?_
          refine WO_p (PS_fieldAddr 1 Hvad.runUnderlying69 rfl Hvad.sizeOf57 rfl rfl) ?_
          refine WO_call Hvad.call164 (by rfl) (Ret.mono (memLen_spec C c v B m t lo n _ (MS.ext hM (by repeat (first | assumption | exact Ext.refl _ | refine Ext.alloc ?_ _ | refine Ext.drew ?_ | refine Ext.setB ?_ (by first | omega | (simp only [size_alloc, size_setB, size_drew]; omega)) _ | exact Ext.trans (by assumption) (by assumption) | refine Ext.trans ?_ (by assumption)))) hT) ?_)
          rintro _ w164_108 ⟨hE164_108, rfl⟩
          have hz164_108 := hE164_108.1
          try simp only [size_alloc, size_setB, size_drew] at hz164_108
          refine WO_p (PS_quo_u32 rfl rfl (by omega) (by omega) (by omega)) ?_
          refine WO_p (PS_conv_u64n Hvad.runUnderlying54 Hvad.runUnderlying26 rfl (by omega) (by omega)) ?_
          refine WO_p (PS_assign_int rfl) ?_
          refine WO_nil ?_
          refine thn_normal ?_
          refine W_seq ?_
          refine W_region rfl ?_
          refine WO_p (PS_move_int rfl) ?_
          refine WO_p (PS_conv_u64n Hvad.runUnderlying61 Hvad.runUnderlying26 rfl (by omega) (by omega)) ?_
          refine WO_p (PS_move_ptr rfl) ?_
          refine WO_p (PS_move_ptr rfl) ?_
          refine WO_p (PS_move_int rfl) ?_
          refine WO_call Hvad.call165 (by rfl) (Ret.mono (dynamic_spec C c v B m t f o _ (MS.ext hM (by repeat (first | assumption | exact Ext.refl _ | refine Ext.alloc ?_ _ | refine Ext.drew ?_ | refine Ext.setB ?_ (by first | omega | (simp only [size_alloc, size_setB, size_drew]; omega)) _ | exact Ext.trans (by assumption) (by assumption) | refine Ext.trans ?_ (by assumption)))) hA ho hre) ?_)
          rintro _ w165_109 ⟨hE165_109, x, rfl, hdyn⟩
          have hz165_109 := hE165_109.1
          try simp only [size_alloc, size_setB, size_drew] at hz165_109
          have hdb := hdyn.b0
          refine WO_p (PS_add_u64n rfl rfl (by omega) (by omega)) ?_
          refine WO_p (PS_assign_int rfl) ?_
          refine WO_nil ?_
          refine thn_normal ?_
          refine W_seqJ (fun ρ w' => ∃ cost : Int, Fr [(0, .pointer (some ⟨C, 0, none⟩)), (7, .pointer (some ⟨C, 1803 + t * 65, none⟩)), (1, .int .u8 o), (8, .int .u64 (nw : Int)), (10, .int .u64 ((n : Int) / 32)), (11, .int .u64 cost)] ρ ∧ Ext w w' ∧ s + x ≤ cost ∧ cost ≤ 1000000000 ∧ ((n : Int) / 32 < (nw : Int) → memCost (nw : Int) - memCost ((n : Int) / 32) + (s + x) ≤ cost)) ?_ ?_
          · skip
            refine W_seq ?_
            refine W_region rfl ?_
            refine WO_p (PS_move_int rfl) ?_
            refine WO_p (PS_move_int rfl) ?_
            refine WO_p (PS_gtr rfl rfl) ?_
            refine WO_nil ?_
            refine thn_normal ?_
            refine W_if rfl (fun hb112 => ?_) (fun hb112 => ?_)
            · have hb112p := hb112.h; try simp only [al_ete, al_dfn, Bool.not_eq_true', Bool.not_eq_false', al_ne, Bool.not_not, al_nn] at hb112p
              have hmc1 := memCost_le hwle.1 hwle.2
              have hmc2 := memCost_le (n := (n : Int) / 32) (by omega) (by omega)
              have hmc3 := memCost_mono (a := (n : Int) / 32) (b := (nw : Int)) (by omega) (by omega)
              refine W_region rfl ?_
              refine WO_p (PS_move_int rfl) ?_
              refine WO_p (PS_move_int rfl) ?_
              refine WO_call Hvad.call166 (by rfl) (Ret.mono (memCost_spec _ _ (by omega) (by omega)) ?_)
              rintro _ w166_112 ⟨hE166_112, rfl⟩
              have hz166_112 := hE166_112.1
              try simp only [size_alloc, size_setB, size_drew] at hz166_112
              refine WO_p (PS_move_int rfl) ?_
              refine WO_call Hvad.call166 (by rfl) (Ret.mono (memCost_spec _ _ (by omega) (by omega)) ?_)
              rintro _ w166_113 ⟨hE166_113, rfl⟩
              have hz166_113 := hE166_113.1
              try simp only [size_alloc, size_setB, size_drew] at hz166_113
              refine WO_p (PS_sub_u64n rfl rfl (by omega) (by omega)) ?_
              refine WO_p (PS_add_u64n rfl rfl (by omega) (by omega)) ?_
              refine WO_p (PS_assign_int rfl) ?_
              refine WO_nil ?_
              refine thn_normal ?_
              exact ⟨_, ⟨rfl, rfl, rfl, rfl, rfl, rfl, trivial⟩, (by repeat (first | assumption | exact Ext.refl _ | refine Ext.alloc ?_ _ | refine Ext.drew ?_ | refine Ext.setB ?_ (by first | omega | (simp only [size_alloc, size_setB, size_drew]; omega)) _ | exact Ext.trans (by assumption) (by assumption) | refine Ext.trans ?_ (by assumption))), by omega, by omega, fun _ => by omega⟩
            · have hb112p := hb112.h; try simp only [al_ete, al_dfn, Bool.not_eq_true', Bool.not_eq_false', al_ne, Bool.not_not, al_nn] at hb112p
              refine W_skip ?_
              refine thn_normal ?_
              exact ⟨_, ⟨rfl, rfl, rfl, rfl, rfl, rfl, trivial⟩, (by repeat (first | assumption | exact Ext.refl _ | refine Ext.alloc ?_ _ | refine Ext.drew ?_ | refine Ext.setB ?_ (by first | omega | (simp only [size_alloc, size_setB, size_drew]; omega)) _ | exact Ext.trans (by assumption) (by assumption) | refine Ext.trans ?_ (by assumption))), by omega, by omega, fun h => by omega⟩
          · rintro ρ wB ⟨cost, hFr, hEB, hsx, hcb, hmd⟩
            refine W_env _ hFr ?_
            have hzB := hEB.1
            refine W_seq ?_
            refine W_seq ?_
            refine W_region rfl ?_
            refine WO_p (PS_move_int rfl) ?_
            refine WO_p (PS_move_ptr rfl) ?_
            refine WO_p (PS_nilCheck rfl) ?_
            refine WO_p (PS_fieldAddr 7 Hvad.runUnderlying65 rfl Hvad.sizeOf26 rfl rfl) ?_
            refine WO_load (.int _ _) Hvad.isAgg26 rfl (Hb.h (by repeat (first | assumption | exact Hb.newY _ _ | refine Hb.alloc ?_ | refine Hb.drew ?_ | refine Hb.ext (by assumption) ?_ | exact Hb.setSameL (by first | omega | (simp only [size_alloc, size_setB, size_drew]; omega)) | exact Hb.setSame (by assumption) | refine Hb.set (by first | omega | (simp only [size_alloc, size_setB, size_drew]; omega)) ?_ ))) (Ce.h (by first | assumption | exact ⟨rfl⟩)) ?_
            refine WO_p (PS_gtr rfl rfl) ?_
            refine WO_p (PS_move_bool rfl) ?_
            refine WO_if (t := 123) rfl (fun hb116 => ?_) (fun hb116 => ?_)
            · have hb116p := hb116.h; try simp only [al_ete, al_dfn, Bool.not_eq_true', Bool.not_eq_false', al_ne, Bool.not_not, al_nn] at hb116p
              refine WO_guardF rfl rfl hb116.h ?_
              refine WO_guardF rfl rfl hb116.h ?_
              refine WO_guardF rfl rfl hb116.h ?_
              refine WO_guardU rfl rfl ?_
              refine WO_guardU rfl rfl ?_
              refine WO_guardU rfl rfl ?_
              refine WO_guardU rfl rfl ?_
              refine WO_guardU rfl rfl ?_
              refine WO_guardF rfl rfl hb116.h ?_
              refine WO_p (PS_pickT rfl hb116.h rfl) ?_
              refine WO_nil ?_
              refine thn_normal ?_
              refine W_condT rfl rfl ?_
              refine W_seq ?_
              refine W_region rfl ?_
              refine WO_p (PS_move_ptr rfl) ?_
              refine WO_call Hvad.call93 (by rfl) (Ret.mono (fail_spec scan C c v B m t f 0 S _ _ (MS.ext hM (by repeat (first | assumption | exact Ext.refl _ | refine Ext.alloc ?_ _ | refine Ext.drew ?_ | refine Ext.setB ?_ (by first | omega | (simp only [size_alloc, size_setB, size_drew]; omega)) _ | exact Ext.trans (by assumption) (by assumption) | refine Ext.trans ?_ (by assumption)))) hf hI (by omega)) ?_)
              rintro _ wq ⟨rfl, vq, mq, hRq, hPq⟩
              replace hRq := MRet.pre (w := w) (by repeat (first | assumption | exact Ext.refl _ | refine Ext.alloc ?_ _ | refine Ext.drew ?_ | refine Ext.setB ?_ (by first | omega | (simp only [size_alloc, size_setB, size_drew]; omega)) _ | exact Ext.trans (by assumption) (by assumption) | refine Ext.trans ?_ (by assumption))) hRq
              refine WO_p (PS_assign_bool rfl) ?_
              refine WO_nil ?_
              refine thn_normal ?_
              refine W_ret ?_
              refine thn_ret ?_
              refine bodyQ_ret1 Hvad.results96 rfl (.bool _) rfl ?_
              exact Or.inl ⟨rfl, vq, mq, hRq, hPq⟩
            · have hb116p := hb116.h; try simp only [al_ete, al_dfn, Bool.not_eq_true', Bool.not_eq_false', al_ne, Bool.not_not, al_nn] at hb116p
              refine WO_guardT rfl rfl hb116.h ?_
              refine WO_p (PS_move_int rfl) ?_
              refine WO_guardT rfl rfl hb116.h ?_
              refine WO_p (PS_eql rfl rfl) ?_
              refine WO_guardT rfl rfl hb116.h ?_
              refine WO_p (PS_move_bool rfl) ?_
              refine WO_if (t := 126) rfl (fun hb120 => ?_) (fun hb120 => ?_)
              · have hb120p := hb120.h; try simp only [al_ete, al_dfn, Bool.not_eq_true', Bool.not_eq_false', al_ne, Bool.not_not, al_nn] at hb120p
                refine WO_guardT rfl rfl hb120.h ?_
                refine WO_p (PS_move_ptr rfl) ?_
                refine WO_guardT rfl rfl hb120.h ?_
                refine WO_p (PS_nilCheck rfl) ?_
                refine WO_guardT rfl rfl hb120.h ?_
                refine WO_p (PS_fieldAddr 7 Hvad.runUnderlying65 rfl Hvad.sizeOf26 rfl rfl) ?_
                refine WO_guardT rfl rfl hb120.h ?_
                refine WO_load (.int _ _) Hvad.isAgg26 rfl (Hb.h (by repeat (first | assumption | exact Hb.newY _ _ | refine Hb.alloc ?_ | refine Hb.drew ?_ | refine Hb.ext (by assumption) ?_ | exact Hb.setSameL (by first | omega | (simp only [size_alloc, size_setB, size_drew]; omega)) | exact Hb.setSame (by assumption) | refine Hb.set (by first | omega | (simp only [size_alloc, size_setB, size_drew]; omega)) ?_ ))) (Ce.h (by first | assumption | exact ⟨rfl⟩)) ?_
                refine WO_guardT rfl rfl hb120.h ?_
                refine WO_p (PS_leq rfl rfl) ?_
                refine WO_guardT rfl rfl hb116.h ?_
                refine WO_p (PS_pickT rfl hb120.h rfl) ?_
                refine WO_p (PS_pickF rfl hb116.h rfl) ?_
                refine WO_nil ?_
                refine thn_normal ?_
                refine W_if rfl (fun hb122 => ?_) (fun hb122 => ?_)
                · have hb122p := hb122.h; try simp only [al_ete, al_dfn, Bool.not_eq_true', Bool.not_eq_false', al_ne, Bool.not_not, al_nn] at hb122p
                  refine W_seq ?_
                  refine W_region rfl ?_
                  refine WO_p (PS_move_ptr rfl) ?_
                  refine WO_call Hvad.call93 (by rfl) (Ret.mono (fail_spec scan C c v B m t f 0 S _ _ (MS.ext hM (by repeat (first | assumption | exact Ext.refl _ | refine Ext.alloc ?_ _ | refine Ext.drew ?_ | refine Ext.setB ?_ (by first | omega | (simp only [size_alloc, size_setB, size_drew]; omega)) _ | exact Ext.trans (by assumption) (by assumption) | refine Ext.trans ?_ (by assumption)))) hf hI (by omega)) ?_)
                  rintro _ wq ⟨rfl, vq, mq, hRq, hPq⟩
                  replace hRq := MRet.pre (w := w) (by repeat (first | assumption | exact Ext.refl _ | refine Ext.alloc ?_ _ | refine Ext.drew ?_ | refine Ext.setB ?_ (by first | omega | (simp only [size_alloc, size_setB, size_drew]; omega)) _ | exact Ext.trans (by assumption) (by assumption) | refine Ext.trans ?_ (by assumption))) hRq
                  refine WO_p (PS_assign_bool rfl) ?_
                  refine WO_nil ?_
                  refine thn_normal ?_
                  refine W_ret ?_
                  refine thn_ret ?_
                  refine bodyQ_ret1 Hvad.results96 rfl (.bool _) rfl ?_
                  exact Or.inl ⟨rfl, vq, mq, hRq, hPq⟩
                · have hb122p := hb122.h; try simp only [al_ete, al_dfn, Bool.not_eq_true', Bool.not_eq_false', al_ne, Bool.not_not, al_nn] at hb122p
                  have hcg : cost ≤ f.gas := by omega
                  refine W_skip ?_
                  refine thn_normal ?_
                  refine W_seqJ (fun ρ w' => Fr [(0, .pointer (some ⟨C, 0, none⟩)), (7, .pointer (some ⟨C, 1803 + t * 65, none⟩)), (1, .int .u8 o), (8, .int .u64 (nw : Int)), (10, .int .u64 ((n : Int) / 32)), (11, .int .u64 cost)] ρ ∧ Ext w w' ∧ (o = 86 → wv (m.argW f 0) < f.cb.length ∧ wv (m.argW f 0) < 512) ∧ (o = 87 → ¬ wv (m.argW f 1) = 0 → wv (m.argW f 0) < f.cb.length ∧ wv (m.argW f 0) < 512)) ?_ ?_
                  · skip
                    refine W_seq ?_
                    refine W_region rfl ?_
                    refine WO_p (PS_move_int rfl) ?_
                    refine WO_p (PS_eql rfl rfl) ?_
                    refine WO_p (PS_move_bool rfl) ?_
                    refine WO_if (t := 138) rfl (fun hb126 => ?_) (fun hb126 => ?_)
                    · have hb126p := hb126.h; try simp only [al_ete, al_dfn, Bool.not_eq_true', Bool.not_eq_false', al_ne, Bool.not_not, al_nn] at hb126p
                      refine WO_guardF rfl rfl hb126.h ?_
                      refine WO_guardF rfl rfl hb126.h ?_
                      refine WO_p (PS_pickT rfl hb126.h rfl) ?_
                      refine WO_nil ?_
                      refine thn_normal ?_
                      refine W_condT rfl rfl ?_
                      refine W_seq ?_
                      refine W_region rfl ?_
                      refine WO_p (PS_move_ptr rfl) ?_
                      refine WO_p (PS_move_ptr rfl) ?_
                      refine WO_call Hvad.call160 (by rfl) (Ret.mono (arg_spec C c v B m t f _ _ (MS.ext hM (by repeat (first | assumption | exact Ext.refl _ | refine Ext.alloc ?_ _ | refine Ext.drew ?_ | refine Ext.setB ?_ (by first | omega | (simp only [size_alloc, size_setB, size_drew]; omega)) _ | exact Ext.trans (by assumption) (by assumption) | refine Ext.trans ?_ (by assumption)))) hA (by omega)) ?_)
                      rintro _ w160_126 ⟨hE160_126, rfl⟩
                      have hz160_126 := hE160_126.1
                      try simp only [size_alloc, size_setB, size_drew] at hz160_126
                      refine WO_allocG Hvad.zeroValue59 ?_
                      intro b12 v12 hg12 hE12 hH12 hl12
                      try simp only [size_alloc, size_setB, size_drew] at hg12
                      have hzz12 := hE12.1
                      try simp only [size_alloc, size_setB, size_drew] at hzz12
                      replace hH12 : Hb v12 b12 (.cells (ic .u64 [0, 0, 0, 0]) 59 (0, 0)) := hH12
                      first | refine WO_storeW Hvad.sizeOf59 rfl (v := .agg _) rfl (Hb.h (by repeat (first | assumption | exact Hb.newY _ _ | refine Hb.alloc ?_ | refine Hb.drew ?_ | refine Hb.ext (by assumption) ?_ | exact Hb.setSameL (by first | omega | (simp only [size_alloc, size_setB, size_drew]; omega)) | exact Hb.setSame (by assumption) | refine Hb.set (by first | omega | (simp only [size_alloc, size_setB, size_drew]; omega)) ?_ ))) rfl (by first | omega | assumption | rfl | decide | exact Nat.le_refl _ | (simp only [size_ic, Value.cells]; omega) | simp) (by first | omega | assumption | rfl | decide | exact Nat.le_refl _ | (simp only [size_ic, Value.cells]; omega) | simp) (by first | exact oneCell_ic | assumption) ?_ | refine WO_store Hvad.sizeOf59 rfl (v := .agg _) rfl (Hb.h (by repeat (first | assumption | exact Hb.newY _ _ | refine Hb.alloc ?_ | refine Hb.drew ?_ | refine Hb.ext (by assumption) ?_ | exact Hb.setSameL (by first | omega | (simp only [size_alloc, size_setB, size_drew]; omega)) | exact Hb.setSame (by assumption) | refine Hb.set (by first | omega | (simp only [size_alloc, size_setB, size_drew]; omega)) ?_ ))) (by first | omega | assumption | rfl | decide | exact Nat.le_refl _ | (simp only [size_ic, Value.cells]; omega) | simp) (by first | omega | assumption | rfl | decide | exact Nat.le_refl _ | (simp only [size_ic, Value.cells]; omega) | simp) (by first | exact oneCell_ic | assumption) ?_
                      refine WO_nil ?_
                      refine thn_normal ?_
                      refine W_seq ?_
                      refine W_region rfl ?_
                      refine WO_p (PS_move_int rfl) ?_
                      refine WO_p (PS_eql rfl rfl) ?_
                      refine WO_p (PS_move_bool rfl) ?_
                      refine WO_if (t := 147) rfl (fun hb129 => ?_) (fun hb129 => ?_)
                      · have hb129p := hb129.h; try simp only [al_ete, al_dfn, Bool.not_eq_true', Bool.not_eq_false', al_ne, Bool.not_not, al_nn] at hb129p
                        refine WO_guardF rfl rfl hb129.h ?_
                        refine WO_guardF rfl rfl hb129.h ?_
                        refine WO_guardF rfl rfl hb129.h ?_
                        refine WO_p (PS_pickT rfl hb129.h rfl) ?_
                        refine WO_p (PS_move_bool rfl) ?_
                        refine WO_guardT rfl rfl rfl ?_
                        refine WO_p (PS_move_ptr rfl) ?_
                        refine WO_guardT rfl rfl rfl ?_
                        refine WO_p (PS_move_ptr rfl) ?_
                        refine WO_guardT rfl rfl rfl ?_
                        refine WO_p (PS_move_ptr rfl) ?_
                        refine WO_guardT rfl rfl rfl ?_
                        refine WO_call Hvad.call160 (by rfl) (Ret.mono (arg_spec C c v B m t f _ _ (MS.ext hM (by repeat (first | assumption | exact Ext.refl _ | refine Ext.alloc ?_ _ | refine Ext.drew ?_ | refine Ext.setB ?_ (by first | omega | (simp only [size_alloc, size_setB, size_drew]; omega)) _ | exact Ext.trans (by assumption) (by assumption) | refine Ext.trans ?_ (by assumption)))) hA (by omega)) ?_)
                        rintro _ w160_129 ⟨hE160_129, rfl⟩
                        have hz160_129 := hE160_129.1
                        try simp only [size_alloc, size_setB, size_drew] at hz160_129
                        refine WO_guardT rfl rfl rfl ?_
                        refine WO_call Hvad.call167 (by rfl) (Ret.mono (good_spec C c v B m t f _ _ (MS.ext hM (by repeat (first | assumption | exact Ext.refl _ | refine Ext.alloc ?_ _ | refine Ext.drew ?_ | refine Ext.setB ?_ (by first | omega | (simp only [size_alloc, size_setB, size_drew]; omega)) _ | exact Ext.trans (by assumption) (by assumption) | refine Ext.trans ?_ (by assumption)))) hA hw0 hcl) ?_)
                        rintro _ wg ⟨hEg, qg, rfl, hqg⟩
                        have hzg := hEg.1
                        try simp only [size_alloc, size_setB, size_drew] at hzg
                        refine WO_guardT rfl rfl rfl ?_
                        refine WO_p (PS_not rfl) ?_
                        refine WO_p (PS_pickT rfl rfl rfl) ?_
                        refine WO_nil ?_
                        refine thn_normal ?_
                        refine W_if rfl (fun hb134 => ?_) (fun hb134 => ?_)
                        · have hb134p := hb134.h; try simp only [al_ete, al_dfn, Bool.not_eq_true', Bool.not_eq_false', al_ne, Bool.not_not, al_nn] at hb134p
                          refine W_seq ?_
                          refine W_region rfl ?_
                          refine WO_p (PS_move_ptr rfl) ?_
                          refine WO_call Hvad.call93 (by rfl) (Ret.mono (fail_spec scan C c v B m t f 0 S _ _ (MS.ext hM (by repeat (first | assumption | exact Ext.refl _ | refine Ext.alloc ?_ _ | refine Ext.drew ?_ | refine Ext.setB ?_ (by first | omega | (simp only [size_alloc, size_setB, size_drew]; omega)) _ | exact Ext.trans (by assumption) (by assumption) | refine Ext.trans ?_ (by assumption)))) hf hI (by omega)) ?_)
                          rintro _ wq ⟨rfl, vq, mq, hRq, hPq⟩
                          replace hRq := MRet.pre (w := w) (by repeat (first | assumption | exact Ext.refl _ | refine Ext.alloc ?_ _ | refine Ext.drew ?_ | refine Ext.setB ?_ (by first | omega | (simp only [size_alloc, size_setB, size_drew]; omega)) _ | exact Ext.trans (by assumption) (by assumption) | refine Ext.trans ?_ (by assumption))) hRq
                          refine WO_p (PS_assign_bool rfl) ?_
                          refine WO_nil ?_
                          refine thn_normal ?_
                          refine W_ret ?_
                          refine thn_ret ?_
                          refine bodyQ_ret1 Hvad.results96 rfl (.bool _) rfl ?_
                          exact Or.inl ⟨rfl, vq, mq, hRq, hPq⟩
                        · have hb134p := hb134.h; try simp only [al_ete, al_dfn, Bool.not_eq_true', Bool.not_eq_false', al_ne, Bool.not_not, al_nn] at hb134p
                          have hgg : wv (m.argW f 0) < f.cb.length ∧ wv (m.argW f 0) < 512 := by have h := hqg (by simpa using hb134p); rw [hcbl]; exact h
                          refine W_skip ?_
                          refine thn_normal ?_
                          exact ⟨⟨rfl, rfl, rfl, rfl, rfl, rfl, trivial⟩, (by repeat (first | assumption | exact Ext.refl _ | refine Ext.alloc ?_ _ | refine Ext.drew ?_ | refine Ext.setB ?_ (by first | omega | (simp only [size_alloc, size_setB, size_drew]; omega)) _ | exact Ext.trans (by assumption) (by assumption) | refine Ext.trans ?_ (by assumption))), fun _ => hgg, fun _ _ => hgg⟩
                      · have hb129p := hb129.h; try simp only [al_ete, al_dfn, Bool.not_eq_true', Bool.not_eq_false', al_ne, Bool.not_not, al_nn] at hb129p
                        refine WO_guardT rfl rfl hb129.h ?_
                        refine WO_loadA _ Hvad.isAgg59 Hvad.sizeOf59 rfl (Hb.h (by repeat (first | assumption | exact Hb.newY _ _ | refine Hb.alloc ?_ | refine Hb.drew ?_ | refine Hb.ext (by assumption) ?_ | exact Hb.setSameL (by first | omega | (simp only [size_alloc, size_setB, size_drew]; omega)) | exact Hb.setSame (by assumption) | refine Hb.set (by first | omega | (simp only [size_alloc, size_setB, size_drew]; omega)) ?_ ))) (by first | omega | assumption | rfl | decide | exact Nat.le_refl _ | (simp only [size_ic, Value.cells]; omega) | simp) (Xt.h (by first | assumption | exact Xt.whole rfl rfl | exact Xt.whole rfl (by simp only [size_ic, Value.cells]; omega) | exact ⟨rfl⟩)) ?_
                        refine WO_guardT rfl rfl hb129.h ?_
                        refine WO_call Hvad.call131 (by rfl) (Ret.mono (isz_spec _ _ (by first | assumption | exact argW_wd hM.ty _ _ | exact Wd0)) ?_)
                        rintro _ w131_136 ⟨rfl, hE131_136⟩
                        have hz131_136 := hE131_136.1
                        try simp only [size_alloc, size_setB, size_drew] at hz131_136
                        refine WO_guardT rfl rfl hb129.h ?_
                        refine WO_p (PS_not rfl) ?_
                        refine WO_p (PS_pickF rfl hb129.h rfl) ?_
                        refine WO_p (PS_move_bool rfl) ?_
                        refine WO_if (t := 152) rfl (fun hb140 => ?_) (fun hb140 => ?_)
                        · have hb140p := hb140.h; try simp only [al_ete, al_dfn, Bool.not_eq_true', Bool.not_eq_false', al_ne, Bool.not_not, al_nn] at hb140p
                          refine WO_guardT rfl rfl hb140.h ?_
                          refine WO_p (PS_move_ptr rfl) ?_
                          refine WO_guardT rfl rfl hb140.h ?_
                          refine WO_p (PS_move_ptr rfl) ?_
                          refine WO_guardT rfl rfl hb140.h ?_
                          refine WO_p (PS_move_ptr rfl) ?_
                          refine WO_guardT rfl rfl hb140.h ?_
                          refine WO_call Hvad.call160 (by rfl) (Ret.mono (arg_spec C c v B m t f _ _ (MS.ext hM (by repeat (first | assumption | exact Ext.refl _ | refine Ext.alloc ?_ _ | refine Ext.drew ?_ | refine Ext.setB ?_ (by first | omega | (simp only [size_alloc, size_setB, size_drew]; omega)) _ | exact Ext.trans (by assumption) (by assumption) | refine Ext.trans ?_ (by assumption)))) hA (by omega)) ?_)
                          rintro _ w160_140 ⟨hE160_140, rfl⟩
                          have hz160_140 := hE160_140.1
                          try simp only [size_alloc, size_setB, size_drew] at hz160_140
                          refine WO_guardT rfl rfl hb140.h ?_
                          refine WO_call Hvad.call167 (by rfl) (Ret.mono (good_spec C c v B m t f _ _ (MS.ext hM (by repeat (first | assumption | exact Ext.refl _ | refine Ext.alloc ?_ _ | refine Ext.drew ?_ | refine Ext.setB ?_ (by first | omega | (simp only [size_alloc, size_setB, size_drew]; omega)) _ | exact Ext.trans (by assumption) (by assumption) | refine Ext.trans ?_ (by assumption)))) hA hw0 hcl) ?_)
                          rintro _ wg ⟨hEg, qg, rfl, hqg⟩
                          have hzg := hEg.1
                          try simp only [size_alloc, size_setB, size_drew] at hzg
                          refine WO_guardT rfl rfl hb140.h ?_
                          refine WO_p (PS_not rfl) ?_
                          refine WO_p (PS_pickT rfl hb140.h rfl) ?_
                          refine WO_nil ?_
                          refine thn_normal ?_
                          refine W_if rfl (fun hb145 => ?_) (fun hb145 => ?_)
                          · have hb145p := hb145.h; try simp only [al_ete, al_dfn, Bool.not_eq_true', Bool.not_eq_false', al_ne, Bool.not_not, al_nn] at hb145p
                            refine W_seq ?_
                            refine W_region rfl ?_
                            refine WO_p (PS_move_ptr rfl) ?_
                            refine WO_call Hvad.call93 (by rfl) (Ret.mono (fail_spec scan C c v B m t f 0 S _ _ (MS.ext hM (by repeat (first | assumption | exact Ext.refl _ | refine Ext.alloc ?_ _ | refine Ext.drew ?_ | refine Ext.setB ?_ (by first | omega | (simp only [size_alloc, size_setB, size_drew]; omega)) _ | exact Ext.trans (by assumption) (by assumption) | refine Ext.trans ?_ (by assumption)))) hf hI (by omega)) ?_)
                            rintro _ wq ⟨rfl, vq, mq, hRq, hPq⟩
                            replace hRq := MRet.pre (w := w) (by repeat (first | assumption | exact Ext.refl _ | refine Ext.alloc ?_ _ | refine Ext.drew ?_ | refine Ext.setB ?_ (by first | omega | (simp only [size_alloc, size_setB, size_drew]; omega)) _ | exact Ext.trans (by assumption) (by assumption) | refine Ext.trans ?_ (by assumption))) hRq
                            refine WO_p (PS_assign_bool rfl) ?_
                            refine WO_nil ?_
                            refine thn_normal ?_
                            refine W_ret ?_
                            refine thn_ret ?_
                            refine bodyQ_ret1 Hvad.results96 rfl (.bool _) rfl ?_
                            exact Or.inl ⟨rfl, vq, mq, hRq, hPq⟩
                          · have hb145p := hb145.h; try simp only [al_ete, al_dfn, Bool.not_eq_true', Bool.not_eq_false', al_ne, Bool.not_not, al_nn] at hb145p
                            have hgg : wv (m.argW f 0) < f.cb.length ∧ wv (m.argW f 0) < 512 := by have h := hqg (by simpa using hb145p); rw [hcbl]; exact h
                            refine W_skip ?_
                            refine thn_normal ?_
                            exact ⟨⟨rfl, rfl, rfl, rfl, rfl, rfl, trivial⟩, (by repeat (first | assumption | exact Ext.refl _ | refine Ext.alloc ?_ _ | refine Ext.drew ?_ | refine Ext.setB ?_ (by first | omega | (simp only [size_alloc, size_setB, size_drew]; omega)) _ | exact Ext.trans (by assumption) (by assumption) | refine Ext.trans ?_ (by assumption))), fun _ => hgg, fun _ _ => hgg⟩
                        · have hb140p := hb140.h; try simp only [al_ete, al_dfn, Bool.not_eq_true', Bool.not_eq_false', al_ne, Bool.not_not, al_nn] at hb140p
                          refine WO_guardF rfl rfl hb140.h ?_
                          refine WO_guardF rfl rfl hb140.h ?_
                          refine WO_guardF rfl rfl hb140.h ?_
                          refine WO_guardF rfl rfl hb140.h ?_
                          refine WO_guardF rfl rfl hb140.h ?_
                          refine WO_guardF rfl rfl hb140.h ?_
                          refine WO_p (PS_pickF rfl hb140.h rfl) ?_
                          refine WO_nil ?_
                          refine thn_normal ?_
                          refine W_condF rfl rfl ?_
                          refine W_skip ?_
                          refine thn_normal ?_
                          exact ⟨⟨rfl, rfl, rfl, rfl, rfl, rfl, trivial⟩, (by repeat (first | assumption | exact Ext.refl _ | refine Ext.alloc ?_ _ | refine Ext.drew ?_ | refine Ext.setB ?_ (by first | omega | (simp only [size_alloc, size_setB, size_drew]; omega)) _ | exact Ext.trans (by assumption) (by assumption) | refine Ext.trans ?_ (by assumption))), fun h => by omega, fun h hc => by omega⟩
                    · have hb126p := hb126.h; try simp only [al_ete, al_dfn, Bool.not_eq_true', Bool.not_eq_false', al_ne, Bool.not_not, al_nn] at hb126p
                      refine WO_guardT rfl rfl hb126.h ?_
                      refine WO_p (PS_move_int rfl) ?_
                      refine WO_guardT rfl rfl hb126.h ?_
                      refine WO_p (PS_eql rfl rfl) ?_
                      refine WO_p (PS_pickF rfl hb126.h rfl) ?_
                      refine WO_nil ?_
                      refine thn_normal ?_
                      refine W_if rfl (fun hb149 => ?_) (fun hb149 => ?_)
                      · have hb149p := hb149.h; try simp only [al_ete, al_dfn, Bool.not_eq_true', Bool.not_eq_false', al_ne, Bool.not_not, al_nn] at hb149p
                        refine W_seq ?_
                        refine W_region rfl ?_
                        refine WO_p (PS_move_ptr rfl) ?_
                        refine WO_p (PS_move_ptr rfl) ?_
                        refine WO_call Hvad.call160 (by rfl) (Ret.mono (arg_spec C c v B m t f _ _ (MS.ext hM (by repeat (first | assumption | exact Ext.refl _ | refine Ext.alloc ?_ _ | refine Ext.drew ?_ | refine Ext.setB ?_ (by first | omega | (simp only [size_alloc, size_setB, size_drew]; omega)) _ | exact Ext.trans (by assumption) (by assumption) | refine Ext.trans ?_ (by assumption)))) hA (by omega)) ?_)
                        rintro _ w160_149 ⟨hE160_149, rfl⟩
                        have hz160_149 := hE160_149.1
                        try simp only [size_alloc, size_setB, size_drew] at hz160_149
                        refine WO_allocG Hvad.zeroValue59 ?_
                        intro b12 v12 hg12 hE12 hH12 hl12
                        try simp only [size_alloc, size_setB, size_drew] at hg12
                        have hzz12 := hE12.1
                        try simp only [size_alloc, size_setB, size_drew] at hzz12
                        replace hH12 : Hb v12 b12 (.cells (ic .u64 [0, 0, 0, 0]) 59 (0, 0)) := hH12
                        first | refine WO_storeW Hvad.sizeOf59 rfl (v := .agg _) rfl (Hb.h (by repeat (first | assumption | exact Hb.newY _ _ | refine Hb.alloc ?_ | refine Hb.drew ?_ | refine Hb.ext (by assumption) ?_ | exact Hb.setSameL (by first | omega | (simp only [size_alloc, size_setB, size_drew]; omega)) | exact Hb.setSame (by assumption) | refine Hb.set (by first | omega | (simp only [size_alloc, size_setB, size_drew]; omega)) ?_ ))) rfl (by first | omega | assumption | rfl | decide | exact Nat.le_refl _ | (simp only [size_ic, Value.cells]; omega) | simp) (by first | omega | assumption | rfl | decide | exact Nat.le_refl _ | (simp only [size_ic, Value.cells]; omega) | simp) (by first | exact oneCell_ic | assumption) ?_ | refine WO_store Hvad.sizeOf59 rfl (v := .agg _) rfl (Hb.h (by repeat (first | assumption | exact Hb.newY _ _ | refine Hb.alloc ?_ | refine Hb.drew ?_ | refine Hb.ext (by assumption) ?_ | exact Hb.setSameL (by first | omega | (simp only [size_alloc, size_setB, size_drew]; omega)) | exact Hb.setSame (by assumption) | refine Hb.set (by first | omega | (simp only [size_alloc, size_setB, size_drew]; omega)) ?_ ))) (by first | omega | assumption | rfl | decide | exact Nat.le_refl _ | (simp only [size_ic, Value.cells]; omega) | simp) (by first | omega | assumption | rfl | decide | exact Nat.le_refl _ | (simp only [size_ic, Value.cells]; omega) | simp) (by first | exact oneCell_ic | assumption) ?_
                        refine WO_nil ?_
                        refine thn_normal ?_
                        refine W_seq ?_
                        refine W_region rfl ?_
                        refine WO_p (PS_move_int rfl) ?_
                        refine WO_p (PS_eql rfl rfl) ?_
                        refine WO_p (PS_move_bool rfl) ?_
                        refine WO_if (t := 147) rfl (fun hb152 => ?_) (fun hb152 => ?_)
                        · have hb152p := hb152.h; try simp only [al_ete, al_dfn, Bool.not_eq_true', Bool.not_eq_false', al_ne, Bool.not_not, al_nn] at hb152p
                          refine WO_guardF rfl rfl hb152.h ?_
                          refine WO_guardF rfl rfl hb152.h ?_
                          refine WO_guardF rfl rfl hb152.h ?_
                          refine WO_p (PS_pickT rfl hb152.h rfl) ?_
                          refine WO_p (PS_move_bool rfl) ?_
                          refine WO_guardT rfl rfl rfl ?_
                          refine WO_p (PS_move_ptr rfl) ?_
                          refine WO_guardT rfl rfl rfl ?_
                          refine WO_p (PS_move_ptr rfl) ?_
                          refine WO_guardT rfl rfl rfl ?_
                          refine WO_p (PS_move_ptr rfl) ?_
                          refine WO_guardT rfl rfl rfl ?_
                          refine WO_call Hvad.call160 (by rfl) (Ret.mono (arg_spec C c v B m t f _ _ (MS.ext hM (by repeat (first | assumption | exact Ext.refl _ | refine Ext.alloc ?_ _ | refine Ext.drew ?_ | refine Ext.setB ?_ (by first | omega | (simp only [size_alloc, size_setB, size_drew]; omega)) _ | exact Ext.trans (by assumption) (by assumption) | refine Ext.trans ?_ (by assumption)))) hA (by omega)) ?_)
                          rintro _ w160_152 ⟨hE160_152, rfl⟩
                          have hz160_152 := hE160_152.1
                          try simp only [size_alloc, size_setB, size_drew] at hz160_152
                          refine WO_guardT rfl rfl rfl ?_
                          refine WO_call Hvad.call167 (by rfl) (Ret.mono (good_spec C c v B m t f _ _ (MS.ext hM (by repeat (first | assumption | exact Ext.refl _ | refine Ext.alloc ?_ _ | refine Ext.drew ?_ | refine Ext.setB ?_ (by first | omega | (simp only [size_alloc, size_setB, size_drew]; omega)) _ | exact Ext.trans (by assumption) (by assumption) | refine Ext.trans ?_ (by assumption)))) hA hw0 hcl) ?_)
                          rintro _ wg ⟨hEg, qg, rfl, hqg⟩
                          have hzg := hEg.1
                          try simp only [size_alloc, size_setB, size_drew] at hzg
                          refine WO_guardT rfl rfl rfl ?_
                          refine WO_p (PS_not rfl) ?_
                          refine WO_p (PS_pickT rfl rfl rfl) ?_
                          refine WO_nil ?_
                          refine thn_normal ?_
                          refine W_if rfl (fun hb157 => ?_) (fun hb157 => ?_)
                          · have hb157p := hb157.h; try simp only [al_ete, al_dfn, Bool.not_eq_true', Bool.not_eq_false', al_ne, Bool.not_not, al_nn] at hb157p
                            refine W_seq ?_
                            refine W_region rfl ?_
                            refine WO_p (PS_move_ptr rfl) ?_
                            refine WO_call Hvad.call93 (by rfl) (Ret.mono (fail_spec scan C c v B m t f 0 S _ _ (MS.ext hM (by repeat (first | assumption | exact Ext.refl _ | refine Ext.alloc ?_ _ | refine Ext.drew ?_ | refine Ext.setB ?_ (by first | omega | (simp only [size_alloc, size_setB, size_drew]; omega)) _ | exact Ext.trans (by assumption) (by assumption) | refine Ext.trans ?_ (by assumption)))) hf hI (by omega)) ?_)
                            rintro _ wq ⟨rfl, vq, mq, hRq, hPq⟩
                            replace hRq := MRet.pre (w := w) (by repeat (first | assumption | exact Ext.refl _ | refine Ext.alloc ?_ _ | refine Ext.drew ?_ | refine Ext.setB ?_ (by first | omega | (simp only [size_alloc, size_setB, size_drew]; omega)) _ | exact Ext.trans (by assumption) (by assumption) | refine Ext.trans ?_ (by assumption))) hRq
                            refine WO_p (PS_assign_bool rfl) ?_
                            refine WO_nil ?_
                            refine thn_normal ?_
                            refine W_ret ?_
                            refine thn_ret ?_
                            refine bodyQ_ret1 Hvad.results96 rfl (.bool _) rfl ?_
                            exact Or.inl ⟨rfl, vq, mq, hRq, hPq⟩
                          · have hb157p := hb157.h; try simp only [al_ete, al_dfn, Bool.not_eq_true', Bool.not_eq_false', al_ne, Bool.not_not, al_nn] at hb157p
                            have hgg : wv (m.argW f 0) < f.cb.length ∧ wv (m.argW f 0) < 512 := by have h := hqg (by simpa using hb157p); rw [hcbl]; exact h
                            refine W_skip ?_
                            refine thn_normal ?_
                            exact ⟨⟨rfl, rfl, rfl, rfl, rfl, rfl, trivial⟩, (by repeat (first | assumption | exact Ext.refl _ | refine Ext.alloc ?_ _ | refine Ext.drew ?_ | refine Ext.setB ?_ (by first | omega | (simp only [size_alloc, size_setB, size_drew]; omega)) _ | exact Ext.trans (by assumption) (by assumption) | refine Ext.trans ?_ (by assumption))), fun _ => hgg, fun _ _ => hgg⟩
                        · have hb152p := hb152.h; try simp only [al_ete, al_dfn, Bool.not_eq_true', Bool.not_eq_false', al_ne, Bool.not_not, al_nn] at hb152p
                          refine WO_guardT rfl rfl hb152.h ?_
                          refine WO_loadA _ Hvad.isAgg59 Hvad.sizeOf59 rfl (Hb.h (by repeat (first | assumption | exact Hb.newY _ _ | refine Hb.alloc ?_ | refine Hb.drew ?_ | refine Hb.ext (by assumption) ?_ | exact Hb.setSameL (by first | omega | (simp only [size_alloc, size_setB, size_drew]; omega)) | exact Hb.setSame (by assumption) | refine Hb.set (by first | omega | (simp only [size_alloc, size_setB, size_drew]; omega)) ?_ ))) (by first | omega | assumption | rfl | decide | exact Nat.le_refl _ | (simp only [size_ic, Value.cells]; omega) | simp) (Xt.h (by first | assumption | exact Xt.whole rfl rfl | exact Xt.whole rfl (by simp only [size_ic, Value.cells]; omega) | exact ⟨rfl⟩)) ?_
                          refine WO_guardT rfl rfl hb152.h ?_
                          refine WO_call Hvad.call131 (by rfl) (Ret.mono (isz_spec _ _ (by first | assumption | exact argW_wd hM.ty _ _ | exact Wd0)) ?_)
                          rintro _ w131_159 ⟨rfl, hE131_159⟩
                          have hz131_159 := hE131_159.1
                          try simp only [size_alloc, size_setB, size_drew] at hz131_159
                          refine WO_guardT rfl rfl hb152.h ?_
                          refine WO_p (PS_not rfl) ?_
                          refine WO_p (PS_pickF rfl hb152.h rfl) ?_
                          refine WO_p (PS_move_bool rfl) ?_
                          refine WO_if (t := 152) rfl (fun hb163 => ?_) (fun hb163 => ?_)
                          · have hb163p := hb163.h; try simp only [al_ete, al_dfn, Bool.not_eq_true', Bool.not_eq_false', al_ne, Bool.not_not, al_nn] at hb163p
                            refine WO_guardT rfl rfl hb163.h ?_
                            refine WO_p (PS_move_ptr rfl) ?_
                            refine WO_guardT rfl rfl hb163.h ?_
                            refine WO_p (PS_move_ptr rfl) ?_
                            refine WO_guardT rfl rfl hb163.h ?_
                            refine WO_p (PS_move_ptr rfl) ?_
                            refine WO_guardT rfl rfl hb163.h ?_
                            refine WO_call Hvad.call160 (by rfl) (Ret.mono (arg_spec C c v B m t f _ _ (MS.ext hM (by repeat (first | assumption | exact Ext.refl _ | refine Ext.alloc ?_ _ | refine Ext.drew ?_ | refine Ext.setB ?_ (by first | omega | (simp only [size_alloc, size_setB, size_drew]; omega)) _ | exact Ext.trans (by assumption) (by assumption) | refine Ext.trans ?_ (by assumption)))) hA (by omega)) ?_)
                            rintro _ w160_163 ⟨hE160_163, rfl⟩
                            have hz160_163 := hE160_163.1
                            try simp only [size_alloc, size_setB, size_drew] at hz160_163
                            refine WO_guardT rfl rfl hb163.h ?_
                            refine WO_call Hvad.call167 (by rfl) (Ret.mono (good_spec C c v B m t f _ _ (MS.ext hM (by repeat (first | assumption | exact Ext.refl _ | refine Ext.alloc ?_ _ | refine Ext.drew ?_ | refine Ext.setB ?_ (by first | omega | (simp only [size_alloc, size_setB, size_drew]; omega)) _ | exact Ext.trans (by assumption) (by assumption) | refine Ext.trans ?_ (by assumption)))) hA hw0 hcl) ?_)
                            rintro _ wg ⟨hEg, qg, rfl, hqg⟩
                            have hzg := hEg.1
                            try simp only [size_alloc, size_setB, size_drew] at hzg
                            refine WO_guardT rfl rfl hb163.h ?_
                            refine WO_p (PS_not rfl) ?_
                            refine WO_p (PS_pickT rfl hb163.h rfl) ?_
                            refine WO_nil ?_
                            refine thn_normal ?_
                            refine W_if rfl (fun hb168 => ?_) (fun hb168 => ?_)
                            · have hb168p := hb168.h; try simp only [al_ete, al_dfn, Bool.not_eq_true', Bool.not_eq_false', al_ne, Bool.not_not, al_nn] at hb168p
                              refine W_seq ?_
                              refine W_region rfl ?_
                              refine WO_p (PS_move_ptr rfl) ?_
                              refine WO_call Hvad.call93 (by rfl) (Ret.mono (fail_spec scan C c v B m t f 0 S _ _ (MS.ext hM (by repeat (first | assumption | exact Ext.refl _ | refine Ext.alloc ?_ _ | refine Ext.drew ?_ | refine Ext.setB ?_ (by first | omega | (simp only [size_alloc, size_setB, size_drew]; omega)) _ | exact Ext.trans (by assumption) (by assumption) | refine Ext.trans ?_ (by assumption)))) hf hI (by omega)) ?_)
                              rintro _ wq ⟨rfl, vq, mq, hRq, hPq⟩
                              replace hRq := MRet.pre (w := w) (by repeat (first | assumption | exact Ext.refl _ | refine Ext.alloc ?_ _ | refine Ext.drew ?_ | refine Ext.setB ?_ (by first | omega | (simp only [size_alloc, size_setB, size_drew]; omega)) _ | exact Ext.trans (by assumption) (by assumption) | refine Ext.trans ?_ (by assumption))) hRq
                              refine WO_p (PS_assign_bool rfl) ?_
                              refine WO_nil ?_
                              refine thn_normal ?_
                              refine W_ret ?_
                              refine thn_ret ?_
                              refine bodyQ_ret1 Hvad.results96 rfl (.bool _) rfl ?_
                              exact Or.inl ⟨rfl, vq, mq, hRq, hPq⟩
                            · have hb168p := hb168.h; try simp only [al_ete, al_dfn, Bool.not_eq_true', Bool.not_eq_false', al_ne, Bool.not_not, al_nn] at hb168p
                              have hgg : wv (m.argW f 0) < f.cb.length ∧ wv (m.argW f 0) < 512 := by have h := hqg (by simpa using hb168p); rw [hcbl]; exact h
                              refine W_skip ?_
                              refine thn_normal ?_
                              exact ⟨⟨rfl, rfl, rfl, rfl, rfl, rfl, trivial⟩, (by repeat (first | assumption | exact Ext.refl _ | refine Ext.alloc ?_ _ | refine Ext.drew ?_ | refine Ext.setB ?_ (by first | omega | (simp only [size_alloc, size_setB, size_drew]; omega)) _ | exact Ext.trans (by assumption) (by assumption) | refine Ext.trans ?_ (by assumption))), fun _ => hgg, fun _ _ => hgg⟩
                          · have hb163p := hb163.h; try simp only [al_ete, al_dfn, Bool.not_eq_true', Bool.not_eq_false', al_ne, Bool.not_not, al_nn] at hb163p
                            refine WO_guardF rfl rfl hb163.h ?_
                            refine WO_guardF rfl rfl hb163.h ?_
                            refine WO_guardF rfl rfl hb163.h ?_
                            refine WO_guardF rfl rfl hb163.h ?_
                            refine WO_guardF rfl rfl hb163.h ?_
                            refine WO_guardF rfl rfl hb163.h ?_
                            refine WO_p (PS_pickF rfl hb163.h rfl) ?_
                            refine WO_nil ?_
                            refine thn_normal ?_
                            refine W_condF rfl rfl ?_
                            refine W_skip ?_
                            refine thn_normal ?_
                            exact ⟨⟨rfl, rfl, rfl, rfl, rfl, rfl, trivial⟩, (by repeat (first | assumption | exact Ext.refl _ | refine Ext.alloc ?_ _ | refine Ext.drew ?_ | refine Ext.setB ?_ (by first | omega | (simp only [size_alloc, size_setB, size_drew]; omega)) _ | exact Ext.trans (by assumption) (by assumption) | refine Ext.trans ?_ (by assumption))), fun h => by omega, fun h hc => by omega⟩
                      · have hb149p := hb149.h; try simp only [al_ete, al_dfn, Bool.not_eq_true', Bool.not_eq_false', al_ne, Bool.not_not, al_nn] at hb149p
                        refine W_skip ?_
                        refine thn_normal ?_
                        exact ⟨⟨rfl, rfl, rfl, rfl, rfl, rfl, trivial⟩, (by repeat (first | assumption | exact Ext.refl _ | refine Ext.alloc ?_ _ | refine Ext.drew ?_ | refine Ext.setB ?_ (by first | omega | (simp only [size_alloc, size_setB, size_drew]; omega)) _ | exact Ext.trans (by assumption) (by assumption) | refine Ext.trans ?_ (by assumption))), fun h => by omega, fun h => by omega⟩
                  · rintro ρ wC ⟨hFr, hEC, hj1, hj2⟩
                    refine W_env _ hFr ?_
                    have hzC := hEC.1
                    have hMC := hM.ext hEC
                    have hblkC := hMC.vs.blk
                    refine W_seq ?_
                    refine W_region rfl ?_
                    refine WO_p (PS_move_ptr rfl) ?_
                    refine WO_p (PS_nilCheck rfl) ?_
                    refine WO_p (PS_fieldAddr 7 Hvad.runUnderlying65 rfl Hvad.sizeOf26 rfl rfl) ?_
                    refine WO_load (.int _ _) Hvad.isAgg26 rfl (Hb.h (by repeat (first | assumption | exact Hb.newY _ _ | refine Hb.alloc ?_ | refine Hb.drew ?_ | refine Hb.ext (by assumption) ?_ | exact Hb.setSameL (by first | omega | (simp only [size_alloc, size_setB, size_drew]; omega)) | exact Hb.setSame (by assumption) | refine Hb.set (by first | omega | (simp only [size_alloc, size_setB, size_drew]; omega)) ?_ ))) (Ce.h (by first | assumption | exact ⟨rfl⟩)) ?_
                    refine WO_p (PS_move_int rfl) ?_
                    refine WO_p (PS_sub_u64n rfl rfl (by omega) (by omega)) ?_
                    refine WO_p (PS_nilCheck rfl) ?_
                    refine WO_p (PS_fieldAddr 7 Hvad.runUnderlying65 rfl Hvad.sizeOf26 rfl rfl) ?_
                    refine WO_store1 Hvad.sizeOf26 rfl (v := (.int _ _)) rfl (Hb.h (by repeat (first | assumption | exact Hb.newY _ _ | refine Hb.alloc ?_ | refine Hb.drew ?_ | refine Hb.ext (by assumption) ?_ | exact Hb.setSameL (by first | omega | (simp only [size_alloc, size_setB, size_drew]; omega)) | exact Hb.setSame (by assumption) | refine Hb.set (by first | omega | (simp only [size_alloc, size_setB, size_drew]; omega)) ?_ ))) rfl (by first | omega | assumption | rfl | decide | exact Nat.le_refl _ | (simp only [size_ic, Value.cells]; omega) | simp) rfl ?_
                    refine WO_nil ?_
                    refine thn_normal ?_
                    refine W_seq ?_
                    refine W_seq ?_
                    obtain ⟨hM9, hS9⟩ := hMC.putF_gas hf (f.gas - cost) (by omega)
                    replace hS9 := (MStep.ext hEC).trans hS9
                    have hblk9 := hM9.vs.blk
                    have hT9 : MemT { m with frames := m.frames.set t { f with gas := f.gas - cost } } t lo n := ⟨hI.mtY, by omega, hlo, hhi, hlon, by show m.buf.2.1 ≤ 6000000; omega⟩
                    refine W_region rfl ?_
                    refine WO_p (PS_move_int rfl) ?_
                    refine WO_p (PS_move_int rfl) ?_
                    refine WO_p (PS_gtr rfl rfl) ?_
                    refine WO_p (PS_move_bool rfl) ?_
                    refine WO_if (t := 173) rfl (fun hb172 => ?_) (fun hb172 => ?_)
                    · have hb172p := hb172.h; try simp only [al_ete, al_dfn, Bool.not_eq_true', Bool.not_eq_false', al_ne, Bool.not_not, al_nn] at hb172p
                      refine WO_guardT rfl rfl hb172.h ?_
                      refine WO_p (PS_move_ptr rfl) ?_
                      refine WO_guardT rfl rfl hb172.h ?_
                      refine WO_p (PS_nilCheck rfl) ?_
                      refine WO_guardT rfl rfl hb172.h ?_
                      refine WO_p (PS_fieldAddr 1 Hvad.runUnderlying69 rfl Hvad.sizeOf57 rfl rfl) ?_
                      refine WO_guardT rfl rfl hb172.h ?_
                      refine WO_p (PS_move_int rfl) ?_
                      refine WO_guardT rfl rfl hb172.h ?_
                      refine WO_p (PS_conv_u32n Hvad.runUnderlying26 Hvad.runUnderlying54 rfl (by omega) (by omega)) ?_
                      refine WO_guardT rfl rfl hb172.h ?_
                      refine WO_call Hvad.call168 (by rfl) (Ret.mono (memGrow_spec C _ v B _ t lo n nw _ hM9 hT9 (by omega) (by omega)) ?_)
                      rintro _ w10 ⟨rfl, s10, hl10, hR10⟩
                      replace hl10 : s10.2.1 = max m.buf.2.1 (lo + 32 * nw) := hl10
                      obtain ⟨hpay, hgq⟩ := hI.pay hM.ty hf (c := cost) (buf' := s10) (base' := m.base.set (t + 1) ((lo + 32 * nw : Nat) : Int)) ⟨by omega, by omega⟩ (by omega) (Or.inr ⟨lo, nw, hlo, rfl, by omega, by omega, by rw [show (szOf m.base t + 31) / 32 = (n : Int) / 32 by omega]; have := hmd (by omega); omega⟩)
                      have hpc := hI.payc hM.ty hf (c := cost) (d := s + x) hsx (base' := m.base.set (t + 1) ((lo + 32 * nw : Nat) : Int)) (Or.inr ⟨lo, nw, hlo, rfl, by rw [show (szOf m.base t + 31) / 32 = (n : Int) / 32 by omega]; exact hmd (by omega)⟩)
                      obtain ⟨eb1, eb2⟩ := baseOf_set (b := m.base) (t := t) (x := ((lo + 32 * nw : Nat) : Int)) (by rw [hM.ty.base.1]; omega)
                      have eb3 := baseOf_some hlo
                      have hsz10 : 32 * (reachesW m f o).1 ≤ szOf (m.base.set (t + 1) ((lo + 32 * nw : Nat) : Int)) t := by unfold szOf; rw [eb1, eb2, eb3]; omega
                      refine WO_guardT rfl rfl hb172.h ?_
                      refine WO_p (PS_not rfl) ?_
                      refine WO_p (PS_pickT rfl hb172.h rfl) ?_
                      refine WO_nil ?_
                      refine thn_normal ?_
                      refine W_if rfl (fun hb176 => ?_) (fun hb176 => ?_)
                      · have hb176p := hb176.h; try simp only [al_ete, al_dfn, Bool.not_eq_true', Bool.not_eq_false', al_ne, Bool.not_not, al_nn] at hb176p
                        simp_all --END
                      · have hb176p := hb176.h; try simp only [al_ete, al_dfn, Bool.not_eq_true', Bool.not_eq_false', al_ne, Bool.not_not, al_nn] at hb176p
                        refine W_skip ?_
                        refine thn_normal ?_
                        refine W_seq ?_
                        refine W_region rfl ?_
                        refine WO_p (PS_assign_bool rfl) ?_
                        refine WO_nil ?_
                        refine thn_normal ?_
                        refine W_ret ?_
                        refine bodyQ_ret1 Hvad.results96 rfl (.bool _) rfl ?_
                        obtain ⟨c10, B10, hM10, hS10⟩ := hR10; exact Or.inr ⟨rfl, _, cost, ⟨_, _, hM10, hS9.trans hS10⟩, ⟨hpay, hset _, by omega, fun _ => ⟨x, ⟨hdyn.b0, hdyn.acc0, hdyn.acc1, hdyn.val, hdyn.sload, hdyn.sst, hdyn.dst⟩, hsx⟩, fun _ => ⟨hre, hsz10⟩, hcrd, hj1, hj2, fun _ => ⟨x, ⟨hdyn.b0, hdyn.acc0, hdyn.acc1, hdyn.val, hdyn.sload, hdyn.sst, hdyn.dst⟩, hsx, hpc⟩⟩, hgq⟩
                    · have hb172p := hb172.h; try simp only [al_ete, al_dfn, Bool.not_eq_true', Bool.not_eq_false', al_ne, Bool.not_not, al_nn] at hb172p
                      obtain ⟨hpay, hgq⟩ := hI.pay hM.ty hf (c := cost) (buf' := m.buf) (base' := m.base) ⟨by omega, by omega⟩ hbl0 (Or.inl ⟨rfl, rfl⟩)
                      have hpc := hI.payc hM.ty hf (c := cost) (d := s + x) hsx (base' := m.base) (Or.inl rfl)
                      refine WO_guardF rfl rfl hb172.h ?_
                      refine WO_guardF rfl rfl hb172.h ?_
                      refine WO_guardF rfl rfl hb172.h ?_
                      refine WO_guardF rfl rfl hb172.h ?_
                      refine WO_guardF rfl rfl hb172.h ?_
                      refine WO_guardF rfl rfl hb172.h ?_
                      refine WO_guardF rfl rfl hb172.h ?_
                      refine WO_p (PS_pickF rfl hb172.h rfl) ?_
                      refine WO_nil ?_
                      refine thn_normal ?_
                      refine W_condF rfl rfl ?_
                      refine W_skip ?_
                      refine thn_normal ?_
                      refine W_seq ?_
                      refine W_region rfl ?_
                      refine WO_p (PS_assign_bool rfl) ?_
                      refine WO_nil ?_
                      refine thn_normal ?_
                      refine W_ret ?_
                      refine bodyQ_ret1 Hvad.results96 rfl (.bool _) rfl ?_
                      exact Or.inr ⟨rfl, _, cost, ⟨_, _, hM9, hS9⟩, ⟨hpay, hset _, by omega, fun _ => ⟨x, ⟨hdyn.b0, hdyn.acc0, hdyn.acc1, hdyn.val, hdyn.sload, hdyn.sst, hdyn.dst⟩, hsx⟩, fun _ => ⟨hre, by show 32 * (reachesW m f o).1 ≤ szOf m.base t; omega⟩, hcrd, hj1, hj2, fun _ => ⟨x, ⟨hdyn.b0, hdyn.acc0, hdyn.acc1, hdyn.val, hdyn.sload, hdyn.sst, hdyn.dst⟩, hsx, hpc⟩⟩, hgq⟩
              · have hb120p := hb120.h; try simp only [al_ete, al_dfn, Bool.not_eq_true', Bool.not_eq_false', al_ne, Bool.not_not, al_nn] at hb120p
                refine WO_guardF rfl rfl hb120.h ?_
                refine WO_guardF rfl rfl hb120.h ?_
                refine WO_guardF rfl rfl hb120.h ?_
                refine WO_guardF rfl rfl hb120.h ?_
                refine WO_guardF rfl rfl hb120.h ?_
                refine WO_guardT rfl rfl hb116.h ?_
                refine WO_p (PS_pickF rfl hb120.h rfl) ?_
                refine WO_p (PS_pickF rfl hb116.h rfl) ?_
                refine WO_nil ?_
                refine thn_normal ?_
                refine W_condF rfl rfl ?_
                refine W_skip ?_
                refine thn_normal ?_
                refine W_seqJ (fun ρ w' => Fr [(0, .pointer (some ⟨C, 0, none⟩)), (7, .pointer (some ⟨C, 1803 + t * 65, none⟩)), (1, .int .u8 o), (8, .int .u64 (nw : Int)), (10, .int .u64 ((n : Int) / 32)), (11, .int .u64 cost)] ρ ∧ Ext w w' ∧ (o = 86 → wv (m.argW f 0) < f.cb.length ∧ wv (m.argW f 0) < 512) ∧ (o = 87 → ¬ wv (m.argW f 1) = 0 → wv (m.argW f 0) < f.cb.length ∧ wv (m.argW f 0) < 512)) ?_ ?_
                · skip
                  refine W_seq ?_
                  refine W_region rfl ?_
                  refine WO_p (PS_move_int rfl) ?_
                  refine WO_p (PS_eql rfl rfl) ?_
                  refine WO_p (PS_move_bool rfl) ?_
                  refine WO_if (t := 138) rfl (fun hb178 => ?_) (fun hb178 => ?_)
                  · have hb178p := hb178.h; try simp only [al_ete, al_dfn, Bool.not_eq_true', Bool.not_eq_false', al_ne, Bool.not_not, al_nn] at hb178p
                    refine WO_guardF rfl rfl hb178.h ?_
                    refine WO_guardF rfl rfl hb178.h ?_
                    refine WO_p (PS_pickT rfl hb178.h rfl) ?_
                    refine WO_nil ?_
                    refine thn_normal ?_
                    refine W_condT rfl rfl ?_
                    refine W_seq ?_
                    refine W_region rfl ?_
                    refine WO_p (PS_move_ptr rfl) ?_
                    refine WO_p (PS_move_ptr rfl) ?_
                    refine WO_call Hvad.call160 (by rfl) (Ret.mono (arg_spec C c v B m t f _ _ (MS.ext hM (by repeat (first | assumption | exact Ext.refl _ | refine Ext.alloc ?_ _ | refine Ext.drew ?_ | refine Ext.setB ?_ (by first | omega | (simp only [size_alloc, size_setB, size_drew]; omega)) _ | exact Ext.trans (by assumption) (by assumption) | refine Ext.trans ?_ (by assumption)))) hA (by omega)) ?_)
                    rintro _ w160_178 ⟨hE160_178, rfl⟩
                    have hz160_178 := hE160_178.1
                    try simp only [size_alloc, size_setB, size_drew] at hz160_178
                    refine WO_allocG Hvad.zeroValue59 ?_
                    intro b12 v12 hg12 hE12 hH12 hl12
                    try simp only [size_alloc, size_setB, size_drew] at hg12
                    have hzz12 := hE12.1
                    try simp only [size_alloc, size_setB, size_drew] at hzz12
                    replace hH12 : Hb v12 b12 (.cells (ic .u64 [0, 0, 0, 0]) 59 (0, 0)) := hH12
                    first | refine WO_storeW Hvad.sizeOf59 rfl (v := .agg _) rfl (Hb.h (by repeat (first | assumption | exact Hb.newY _ _ | refine Hb.alloc ?_ | refine Hb.drew ?_ | refine Hb.ext (by assumption) ?_ | exact Hb.setSameL (by first | omega | (simp only [size_alloc, size_setB, size_drew]; omega)) | exact Hb.setSame (by assumption) | refine Hb.set (by first | omega | (simp only [size_alloc, size_setB, size_drew]; omega)) ?_ ))) rfl (by first | omega | assumption | rfl | decide | exact Nat.le_refl _ | (simp only [size_ic, Value.cells]; omega) | simp) (by first | omega | assumption | rfl | decide | exact Nat.le_refl _ | (simp only [size_ic, Value.cells]; omega) | simp) (by first | exact oneCell_ic | assumption) ?_ | refine WO_store Hvad.sizeOf59 rfl (v := .agg _) rfl (Hb.h (by repeat (first | assumption | exact Hb.newY _ _ | refine Hb.alloc ?_ | refine Hb.drew ?_ | refine Hb.ext (by assumption) ?_ | exact Hb.setSameL (by first | omega | (simp only [size_alloc, size_setB, size_drew]; omega)) | exact Hb.setSame (by assumption) | refine Hb.set (by first | omega | (simp only [size_alloc, size_setB, size_drew]; omega)) ?_ ))) (by first | omega | assumption | rfl | decide | exact Nat.le_refl _ | (simp only [size_ic, Value.cells]; omega) | simp) (by first | omega | assumption | rfl | decide | exact Nat.le_refl _ | (simp only [size_ic, Value.cells]; omega) | simp) (by first | exact oneCell_ic | assumption) ?_
                    refine WO_nil ?_
                    refine thn_normal ?_
                    refine W_seq ?_
                    refine W_region rfl ?_
                    refine WO_p (PS_move_int rfl) ?_
                    refine WO_p (PS_eql rfl rfl) ?_
                    refine WO_p (PS_move_bool rfl) ?_
                    refine WO_if (t := 147) rfl (fun hb181 => ?_) (fun hb181 => ?_)
                    · have hb181p := hb181.h; try simp only [al_ete, al_dfn, Bool.not_eq_true', Bool.not_eq_false', al_ne, Bool.not_not, al_nn] at hb181p
                      refine WO_guardF rfl rfl hb181.h ?_
                      refine WO_guardF rfl rfl hb181.h ?_
                      refine WO_guardF rfl rfl hb181.h ?_
                      refine WO_p (PS_pickT rfl hb181.h rfl) ?_
                      refine WO_p (PS_move_bool rfl) ?_
                      refine WO_guardT rfl rfl rfl ?_
                      refine WO_p (PS_move_ptr rfl) ?_
                      refine WO_guardT rfl rfl rfl ?_
                      refine WO_p (PS_move_ptr rfl) ?_
                      refine WO_guardT rfl rfl rfl ?_
                      refine WO_p (PS_move_ptr rfl) ?_
                      refine WO_guardT rfl rfl rfl ?_
                      refine WO_call Hvad.call160 (by rfl) (Ret.mono (arg_spec C c v B m t f _ _ (MS.ext hM (by repeat (first | assumption | exact Ext.refl _ | refine Ext.alloc ?_ _ | refine Ext.drew ?_ | refine Ext.setB ?_ (by first | omega | (simp only [size_alloc, size_setB, size_drew]; omega)) _ | exact Ext.trans (by assumption) (by assumption) | refine Ext.trans ?_ (by assumption)))) hA (by omega)) ?_)
                      rintro _ w160_181 ⟨hE160_181, rfl⟩
                      have hz160_181 := hE160_181.1
                      try simp only [size_alloc, size_setB, size_drew] at hz160_181
                      refine WO_guardT rfl rfl rfl ?_
                      refine WO_call Hvad.call167 (by rfl) (Ret.mono (good_spec C c v B m t f _ _ (MS.ext hM (by repeat (first | assumption | exact Ext.refl _ | refine Ext.alloc ?_ _ | refine Ext.drew ?_ | refine Ext.setB ?_ (by first | omega | (simp only [size_alloc, size_setB, size_drew]; omega)) _ | exact Ext.trans (by assumption) (by assumption) | refine Ext.trans ?_ (by assumption)))) hA hw0 hcl) ?_)
                      rintro _ wg ⟨hEg, qg, rfl, hqg⟩
                      have hzg := hEg.1
                      try simp only [size_alloc, size_setB, size_drew] at hzg
                      refine WO_guardT rfl rfl rfl ?_
                      refine WO_p (PS_not rfl) ?_
                      refine WO_p (PS_pickT rfl rfl rfl) ?_
                      refine WO_nil ?_
                      refine thn_normal ?_
                      refine W_if rfl (fun hb186 => ?_) (fun hb186 => ?_)
                      · have hb186p := hb186.h; try simp only [al_ete, al_dfn, Bool.not_eq_true', Bool.not_eq_false', al_ne, Bool.not_not, al_nn] at hb186p
                        refine W_seq ?_
                        refine W_region rfl ?_
                        refine WO_p (PS_move_ptr rfl) ?_
                        refine WO_call Hvad.call93 (by rfl) (Ret.mono (fail_spec scan C c v B m t f 0 S _ _ (MS.ext hM (by repeat (first | assumption | exact Ext.refl _ | refine Ext.alloc ?_ _ | refine Ext.drew ?_ | refine Ext.setB ?_ (by first | omega | (simp only [size_alloc, size_setB, size_drew]; omega)) _ | exact Ext.trans (by assumption) (by assumption) | refine Ext.trans ?_ (by assumption)))) hf hI (by omega)) ?_)
                        rintro _ wq ⟨rfl, vq, mq, hRq, hPq⟩
                        replace hRq := MRet.pre (w := w) (by repeat (first | assumption | exact Ext.refl _ | refine Ext.alloc ?_ _ | refine Ext.drew ?_ | refine Ext.setB ?_ (by first | omega | (simp only [size_alloc, size_setB, size_drew]; omega)) _ | exact Ext.trans (by assumption) (by assumption) | refine Ext.trans ?_ (by assumption))) hRq
                        refine WO_p (PS_assign_bool rfl) ?_
                        refine WO_nil ?_
                        refine thn_normal ?_
                        refine W_ret ?_
                        refine thn_ret ?_
                        refine bodyQ_ret1 Hvad.results96 rfl (.bool _) rfl ?_
                        exact Or.inl ⟨rfl, vq, mq, hRq, hPq⟩
                      · have hb186p := hb186.h; try simp only [al_ete, al_dfn, Bool.not_eq_true', Bool.not_eq_false', al_ne, Bool.not_not, al_nn] at hb186p
                        have hgg : wv (m.argW f 0) < f.cb.length ∧ wv (m.argW f 0) < 512 := by have h := hqg (by simpa using hb186p); rw [hcbl]; exact h
                        refine W_skip ?_
                        refine thn_normal ?_
                        exact ⟨⟨rfl, rfl, rfl, rfl, rfl, rfl, trivial⟩, (by repeat (first | assumption | exact Ext.refl _ | refine Ext.alloc ?_ _ | refine Ext.drew ?_ | refine Ext.setB ?_ (by first | omega | (simp only [size_alloc, size_setB, size_drew]; omega)) _ | exact Ext.trans (by assumption) (by assumption) | refine Ext.trans ?_ (by assumption))), fun _ => hgg, fun _ _ => hgg⟩
                    · have hb181p := hb181.h; try simp only [al_ete, al_dfn, Bool.not_eq_true', Bool.not_eq_false', al_ne, Bool.not_not, al_nn] at hb181p
                      refine WO_guardT rfl rfl hb181.h ?_
                      refine WO_loadA _ Hvad.isAgg59 Hvad.sizeOf59 rfl (Hb.h (by repeat (first | assumption | exact Hb.newY _ _ | refine Hb.alloc ?_ | refine Hb.drew ?_ | refine Hb.ext (by assumption) ?_ | exact Hb.setSameL (by first | omega | (simp only [size_alloc, size_setB, size_drew]; omega)) | exact Hb.setSame (by assumption) | refine Hb.set (by first | omega | (simp only [size_alloc, size_setB, size_drew]; omega)) ?_ ))) (by first | omega | assumption | rfl | decide | exact Nat.le_refl _ | (simp only [size_ic, Value.cells]; omega) | simp) (Xt.h (by first | assumption | exact Xt.whole rfl rfl | exact Xt.whole rfl (by simp only [size_ic, Value.cells]; omega) | exact ⟨rfl⟩)) ?_
                      refine WO_guardT rfl rfl hb181.h ?_
                      refine WO_call Hvad.call131 (by rfl) (Ret.mono (isz_spec _ _ (by first | assumption | exact argW_wd hM.ty _ _ | exact Wd0)) ?_)
                      rintro _ w131_188 ⟨rfl, hE131_188⟩
                      have hz131_188 := hE131_188.1
                      try simp only [size_alloc, size_setB, size_drew] at hz131_188
                      refine WO_guardT rfl rfl hb181.h ?_
                      refine WO_p (PS_not rfl) ?_
                      refine WO_p (PS_pickF rfl hb181.h rfl) ?_
                      refine WO_p (PS_move_bool rfl) ?_
                      refine WO_if (t := 152) rfl (fun hb192 => ?_) (fun hb192 => ?_)
                      · have hb192p := hb192.h; try simp only [al_ete, al_dfn, Bool.not_eq_true', Bool.not_eq_false', al_ne, Bool.not_not, al_nn] at hb192p
                        refine WO_guardT rfl rfl hb192.h ?_
                        refine WO_p (PS_move_ptr rfl) ?_
                        refine WO_guardT rfl rfl hb192.h ?_
                        refine WO_p (PS_move_ptr rfl) ?_
                        refine WO_guardT rfl rfl hb192.h ?_
                        refine WO_p (PS_move_ptr rfl) ?_
                        refine WO_guardT rfl rfl hb192.h ?_
                        refine WO_call Hvad.call160 (by rfl) (Ret.mono (arg_spec C c v B m t f _ _ (MS.ext hM (by repeat (first | assumption | exact Ext.refl _ | refine Ext.alloc ?_ _ | refine Ext.drew ?_ | refine Ext.setB ?_ (by first | omega | (simp only [size_alloc, size_setB, size_drew]; omega)) _ | exact Ext.trans (by assumption) (by assumption) | refine Ext.trans ?_ (by assumption)))) hA (by omega)) ?_)
                        rintro _ w160_192 ⟨hE160_192, rfl⟩
                        have hz160_192 := hE160_192.1
                        try simp only [size_alloc, size_setB, size_drew] at hz160_192
                        refine WO_guardT rfl rfl hb192.h ?_
                        refine WO_call Hvad.call167 (by rfl) (Ret.mono (good_spec C c v B m t f _ _ (MS.ext hM (by repeat (first | assumption | exact Ext.refl _ | refine Ext.alloc ?_ _ | refine Ext.drew ?_ | refine Ext.setB ?_ (by first | omega | (simp only [size_alloc, size_setB, size_drew]; omega)) _ | exact Ext.trans (by assumption) (by assumption) | refine Ext.trans ?_ (by assumption)))) hA hw0 hcl) ?_)
                        rintro _ wg ⟨hEg, qg, rfl, hqg⟩
                        have hzg := hEg.1
                        try simp only [size_alloc, size_setB, size_drew] at hzg
                        refine WO_guardT rfl rfl hb192.h ?_
                        refine WO_p (PS_not rfl) ?_
                        refine WO_p (PS_pickT rfl hb192.h rfl) ?_
                        refine WO_nil ?_
                        refine thn_normal ?_
                        refine W_if rfl (fun hb197 => ?_) (fun hb197 => ?_)
                        · have hb197p := hb197.h; try simp only [al_ete, al_dfn, Bool.not_eq_true', Bool.not_eq_false', al_ne, Bool.not_not, al_nn] at hb197p
                          refine W_seq ?_
                          refine W_region rfl ?_
                          refine WO_p (PS_move_ptr rfl) ?_
                          refine WO_call Hvad.call93 (by rfl) (Ret.mono (fail_spec scan C c v B m t f 0 S _ _ (MS.ext hM (by repeat (first | assumption | exact Ext.refl _ | refine Ext.alloc ?_ _ | refine Ext.drew ?_ | refine Ext.setB ?_ (by first | omega | (simp only [size_alloc, size_setB, size_drew]; omega)) _ | exact Ext.trans (by assumption) (by assumption) | refine Ext.trans ?_ (by assumption)))) hf hI (by omega)) ?_)
                          rintro _ wq ⟨rfl, vq, mq, hRq, hPq⟩
                          replace hRq := MRet.pre (w := w) (by repeat (first | assumption | exact Ext.refl _ | refine Ext.alloc ?_ _ | refine Ext.drew ?_ | refine Ext.setB ?_ (by first | omega | (simp only [size_alloc, size_setB, size_drew]; omega)) _ | exact Ext.trans (by assumption) (by assumption) | refine Ext.trans ?_ (by assumption))) hRq
                          refine WO_p (PS_assign_bool rfl) ?_
                          refine WO_nil ?_
                          refine thn_normal ?_
                          refine W_ret ?_
                          refine thn_ret ?_
                          refine bodyQ_ret1 Hvad.results96 rfl (.bool _) rfl ?_
                          exact Or.inl ⟨rfl, vq, mq, hRq, hPq⟩
                        · have hb197p := hb197.h; try simp only [al_ete, al_dfn, Bool.not_eq_true', Bool.not_eq_false', al_ne, Bool.not_not, al_nn] at hb197p
                          have hgg : wv (m.argW f 0) < f.cb.length ∧ wv (m.argW f 0) < 512 := by have h := hqg (by simpa using hb197p); rw [hcbl]; exact h
                          refine W_skip ?_
                          refine thn_normal ?_
                          exact ⟨⟨rfl, rfl, rfl, rfl, rfl, rfl, trivial⟩, (by repeat (first | assumption | exact Ext.refl _ | refine Ext.alloc ?_ _ | refine Ext.drew ?_ | refine Ext.setB ?_ (by first | omega | (simp only [size_alloc, size_setB, size_drew]; omega)) _ | exact Ext.trans (by assumption) (by assumption) | refine Ext.trans ?_ (by assumption))), fun _ => hgg, fun _ _ => hgg⟩
                      · have hb192p := hb192.h; try simp only [al_ete, al_dfn, Bool.not_eq_true', Bool.not_eq_false', al_ne, Bool.not_not, al_nn] at hb192p
                        refine WO_guardF rfl rfl hb192.h ?_
                        refine WO_guardF rfl rfl hb192.h ?_
                        refine WO_guardF rfl rfl hb192.h ?_
                        refine WO_guardF rfl rfl hb192.h ?_
                        refine WO_guardF rfl rfl hb192.h ?_
                        refine WO_guardF rfl rfl hb192.h ?_
                        refine WO_p (PS_pickF rfl hb192.h rfl) ?_
                        refine WO_nil ?_
                        refine thn_normal ?_
                        refine W_condF rfl rfl ?_
                        refine W_skip ?_
                        refine thn_normal ?_
                        exact ⟨⟨rfl, rfl, rfl, rfl, rfl, rfl, trivial⟩, (by repeat (first | assumption | exact Ext.refl _ | refine Ext.alloc ?_ _ | refine Ext.drew ?_ | refine Ext.setB ?_ (by first | omega | (simp only [size_alloc, size_setB, size_drew]; omega)) _ | exact Ext.trans (by assumption) (by assumption) | refine Ext.trans ?_ (by assumption))), fun h => by omega, fun h hc => by omega⟩
                  · have hb178p := hb178.h; try simp only [al_ete, al_dfn, Bool.not_eq_true', Bool.not_eq_false', al_ne, Bool.not_not, al_nn] at hb178p
                    refine WO_guardT rfl rfl hb178.h ?_
                    refine WO_p (PS_move_int rfl) ?_
                    refine WO_guardT rfl rfl hb178.h ?_
                    refine WO_p (PS_eql rfl rfl) ?_
                    refine WO_p (PS_pickF rfl hb178.h rfl) ?_
                    refine WO_nil ?_
                    refine thn_normal ?_
                    refine W_if rfl (fun hb201 => ?_) (fun hb201 => ?_)
                    · have hb201p := hb201.h; try simp only [al_ete, al_dfn, Bool.not_eq_true', Bool.not_eq_false', al_ne, Bool.not_not, al_nn] at hb201p
                      refine W_seq ?_
                      refine W_region rfl ?_
                      refine WO_p (PS_move_ptr rfl) ?_
                      refine WO_p (PS_move_ptr rfl) ?_
                      refine WO_call Hvad.call160 (by rfl) (Ret.mono (arg_spec C c v B m t f _ _ (MS.ext hM (by repeat (first | assumption | exact Ext.refl _ | refine Ext.alloc ?_ _ | refine Ext.drew ?_ | refine Ext.setB ?_ (by first | omega | (simp only [size_alloc, size_setB, size_drew]; omega)) _ | exact Ext.trans (by assumption) (by assumption) | refine Ext.trans ?_ (by assumption)))) hA (by omega)) ?_)
                      rintro _ w160_201 ⟨hE160_201, rfl⟩
                      have hz160_201 := hE160_201.1
                      try simp only [size_alloc, size_setB, size_drew] at hz160_201
                      refine WO_allocG Hvad.zeroValue59 ?_
                      intro b12 v12 hg12 hE12 hH12 hl12
                      try simp only [size_alloc, size_setB, size_drew] at hg12
                      have hzz12 := hE12.1
                      try simp only [size_alloc, size_setB, size_drew] at hzz12
                      replace hH12 : Hb v12 b12 (.cells (ic .u64 [0, 0, 0, 0]) 59 (0, 0)) := hH12
                      first | refine WO_storeW Hvad.sizeOf59 rfl (v := .agg _) rfl (Hb.h (by repeat (first | assumption | exact Hb.newY _ _ | refine Hb.alloc ?_ | refine Hb.drew ?_ | refine Hb.ext (by assumption) ?_ | exact Hb.setSameL (by first | omega | (simp only [size_alloc, size_setB, size_drew]; omega)) | exact Hb.setSame (by assumption) | refine Hb.set (by first | omega | (simp only [size_alloc, size_setB, size_drew]; omega)) ?_ ))) rfl (by first | omega | assumption | rfl | decide | exact Nat.le_refl _ | (simp only [size_ic, Value.cells]; omega) | simp) (by first | omega | assumption | rfl | decide | exact Nat.le_refl _ | (simp only [size_ic, Value.cells]; omega) | simp) (by first | exact oneCell_ic | assumption) ?_ | refine WO_store Hvad.sizeOf59 rfl (v := .agg _) rfl (Hb.h (by repeat (first | assumption | exact Hb.newY _ _ | refine Hb.alloc ?_ | refine Hb.drew ?_ | refine Hb.ext (by assumption) ?_ | exact Hb.setSameL (by first | omega | (simp only [size_alloc, size_setB, size_drew]; omega)) | exact Hb.setSame (by assumption) | refine Hb.set (by first | omega | (simp only [size_alloc, size_setB, size_drew]; omega)) ?_ ))) (by first | omega | assumption | rfl | decide | exact Nat.le_refl _ | (simp only [size_ic, Value.cells]; omega) | simp) (by first | omega | assumption | rfl | decide | exact Nat.le_refl _ | (simp only [size_ic, Value.cells]; omega) | simp) (by first | exact oneCell_ic | assumption) ?_
                      refine WO_nil ?_
                      refine thn_normal ?_
                      refine W_seq ?_
                      refine W_region rfl ?_
                      refine WO_p (PS_move_int rfl) ?_
                      refine WO_p (PS_eql rfl rfl) ?_
                      refine WO_p (PS_move_bool rfl) ?_
                      refine WO_if (t := 147) rfl (fun hb204 => ?_) (fun hb204 => ?_)
                      · have hb204p := hb204.h; try simp only [al_ete, al_dfn, Bool.not_eq_true', Bool.not_eq_false', al_ne, Bool.not_not, al_nn] at hb204p
                        refine WO_guardF rfl rfl hb204.h ?_
                        refine WO_guardF rfl rfl hb204.h ?_
                        refine WO_guardF rfl rfl hb204.h ?_
                        refine WO_p (PS_pickT rfl hb204.h rfl) ?_
                        refine WO_p (PS_move_bool rfl) ?_
                        refine WO_guardT rfl rfl rfl ?_
                        refine WO_p (PS_move_ptr rfl) ?_
                        refine WO_guardT rfl rfl rfl ?_
                        refine WO_p (PS_move_ptr rfl) ?_
                        refine WO_guardT rfl rfl rfl ?_
                        refine WO_p (PS_move_ptr rfl) ?_
                        refine WO_guardT rfl rfl rfl ?_
                        refine WO_call Hvad.call160 (by rfl) (Ret.mono (arg_spec C c v B m t f _ _ (MS.ext hM (by repeat (first | assumption | exact Ext.refl _ | refine Ext.alloc ?_ _ | refine Ext.drew ?_ | refine Ext.setB ?_ (by first | omega | (simp only [size_alloc, size_setB, size_drew]; omega)) _ | exact Ext.trans (by assumption) (by assumption) | refine Ext.trans ?_ (by assumption)))) hA (by omega)) ?_)
                        rintro _ w160_204 ⟨hE160_204, rfl⟩
                        have hz160_204 := hE160_204.1
                        try simp only [size_alloc, size_setB, size_drew] at hz160_204
                        refine WO_guardT rfl rfl rfl ?_
                        refine WO_call Hvad.call167 (by rfl) (Ret.mono (good_spec C c v B m t f _ _ (MS.ext hM (by repeat (first | assumption | exact Ext.refl _ | refine Ext.alloc ?_ _ | refine Ext.drew ?_ | refine Ext.setB ?_ (by first | omega | (simp only [size_alloc, size_setB, size_drew]; omega)) _ | exact Ext.trans (by assumption) (by assumption) | refine Ext.trans ?_ (by assumption)))) hA hw0 hcl) ?_)
                        rintro _ wg ⟨hEg, qg, rfl, hqg⟩
                        have hzg := hEg.1
                        try simp only [size_alloc, size_setB, size_drew] at hzg
                        refine WO_guardT rfl rfl rfl ?_
                        refine WO_p (PS_not rfl) ?_
                        refine WO_p (PS_pickT rfl rfl rfl) ?_
                        refine WO_nil ?_
                        refine thn_normal ?_
                        refine W_if rfl (fun hb209 => ?_) (fun hb209 => ?_)
                        · have hb209p := hb209.h; try simp only [al_ete, al_dfn, Bool.not_eq_true', Bool.not_eq_false', al_ne, Bool.not_not, al_nn] at hb209p
                          refine W_seq ?_
                          refine W_region rfl ?_
                          refine WO_p (PS_move_ptr rfl) ?_
                          refine WO_call Hvad.call93 (by rfl) (Ret.mono (fail_spec scan C c v B m t f 0 S _ _ (MS.ext hM (by repeat (first | assumption | exact Ext.refl _ | refine Ext.alloc ?_ _ | refine Ext.drew ?_ | refine Ext.setB ?_ (by first | omega | (simp only [size_alloc, size_setB, size_drew]; omega)) _ | exact Ext.trans (by assumption) (by assumption) | refine Ext.trans ?_ (by assumption)))) hf hI (by omega)) ?_)
                          rintro _ wq ⟨rfl, vq, mq, hRq, hPq⟩
                          replace hRq := MRet.pre (w := w) (by repeat (first | assumption | exact Ext.refl _ | refine Ext.alloc ?_ _ | refine Ext.drew ?_ | refine Ext.setB ?_ (by first | omega | (simp only [size_alloc, size_setB, size_drew]; omega)) _ | exact Ext.trans (by assumption) (by assumption) | refine Ext.trans ?_ (by assumption))) hRq
                          refine WO_p (PS_assign_bool rfl) ?_
                          refine WO_nil ?_
                          refine thn_normal ?_
                          refine W_ret ?_
                          refine thn_ret ?_
                          refine bodyQ_ret1 Hvad.results96 rfl (.bool _) rfl ?_
                          exact Or.inl ⟨rfl, vq, mq, hRq, hPq⟩
                        · have hb209p := hb209.h; try simp only [al_ete, al_dfn, Bool.not_eq_true', Bool.not_eq_false', al_ne, Bool.not_not, al_nn] at hb209p
                          have hgg : wv (m.argW f 0) < f.cb.length ∧ wv (m.argW f 0) < 512 := by have h := hqg (by simpa using hb209p); rw [hcbl]; exact h
                          refine W_skip ?_
                          refine thn_normal ?_
                          exact ⟨⟨rfl, rfl, rfl, rfl, rfl, rfl, trivial⟩, (by repeat (first | assumption | exact Ext.refl _ | refine Ext.alloc ?_ _ | refine Ext.drew ?_ | refine Ext.setB ?_ (by first | omega | (simp only [size_alloc, size_setB, size_drew]; omega)) _ | exact Ext.trans (by assumption) (by assumption) | refine Ext.trans ?_ (by assumption))), fun _ => hgg, fun _ _ => hgg⟩
                      · have hb204p := hb204.h; try simp only [al_ete, al_dfn, Bool.not_eq_true', Bool.not_eq_false', al_ne, Bool.not_not, al_nn] at hb204p
                        refine WO_guardT rfl rfl hb204.h ?_
                        refine WO_loadA _ Hvad.isAgg59 Hvad.sizeOf59 rfl (Hb.h (by repeat (first | assumption | exact Hb.newY _ _ | refine Hb.alloc ?_ | refine Hb.drew ?_ | refine Hb.ext (by assumption) ?_ | exact Hb.setSameL (by first | omega | (simp only [size_alloc, size_setB, size_drew]; omega)) | exact Hb.setSame (by assumption) | refine Hb.set (by first | omega | (simp only [size_alloc, size_setB, size_drew]; omega)) ?_ ))) (by first | omega | assumption | rfl | decide | exact Nat.le_refl _ | (simp only [size_ic, Value.cells]; omega) | simp) (Xt.h (by first | assumption | exact Xt.whole rfl rfl | exact Xt.whole rfl (by simp only [size_ic, Value.cells]; omega) | exact ⟨rfl⟩)) ?_
                        refine WO_guardT rfl rfl hb204.h ?_
                        refine WO_call Hvad.call131 (by rfl) (Ret.mono (isz_spec _ _ (by first | assumption | exact argW_wd hM.ty _ _ | exact Wd0)) ?_)
                        rintro _ w131_211 ⟨rfl, hE131_211⟩
                        have hz131_211 := hE131_211.1
                        try simp only [size_alloc, size_setB, size_drew] at hz131_211
                        refine WO_guardT rfl rfl hb204.h ?_
                        refine WO_p (PS_not rfl) ?_
                        refine WO_p (PS_pickF rfl hb204.h rfl) ?_
                        refine WO_p (PS_move_bool rfl) ?_
                        refine WO_if (t := 152) rfl (fun hb215 => ?_) (fun hb215 => ?_)
                        · have hb215p := hb215.h; try simp only [al_ete, al_dfn, Bool.not_eq_true', Bool.not_eq_false', al_ne, Bool.not_not, al_nn] at hb215p
                          refine WO_guardT rfl rfl hb215.h ?_
                          refine WO_p (PS_move_ptr rfl) ?_
                          refine WO_guardT rfl rfl hb215.h ?_
                          refine WO_p (PS_move_ptr rfl) ?_
                          refine WO_guardT rfl rfl hb215.h ?_
                          refine WO_p (PS_move_ptr rfl) ?_
                          refine WO_guardT rfl rfl hb215.h ?_
                          refine WO_call Hvad.call160 (by rfl) (Ret.mono (arg_spec C c v B m t f _ _ (MS.ext hM (by repeat (first | assumption | exact Ext.refl _ | refine Ext.alloc ?_ _ | refine Ext.drew ?_ | refine Ext.setB ?_ (by first | omega | (simp only [size_alloc, size_setB, size_drew]; omega)) _ | exact Ext.trans (by assumption) (by assumption) | refine Ext.trans ?_ (by assumption)))) hA (by omega)) ?_)
                          rintro _ w160_215 ⟨hE160_215, rfl⟩
                          have hz160_215 := hE160_215.1
                          try simp only [size_alloc, size_setB, size_drew] at hz160_215
                          refine WO_guardT rfl rfl hb215.h ?_
                          refine WO_call Hvad.call167 (by rfl) (Ret.mono (good_spec C c v B m t f _ _ (MS.ext hM (by repeat (first | assumption | exact Ext.refl _ | refine Ext.alloc ?_ _ | refine Ext.drew ?_ | refine Ext.setB ?_ (by first | omega | (simp only [size_alloc, size_setB, size_drew]; omega)) _ | exact Ext.trans (by assumption) (by assumption) | refine Ext.trans ?_ (by assumption)))) hA hw0 hcl) ?_)
                          rintro _ wg ⟨hEg, qg, rfl, hqg⟩
                          have hzg := hEg.1
                          try simp only [size_alloc, size_setB, size_drew] at hzg
                          refine WO_guardT rfl rfl hb215.h ?_
                          refine WO_p (PS_not rfl) ?_
                          refine WO_p (PS_pickT rfl hb215.h rfl) ?_
                          refine WO_nil ?_
                          refine thn_normal ?_
                          refine W_if rfl (fun hb220 => ?_) (fun hb220 => ?_)
                          · have hb220p := hb220.h; try simp only [al_ete, al_dfn, Bool.not_eq_true', Bool.not_eq_false', al_ne, Bool.not_not, al_nn] at hb220p
                            refine W_seq ?_
                            refine W_region rfl ?_
                            refine WO_p (PS_move_ptr rfl) ?_
                            refine WO_call Hvad.call93 (by rfl) (Ret.mono (fail_spec scan C c v B m t f 0 S _ _ (MS.ext hM (by repeat (first | assumption | exact Ext.refl _ | refine Ext.alloc ?_ _ | refine Ext.drew ?_ | refine Ext.setB ?_ (by first | omega | (simp only [size_alloc, size_setB, size_drew]; omega)) _ | exact Ext.trans (by assumption) (by assumption) | refine Ext.trans ?_ (by assumption)))) hf hI (by omega)) ?_)
                            rintro _ wq ⟨rfl, vq, mq, hRq, hPq⟩
                            replace hRq := MRet.pre (w := w) (by repeat (first | assumption | exact Ext.refl _ | refine Ext.alloc ?_ _ | refine Ext.drew ?_ | refine Ext.setB ?_ (by first | omega | (simp only [size_alloc, size_setB, size_drew]; omega)) _ | exact Ext.trans (by assumption) (by assumption) | refine Ext.trans ?_ (by assumption))) hRq
                            refine WO_p (PS_assign_bool rfl) ?_
                            refine WO_nil ?_
                            refine thn_normal ?_
                            refine W_ret ?_
                            refine thn_ret ?_
                            refine bodyQ_ret1 Hvad.results96 rfl (.bool _) rfl ?_
                            exact Or.inl ⟨rfl, vq, mq, hRq, hPq⟩
                          · have hb220p := hb220.h; try simp only [al_ete, al_dfn, Bool.not_eq_true', Bool.not_eq_false', al_ne, Bool.not_not, al_nn] at hb220p
                            have hgg : wv (m.argW f 0) < f.cb.length ∧ wv (m.argW f 0) < 512 := by have h := hqg (by simpa using hb220p); rw [hcbl]; exact h
                            refine W_skip ?_
                            refine thn_normal ?_
                            exact ⟨⟨rfl, rfl, rfl, rfl, rfl, rfl, trivial⟩, (by repeat (first | assumption | exact Ext.refl _ | refine Ext.alloc ?_ _ | refine Ext.drew ?_ | refine Ext.setB ?_ (by first | omega | (simp only [size_alloc, size_setB, size_drew]; omega)) _ | exact Ext.trans (by assumption) (by assumption) | refine Ext.trans ?_ (by assumption))), fun _ => hgg, fun _ _ => hgg⟩
                        · have hb215p := hb215.h; try simp only [al_ete, al_dfn, Bool.not_eq_true', Bool.not_eq_false', al_ne, Bool.not_not, al_nn] at hb215p
                          refine WO_guardF rfl rfl hb215.h ?_
                          refine WO_guardF rfl rfl hb215.h ?_
                          refine WO_guardF rfl rfl hb215.h ?_
                          refine WO_guardF rfl rfl hb215.h ?_
                          refine WO_guardF rfl rfl hb215.h ?_
                          refine WO_guardF rfl rfl hb215.h ?_
                          refine WO_p (PS_pickF rfl hb215.h rfl) ?_
                          refine WO_nil ?_
                          refine thn_normal ?_
                          refine W_condF rfl rfl ?_
                          refine W_skip ?_
                          refine thn_normal ?_
                          exact ⟨⟨rfl, rfl, rfl, rfl, rfl, rfl, trivial⟩, (by repeat (first | assumption | exact Ext.refl _ | refine Ext.alloc ?_ _ | refine Ext.drew ?_ | refine Ext.setB ?_ (by first | omega | (simp only [size_alloc, size_setB, size_drew]; omega)) _ | exact Ext.trans (by assumption) (by assumption) | refine Ext.trans ?_ (by assumption))), fun h => by omega, fun h hc => by omega⟩
                    · have hb201p := hb201.h; try simp only [al_ete, al_dfn, Bool.not_eq_true', Bool.not_eq_false', al_ne, Bool.not_not, al_nn] at hb201p
                      refine W_skip ?_
                      refine thn_normal ?_
                      exact ⟨⟨rfl, rfl, rfl, rfl, rfl, rfl, trivial⟩, (by repeat (first | assumption | exact Ext.refl _ | refine Ext.alloc ?_ _ | refine Ext.drew ?_ | refine Ext.setB ?_ (by first | omega | (simp only [size_alloc, size_setB, size_drew]; omega)) _ | exact Ext.trans (by assumption) (by assumption) | refine Ext.trans ?_ (by assumption))), fun h => by omega, fun h => by omega⟩
                · rintro ρ wC ⟨hFr, hEC, hj1, hj2⟩
                  refine W_env _ hFr ?_
                  have hzC := hEC.1
                  have hMC := hM.ext hEC
                  have hblkC := hMC.vs.blk
                  refine W_seq ?_
                  refine W_region rfl ?_
                  refine WO_p (PS_move_ptr rfl) ?_
                  refine WO_p (PS_nilCheck rfl) ?_
                  refine WO_p (PS_fieldAddr 7 Hvad.runUnderlying65 rfl Hvad.sizeOf26 rfl rfl) ?_
                  refine WO_load (.int _ _) Hvad.isAgg26 rfl (Hb.h (by repeat (first | assumption | exact Hb.newY _ _ | refine Hb.alloc ?_ | refine Hb.drew ?_ | refine Hb.ext (by assumption) ?_ | exact Hb.setSameL (by first | omega | (simp only [size_alloc, size_setB, size_drew]; omega)) | exact Hb.setSame (by assumption) | refine Hb.set (by first | omega | (simp only [size_alloc, size_setB, size_drew]; omega)) ?_ ))) (Ce.h (by first | assumption | exact ⟨rfl⟩)) ?_
                  refine WO_p (PS_move_int rfl) ?_
                  refine WO_p (PS_sub_u64n rfl rfl (by omega) (by omega)) ?_
                  refine WO_p (PS_nilCheck rfl) ?_
                  refine WO_p (PS_fieldAddr 7 Hvad.runUnderlying65 rfl Hvad.sizeOf26 rfl rfl) ?_
                  refine WO_store1 Hvad.sizeOf26 rfl (v := (.int _ _)) rfl (Hb.h (by repeat (first | assumption | exact Hb.newY _ _ | refine Hb.alloc ?_ | refine Hb.drew ?_ | refine Hb.ext (by assumption) ?_ | exact Hb.setSameL (by first | omega | (simp only [size_alloc, size_setB, size_drew]; omega)) | exact Hb.setSame (by assumption) | refine Hb.set (by first | omega | (simp only [size_alloc, size_setB, size_drew]; omega)) ?_ ))) rfl (by first | omega | assumption | rfl | decide | exact Nat.le_refl _ | (simp only [size_ic, Value.cells]; omega) | simp) rfl ?_
                  refine WO_nil ?_
                  refine thn_normal ?_
                  refine W_seq ?_
                  refine W_seq ?_
                  obtain ⟨hM9, hS9⟩ := hMC.putF_gas hf (f.gas - cost) (by omega)
                  replace hS9 := (MStep.ext hEC).trans hS9
                  have hblk9 := hM9.vs.blk
                  have hT9 : MemT { m with frames := m.frames.set t { f with gas := f.gas - cost } } t lo n := ⟨hI.mtY, by omega, hlo, hhi, hlon, by show m.buf.2.1 ≤ 6000000; omega⟩
                  refine W_region rfl ?_
                  refine WO_p (PS_move_int rfl) ?_
                  refine WO_p (PS_move_int rfl) ?_
                  refine WO_p (PS_gtr rfl rfl) ?_
                  refine WO_p (PS_move_bool rfl) ?_
                  refine WO_if (t := 173) rfl (fun hb224 => ?_) (fun hb224 => ?_)
                  · have hb224p := hb224.h; try simp only [al_ete, al_dfn, Bool.not_eq_true', Bool.not_eq_false', al_ne, Bool.not_not, al_nn] at hb224p
                    refine WO_guardT rfl rfl hb224.h ?_
                    refine WO_p (PS_move_ptr rfl) ?_
                    refine WO_guardT rfl rfl hb224.h ?_
                    refine WO_p (PS_nilCheck rfl) ?_
                    refine WO_guardT rfl rfl hb224.h ?_
                    refine WO_p (PS_fieldAddr 1 Hvad.runUnderlying69 rfl Hvad.sizeOf57 rfl rfl) ?_
                    refine WO_guardT rfl rfl hb224.h ?_
                    refine WO_p (PS_move_int rfl) ?_
                    refine WO_guardT rfl rfl hb224.h ?_
                    refine WO_p (PS_conv_u32n Hvad.runUnderlying26 Hvad.runUnderlying54 rfl (by omega) (by omega)) ?_
                    refine WO_guardT rfl rfl hb224.h ?_
                    refine WO_call Hvad.call168 (by rfl) (Ret.mono (memGrow_spec C _ v B _ t lo n nw _ hM9 hT9 (by omega) (by omega)) ?_)
                    rintro _ w10 ⟨rfl, s10, hl10, hR10⟩
                    replace hl10 : s10.2.1 = max m.buf.2.1 (lo + 32 * nw) := hl10
                    obtain ⟨hpay, hgq⟩ := hI.pay hM.ty hf (c := cost) (buf' := s10) (base' := m.base.set (t + 1) ((lo + 32 * nw : Nat) : Int)) ⟨by omega, by omega⟩ (by omega) (Or.inr ⟨lo, nw, hlo, rfl, by omega, by omega, by rw [show (szOf m.base t + 31) / 32 = (n : Int) / 32 by omega]; have := hmd (by omega); omega⟩)
                    have hpc := hI.payc hM.ty hf (c := cost) (d := s + x) hsx (base' := m.base.set (t + 1) ((lo + 32 * nw : Nat) : Int)) (Or.inr ⟨lo, nw, hlo, rfl, by rw [show (szOf m.base t + 31) / 32 = (n : Int) / 32 by omega]; exact hmd (by omega)⟩)
                    obtain ⟨eb1, eb2⟩ := baseOf_set (b := m.base) (t := t) (x := ((lo + 32 * nw : Nat) : Int)) (by rw [hM.ty.base.1]; omega)
                    have eb3 := baseOf_some hlo
                    have hsz10 : 32 * (reachesW m f o).1 ≤ szOf (m.base.set (t + 1) ((lo + 32 * nw : Nat) : Int)) t := by unfold szOf; rw [eb1, eb2, eb3]; omega
                    refine WO_guardT rfl rfl hb224.h ?_
                    refine WO_p (PS_not rfl) ?_
                    refine WO_p (PS_pickT rfl hb224.h rfl) ?_
                    refine WO_nil ?_
                    refine thn_normal ?_
                    refine W_if rfl (fun hb228 => ?_) (fun hb228 => ?_)
                    · have hb228p := hb228.h; try simp only [al_ete, al_dfn, Bool.not_eq_true', Bool.not_eq_false', al_ne, Bool.not_not, al_nn] at hb228p
                      simp_all --END
                    · have hb228p := hb228.h; try simp only [al_ete, al_dfn, Bool.not_eq_true', Bool.not_eq_false', al_ne, Bool.not_not, al_nn] at hb228p
                      refine W_skip ?_
                      refine thn_normal ?_
                      refine W_seq ?_
                      refine W_region rfl ?_
                      refine WO_p (PS_assign_bool rfl) ?_
                      refine WO_nil ?_
                      refine thn_normal ?_
                      refine W_ret ?_
                      refine bodyQ_ret1 Hvad.results96 rfl (.bool _) rfl ?_
                      obtain ⟨c10, B10, hM10, hS10⟩ := hR10; exact Or.inr ⟨rfl, _, cost, ⟨_, _, hM10, hS9.trans hS10⟩, ⟨hpay, hset _, by omega, fun _ => ⟨x, ⟨hdyn.b0, hdyn.acc0, hdyn.acc1, hdyn.val, hdyn.sload, hdyn.sst, hdyn.dst⟩, hsx⟩, fun _ => ⟨hre, hsz10⟩, hcrd, hj1, hj2, fun _ => ⟨x, ⟨hdyn.b0, hdyn.acc0, hdyn.acc1, hdyn.val, hdyn.sload, hdyn.sst, hdyn.dst⟩, hsx, hpc⟩⟩, hgq⟩
                  · have hb224p := hb224.h; try simp only [al_ete, al_dfn, Bool.not_eq_true', Bool.not_eq_false', al_ne, Bool.not_not, al_nn] at hb224p
                    obtain ⟨hpay, hgq⟩ := hI.pay hM.ty hf (c := cost) (buf' := m.buf) (base' := m.base) ⟨by omega, by omega⟩ hbl0 (Or.inl ⟨rfl, rfl⟩)
                    have hpc := hI.payc hM.ty hf (c := cost) (d := s + x) hsx (base' := m.base) (Or.inl rfl)
                    refine WO_guardF rfl rfl hb224.h ?_
                    refine WO_guardF rfl rfl hb224.h ?_
                    refine WO_guardF rfl rfl hb224.h ?_
                    refine WO_guardF rfl rfl hb224.h ?_
                    refine WO_guardF rfl rfl hb224.h ?_
                    refine WO_guardF rfl rfl hb224.h ?_
                    refine WO_guardF rfl rfl hb224.h ?_
                    refine WO_p (PS_pickF rfl hb224.h rfl) ?_
                    refine WO_nil ?_
                    refine thn_normal ?_
                    refine W_condF rfl rfl ?_
                    refine W_skip ?_
                    refine thn_normal ?_
                    refine W_seq ?_
                    refine W_region rfl ?_
                    refine WO_p (PS_assign_bool rfl) ?_
                    refine WO_nil ?_
                    refine thn_normal ?_
                    refine W_ret ?_
                    refine bodyQ_ret1 Hvad.results96 rfl (.bool _) rfl ?_
                    exact Or.inr ⟨rfl, _, cost, ⟨_, _, hM9, hS9⟩, ⟨hpay, hset _, by omega, fun _ => ⟨x, ⟨hdyn.b0, hdyn.acc0, hdyn.acc1, hdyn.val, hdyn.sload, hdyn.sst, hdyn.dst⟩, hsx⟩, fun _ => ⟨hre, by show 32 * (reachesW m f o).1 ≤ szOf m.base t; omega⟩, hcrd, hj1, hj2, fun _ => ⟨x, ⟨hdyn.b0, hdyn.acc0, hdyn.acc1, hdyn.val, hdyn.sload, hdyn.sst, hdyn.dst⟩, hsx, hpc⟩⟩, hgq⟩

end Go.Proofs.YgvadwGreat
