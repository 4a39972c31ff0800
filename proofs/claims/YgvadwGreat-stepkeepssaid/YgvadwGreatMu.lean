import Derived.Test.YgvadwGreatMt
import Derived.Test.YgvadwGreatFwQ
namespace Go.Proofs.YgvadwGreat
set_option linter.unusedSimpArgs false
set_option linter.unusedVariables false
/-- an instruction's row: what it takes and gives, its fixed gas, and whether it is one -/
def infoW (o : Int) : Int × Int × Int × Bool :=
  if 96 ≤ o ∧ o ≤ 127 then (0, 1, 3, true) else if 128 ≤ o ∧ o ≤ 143 then (o - 128 + 1, o - 128 + 2, 3, true) else if 144 ≤ o ∧ o ≤ 159 then (o - 144 + 2, o - 144 + 2, 3, true)
  else if 160 ≤ o ∧ o ≤ 164 then (o - 160 + 2, 0, 375 * (o - 160 + 1), true)
  else if o = 0 then (0, 0, 0, true) else if o = 91 then (0, 0, 1, true)
  else if o = 48 ∨ o = 50 ∨ o = 51 ∨ o = 52 ∨ o = 54 ∨ o = 56 ∨ o = 58 ∨ o = 61 ∨ o = 65 ∨ o = 66 ∨ o = 67 ∨ o = 68 ∨ o = 69 ∨ o = 70 ∨ o = 72 ∨ o = 88 ∨ o = 89 ∨ o = 90 ∨ o = 95 then (0, 1, 2, true)
  else if o = 71 then (0, 1, 5, true)
  else if o = 1 ∨ o = 3 ∨ o = 16 ∨ o = 17 ∨ o = 18 ∨ o = 19 ∨ o = 20 ∨ o = 22 ∨ o = 23 ∨ o = 24 ∨ o = 26 ∨ o = 27 ∨ o = 28 ∨ o = 29 then (2, 1, 3, true)
  else if o = 2 ∨ o = 4 ∨ o = 5 ∨ o = 6 ∨ o = 7 ∨ o = 11 then (2, 1, 5, true) else if o = 10 then (2, 1, 10, true) else if o = 32 then (2, 1, 30, true)
  else if o = 8 ∨ o = 9 then (3, 1, 8, true) else if o = 21 ∨ o = 25 ∨ o = 53 ∨ o = 81 then (1, 1, 3, true)
  else if o = 49 ∨ o = 59 ∨ o = 63 ∨ o = 84 then (1, 1, 0, true) else if o = 92 then (1, 1, 100, true) else if o = 93 then (2, 0, 100, true)
  else if o = 255 then (1, 0, 5000, true) else if o = 64 then (1, 1, 20, true) else if o = 80 then (1, 0, 2, true) else if o = 86 then (1, 0, 8, true)
  else if o = 87 then (2, 0, 10, true) else if o = 82 ∨ o = 83 then (2, 0, 3, true) else if o = 85 ∨ o = 243 ∨ o = 253 then (2, 0, 0, true)
  else if o = 55 ∨ o = 57 ∨ o = 62 ∨ o = 94 then (3, 0, 3, true) else if o = 60 then (4, 0, 0, true)
  else if o = 240 then (3, 1, 32000, true) else if o = 245 then (4, 1, 32000, true) else if o = 241 ∨ o = 242 then (7, 1, 0, true) else if o = 244 ∨ o = 250 then (6, 1, 0, true)
  else (0, 0, 0, false)
theorem accW_bd (v : V) (A : List Int) : accW v A = 100 ∨ accW v A = 2600 := by unfold accW; split <;> simp
theorem reach_len {W X : List Int} (h : (reachW W X).2 = true) : wv X ≤ 717280 := by
  unfold reachW at h
  split at h
  · omega
  · split at h
    · omega
    · cases h
theorem and_l {a b : Bool} (h : (a && b) = true) : a = true := by cases a <;> simp_all
theorem lenA {m : Mc} {f : Fm} {o : Int} (hre : (reachesW m f o).2 = true) (ho : o = 32 ∨ o = 243 ∨ o = 253 ∨ (160 ≤ o ∧ o ≤ 164)) : wv (m.argW f 1) ≤ 717280 := by
  unfold reachesW at hre; rw [if_pos ho] at hre; exact reach_len hre
theorem lenB {m : Mc} {f : Fm} {o : Int} (hre : (reachesW m f o).2 = true) (ho : o = 55 ∨ o = 57 ∨ o = 62) : wv (m.argW f 2) ≤ 717280 := by
  unfold reachesW at hre; rw [if_neg (by omega), if_pos ho] at hre; exact reach_len hre
theorem lenC {m : Mc} {f : Fm} {o : Int} (hre : (reachesW m f o).2 = true) (ho : o = 60) : wv (m.argW f 3) ≤ 717280 := by
  unfold reachesW at hre; rw [if_neg (by omega), if_neg (by omega), if_pos ho] at hre; exact reach_len hre
theorem lenD {m : Mc} {f : Fm} {o : Int} (hre : (reachesW m f o).2 = true) (ho : o = 94) : wv (m.argW f 2) ≤ 717280 := by
  unfold reachesW at hre; rw [if_neg (by omega), if_neg (by omega), if_neg (by omega), if_neg (by omega), if_neg (by omega), if_pos ho] at hre; exact reach_len (and_l hre)
theorem lenE {m : Mc} {f : Fm} {o : Int} (hre : (reachesW m f o).2 = true) (ho : o = 240 ∨ o = 245) : wv (m.argW f 2) ≤ 717280 := by
  unfold reachesW at hre; rw [if_neg (by omega), if_neg (by omega), if_neg (by omega), if_neg (by omega), if_neg (by omega), if_neg (by omega), if_pos ho] at hre; exact reach_len hre
theorem lenX_spec (W : List Int) (w : World) (hW : Wd W) (h : wv W ≤ 717280) : Ret Hvad.prog 244 #[.agg (ic .u64 W)] w fun u w' => Ext w w' ∧ ∃ x, u = .int .u64 x ∧ 0 ≤ x ∧ x ≤ 717280 := by
  have := wv_bd hW
  refine Ret.mono (length_spec W w hW) ?_
  rintro _ w1 ⟨hE, rfl⟩
  exact ⟨hE, _, rfl, by unfold lengthW; rw [if_pos (by omega)]; omega, by unfold lengthW; rw [if_pos (by omega)]; omega⟩
structure DynR (m : Mc) (v : V) (f : Fm) (o x : Int) : Prop where
  b0 : 0 ≤ x ∧ x ≤ 100000000
  acc0 : (o = 49 ∨ o = 59 ∨ o = 63 ∨ o = 60) → accW v (addrW (m.argW f 0)) ≤ x
  acc1 : (o = 241 ∨ o = 242 ∨ o = 244 ∨ o = 250) → accW v (addrW (m.argW f 1)) ≤ x
  val : (o = 241 ∨ o = 242) → ¬ wv (m.argW f 2) = 0 → accW v (addrW (m.argW f 1)) + 9000 ≤ x
  sload : o = 84 → x = if v.isWarmS f.self (m.argW f 0) = true then 100 else 2100
  sst : o = 85 → x = (sstoreW (v.sorig f.self (m.argW f 0)) (v.sval f.self (m.argW f 0)) (m.argW f 1) (!v.isWarmS f.self (m.argW f 0))).1
  dst : o = 255 → v.isWarmA (addrW (m.argW f 0)) = false → 2600 ≤ x
theorem get_ty {v : V} (h : VTy v) {A : List Int} {x : Acct} (hg : v.get A = some x) : AcctTy x := by
  unfold V.get at hg
  split at hg
  · exact h.accts x (List.mem_of_getElem? hg)
  · cases hg
theorem getS_ty {v : V} (h : VTy v) {A K : List Int} {x : Slot} (hg : v.getS A K = some x) : SlotTy x := by
  unfold V.getS at hg
  split at hg
  · exact h.slots x (List.mem_of_getElem? hg)
  · cases hg
theorem bal_wd {v : V} (h : VTy v) (A : List Int) : Wd (v.bal A) := by
  unfold V.bal; cases hg : v.get A with
  | none => exact Wd0
  | some x => exact (get_ty h hg).2.2
theorem nonce_bd {v : V} (h : VTy v) (A : List Int) : 0 ≤ v.nonce A ∧ v.nonce A ≤ 18446744073709551615 := by
  unfold V.nonce; cases hg : v.get A with
  | none => exact ⟨Int.le_refl _, by show (0:Int) ≤ _; decide⟩
  | some x => exact (get_ty h hg).2.1
theorem sval_wd {v : V} (h : VTy v) (A K : List Int) : Wd (v.sval A K) := by
  unfold V.sval; cases hg : v.getS A K with
  | none => exact Wd0
  | some x => exact (getS_ty h hg).2.2.1
theorem sorig_wd {v : V} (h : VTy v) (A K : List Int) : Wd (v.sorig A K) := by
  unfold V.sorig; cases hg : v.getS A K with
  | none => exact Wd0
  | some x => exact (getS_ty h hg).2.2.2
theorem sstoreW_bd (o v n : List Int) (c : Bool) : 100 ≤ (sstoreW o v n c).1 ∧ (sstoreW o v n c).1 ≤ 22100 := by
  unfold sstoreW
  cases c <;> (split <;> try split) <;> (try split) <;> simp

set_option maxRecDepth 10000 in
set_option maxHeartbeats 2000000 in
theorem info_spec (o : Int) (w : World) (ho : 0 ≤ o ∧ o ≤ 255) : Ret Hvad.prog 50 #[.int .u8 o] w fun u w' => Ext w w' ∧ u = .tuple #[.int .u8 (infoW o).1, .int .u8 (infoW o).2.1, .int .u16 (infoW o).2.2.1, .bool (infoW o).2.2.2] := by
  refine Ret_of_W Hvad.func50 rfl rfl ?_
  refine W_seq ?_
  refine W_region rfl ?_
  refine WO_p (PS_assign_int rfl) ?_
  refine WO_p (PS_assign_int rfl) ?_
  refine WO_p (PS_assign_int rfl) ?_
  refine WO_p (PS_assign_bool rfl) ?_
  refine WO_nil ?_
  refine thn_normal ?_
  refine W_seqJ (fun ρ w' => w' = w ∧ Fr [(0, .int .u8 o)] ρ ∧ (o < 96 ∨ 164 < o)) ?_ ?_
  · skip
    refine W_block ?_
    refine W_seq ?_
    refine W_region rfl ?_
    refine WO_p (PS_move_int rfl) ?_
    refine WO_p (PS_geq rfl rfl) ?_
    refine WO_p (PS_move_bool rfl) ?_
    refine WO_if (t := 9) rfl (fun hb2 => ?_) (fun hb2 => ?_)
    · have hb2p := hb2.h; try simp only [al_ete, al_dfn, Bool.not_eq_true', Bool.not_eq_false', al_ne, Bool.not_not, al_nn] at hb2p
      refine WO_guardT rfl rfl hb2.h ?_
      refine WO_p (PS_move_int rfl) ?_
      refine WO_guardT rfl rfl hb2.h ?_
      refine WO_p (PS_leq rfl rfl) ?_
      refine WO_p (PS_pickT rfl hb2.h rfl) ?_
      refine WO_p (PS_assign_bool rfl) ?_
      refine WO_nil ?_
      refine thn_normal ?_
      refine W_if rfl (fun hb4 => ?_) (fun hb4 => ?_)
      · have hb4p := hb4.h; try simp only [al_ete, al_dfn, Bool.not_eq_true', Bool.not_eq_false', al_ne, Bool.not_not, al_nn] at hb4p
        refine W_seq ?_
        refine W_region rfl ?_
        refine WO_p (PS_assign_int rfl) ?_
        refine WO_p (PS_assign_int rfl) ?_
        refine WO_p (PS_assign_int rfl) ?_
        refine WO_p (PS_assign_bool rfl) ?_
        refine WO_nil ?_
        refine thn_normal ?_
        refine W_ret ?_
        refine inBlk_ret ?_
        refine thn_ret ?_
        refine bodyQ_ret4 Hvad.results50 rfl rfl rfl rfl (.int _ _) (.int _ _) (.int _ _) (.bool _) rfl rfl rfl rfl ?_
        first
        | (exfalso; omega)
        | (refine ⟨(by repeat (first | assumption | exact Ext.refl _ | refine Ext.alloc ?_ _ | refine Ext.drew ?_ | refine Ext.setB ?_ (by first | omega | (simp only [size_alloc, size_setB, size_drew]; omega)) _ | refine Ext.trans ?_ (by assumption))), ?_⟩; rw [show o = _ from by assumption]; rfl)
        | (refine ⟨(by repeat (first | assumption | exact Ext.refl _ | refine Ext.alloc ?_ _ | refine Ext.drew ?_ | refine Ext.setB ?_ (by first | omega | (simp only [size_alloc, size_setB, size_drew]; omega)) _ | refine Ext.trans ?_ (by assumption))), ?_⟩; unfold infoW; rw [if_pos (by omega)])
        | (refine ⟨(by repeat (first | assumption | exact Ext.refl _ | refine Ext.alloc ?_ _ | refine Ext.drew ?_ | refine Ext.setB ?_ (by first | omega | (simp only [size_alloc, size_setB, size_drew]; omega)) _ | refine Ext.trans ?_ (by assumption))), ?_⟩; unfold infoW; rw [if_neg (by omega), if_pos (by omega)])
        | (refine ⟨(by repeat (first | assumption | exact Ext.refl _ | refine Ext.alloc ?_ _ | refine Ext.drew ?_ | refine Ext.setB ?_ (by first | omega | (simp only [size_alloc, size_setB, size_drew]; omega)) _ | refine Ext.trans ?_ (by assumption))), ?_⟩; unfold infoW; rw [if_neg (by omega), if_neg (by omega), if_pos (by omega)])
        | (refine ⟨(by repeat (first | assumption | exact Ext.refl _ | refine Ext.alloc ?_ _ | refine Ext.drew ?_ | refine Ext.setB ?_ (by first | omega | (simp only [size_alloc, size_setB, size_drew]; omega)) _ | refine Ext.trans ?_ (by assumption))), ?_⟩; unfold infoW; rw [if_neg (by omega), if_neg (by omega), if_neg (by omega), if_pos (by omega)])
        | (refine ⟨(by repeat (first | assumption | exact Ext.refl _ | refine Ext.alloc ?_ _ | refine Ext.drew ?_ | refine Ext.setB ?_ (by first | omega | (simp only [size_alloc, size_setB, size_drew]; omega)) _ | refine Ext.trans ?_ (by assumption))), ?_⟩; unfold infoW; repeat rw [if_neg (by omega)])
      · have hb4p := hb4.h; try simp only [al_ete, al_dfn, Bool.not_eq_true', Bool.not_eq_false', al_ne, Bool.not_not, al_nn] at hb4p
        refine W_seq ?_
        refine W_region rfl ?_
        refine WO_p (PS_move_int rfl) ?_
        refine WO_p (PS_geq rfl rfl) ?_
        refine WO_p (PS_move_bool rfl) ?_
        refine WO_if (t := 16) rfl (fun hb6 => ?_) (fun hb6 => ?_)
        · have hb6p := hb6.h; try simp only [al_ete, al_dfn, Bool.not_eq_true', Bool.not_eq_false', al_ne, Bool.not_not, al_nn] at hb6p
          refine WO_guardT rfl rfl hb6.h ?_
          refine WO_p (PS_move_int rfl) ?_
          refine WO_guardT rfl rfl hb6.h ?_
          refine WO_p (PS_leq rfl rfl) ?_
          refine WO_p (PS_pickT rfl hb6.h rfl) ?_
          refine WO_p (PS_assign_bool rfl) ?_
          refine WO_nil ?_
          refine thn_normal ?_
          refine W_if rfl (fun hb8 => ?_) (fun hb8 => ?_)
          · have hb8p := hb8.h; try simp only [al_ete, al_dfn, Bool.not_eq_true', Bool.not_eq_false', al_ne, Bool.not_not, al_nn] at hb8p
            refine W_seq ?_
            refine W_region rfl ?_
            refine WO_p (PS_move_int rfl) ?_
            refine WO_p (PS_sub_u8n rfl rfl (by omega) (by omega)) ?_
            refine WO_p (PS_add_u8n rfl rfl (by omega) (by omega)) ?_
            refine WO_p (PS_move_int rfl) ?_
            refine WO_p (PS_sub_u8n rfl rfl (by omega) (by omega)) ?_
            refine WO_p (PS_add_u8n rfl rfl (by omega) (by omega)) ?_
            refine WO_p (PS_assign_int rfl) ?_
            refine WO_p (PS_assign_int rfl) ?_
            refine WO_p (PS_assign_int rfl) ?_
            refine WO_p (PS_assign_bool rfl) ?_
            refine WO_nil ?_
            refine thn_normal ?_
            refine W_ret ?_
            refine inBlk_ret ?_
            refine thn_ret ?_
            refine bodyQ_ret4 Hvad.results50 rfl rfl rfl rfl (.int _ _) (.int _ _) (.int _ _) (.bool _) rfl rfl rfl rfl ?_
            first
            | (exfalso; omega)
            | (refine ⟨(by repeat (first | assumption | exact Ext.refl _ | refine Ext.alloc ?_ _ | refine Ext.drew ?_ | refine Ext.setB ?_ (by first | omega | (simp only [size_alloc, size_setB, size_drew]; omega)) _ | refine Ext.trans ?_ (by assumption))), ?_⟩; rw [show o = _ from by assumption]; rfl)
            | (refine ⟨(by repeat (first | assumption | exact Ext.refl _ | refine Ext.alloc ?_ _ | refine Ext.drew ?_ | refine Ext.setB ?_ (by first | omega | (simp only [size_alloc, size_setB, size_drew]; omega)) _ | refine Ext.trans ?_ (by assumption))), ?_⟩; unfold infoW; rw [if_pos (by omega)])
            | (refine ⟨(by repeat (first | assumption | exact Ext.refl _ | refine Ext.alloc ?_ _ | refine Ext.drew ?_ | refine Ext.setB ?_ (by first | omega | (simp only [size_alloc, size_setB, size_drew]; omega)) _ | refine Ext.trans ?_ (by assumption))), ?_⟩; unfold infoW; rw [if_neg (by omega), if_pos (by omega)])
            | (refine ⟨(by repeat (first | assumption | exact Ext.refl _ | refine Ext.alloc ?_ _ | refine Ext.drew ?_ | refine Ext.setB ?_ (by first | omega | (simp only [size_alloc, size_setB, size_drew]; omega)) _ | refine Ext.trans ?_ (by assumption))), ?_⟩; unfold infoW; rw [if_neg (by omega), if_neg (by omega), if_pos (by omega)])
            | (refine ⟨(by repeat (first | assumption | exact Ext.refl _ | refine Ext.alloc ?_ _ | refine Ext.drew ?_ | refine Ext.setB ?_ (by first | omega | (simp only [size_alloc, size_setB, size_drew]; omega)) _ | refine Ext.trans ?_ (by assumption))), ?_⟩; unfold infoW; rw [if_neg (by omega), if_neg (by omega), if_neg (by omega), if_pos (by omega)])
            | (refine ⟨(by repeat (first | assumption | exact Ext.refl _ | refine Ext.alloc ?_ _ | refine Ext.drew ?_ | refine Ext.setB ?_ (by first | omega | (simp only [size_alloc, size_setB, size_drew]; omega)) _ | refine Ext.trans ?_ (by assumption))), ?_⟩; unfold infoW; repeat rw [if_neg (by omega)])
          · have hb8p := hb8.h; try simp only [al_ete, al_dfn, Bool.not_eq_true', Bool.not_eq_false', al_ne, Bool.not_not, al_nn] at hb8p
            refine W_seq ?_
            refine W_region rfl ?_
            refine WO_p (PS_move_int rfl) ?_
            refine WO_p (PS_geq rfl rfl) ?_
            refine WO_p (PS_move_bool rfl) ?_
            refine WO_if (t := 29) rfl (fun hb10 => ?_) (fun hb10 => ?_)
            · have hb10p := hb10.h; try simp only [al_ete, al_dfn, Bool.not_eq_true', Bool.not_eq_false', al_ne, Bool.not_not, al_nn] at hb10p
              refine WO_guardT rfl rfl hb10.h ?_
              refine WO_p (PS_move_int rfl) ?_
              refine WO_guardT rfl rfl hb10.h ?_
              refine WO_p (PS_leq rfl rfl) ?_
              refine WO_p (PS_pickT rfl hb10.h rfl) ?_
              refine WO_p (PS_assign_bool rfl) ?_
              refine WO_nil ?_
              refine thn_normal ?_
              refine W_if rfl (fun hb12 => ?_) (fun hb12 => ?_)
              · have hb12p := hb12.h; try simp only [al_ete, al_dfn, Bool.not_eq_true', Bool.not_eq_false', al_ne, Bool.not_not, al_nn] at hb12p
                refine W_seq ?_
                refine W_region rfl ?_
                refine WO_p (PS_move_int rfl) ?_
                refine WO_p (PS_sub_u8n rfl rfl (by omega) (by omega)) ?_
                refine WO_p (PS_add_u8n rfl rfl (by omega) (by omega)) ?_
                refine WO_p (PS_move_int rfl) ?_
                refine WO_p (PS_sub_u8n rfl rfl (by omega) (by omega)) ?_
                refine WO_p (PS_add_u8n rfl rfl (by omega) (by omega)) ?_
                refine WO_p (PS_assign_int rfl) ?_
                refine WO_p (PS_assign_int rfl) ?_
                refine WO_p (PS_assign_int rfl) ?_
                refine WO_p (PS_assign_bool rfl) ?_
                refine WO_nil ?_
                refine thn_normal ?_
                refine W_ret ?_
                refine inBlk_ret ?_
                refine thn_ret ?_
                refine bodyQ_ret4 Hvad.results50 rfl rfl rfl rfl (.int _ _) (.int _ _) (.int _ _) (.bool _) rfl rfl rfl rfl ?_
                first
                | (exfalso; omega)
                | (refine ⟨(by repeat (first | assumption | exact Ext.refl _ | refine Ext.alloc ?_ _ | refine Ext.drew ?_ | refine Ext.setB ?_ (by first | omega | (simp only [size_alloc, size_setB, size_drew]; omega)) _ | refine Ext.trans ?_ (by assumption))), ?_⟩; rw [show o = _ from by assumption]; rfl)
                | (refine ⟨(by repeat (first | assumption | exact Ext.refl _ | refine Ext.alloc ?_ _ | refine Ext.drew ?_ | refine Ext.setB ?_ (by first | omega | (simp only [size_alloc, size_setB, size_drew]; omega)) _ | refine Ext.trans ?_ (by assumption))), ?_⟩; unfold infoW; rw [if_pos (by omega)])
                | (refine ⟨(by repeat (first | assumption | exact Ext.refl _ | refine Ext.alloc ?_ _ | refine Ext.drew ?_ | refine Ext.setB ?_ (by first | omega | (simp only [size_alloc, size_setB, size_drew]; omega)) _ | refine Ext.trans ?_ (by assumption))), ?_⟩; unfold infoW; rw [if_neg (by omega), if_pos (by omega)])
                | (refine ⟨(by repeat (first | assumption | exact Ext.refl _ | refine Ext.alloc ?_ _ | refine Ext.drew ?_ | refine Ext.setB ?_ (by first | omega | (simp only [size_alloc, size_setB, size_drew]; omega)) _ | refine Ext.trans ?_ (by assumption))), ?_⟩; unfold infoW; rw [if_neg (by omega), if_neg (by omega), if_pos (by omega)])
                | (refine ⟨(by repeat (first | assumption | exact Ext.refl _ | refine Ext.alloc ?_ _ | refine Ext.drew ?_ | refine Ext.setB ?_ (by first | omega | (simp only [size_alloc, size_setB, size_drew]; omega)) _ | refine Ext.trans ?_ (by assumption))), ?_⟩; unfold infoW; rw [if_neg (by omega), if_neg (by omega), if_neg (by omega), if_pos (by omega)])
                | (refine ⟨(by repeat (first | assumption | exact Ext.refl _ | refine Ext.alloc ?_ _ | refine Ext.drew ?_ | refine Ext.setB ?_ (by first | omega | (simp only [size_alloc, size_setB, size_drew]; omega)) _ | refine Ext.trans ?_ (by assumption))), ?_⟩; unfold infoW; repeat rw [if_neg (by omega)])
              · have hb12p := hb12.h; try simp only [al_ete, al_dfn, Bool.not_eq_true', Bool.not_eq_false', al_ne, Bool.not_not, al_nn] at hb12p
                refine W_seq ?_
                refine W_region rfl ?_
                refine WO_p (PS_move_int rfl) ?_
                refine WO_p (PS_geq rfl rfl) ?_
                refine WO_p (PS_move_bool rfl) ?_
                refine WO_if (t := 42) rfl (fun hb14 => ?_) (fun hb14 => ?_)
                · have hb14p := hb14.h; try simp only [al_ete, al_dfn, Bool.not_eq_true', Bool.not_eq_false', al_ne, Bool.not_not, al_nn] at hb14p
                  refine WO_guardT rfl rfl hb14.h ?_
                  refine WO_p (PS_move_int rfl) ?_
                  refine WO_guardT rfl rfl hb14.h ?_
                  refine WO_p (PS_leq rfl rfl) ?_
                  refine WO_p (PS_pickT rfl hb14.h rfl) ?_
                  refine WO_p (PS_assign_bool rfl) ?_
                  refine WO_nil ?_
                  refine thn_normal ?_
                  refine W_if rfl (fun hb16 => ?_) (fun hb16 => ?_)
                  · have hb16p := hb16.h; try simp only [al_ete, al_dfn, Bool.not_eq_true', Bool.not_eq_false', al_ne, Bool.not_not, al_nn] at hb16p
                    refine W_seq ?_
                    refine W_region rfl ?_
                    refine WO_p (PS_move_int rfl) ?_
                    refine WO_p (PS_sub_u8n rfl rfl (by omega) (by omega)) ?_
                    refine WO_p (PS_add_u8n rfl rfl (by omega) (by omega)) ?_
                    refine WO_p (PS_move_int rfl) ?_
                    refine WO_p (PS_sub_u8n rfl rfl (by omega) (by omega)) ?_
                    refine WO_p (PS_conv_u16n Hvad.runUnderlying5 Hvad.runUnderlying61 rfl (by omega) (by omega)) ?_
                    refine WO_p (PS_add_u16n rfl rfl (by omega) (by omega)) ?_
                    refine WO_p (PS_mul_u16n rfl rfl (by omega) (by omega)) ?_
                    refine WO_p (PS_assign_int rfl) ?_
                    refine WO_p (PS_assign_int rfl) ?_
                    refine WO_p (PS_assign_int rfl) ?_
                    refine WO_p (PS_assign_bool rfl) ?_
                    refine WO_nil ?_
                    refine thn_normal ?_
                    refine W_ret ?_
                    refine inBlk_ret ?_
                    refine thn_ret ?_
                    refine bodyQ_ret4 Hvad.results50 rfl rfl rfl rfl (.int _ _) (.int _ _) (.int _ _) (.bool _) rfl rfl rfl rfl ?_
                    first
                    | (exfalso; omega)
                    | (refine ⟨(by repeat (first | assumption | exact Ext.refl _ | refine Ext.alloc ?_ _ | refine Ext.drew ?_ | refine Ext.setB ?_ (by first | omega | (simp only [size_alloc, size_setB, size_drew]; omega)) _ | refine Ext.trans ?_ (by assumption))), ?_⟩; rw [show o = _ from by assumption]; rfl)
                    | (refine ⟨(by repeat (first | assumption | exact Ext.refl _ | refine Ext.alloc ?_ _ | refine Ext.drew ?_ | refine Ext.setB ?_ (by first | omega | (simp only [size_alloc, size_setB, size_drew]; omega)) _ | refine Ext.trans ?_ (by assumption))), ?_⟩; unfold infoW; rw [if_pos (by omega)])
                    | (refine ⟨(by repeat (first | assumption | exact Ext.refl _ | refine Ext.alloc ?_ _ | refine Ext.drew ?_ | refine Ext.setB ?_ (by first | omega | (simp only [size_alloc, size_setB, size_drew]; omega)) _ | refine Ext.trans ?_ (by assumption))), ?_⟩; unfold infoW; rw [if_neg (by omega), if_pos (by omega)])
                    | (refine ⟨(by repeat (first | assumption | exact Ext.refl _ | refine Ext.alloc ?_ _ | refine Ext.drew ?_ | refine Ext.setB ?_ (by first | omega | (simp only [size_alloc, size_setB, size_drew]; omega)) _ | refine Ext.trans ?_ (by assumption))), ?_⟩; unfold infoW; rw [if_neg (by omega), if_neg (by omega), if_pos (by omega)])
                    | (refine ⟨(by repeat (first | assumption | exact Ext.refl _ | refine Ext.alloc ?_ _ | refine Ext.drew ?_ | refine Ext.setB ?_ (by first | omega | (simp only [size_alloc, size_setB, size_drew]; omega)) _ | refine Ext.trans ?_ (by assumption))), ?_⟩; unfold infoW; rw [if_neg (by omega), if_neg (by omega), if_neg (by omega), if_pos (by omega)])
                    | (refine ⟨(by repeat (first | assumption | exact Ext.refl _ | refine Ext.alloc ?_ _ | refine Ext.drew ?_ | refine Ext.setB ?_ (by first | omega | (simp only [size_alloc, size_setB, size_drew]; omega)) _ | refine Ext.trans ?_ (by assumption))), ?_⟩; unfold infoW; repeat rw [if_neg (by omega)])
                  · have hb16p := hb16.h; try simp only [al_ete, al_dfn, Bool.not_eq_true', Bool.not_eq_false', al_ne, Bool.not_not, al_nn] at hb16p
                    refine W_skip ?_
                    refine inBlk_normal ?_
                    refine thn_normal ?_
                    exact ⟨rfl, ⟨rfl, trivial⟩, by omega⟩
                · have hb14p := hb14.h; try simp only [al_ete, al_dfn, Bool.not_eq_true', Bool.not_eq_false', al_ne, Bool.not_not, al_nn] at hb14p
                  refine WO_guardF rfl rfl hb14.h ?_
                  refine WO_guardF rfl rfl hb14.h ?_
                  refine WO_p (PS_pickF rfl hb14.h rfl) ?_
                  refine WO_p (PS_assign_bool rfl) ?_
                  refine WO_nil ?_
                  refine thn_normal ?_
                  refine W_condF rfl rfl ?_
                  refine W_skip ?_
                  refine inBlk_normal ?_
                  refine thn_normal ?_
                  exact ⟨rfl, ⟨rfl, trivial⟩, by omega⟩
            · have hb10p := hb10.h; try simp only [al_ete, al_dfn, Bool.not_eq_true', Bool.not_eq_false', al_ne, Bool.not_not, al_nn] at hb10p
              refine WO_guardF rfl rfl hb10.h ?_
              refine WO_guardF rfl rfl hb10.h ?_
              refine WO_p (PS_pickF rfl hb10.h rfl) ?_
              refine WO_p (PS_assign_bool rfl) ?_
              refine WO_nil ?_
              refine thn_normal ?_
              refine W_condF rfl rfl ?_
              refine W_seq ?_
              refine W_region rfl ?_
              refine WO_p (PS_move_int rfl) ?_
              refine WO_p (PS_geq rfl rfl) ?_
              refine WO_p (PS_move_bool rfl) ?_
              refine WO_if (t := 42) rfl (fun hb18 => ?_) (fun hb18 => ?_)
              · have hb18p := hb18.h; try simp only [al_ete, al_dfn, Bool.not_eq_true', Bool.not_eq_false', al_ne, Bool.not_not, al_nn] at hb18p
                refine WO_guardT rfl rfl hb18.h ?_
                refine WO_p (PS_move_int rfl) ?_
                refine WO_guardT rfl rfl hb18.h ?_
                refine WO_p (PS_leq rfl rfl) ?_
                refine WO_p (PS_pickT rfl hb18.h rfl) ?_
                refine WO_p (PS_assign_bool rfl) ?_
                refine WO_nil ?_
                refine thn_normal ?_
                refine W_if rfl (fun hb20 => ?_) (fun hb20 => ?_)
                · have hb20p := hb20.h; try simp only [al_ete, al_dfn, Bool.not_eq_true', Bool.not_eq_false', al_ne, Bool.not_not, al_nn] at hb20p
                  refine W_seq ?_
                  refine W_region rfl ?_
                  refine WO_p (PS_move_int rfl) ?_
                  refine WO_p (PS_sub_u8n rfl rfl (by omega) (by omega)) ?_
                  refine WO_p (PS_add_u8n rfl rfl (by omega) (by omega)) ?_
                  refine WO_p (PS_move_int rfl) ?_
                  refine WO_p (PS_sub_u8n rfl rfl (by omega) (by omega)) ?_
                  refine WO_p (PS_conv_u16n Hvad.runUnderlying5 Hvad.runUnderlying61 rfl (by omega) (by omega)) ?_
                  refine WO_p (PS_add_u16n rfl rfl (by omega) (by omega)) ?_
                  refine WO_p (PS_mul_u16n rfl rfl (by omega) (by omega)) ?_
                  refine WO_p (PS_assign_int rfl) ?_
                  refine WO_p (PS_assign_int rfl) ?_
                  refine WO_p (PS_assign_int rfl) ?_
                  refine WO_p (PS_assign_bool rfl) ?_
                  refine WO_nil ?_
                  refine thn_normal ?_
                  refine W_ret ?_
                  refine inBlk_ret ?_
                  refine thn_ret ?_
                  refine bodyQ_ret4 Hvad.results50 rfl rfl rfl rfl (.int _ _) (.int _ _) (.int _ _) (.bool _) rfl rfl rfl rfl ?_
                  first
                  | (exfalso; omega)
                  | (refine ⟨(by repeat (first | assumption | exact Ext.refl _ | refine Ext.alloc ?_ _ | refine Ext.drew ?_ | refine Ext.setB ?_ (by first | omega | (simp only [size_alloc, size_setB, size_drew]; omega)) _ | refine Ext.trans ?_ (by assumption))), ?_⟩; rw [show o = _ from by assumption]; rfl)
                  | (refine ⟨(by repeat (first | assumption | exact Ext.refl _ | refine Ext.alloc ?_ _ | refine Ext.drew ?_ | refine Ext.setB ?_ (by first | omega | (simp only [size_alloc, size_setB, size_drew]; omega)) _ | refine Ext.trans ?_ (by assumption))), ?_⟩; unfold infoW; rw [if_pos (by omega)])
                  | (refine ⟨(by repeat (first | assumption | exact Ext.refl _ | refine Ext.alloc ?_ _ | refine Ext.drew ?_ | refine Ext.setB ?_ (by first | omega | (simp only [size_alloc, size_setB, size_drew]; omega)) _ | refine Ext.trans ?_ (by assumption))), ?_⟩; unfold infoW; rw [if_neg (by omega), if_pos (by omega)])
                  | (refine ⟨(by repeat (first | assumption | exact Ext.refl _ | refine Ext.alloc ?_ _ | refine Ext.drew ?_ | refine Ext.setB ?_ (by first | omega | (simp only [size_alloc, size_setB, size_drew]; omega)) _ | refine Ext.trans ?_ (by assumption))), ?_⟩; unfold infoW; rw [if_neg (by omega), if_neg (by omega), if_pos (by omega)])
                  | (refine ⟨(by repeat (first | assumption | exact Ext.refl _ | refine Ext.alloc ?_ _ | refine Ext.drew ?_ | refine Ext.setB ?_ (by first | omega | (simp only [size_alloc, size_setB, size_drew]; omega)) _ | refine Ext.trans ?_ (by assumption))), ?_⟩; unfold infoW; rw [if_neg (by omega), if_neg (by omega), if_neg (by omega), if_pos (by omega)])
                  | (refine ⟨(by repeat (first | assumption | exact Ext.refl _ | refine Ext.alloc ?_ _ | refine Ext.drew ?_ | refine Ext.setB ?_ (by first | omega | (simp only [size_alloc, size_setB, size_drew]; omega)) _ | refine Ext.trans ?_ (by assumption))), ?_⟩; unfold infoW; repeat rw [if_neg (by omega)])
                · have hb20p := hb20.h; try simp only [al_ete, al_dfn, Bool.not_eq_true', Bool.not_eq_false', al_ne, Bool.not_not, al_nn] at hb20p
                  refine W_skip ?_
                  refine inBlk_normal ?_
                  refine thn_normal ?_
                  exact ⟨rfl, ⟨rfl, trivial⟩, by omega⟩
              · have hb18p := hb18.h; try simp only [al_ete, al_dfn, Bool.not_eq_true', Bool.not_eq_false', al_ne, Bool.not_not, al_nn] at hb18p
                refine WO_guardF rfl rfl hb18.h ?_
                refine WO_guardF rfl rfl hb18.h ?_
                refine WO_p (PS_pickF rfl hb18.h rfl) ?_
                refine WO_p (PS_assign_bool rfl) ?_
                refine WO_nil ?_
                refine thn_normal ?_
                refine W_condF rfl rfl ?_
                refine W_skip ?_
                refine inBlk_normal ?_
                refine thn_normal ?_
                exact ⟨rfl, ⟨rfl, trivial⟩, by omega⟩
        · have hb6p := hb6.h; try simp only [al_ete, al_dfn, Bool.not_eq_true', Bool.not_eq_false', al_ne, Bool.not_not, al_nn] at hb6p
          refine WO_guardF rfl rfl hb6.h ?_
          refine WO_guardF rfl rfl hb6.h ?_
          refine WO_p (PS_pickF rfl hb6.h rfl) ?_
          refine WO_p (PS_assign_bool rfl) ?_
          refine WO_nil ?_
          refine thn_normal ?_
          refine W_condF rfl rfl ?_
          refine W_seq ?_
          refine W_region rfl ?_
          refine WO_p (PS_move_int rfl) ?_
          refine WO_p (PS_geq rfl rfl) ?_
          refine WO_p (PS_move_bool rfl) ?_
          refine WO_if (t := 29) rfl (fun hb22 => ?_) (fun hb22 => ?_)
          · have hb22p := hb22.h; try simp only [al_ete, al_dfn, Bool.not_eq_true', Bool.not_eq_false', al_ne, Bool.not_not, al_nn] at hb22p
            refine WO_guardT rfl rfl hb22.h ?_
            refine WO_p (PS_move_int rfl) ?_
            refine WO_guardT rfl rfl hb22.h ?_
            refine WO_p (PS_leq rfl rfl) ?_
            refine WO_p (PS_pickT rfl hb22.h rfl) ?_
            refine WO_p (PS_assign_bool rfl) ?_
            refine WO_nil ?_
            refine thn_normal ?_
            refine W_if rfl (fun hb24 => ?_) (fun hb24 => ?_)
            · have hb24p := hb24.h; try simp only [al_ete, al_dfn, Bool.not_eq_true', Bool.not_eq_false', al_ne, Bool.not_not, al_nn] at hb24p
              refine W_seq ?_
              refine W_region rfl ?_
              refine WO_p (PS_move_int rfl) ?_
              refine WO_p (PS_sub_u8n rfl rfl (by omega) (by omega)) ?_
              refine WO_p (PS_add_u8n rfl rfl (by omega) (by omega)) ?_
              refine WO_p (PS_move_int rfl) ?_
              refine WO_p (PS_sub_u8n rfl rfl (by omega) (by omega)) ?_
              refine WO_p (PS_add_u8n rfl rfl (by omega) (by omega)) ?_
              refine WO_p (PS_assign_int rfl) ?_
              refine WO_p (PS_assign_int rfl) ?_
              refine WO_p (PS_assign_int rfl) ?_
              refine WO_p (PS_assign_bool rfl) ?_
              refine WO_nil ?_
              refine thn_normal ?_
              refine W_ret ?_
              refine inBlk_ret ?_
              refine thn_ret ?_
              refine bodyQ_ret4 Hvad.results50 rfl rfl rfl rfl (.int _ _) (.int _ _) (.int _ _) (.bool _) rfl rfl rfl rfl ?_
              first
              | (exfalso; omega)
              | (refine ⟨(by repeat (first | assumption | exact Ext.refl _ | refine Ext.alloc ?_ _ | refine Ext.drew ?_ | refine Ext.setB ?_ (by first | omega | (simp only [size_alloc, size_setB, size_drew]; omega)) _ | refine Ext.trans ?_ (by assumption))), ?_⟩; rw [show o = _ from by assumption]; rfl)
              | (refine ⟨(by repeat (first | assumption | exact Ext.refl _ | refine Ext.alloc ?_ _ | refine Ext.drew ?_ | refine Ext.setB ?_ (by first | omega | (simp only [size_alloc, size_setB, size_drew]; omega)) _ | refine Ext.trans ?_ (by assumption))), ?_⟩; unfold infoW; rw [if_pos (by omega)])
              | (refine ⟨(by repeat (first | assumption | exact Ext.refl _ | refine Ext.alloc ?_ _ | refine Ext.drew ?_ | refine Ext.setB ?_ (by first | omega | (simp only [size_alloc, size_setB, size_drew]; omega)) _ | refine Ext.trans ?_ (by assumption))), ?_⟩; unfold infoW; rw [if_neg (by omega), if_pos (by omega)])
              | (refine ⟨(by repeat (first | assumption | exact Ext.refl _ | refine Ext.alloc ?_ _ | refine Ext.drew ?_ | refine Ext.setB ?_ (by first | omega | (simp only [size_alloc, size_setB, size_drew]; omega)) _ | refine Ext.trans ?_ (by assumption))), ?_⟩; unfold infoW; rw [if_neg (by omega), if_neg (by omega), if_pos (by omega)])
              | (refine ⟨(by repeat (first | assumption | exact Ext.refl _ | refine Ext.alloc ?_ _ | refine Ext.drew ?_ | refine Ext.setB ?_ (by first | omega | (simp only [size_alloc, size_setB, size_drew]; omega)) _ | refine Ext.trans ?_ (by assumption))), ?_⟩; unfold infoW; rw [if_neg (by omega), if_neg (by omega), if_neg (by omega), if_pos (by omega)])
              | (refine ⟨(by repeat (first | assumption | exact Ext.refl _ | refine Ext.alloc ?_ _ | refine Ext.drew ?_ | refine Ext.setB ?_ (by first | omega | (simp only [size_alloc, size_setB, size_drew]; omega)) _ | refine Ext.trans ?_ (by assumption))), ?_⟩; unfold infoW; repeat rw [if_neg (by omega)])
            · have hb24p := hb24.h; try simp only [al_ete, al_dfn, Bool.not_eq_true', Bool.not_eq_false', al_ne, Bool.not_not, al_nn] at hb24p
              refine W_seq ?_
              refine W_region rfl ?_
              refine WO_p (PS_move_int rfl) ?_
              refine WO_p (PS_geq rfl rfl) ?_
              refine WO_p (PS_move_bool rfl) ?_
              refine WO_if (t := 42) rfl (fun hb26 => ?_) (fun hb26 => ?_)
              · have hb26p := hb26.h; try simp only [al_ete, al_dfn, Bool.not_eq_true', Bool.not_eq_false', al_ne, Bool.not_not, al_nn] at hb26p
                refine WO_guardT rfl rfl hb26.h ?_
                refine WO_p (PS_move_int rfl) ?_
                refine WO_guardT rfl rfl hb26.h ?_
                refine WO_p (PS_leq rfl rfl) ?_
                refine WO_p (PS_pickT rfl hb26.h rfl) ?_
                refine WO_p (PS_assign_bool rfl) ?_
                refine WO_nil ?_
                refine thn_normal ?_
                refine W_if rfl (fun hb28 => ?_) (fun hb28 => ?_)
                · have hb28p := hb28.h; try simp only [al_ete, al_dfn, Bool.not_eq_true', Bool.not_eq_false', al_ne, Bool.not_not, al_nn] at hb28p
                  refine W_seq ?_
                  refine W_region rfl ?_
                  refine WO_p (PS_move_int rfl) ?_
                  refine WO_p (PS_sub_u8n rfl rfl (by omega) (by omega)) ?_
                  refine WO_p (PS_add_u8n rfl rfl (by omega) (by omega)) ?_
                  refine WO_p (PS_move_int rfl) ?_
                  refine WO_p (PS_sub_u8n rfl rfl (by omega) (by omega)) ?_
                  refine WO_p (PS_conv_u16n Hvad.runUnderlying5 Hvad.runUnderlying61 rfl (by omega) (by omega)) ?_
                  refine WO_p (PS_add_u16n rfl rfl (by omega) (by omega)) ?_
                  refine WO_p (PS_mul_u16n rfl rfl (by omega) (by omega)) ?_
                  refine WO_p (PS_assign_int rfl) ?_
                  refine WO_p (PS_assign_int rfl) ?_
                  refine WO_p (PS_assign_int rfl) ?_
                  refine WO_p (PS_assign_bool rfl) ?_
                  refine WO_nil ?_
                  refine thn_normal ?_
                  refine W_ret ?_
                  refine inBlk_ret ?_
                  refine thn_ret ?_
                  refine bodyQ_ret4 Hvad.results50 rfl rfl rfl rfl (.int _ _) (.int _ _) (.int _ _) (.bool _) rfl rfl rfl rfl ?_
                  first
                  | (exfalso; omega)
                  | (refine ⟨(by repeat (first | assumption | exact Ext.refl _ | refine Ext.alloc ?_ _ | refine Ext.drew ?_ | refine Ext.setB ?_ (by first | omega | (simp only [size_alloc, size_setB, size_drew]; omega)) _ | refine Ext.trans ?_ (by assumption))), ?_⟩; rw [show o = _ from by assumption]; rfl)
                  | (refine ⟨(by repeat (first | assumption | exact Ext.refl _ | refine Ext.alloc ?_ _ | refine Ext.drew ?_ | refine Ext.setB ?_ (by first | omega | (simp only [size_alloc, size_setB, size_drew]; omega)) _ | refine Ext.trans ?_ (by assumption))), ?_⟩; unfold infoW; rw [if_pos (by omega)])
                  | (refine ⟨(by repeat (first | assumption | exact Ext.refl _ | refine Ext.alloc ?_ _ | refine Ext.drew ?_ | refine Ext.setB ?_ (by first | omega | (simp only [size_alloc, size_setB, size_drew]; omega)) _ | refine Ext.trans ?_ (by assumption))), ?_⟩; unfold infoW; rw [if_neg (by omega), if_pos (by omega)])
                  | (refine ⟨(by repeat (first | assumption | exact Ext.refl _ | refine Ext.alloc ?_ _ | refine Ext.drew ?_ | refine Ext.setB ?_ (by first | omega | (simp only [size_alloc, size_setB, size_drew]; omega)) _ | refine Ext.trans ?_ (by assumption))), ?_⟩; unfold infoW; rw [if_neg (by omega), if_neg (by omega), if_pos (by omega)])
                  | (refine ⟨(by repeat (first | assumption | exact Ext.refl _ | refine Ext.alloc ?_ _ | refine Ext.drew ?_ | refine Ext.setB ?_ (by first | omega | (simp only [size_alloc, size_setB, size_drew]; omega)) _ | refine Ext.trans ?_ (by assumption))), ?_⟩; unfold infoW; rw [if_neg (by omega), if_neg (by omega), if_neg (by omega), if_pos (by omega)])
                  | (refine ⟨(by repeat (first | assumption | exact Ext.refl _ | refine Ext.alloc ?_ _ | refine Ext.drew ?_ | refine Ext.setB ?_ (by first | omega | (simp only [size_alloc, size_setB, size_drew]; omega)) _ | refine Ext.trans ?_ (by assumption))), ?_⟩; unfold infoW; repeat rw [if_neg (by omega)])
                · have hb28p := hb28.h; try simp only [al_ete, al_dfn, Bool.not_eq_true', Bool.not_eq_false', al_ne, Bool.not_not, al_nn] at hb28p
                  refine W_skip ?_
                  refine inBlk_normal ?_
                  refine thn_normal ?_
                  exact ⟨rfl, ⟨rfl, trivial⟩, by omega⟩
              · have hb26p := hb26.h; try simp only [al_ete, al_dfn, Bool.not_eq_true', Bool.not_eq_false', al_ne, Bool.not_not, al_nn] at hb26p
                refine WO_guardF rfl rfl hb26.h ?_
                refine WO_guardF rfl rfl hb26.h ?_
                refine WO_p (PS_pickF rfl hb26.h rfl) ?_
                refine WO_p (PS_assign_bool rfl) ?_
                refine WO_nil ?_
                refine thn_normal ?_
                refine W_condF rfl rfl ?_
                refine W_skip ?_
                refine inBlk_normal ?_
                refine thn_normal ?_
                exact ⟨rfl, ⟨rfl, trivial⟩, by omega⟩
          · have hb22p := hb22.h; try simp only [al_ete, al_dfn, Bool.not_eq_true', Bool.not_eq_false', al_ne, Bool.not_not, al_nn] at hb22p
            refine WO_guardF rfl rfl hb22.h ?_
            refine WO_guardF rfl rfl hb22.h ?_
            refine WO_p (PS_pickF rfl hb22.h rfl) ?_
            refine WO_p (PS_assign_bool rfl) ?_
            refine WO_nil ?_
            refine thn_normal ?_
            refine W_condF rfl rfl ?_
            refine W_seq ?_
            refine W_region rfl ?_
            refine WO_p (PS_move_int rfl) ?_
            refine WO_p (PS_geq rfl rfl) ?_
            refine WO_p (PS_move_bool rfl) ?_
            refine WO_if (t := 42) rfl (fun hb30 => ?_) (fun hb30 => ?_)
            · have hb30p := hb30.h; try simp only [al_ete, al_dfn, Bool.not_eq_true', Bool.not_eq_false', al_ne, Bool.not_not, al_nn] at hb30p
              refine WO_guardT rfl rfl hb30.h ?_
              refine WO_p (PS_move_int rfl) ?_
              refine WO_guardT rfl rfl hb30.h ?_
              refine WO_p (PS_leq rfl rfl) ?_
              refine WO_p (PS_pickT rfl hb30.h rfl) ?_
              refine WO_p (PS_assign_bool rfl) ?_
              refine WO_nil ?_
              refine thn_normal ?_
              refine W_if rfl (fun hb32 => ?_) (fun hb32 => ?_)
              · have hb32p := hb32.h; try simp only [al_ete, al_dfn, Bool.not_eq_true', Bool.not_eq_false', al_ne, Bool.not_not, al_nn] at hb32p
                refine W_seq ?_
                refine W_region rfl ?_
                refine WO_p (PS_move_int rfl) ?_
                refine WO_p (PS_sub_u8n rfl rfl (by omega) (by omega)) ?_
                refine WO_p (PS_add_u8n rfl rfl (by omega) (by omega)) ?_
                refine WO_p (PS_move_int rfl) ?_
                refine WO_p (PS_sub_u8n rfl rfl (by omega) (by omega)) ?_
                refine WO_p (PS_conv_u16n Hvad.runUnderlying5 Hvad.runUnderlying61 rfl (by omega) (by omega)) ?_
                refine WO_p (PS_add_u16n rfl rfl (by omega) (by omega)) ?_
                refine WO_p (PS_mul_u16n rfl rfl (by omega) (by omega)) ?_
                refine WO_p (PS_assign_int rfl) ?_
                refine WO_p (PS_assign_int rfl) ?_
                refine WO_p (PS_assign_int rfl) ?_
                refine WO_p (PS_assign_bool rfl) ?_
                refine WO_nil ?_
                refine thn_normal ?_
                refine W_ret ?_
                refine inBlk_ret ?_
                refine thn_ret ?_
                refine bodyQ_ret4 Hvad.results50 rfl rfl rfl rfl (.int _ _) (.int _ _) (.int _ _) (.bool _) rfl rfl rfl rfl ?_
                first
                | (exfalso; omega)
                | (refine ⟨(by repeat (first | assumption | exact Ext.refl _ | refine Ext.alloc ?_ _ | refine Ext.drew ?_ | refine Ext.setB ?_ (by first | omega | (simp only [size_alloc, size_setB, size_drew]; omega)) _ | refine Ext.trans ?_ (by assumption))), ?_⟩; rw [show o = _ from by assumption]; rfl)
                | (refine ⟨(by repeat (first | assumption | exact Ext.refl _ | refine Ext.alloc ?_ _ | refine Ext.drew ?_ | refine Ext.setB ?_ (by first | omega | (simp only [size_alloc, size_setB, size_drew]; omega)) _ | refine Ext.trans ?_ (by assumption))), ?_⟩; unfold infoW; rw [if_pos (by omega)])
                | (refine ⟨(by repeat (first | assumption | exact Ext.refl _ | refine Ext.alloc ?_ _ | refine Ext.drew ?_ | refine Ext.setB ?_ (by first | omega | (simp only [size_alloc, size_setB, size_drew]; omega)) _ | refine Ext.trans ?_ (by assumption))), ?_⟩; unfold infoW; rw [if_neg (by omega), if_pos (by omega)])
                | (refine ⟨(by repeat (first | assumption | exact Ext.refl _ | refine Ext.alloc ?_ _ | refine Ext.drew ?_ | refine Ext.setB ?_ (by first | omega | (simp only [size_alloc, size_setB, size_drew]; omega)) _ | refine Ext.trans ?_ (by assumption))), ?_⟩; unfold infoW; rw [if_neg (by omega), if_neg (by omega), if_pos (by omega)])
                | (refine ⟨(by repeat (first | assumption | exact Ext.refl _ | refine Ext.alloc ?_ _ | refine Ext.drew ?_ | refine Ext.setB ?_ (by first | omega | (simp only [size_alloc, size_setB, size_drew]; omega)) _ | refine Ext.trans ?_ (by assumption))), ?_⟩; unfold infoW; rw [if_neg (by omega), if_neg (by omega), if_neg (by omega), if_pos (by omega)])
                | (refine ⟨(by repeat (first | assumption | exact Ext.refl _ | refine Ext.alloc ?_ _ | refine Ext.drew ?_ | refine Ext.setB ?_ (by first | omega | (simp only [size_alloc, size_setB, size_drew]; omega)) _ | refine Ext.trans ?_ (by assumption))), ?_⟩; unfold infoW; repeat rw [if_neg (by omega)])
              · have hb32p := hb32.h; try simp only [al_ete, al_dfn, Bool.not_eq_true', Bool.not_eq_false', al_ne, Bool.not_not, al_nn] at hb32p
                refine W_skip ?_
                refine inBlk_normal ?_
                refine thn_normal ?_
                exact ⟨rfl, ⟨rfl, trivial⟩, by omega⟩
            · have hb30p := hb30.h; try simp only [al_ete, al_dfn, Bool.not_eq_true', Bool.not_eq_false', al_ne, Bool.not_not, al_nn] at hb30p
              refine WO_guardF rfl rfl hb30.h ?_
              refine WO_guardF rfl rfl hb30.h ?_
              refine WO_p (PS_pickF rfl hb30.h rfl) ?_
              refine WO_p (PS_assign_bool rfl) ?_
              refine WO_nil ?_
              refine thn_normal ?_
              refine W_condF rfl rfl ?_
              refine W_skip ?_
              refine inBlk_normal ?_
              refine thn_normal ?_
              exact ⟨rfl, ⟨rfl, trivial⟩, by omega⟩
    · have hb2p := hb2.h; try simp only [al_ete, al_dfn, Bool.not_eq_true', Bool.not_eq_false', al_ne, Bool.not_not, al_nn] at hb2p
      refine WO_guardF rfl rfl hb2.h ?_
      refine WO_guardF rfl rfl hb2.h ?_
      refine WO_p (PS_pickF rfl hb2.h rfl) ?_
      refine WO_p (PS_assign_bool rfl) ?_
      refine WO_nil ?_
      refine thn_normal ?_
      refine W_condF rfl rfl ?_
      refine W_seq ?_
      refine W_region rfl ?_
      refine WO_p (PS_move_int rfl) ?_
      refine WO_p (PS_geq rfl rfl) ?_
      refine WO_p (PS_move_bool rfl) ?_
      refine WO_if (t := 16) rfl (fun hb34 => ?_) (fun hb34 => ?_)
      · have hb34p := hb34.h; try simp only [al_ete, al_dfn, Bool.not_eq_true', Bool.not_eq_false', al_ne, Bool.not_not, al_nn] at hb34p
        refine WO_guardT rfl rfl hb34.h ?_
        refine WO_p (PS_move_int rfl) ?_
        refine WO_guardT rfl rfl hb34.h ?_
        refine WO_p (PS_leq rfl rfl) ?_
        refine WO_p (PS_pickT rfl hb34.h rfl) ?_
        refine WO_p (PS_assign_bool rfl) ?_
        refine WO_nil ?_
        refine thn_normal ?_
        refine W_if rfl (fun hb36 => ?_) (fun hb36 => ?_)
        · have hb36p := hb36.h; try simp only [al_ete, al_dfn, Bool.not_eq_true', Bool.not_eq_false', al_ne, Bool.not_not, al_nn] at hb36p
          refine W_seq ?_
          refine W_region rfl ?_
          refine WO_p (PS_move_int rfl) ?_
          refine WO_p (PS_sub_u8n rfl rfl (by omega) (by omega)) ?_
          refine WO_p (PS_add_u8n rfl rfl (by omega) (by omega)) ?_
          refine WO_p (PS_move_int rfl) ?_
          refine WO_p (PS_sub_u8n rfl rfl (by omega) (by omega)) ?_
          refine WO_p (PS_add_u8n rfl rfl (by omega) (by omega)) ?_
          refine WO_p (PS_assign_int rfl) ?_
          refine WO_p (PS_assign_int rfl) ?_
          refine WO_p (PS_assign_int rfl) ?_
          refine WO_p (PS_assign_bool rfl) ?_
          refine WO_nil ?_
          refine thn_normal ?_
          refine W_ret ?_
          refine inBlk_ret ?_
          refine thn_ret ?_
          refine bodyQ_ret4 Hvad.results50 rfl rfl rfl rfl (.int _ _) (.int _ _) (.int _ _) (.bool _) rfl rfl rfl rfl ?_
          first
          | (exfalso; omega)
          | (refine ⟨(by repeat (first | assumption | exact Ext.refl _ | refine Ext.alloc ?_ _ | refine Ext.drew ?_ | refine Ext.setB ?_ (by first | omega | (simp only [size_alloc, size_setB, size_drew]; omega)) _ | refine Ext.trans ?_ (by assumption))), ?_⟩; rw [show o = _ from by assumption]; rfl)
          | (refine ⟨(by repeat (first | assumption | exact Ext.refl _ | refine Ext.alloc ?_ _ | refine Ext.drew ?_ | refine Ext.setB ?_ (by first | omega | (simp only [size_alloc, size_setB, size_drew]; omega)) _ | refine Ext.trans ?_ (by assumption))), ?_⟩; unfold infoW; rw [if_pos (by omega)])
          | (refine ⟨(by repeat (first | assumption | exact Ext.refl _ | refine Ext.alloc ?_ _ | refine Ext.drew ?_ | refine Ext.setB ?_ (by first | omega | (simp only [size_alloc, size_setB, size_drew]; omega)) _ | refine Ext.trans ?_ (by assumption))), ?_⟩; unfold infoW; rw [if_neg (by omega), if_pos (by omega)])
          | (refine ⟨(by repeat (first | assumption | exact Ext.refl _ | refine Ext.alloc ?_ _ | refine Ext.drew ?_ | refine Ext.setB ?_ (by first | omega | (simp only [size_alloc, size_setB, size_drew]; omega)) _ | refine Ext.trans ?_ (by assumption))), ?_⟩; unfold infoW; rw [if_neg (by omega), if_neg (by omega), if_pos (by omega)])
          | (refine ⟨(by repeat (first | assumption | exact Ext.refl _ | refine Ext.alloc ?_ _ | refine Ext.drew ?_ | refine Ext.setB ?_ (by first | omega | (simp only [size_alloc, size_setB, size_drew]; omega)) _ | refine Ext.trans ?_ (by assumption))), ?_⟩; unfold infoW; rw [if_neg (by omega), if_neg (by omega), if_neg (by omega), if_pos (by omega)])
          | (refine ⟨(by repeat (first | assumption | exact Ext.refl _ | refine Ext.alloc ?_ _ | refine Ext.drew ?_ | refine Ext.setB ?_ (by first | omega | (simp only [size_alloc, size_setB, size_drew]; omega)) _ | refine Ext.trans ?_ (by assumption))), ?_⟩; unfold infoW; repeat rw [if_neg (by omega)])
        · have hb36p := hb36.h; try simp only [al_ete, al_dfn, Bool.not_eq_true', Bool.not_eq_false', al_ne, Bool.not_not, al_nn] at hb36p
          refine W_seq ?_
          refine W_region rfl ?_
          refine WO_p (PS_move_int rfl) ?_
          refine WO_p (PS_geq rfl rfl) ?_
          refine WO_p (PS_move_bool rfl) ?_
          refine WO_if (t := 29) rfl (fun hb38 => ?_) (fun hb38 => ?_)
          · have hb38p := hb38.h; try simp only [al_ete, al_dfn, Bool.not_eq_true', Bool.not_eq_false', al_ne, Bool.not_not, al_nn] at hb38p
            refine WO_guardT rfl rfl hb38.h ?_
            refine WO_p (PS_move_int rfl) ?_
            refine WO_guardT rfl rfl hb38.h ?_
            refine WO_p (PS_leq rfl rfl) ?_
            refine WO_p (PS_pickT rfl hb38.h rfl) ?_
            refine WO_p (PS_assign_bool rfl) ?_
            refine WO_nil ?_
            refine thn_normal ?_
            refine W_if rfl (fun hb40 => ?_) (fun hb40 => ?_)
            · have hb40p := hb40.h; try simp only [al_ete, al_dfn, Bool.not_eq_true', Bool.not_eq_false', al_ne, Bool.not_not, al_nn] at hb40p
              refine W_seq ?_
              refine W_region rfl ?_
              refine WO_p (PS_move_int rfl) ?_
              refine WO_p (PS_sub_u8n rfl rfl (by omega) (by omega)) ?_
              refine WO_p (PS_add_u8n rfl rfl (by omega) (by omega)) ?_
              refine WO_p (PS_move_int rfl) ?_
              refine WO_p (PS_sub_u8n rfl rfl (by omega) (by omega)) ?_
              refine WO_p (PS_add_u8n rfl rfl (by omega) (by omega)) ?_
              refine WO_p (PS_assign_int rfl) ?_
              refine WO_p (PS_assign_int rfl) ?_
              refine WO_p (PS_assign_int rfl) ?_
              refine WO_p (PS_assign_bool rfl) ?_
              refine WO_nil ?_
              refine thn_normal ?_
              refine W_ret ?_
              refine inBlk_ret ?_
              refine thn_ret ?_
              refine bodyQ_ret4 Hvad.results50 rfl rfl rfl rfl (.int _ _) (.int _ _) (.int _ _) (.bool _) rfl rfl rfl rfl ?_
              first
              | (exfalso; omega)
              | (refine ⟨(by repeat (first | assumption | exact Ext.refl _ | refine Ext.alloc ?_ _ | refine Ext.drew ?_ | refine Ext.setB ?_ (by first | omega | (simp only [size_alloc, size_setB, size_drew]; omega)) _ | refine Ext.trans ?_ (by assumption))), ?_⟩; rw [show o = _ from by assumption]; rfl)
              | (refine ⟨(by repeat (first | assumption | exact Ext.refl _ | refine Ext.alloc ?_ _ | refine Ext.drew ?_ | refine Ext.setB ?_ (by first | omega | (simp only [size_alloc, size_setB, size_drew]; omega)) _ | refine Ext.trans ?_ (by assumption))), ?_⟩; unfold infoW; rw [if_pos (by omega)])
              | (refine ⟨(by repeat (first | assumption | exact Ext.refl _ | refine Ext.alloc ?_ _ | refine Ext.drew ?_ | refine Ext.setB ?_ (by first | omega | (simp only [size_alloc, size_setB, size_drew]; omega)) _ | refine Ext.trans ?_ (by assumption))), ?_⟩; unfold infoW; rw [if_neg (by omega), if_pos (by omega)])
              | (refine ⟨(by repeat (first | assumption | exact Ext.refl _ | refine Ext.alloc ?_ _ | refine Ext.drew ?_ | refine Ext.setB ?_ (by first | omega | (simp only [size_alloc, size_setB, size_drew]; omega)) _ | refine Ext.trans ?_ (by assumption))), ?_⟩; unfold infoW; rw [if_neg (by omega), if_neg (by omega), if_pos (by omega)])
              | (refine ⟨(by repeat (first | assumption | exact Ext.refl _ | refine Ext.alloc ?_ _ | refine Ext.drew ?_ | refine Ext.setB ?_ (by first | omega | (simp only [size_alloc, size_setB, size_drew]; omega)) _ | refine Ext.trans ?_ (by assumption))), ?_⟩; unfold infoW; rw [if_neg (by omega), if_neg (by omega), if_neg (by omega), if_pos (by omega)])
              | (refine ⟨(by repeat (first | assumption | exact Ext.refl _ | refine Ext.alloc ?_ _ | refine Ext.drew ?_ | refine Ext.setB ?_ (by first | omega | (simp only [size_alloc, size_setB, size_drew]; omega)) _ | refine Ext.trans ?_ (by assumption))), ?_⟩; unfold infoW; repeat rw [if_neg (by omega)])
            · have hb40p := hb40.h; try simp only [al_ete, al_dfn, Bool.not_eq_true', Bool.not_eq_false', al_ne, Bool.not_not, al_nn] at hb40p
              refine W_seq ?_
              refine W_region rfl ?_
              refine WO_p (PS_move_int rfl) ?_
              refine WO_p (PS_geq rfl rfl) ?_
              refine WO_p (PS_move_bool rfl) ?_
              refine WO_if (t := 42) rfl (fun hb42 => ?_) (fun hb42 => ?_)
              · have hb42p := hb42.h; try simp only [al_ete, al_dfn, Bool.not_eq_true', Bool.not_eq_false', al_ne, Bool.not_not, al_nn] at hb42p
                refine WO_guardT rfl rfl hb42.h ?_
                refine WO_p (PS_move_int rfl) ?_
                refine WO_guardT rfl rfl hb42.h ?_
                refine WO_p (PS_leq rfl rfl) ?_
                refine WO_p (PS_pickT rfl hb42.h rfl) ?_
                refine WO_p (PS_assign_bool rfl) ?_
                refine WO_nil ?_
                refine thn_normal ?_
                refine W_if rfl (fun hb44 => ?_) (fun hb44 => ?_)
                · have hb44p := hb44.h; try simp only [al_ete, al_dfn, Bool.not_eq_true', Bool.not_eq_false', al_ne, Bool.not_not, al_nn] at hb44p
                  refine W_seq ?_
                  refine W_region rfl ?_
                  refine WO_p (PS_move_int rfl) ?_
                  refine WO_p (PS_sub_u8n rfl rfl (by omega) (by omega)) ?_
                  refine WO_p (PS_add_u8n rfl rfl (by omega) (by omega)) ?_
                  refine WO_p (PS_move_int rfl) ?_
                  refine WO_p (PS_sub_u8n rfl rfl (by omega) (by omega)) ?_
                  refine WO_p (PS_conv_u16n Hvad.runUnderlying5 Hvad.runUnderlying61 rfl (by omega) (by omega)) ?_
                  refine WO_p (PS_add_u16n rfl rfl (by omega) (by omega)) ?_
                  refine WO_p (PS_mul_u16n rfl rfl (by omega) (by omega)) ?_
                  refine WO_p (PS_assign_int rfl) ?_
                  refine WO_p (PS_assign_int rfl) ?_
                  refine WO_p (PS_assign_int rfl) ?_
                  refine WO_p (PS_assign_bool rfl) ?_
                  refine WO_nil ?_
                  refine thn_normal ?_
                  refine W_ret ?_
                  refine inBlk_ret ?_
                  refine thn_ret ?_
                  refine bodyQ_ret4 Hvad.results50 rfl rfl rfl rfl (.int _ _) (.int _ _) (.int _ _) (.bool _) rfl rfl rfl rfl ?_
                  first
                  | (exfalso; omega)
                  | (refine ⟨(by repeat (first | assumption | exact Ext.refl _ | refine Ext.alloc ?_ _ | refine Ext.drew ?_ | refine Ext.setB ?_ (by first | omega | (simp only [size_alloc, size_setB, size_drew]; omega)) _ | refine Ext.trans ?_ (by assumption))), ?_⟩; rw [show o = _ from by assumption]; rfl)
                  | (refine ⟨(by repeat (first | assumption | exact Ext.refl _ | refine Ext.alloc ?_ _ | refine Ext.drew ?_ | refine Ext.setB ?_ (by first | omega | (simp only [size_alloc, size_setB, size_drew]; omega)) _ | refine Ext.trans ?_ (by assumption))), ?_⟩; unfold infoW; rw [if_pos (by omega)])
                  | (refine ⟨(by repeat (first | assumption | exact Ext.refl _ | refine Ext.alloc ?_ _ | refine Ext.drew ?_ | refine Ext.setB ?_ (by first | omega | (simp only [size_alloc, size_setB, size_drew]; omega)) _ | refine Ext.trans ?_ (by assumption))), ?_⟩; unfold infoW; rw [if_neg (by omega), if_pos (by omega)])
                  | (refine ⟨(by repeat (first | assumption | exact Ext.refl _ | refine Ext.alloc ?_ _ | refine Ext.drew ?_ | refine Ext.setB ?_ (by first | omega | (simp only [size_alloc, size_setB, size_drew]; omega)) _ | refine Ext.trans ?_ (by assumption))), ?_⟩; unfold infoW; rw [if_neg (by omega), if_neg (by omega), if_pos (by omega)])
                  | (refine ⟨(by repeat (first | assumption | exact Ext.refl _ | refine Ext.alloc ?_ _ | refine Ext.drew ?_ | refine Ext.setB ?_ (by first | omega | (simp only [size_alloc, size_setB, size_drew]; omega)) _ | refine Ext.trans ?_ (by assumption))), ?_⟩; unfold infoW; rw [if_neg (by omega), if_neg (by omega), if_neg (by omega), if_pos (by omega)])
                  | (refine ⟨(by repeat (first | assumption | exact Ext.refl _ | refine Ext.alloc ?_ _ | refine Ext.drew ?_ | refine Ext.setB ?_ (by first | omega | (simp only [size_alloc, size_setB, size_drew]; omega)) _ | refine Ext.trans ?_ (by assumption))), ?_⟩; unfold infoW; repeat rw [if_neg (by omega)])
                · have hb44p := hb44.h; try simp only [al_ete, al_dfn, Bool.not_eq_true', Bool.not_eq_false', al_ne, Bool.not_not, al_nn] at hb44p
                  refine W_skip ?_
                  refine inBlk_normal ?_
                  refine thn_normal ?_
                  exact ⟨rfl, ⟨rfl, trivial⟩, by omega⟩
              · have hb42p := hb42.h; try simp only [al_ete, al_dfn, Bool.not_eq_true', Bool.not_eq_false', al_ne, Bool.not_not, al_nn] at hb42p
                refine WO_guardF rfl rfl hb42.h ?_
                refine WO_guardF rfl rfl hb42.h ?_
                refine WO_p (PS_pickF rfl hb42.h rfl) ?_
                refine WO_p (PS_assign_bool rfl) ?_
                refine WO_nil ?_
                refine thn_normal ?_
                refine W_condF rfl rfl ?_
                refine W_skip ?_
                refine inBlk_normal ?_
                refine thn_normal ?_
                exact ⟨rfl, ⟨rfl, trivial⟩, by omega⟩
          · have hb38p := hb38.h; try simp only [al_ete, al_dfn, Bool.not_eq_true', Bool.not_eq_false', al_ne, Bool.not_not, al_nn] at hb38p
            refine WO_guardF rfl rfl hb38.h ?_
            refine WO_guardF rfl rfl hb38.h ?_
            refine WO_p (PS_pickF rfl hb38.h rfl) ?_
            refine WO_p (PS_assign_bool rfl) ?_
            refine WO_nil ?_
            refine thn_normal ?_
            refine W_condF rfl rfl ?_
            refine W_seq ?_
            refine W_region rfl ?_
            refine WO_p (PS_move_int rfl) ?_
            refine WO_p (PS_geq rfl rfl) ?_
            refine WO_p (PS_move_bool rfl) ?_
            refine WO_if (t := 42) rfl (fun hb46 => ?_) (fun hb46 => ?_)
            · have hb46p := hb46.h; try simp only [al_ete, al_dfn, Bool.not_eq_true', Bool.not_eq_false', al_ne, Bool.not_not, al_nn] at hb46p
              refine WO_guardT rfl rfl hb46.h ?_
              refine WO_p (PS_move_int rfl) ?_
              refine WO_guardT rfl rfl hb46.h ?_
              refine WO_p (PS_leq rfl rfl) ?_
              refine WO_p (PS_pickT rfl hb46.h rfl) ?_
              refine WO_p (PS_assign_bool rfl) ?_
              refine WO_nil ?_
              refine thn_normal ?_
              refine W_if rfl (fun hb48 => ?_) (fun hb48 => ?_)
              · have hb48p := hb48.h; try simp only [al_ete, al_dfn, Bool.not_eq_true', Bool.not_eq_false', al_ne, Bool.not_not, al_nn] at hb48p
                refine W_seq ?_
                refine W_region rfl ?_
                refine WO_p (PS_move_int rfl) ?_
                refine WO_p (PS_sub_u8n rfl rfl (by omega) (by omega)) ?_
                refine WO_p (PS_add_u8n rfl rfl (by omega) (by omega)) ?_
                refine WO_p (PS_move_int rfl) ?_
                refine WO_p (PS_sub_u8n rfl rfl (by omega) (by omega)) ?_
                refine WO_p (PS_conv_u16n Hvad.runUnderlying5 Hvad.runUnderlying61 rfl (by omega) (by omega)) ?_
                refine WO_p (PS_add_u16n rfl rfl (by omega) (by omega)) ?_
                refine WO_p (PS_mul_u16n rfl rfl (by omega) (by omega)) ?_
                refine WO_p (PS_assign_int rfl) ?_
                refine WO_p (PS_assign_int rfl) ?_
                refine WO_p (PS_assign_int rfl) ?_
                refine WO_p (PS_assign_bool rfl) ?_
                refine WO_nil ?_
                refine thn_normal ?_
                refine W_ret ?_
                refine inBlk_ret ?_
                refine thn_ret ?_
                refine bodyQ_ret4 Hvad.results50 rfl rfl rfl rfl (.int _ _) (.int _ _) (.int _ _) (.bool _) rfl rfl rfl rfl ?_
                first
                | (exfalso; omega)
                | (refine ⟨(by repeat (first | assumption | exact Ext.refl _ | refine Ext.alloc ?_ _ | refine Ext.drew ?_ | refine Ext.setB ?_ (by first | omega | (simp only [size_alloc, size_setB, size_drew]; omega)) _ | refine Ext.trans ?_ (by assumption))), ?_⟩; rw [show o = _ from by assumption]; rfl)
                | (refine ⟨(by repeat (first | assumption | exact Ext.refl _ | refine Ext.alloc ?_ _ | refine Ext.drew ?_ | refine Ext.setB ?_ (by first | omega | (simp only [size_alloc, size_setB, size_drew]; omega)) _ | refine Ext.trans ?_ (by assumption))), ?_⟩; unfold infoW; rw [if_pos (by omega)])
                | (refine ⟨(by repeat (first | assumption | exact Ext.refl _ | refine Ext.alloc ?_ _ | refine Ext.drew ?_ | refine Ext.setB ?_ (by first | omega | (simp only [size_alloc, size_setB, size_drew]; omega)) _ | refine Ext.trans ?_ (by assumption))), ?_⟩; unfold infoW; rw [if_neg (by omega), if_pos (by omega)])
                | (refine ⟨(by repeat (first | assumption | exact Ext.refl _ | refine Ext.alloc ?_ _ | refine Ext.drew ?_ | refine Ext.setB ?_ (by first | omega | (simp only [size_alloc, size_setB, size_drew]; omega)) _ | refine Ext.trans ?_ (by assumption))), ?_⟩; unfold infoW; rw [if_neg (by omega), if_neg (by omega), if_pos (by omega)])
                | (refine ⟨(by repeat (first | assumption | exact Ext.refl _ | refine Ext.alloc ?_ _ | refine Ext.drew ?_ | refine Ext.setB ?_ (by first | omega | (simp only [size_alloc, size_setB, size_drew]; omega)) _ | refine Ext.trans ?_ (by assumption))), ?_⟩; unfold infoW; rw [if_neg (by omega), if_neg (by omega), if_neg (by omega), if_pos (by omega)])
                | (refine ⟨(by repeat (first | assumption | exact Ext.refl _ | refine Ext.alloc ?_ _ | refine Ext.drew ?_ | refine Ext.setB ?_ (by first | omega | (simp only [size_alloc, size_setB, size_drew]; omega)) _ | refine Ext.trans ?_ (by assumption))), ?_⟩; unfold infoW; repeat rw [if_neg (by omega)])
              · have hb48p := hb48.h; try simp only [al_ete, al_dfn, Bool.not_eq_true', Bool.not_eq_false', al_ne, Bool.not_not, al_nn] at hb48p
                refine W_skip ?_
                refine inBlk_normal ?_
                refine thn_normal ?_
                exact ⟨rfl, ⟨rfl, trivial⟩, by omega⟩
            · have hb46p := hb46.h; try simp only [al_ete, al_dfn, Bool.not_eq_true', Bool.not_eq_false', al_ne, Bool.not_not, al_nn] at hb46p
              refine WO_guardF rfl rfl hb46.h ?_
              refine WO_guardF rfl rfl hb46.h ?_
              refine WO_p (PS_pickF rfl hb46.h rfl) ?_
              refine WO_p (PS_assign_bool rfl) ?_
              refine WO_nil ?_
              refine thn_normal ?_
              refine W_condF rfl rfl ?_
              refine W_skip ?_
              refine inBlk_normal ?_
              refine thn_normal ?_
              exact ⟨rfl, ⟨rfl, trivial⟩, by omega⟩
      · have hb34p := hb34.h; try simp only [al_ete, al_dfn, Bool.not_eq_true', Bool.not_eq_false', al_ne, Bool.not_not, al_nn] at hb34p
        refine WO_guardF rfl rfl hb34.h ?_
        refine WO_guardF rfl rfl hb34.h ?_
        refine WO_p (PS_pickF rfl hb34.h rfl) ?_
        refine WO_p (PS_assign_bool rfl) ?_
        refine WO_nil ?_
        refine thn_normal ?_
        refine W_condF rfl rfl ?_
        refine W_seq ?_
        refine W_region rfl ?_
        refine WO_p (PS_move_int rfl) ?_
        refine WO_p (PS_geq rfl rfl) ?_
        refine WO_p (PS_move_bool rfl) ?_
        refine WO_if (t := 29) rfl (fun hb50 => ?_) (fun hb50 => ?_)
        · have hb50p := hb50.h; try simp only [al_ete, al_dfn, Bool.not_eq_true', Bool.not_eq_false', al_ne, Bool.not_not, al_nn] at hb50p
          refine WO_guardT rfl rfl hb50.h ?_
          refine WO_p (PS_move_int rfl) ?_
          refine WO_guardT rfl rfl hb50.h ?_
          refine WO_p (PS_leq rfl rfl) ?_
          refine WO_p (PS_pickT rfl hb50.h rfl) ?_
          refine WO_p (PS_assign_bool rfl) ?_
          refine WO_nil ?_
          refine thn_normal ?_
          refine W_if rfl (fun hb52 => ?_) (fun hb52 => ?_)
          · have hb52p := hb52.h; try simp only [al_ete, al_dfn, Bool.not_eq_true', Bool.not_eq_false', al_ne, Bool.not_not, al_nn] at hb52p
            refine W_seq ?_
            refine W_region rfl ?_
            refine WO_p (PS_move_int rfl) ?_
            refine WO_p (PS_sub_u8n rfl rfl (by omega) (by omega)) ?_
            refine WO_p (PS_add_u8n rfl rfl (by omega) (by omega)) ?_
            refine WO_p (PS_move_int rfl) ?_
            refine WO_p (PS_sub_u8n rfl rfl (by omega) (by omega)) ?_
            refine WO_p (PS_add_u8n rfl rfl (by omega) (by omega)) ?_
            refine WO_p (PS_assign_int rfl) ?_
            refine WO_p (PS_assign_int rfl) ?_
            refine WO_p (PS_assign_int rfl) ?_
            refine WO_p (PS_assign_bool rfl) ?_
            refine WO_nil ?_
            refine thn_normal ?_
            refine W_ret ?_
            refine inBlk_ret ?_
            refine thn_ret ?_
            refine bodyQ_ret4 Hvad.results50 rfl rfl rfl rfl (.int _ _) (.int _ _) (.int _ _) (.bool _) rfl rfl rfl rfl ?_
            first
            | (exfalso; omega)
            | (refine ⟨(by repeat (first | assumption | exact Ext.refl _ | refine Ext.alloc ?_ _ | refine Ext.drew ?_ | refine Ext.setB ?_ (by first | omega | (simp only [size_alloc, size_setB, size_drew]; omega)) _ | refine Ext.trans ?_ (by assumption))), ?_⟩; rw [show o = _ from by assumption]; rfl)
            | (refine ⟨(by repeat (first | assumption | exact Ext.refl _ | refine Ext.alloc ?_ _ | refine Ext.drew ?_ | refine Ext.setB ?_ (by first | omega | (simp only [size_alloc, size_setB, size_drew]; omega)) _ | refine Ext.trans ?_ (by assumption))), ?_⟩; unfold infoW; rw [if_pos (by omega)])
            | (refine ⟨(by repeat (first | assumption | exact Ext.refl _ | refine Ext.alloc ?_ _ | refine Ext.drew ?_ | refine Ext.setB ?_ (by first | omega | (simp only [size_alloc, size_setB, size_drew]; omega)) _ | refine Ext.trans ?_ (by assumption))), ?_⟩; unfold infoW; rw [if_neg (by omega), if_pos (by omega)])
            | (refine ⟨(by repeat (first | assumption | exact Ext.refl _ | refine Ext.alloc ?_ _ | refine Ext.drew ?_ | refine Ext.setB ?_ (by first | omega | (simp only [size_alloc, size_setB, size_drew]; omega)) _ | refine Ext.trans ?_ (by assumption))), ?_⟩; unfold infoW; rw [if_neg (by omega), if_neg (by omega), if_pos (by omega)])
            | (refine ⟨(by repeat (first | assumption | exact Ext.refl _ | refine Ext.alloc ?_ _ | refine Ext.drew ?_ | refine Ext.setB ?_ (by first | omega | (simp only [size_alloc, size_setB, size_drew]; omega)) _ | refine Ext.trans ?_ (by assumption))), ?_⟩; unfold infoW; rw [if_neg (by omega), if_neg (by omega), if_neg (by omega), if_pos (by omega)])
            | (refine ⟨(by repeat (first | assumption | exact Ext.refl _ | refine Ext.alloc ?_ _ | refine Ext.drew ?_ | refine Ext.setB ?_ (by first | omega | (simp only [size_alloc, size_setB, size_drew]; omega)) _ | refine Ext.trans ?_ (by assumption))), ?_⟩; unfold infoW; repeat rw [if_neg (by omega)])
          · have hb52p := hb52.h; try simp only [al_ete, al_dfn, Bool.not_eq_true', Bool.not_eq_false', al_ne, Bool.not_not, al_nn] at hb52p
            refine W_seq ?_
            refine W_region rfl ?_
            refine WO_p (PS_move_int rfl) ?_
            refine WO_p (PS_geq rfl rfl) ?_
            refine WO_p (PS_move_bool rfl) ?_
            refine WO_if (t := 42) rfl (fun hb54 => ?_) (fun hb54 => ?_)
            · have hb54p := hb54.h; try simp only [al_ete, al_dfn, Bool.not_eq_true', Bool.not_eq_false', al_ne, Bool.not_not, al_nn] at hb54p
              refine WO_guardT rfl rfl hb54.h ?_
              refine WO_p (PS_move_int rfl) ?_
              refine WO_guardT rfl rfl hb54.h ?_
              refine WO_p (PS_leq rfl rfl) ?_
              refine WO_p (PS_pickT rfl hb54.h rfl) ?_
              refine WO_p (PS_assign_bool rfl) ?_
              refine WO_nil ?_
              refine thn_normal ?_
              refine W_if rfl (fun hb56 => ?_) (fun hb56 => ?_)
              · have hb56p := hb56.h; try simp only [al_ete, al_dfn, Bool.not_eq_true', Bool.not_eq_false', al_ne, Bool.not_not, al_nn] at hb56p
                refine W_seq ?_
                refine W_region rfl ?_
                refine WO_p (PS_move_int rfl) ?_
                refine WO_p (PS_sub_u8n rfl rfl (by omega) (by omega)) ?_
                refine WO_p (PS_add_u8n rfl rfl (by omega) (by omega)) ?_
                refine WO_p (PS_move_int rfl) ?_
                refine WO_p (PS_sub_u8n rfl rfl (by omega) (by omega)) ?_
                refine WO_p (PS_conv_u16n Hvad.runUnderlying5 Hvad.runUnderlying61 rfl (by omega) (by omega)) ?_
                refine WO_p (PS_add_u16n rfl rfl (by omega) (by omega)) ?_
                refine WO_p (PS_mul_u16n rfl rfl (by omega) (by omega)) ?_
                refine WO_p (PS_assign_int rfl) ?_
                refine WO_p (PS_assign_int rfl) ?_
                refine WO_p (PS_assign_int rfl) ?_
                refine WO_p (PS_assign_bool rfl) ?_
                refine WO_nil ?_
                refine thn_normal ?_
                refine W_ret ?_
                refine inBlk_ret ?_
                refine thn_ret ?_
                refine bodyQ_ret4 Hvad.results50 rfl rfl rfl rfl (.int _ _) (.int _ _) (.int _ _) (.bool _) rfl rfl rfl rfl ?_
                first
                | (exfalso; omega)
                | (refine ⟨(by repeat (first | assumption | exact Ext.refl _ | refine Ext.alloc ?_ _ | refine Ext.drew ?_ | refine Ext.setB ?_ (by first | omega | (simp only [size_alloc, size_setB, size_drew]; omega)) _ | refine Ext.trans ?_ (by assumption))), ?_⟩; rw [show o = _ from by assumption]; rfl)
                | (refine ⟨(by repeat (first | assumption | exact Ext.refl _ | refine Ext.alloc ?_ _ | refine Ext.drew ?_ | refine Ext.setB ?_ (by first | omega | (simp only [size_alloc, size_setB, size_drew]; omega)) _ | refine Ext.trans ?_ (by assumption))), ?_⟩; unfold infoW; rw [if_pos (by omega)])
                | (refine ⟨(by repeat (first | assumption | exact Ext.refl _ | refine Ext.alloc ?_ _ | refine Ext.drew ?_ | refine Ext.setB ?_ (by first | omega | (simp only [size_alloc, size_setB, size_drew]; omega)) _ | refine Ext.trans ?_ (by assumption))), ?_⟩; unfold infoW; rw [if_neg (by omega), if_pos (by omega)])
                | (refine ⟨(by repeat (first | assumption | exact Ext.refl _ | refine Ext.alloc ?_ _ | refine Ext.drew ?_ | refine Ext.setB ?_ (by first | omega | (simp only [size_alloc, size_setB, size_drew]; omega)) _ | refine Ext.trans ?_ (by assumption))), ?_⟩; unfold infoW; rw [if_neg (by omega), if_neg (by omega), if_pos (by omega)])
                | (refine ⟨(by repeat (first | assumption | exact Ext.refl _ | refine Ext.alloc ?_ _ | refine Ext.drew ?_ | refine Ext.setB ?_ (by first | omega | (simp only [size_alloc, size_setB, size_drew]; omega)) _ | refine Ext.trans ?_ (by assumption))), ?_⟩; unfold infoW; rw [if_neg (by omega), if_neg (by omega), if_neg (by omega), if_pos (by omega)])
                | (refine ⟨(by repeat (first | assumption | exact Ext.refl _ | refine Ext.alloc ?_ _ | refine Ext.drew ?_ | refine Ext.setB ?_ (by first | omega | (simp only [size_alloc, size_setB, size_drew]; omega)) _ | refine Ext.trans ?_ (by assumption))), ?_⟩; unfold infoW; repeat rw [if_neg (by omega)])
              · have hb56p := hb56.h; try simp only [al_ete, al_dfn, Bool.not_eq_true', Bool.not_eq_false', al_ne, Bool.not_not, al_nn] at hb56p
                refine W_skip ?_
                refine inBlk_normal ?_
                refine thn_normal ?_
                exact ⟨rfl, ⟨rfl, trivial⟩, by omega⟩
            · have hb54p := hb54.h; try simp only [al_ete, al_dfn, Bool.not_eq_true', Bool.not_eq_false', al_ne, Bool.not_not, al_nn] at hb54p
              refine WO_guardF rfl rfl hb54.h ?_
              refine WO_guardF rfl rfl hb54.h ?_
              refine WO_p (PS_pickF rfl hb54.h rfl) ?_
              refine WO_p (PS_assign_bool rfl) ?_
              refine WO_nil ?_
              refine thn_normal ?_
              refine W_condF rfl rfl ?_
              refine W_skip ?_
              refine inBlk_normal ?_
              refine thn_normal ?_
              exact ⟨rfl, ⟨rfl, trivial⟩, by omega⟩
        · have hb50p := hb50.h; try simp only [al_ete, al_dfn, Bool.not_eq_true', Bool.not_eq_false', al_ne, Bool.not_not, al_nn] at hb50p
          refine WO_guardF rfl rfl hb50.h ?_
          refine WO_guardF rfl rfl hb50.h ?_
          refine WO_p (PS_pickF rfl hb50.h rfl) ?_
          refine WO_p (PS_assign_bool rfl) ?_
          refine WO_nil ?_
          refine thn_normal ?_
          refine W_condF rfl rfl ?_
          refine W_seq ?_
          refine W_region rfl ?_
          refine WO_p (PS_move_int rfl) ?_
          refine WO_p (PS_geq rfl rfl) ?_
          refine WO_p (PS_move_bool rfl) ?_
          refine WO_if (t := 42) rfl (fun hb58 => ?_) (fun hb58 => ?_)
          · have hb58p := hb58.h; try simp only [al_ete, al_dfn, Bool.not_eq_true', Bool.not_eq_false', al_ne, Bool.not_not, al_nn] at hb58p
            refine WO_guardT rfl rfl hb58.h ?_
            refine WO_p (PS_move_int rfl) ?_
            refine WO_guardT rfl rfl hb58.h ?_
            refine WO_p (PS_leq rfl rfl) ?_
            refine WO_p (PS_pickT rfl hb58.h rfl) ?_
            refine WO_p (PS_assign_bool rfl) ?_
            refine WO_nil ?_
            refine thn_normal ?_
            refine W_if rfl (fun hb60 => ?_) (fun hb60 => ?_)
            · have hb60p := hb60.h; try simp only [al_ete, al_dfn, Bool.not_eq_true', Bool.not_eq_false', al_ne, Bool.not_not, al_nn] at hb60p
              refine W_seq ?_
              refine W_region rfl ?_
              refine WO_p (PS_move_int rfl) ?_
              refine WO_p (PS_sub_u8n rfl rfl (by omega) (by omega)) ?_
              refine WO_p (PS_add_u8n rfl rfl (by omega) (by omega)) ?_
              refine WO_p (PS_move_int rfl) ?_
              refine WO_p (PS_sub_u8n rfl rfl (by omega) (by omega)) ?_
              refine WO_p (PS_conv_u16n Hvad.runUnderlying5 Hvad.runUnderlying61 rfl (by omega) (by omega)) ?_
              refine WO_p (PS_add_u16n rfl rfl (by omega) (by omega)) ?_
              refine WO_p (PS_mul_u16n rfl rfl (by omega) (by omega)) ?_
              refine WO_p (PS_assign_int rfl) ?_
              refine WO_p (PS_assign_int rfl) ?_
              refine WO_p (PS_assign_int rfl) ?_
              refine WO_p (PS_assign_bool rfl) ?_
              refine WO_nil ?_
              refine thn_normal ?_
              refine W_ret ?_
              refine inBlk_ret ?_
              refine thn_ret ?_
              refine bodyQ_ret4 Hvad.results50 rfl rfl rfl rfl (.int _ _) (.int _ _) (.int _ _) (.bool _) rfl rfl rfl rfl ?_
              first
              | (exfalso; omega)
              | (refine ⟨(by repeat (first | assumption | exact Ext.refl _ | refine Ext.alloc ?_ _ | refine Ext.drew ?_ | refine Ext.setB ?_ (by first | omega | (simp only [size_alloc, size_setB, size_drew]; omega)) _ | refine Ext.trans ?_ (by assumption))), ?_⟩; rw [show o = _ from by assumption]; rfl)
              | (refine ⟨(by repeat (first | assumption | exact Ext.refl _ | refine Ext.alloc ?_ _ | refine Ext.drew ?_ | refine Ext.setB ?_ (by first | omega | (simp only [size_alloc, size_setB, size_drew]; omega)) _ | refine Ext.trans ?_ (by assumption))), ?_⟩; unfold infoW; rw [if_pos (by omega)])
              | (refine ⟨(by repeat (first | assumption | exact Ext.refl _ | refine Ext.alloc ?_ _ | refine Ext.drew ?_ | refine Ext.setB ?_ (by first | omega | (simp only [size_alloc, size_setB, size_drew]; omega)) _ | refine Ext.trans ?_ (by assumption))), ?_⟩; unfold infoW; rw [if_neg (by omega), if_pos (by omega)])
              | (refine ⟨(by repeat (first | assumption | exact Ext.refl _ | refine Ext.alloc ?_ _ | refine Ext.drew ?_ | refine Ext.setB ?_ (by first | omega | (simp only [size_alloc, size_setB, size_drew]; omega)) _ | refine Ext.trans ?_ (by assumption))), ?_⟩; unfold infoW; rw [if_neg (by omega), if_neg (by omega), if_pos (by omega)])
              | (refine ⟨(by repeat (first | assumption | exact Ext.refl _ | refine Ext.alloc ?_ _ | refine Ext.drew ?_ | refine Ext.setB ?_ (by first | omega | (simp only [size_alloc, size_setB, size_drew]; omega)) _ | refine Ext.trans ?_ (by assumption))), ?_⟩; unfold infoW; rw [if_neg (by omega), if_neg (by omega), if_neg (by omega), if_pos (by omega)])
              | (refine ⟨(by repeat (first | assumption | exact Ext.refl _ | refine Ext.alloc ?_ _ | refine Ext.drew ?_ | refine Ext.setB ?_ (by first | omega | (simp only [size_alloc, size_setB, size_drew]; omega)) _ | refine Ext.trans ?_ (by assumption))), ?_⟩; unfold infoW; repeat rw [if_neg (by omega)])
            · have hb60p := hb60.h; try simp only [al_ete, al_dfn, Bool.not_eq_true', Bool.not_eq_false', al_ne, Bool.not_not, al_nn] at hb60p
              refine W_skip ?_
              refine inBlk_normal ?_
              refine thn_normal ?_
              exact ⟨rfl, ⟨rfl, trivial⟩, by omega⟩
          · have hb58p := hb58.h; try simp only [al_ete, al_dfn, Bool.not_eq_true', Bool.not_eq_false', al_ne, Bool.not_not, al_nn] at hb58p
            refine WO_guardF rfl rfl hb58.h ?_
            refine WO_guardF rfl rfl hb58.h ?_
            refine WO_p (PS_pickF rfl hb58.h rfl) ?_
            refine WO_p (PS_assign_bool rfl) ?_
            refine WO_nil ?_
            refine thn_normal ?_
            refine W_condF rfl rfl ?_
            refine W_skip ?_
            refine inBlk_normal ?_
            refine thn_normal ?_
            exact ⟨rfl, ⟨rfl, trivial⟩, by omega⟩
  · rintro ρ w1 ⟨hw, hFr, hor⟩
    subst hw
    refine W_env _ hFr ?_
    refine W_seq ?_
    refine W_seq ?_
    refine W_region rfl ?_
    refine WO_p (PS_move_int rfl) ?_
    refine WO_nil ?_
    refine thn_normal ?_
    refine W_block ?_
    refine W_seq ?_
    refine W_region rfl ?_
    refine WO_p (PS_eql rfl rfl) ?_
    refine WO_p (PS_assign_bool rfl) ?_
    refine WO_nil ?_
    refine thn_normal ?_
    refine W_if rfl (fun hb62 => ?_) (fun hb62 => ?_)
    · have hb62p := hb62.h; try simp only [al_ete, al_dfn, Bool.not_eq_true', Bool.not_eq_false', al_ne, Bool.not_not, al_nn] at hb62p
      refine W_seq ?_
      refine W_region rfl ?_
      refine WO_p (PS_assign_int rfl) ?_
      refine WO_p (PS_assign_int rfl) ?_
      refine WO_p (PS_assign_int rfl) ?_
      refine WO_p (PS_assign_bool rfl) ?_
      refine WO_nil ?_
      refine thn_normal ?_
      refine W_ret ?_
      refine inBlk_ret ?_
      refine thn_ret ?_
      refine bodyQ_ret4 Hvad.results50 rfl rfl rfl rfl (.int _ _) (.int _ _) (.int _ _) (.bool _) rfl rfl rfl rfl ?_
      first
      | (exfalso; omega)
      | (refine ⟨(by repeat (first | assumption | exact Ext.refl _ | refine Ext.alloc ?_ _ | refine Ext.drew ?_ | refine Ext.setB ?_ (by first | omega | (simp only [size_alloc, size_setB, size_drew]; omega)) _ | refine Ext.trans ?_ (by assumption))), ?_⟩; rw [show o = _ from by assumption]; rfl)
      | (refine ⟨(by repeat (first | assumption | exact Ext.refl _ | refine Ext.alloc ?_ _ | refine Ext.drew ?_ | refine Ext.setB ?_ (by first | omega | (simp only [size_alloc, size_setB, size_drew]; omega)) _ | refine Ext.trans ?_ (by assumption))), ?_⟩; unfold infoW; rw [if_pos (by omega)])
      | (refine ⟨(by repeat (first | assumption | exact Ext.refl _ | refine Ext.alloc ?_ _ | refine Ext.drew ?_ | refine Ext.setB ?_ (by first | omega | (simp only [size_alloc, size_setB, size_drew]; omega)) _ | refine Ext.trans ?_ (by assumption))), ?_⟩; unfold infoW; rw [if_neg (by omega), if_pos (by omega)])
      | (refine ⟨(by repeat (first | assumption | exact Ext.refl _ | refine Ext.alloc ?_ _ | refine Ext.drew ?_ | refine Ext.setB ?_ (by first | omega | (simp only [size_alloc, size_setB, size_drew]; omega)) _ | refine Ext.trans ?_ (by assumption))), ?_⟩; unfold infoW; rw [if_neg (by omega), if_neg (by omega), if_pos (by omega)])
      | (refine ⟨(by repeat (first | assumption | exact Ext.refl _ | refine Ext.alloc ?_ _ | refine Ext.drew ?_ | refine Ext.setB ?_ (by first | omega | (simp only [size_alloc, size_setB, size_drew]; omega)) _ | refine Ext.trans ?_ (by assumption))), ?_⟩; unfold infoW; rw [if_neg (by omega), if_neg (by omega), if_neg (by omega), if_pos (by omega)])
      | (refine ⟨(by repeat (first | assumption | exact Ext.refl _ | refine Ext.alloc ?_ _ | refine Ext.drew ?_ | refine Ext.setB ?_ (by first | omega | (simp only [size_alloc, size_setB, size_drew]; omega)) _ | refine Ext.trans ?_ (by assumption))), ?_⟩; unfold infoW; repeat rw [if_neg (by omega)])
    · have hb62p := hb62.h; try simp only [al_ete, al_dfn, Bool.not_eq_true', Bool.not_eq_false', al_ne, Bool.not_not, al_nn] at hb62p
      refine W_seq ?_
      refine W_region rfl ?_
      refine WO_p (PS_eql rfl rfl) ?_
      refine WO_p (PS_assign_bool rfl) ?_
      refine WO_nil ?_
      refine thn_normal ?_
      refine W_if rfl (fun hb64 => ?_) (fun hb64 => ?_)
      · have hb64p := hb64.h; try simp only [al_ete, al_dfn, Bool.not_eq_true', Bool.not_eq_false', al_ne, Bool.not_not, al_nn] at hb64p
        refine W_seq ?_
        refine W_region rfl ?_
        refine WO_p (PS_assign_int rfl) ?_
        refine WO_p (PS_assign_int rfl) ?_
        refine WO_p (PS_assign_int rfl) ?_
        refine WO_p (PS_assign_bool rfl) ?_
        refine WO_nil ?_
        refine thn_normal ?_
        refine W_ret ?_
        refine inBlk_ret ?_
        refine thn_ret ?_
        refine bodyQ_ret4 Hvad.results50 rfl rfl rfl rfl (.int _ _) (.int _ _) (.int _ _) (.bool _) rfl rfl rfl rfl ?_
        first
        | (exfalso; omega)
        | (refine ⟨(by repeat (first | assumption | exact Ext.refl _ | refine Ext.alloc ?_ _ | refine Ext.drew ?_ | refine Ext.setB ?_ (by first | omega | (simp only [size_alloc, size_setB, size_drew]; omega)) _ | refine Ext.trans ?_ (by assumption))), ?_⟩; rw [show o = _ from by assumption]; rfl)
        | (refine ⟨(by repeat (first | assumption | exact Ext.refl _ | refine Ext.alloc ?_ _ | refine Ext.drew ?_ | refine Ext.setB ?_ (by first | omega | (simp only [size_alloc, size_setB, size_drew]; omega)) _ | refine Ext.trans ?_ (by assumption))), ?_⟩; unfold infoW; rw [if_pos (by omega)])
        | (refine ⟨(by repeat (first | assumption | exact Ext.refl _ | refine Ext.alloc ?_ _ | refine Ext.drew ?_ | refine Ext.setB ?_ (by first | omega | (simp only [size_alloc, size_setB, size_drew]; omega)) _ | refine Ext.trans ?_ (by assumption))), ?_⟩; unfold infoW; rw [if_neg (by omega), if_pos (by omega)])
        | (refine ⟨(by repeat (first | assumption | exact Ext.refl _ | refine Ext.alloc ?_ _ | refine Ext.drew ?_ | refine Ext.setB ?_ (by first | omega | (simp only [size_alloc, size_setB, size_drew]; omega)) _ | refine Ext.trans ?_ (by assumption))), ?_⟩; unfold infoW; rw [if_neg (by omega), if_neg (by omega), if_pos (by omega)])
        | (refine ⟨(by repeat (first | assumption | exact Ext.refl _ | refine Ext.alloc ?_ _ | refine Ext.drew ?_ | refine Ext.setB ?_ (by first | omega | (simp only [size_alloc, size_setB, size_drew]; omega)) _ | refine Ext.trans ?_ (by assumption))), ?_⟩; unfold infoW; rw [if_neg (by omega), if_neg (by omega), if_neg (by omega), if_pos (by omega)])
        | (refine ⟨(by repeat (first | assumption | exact Ext.refl _ | refine Ext.alloc ?_ _ | refine Ext.drew ?_ | refine Ext.setB ?_ (by first | omega | (simp only [size_alloc, size_setB, size_drew]; omega)) _ | refine Ext.trans ?_ (by assumption))), ?_⟩; unfold infoW; repeat rw [if_neg (by omega)])
      · have hb64p := hb64.h; try simp only [al_ete, al_dfn, Bool.not_eq_true', Bool.not_eq_false', al_ne, Bool.not_not, al_nn] at hb64p
        refine W_seq ?_
        refine W_seq ?_
        refine W_region rfl ?_
        refine WO_p (PS_eql rfl rfl) ?_
        refine WO_p (PS_assign_bool rfl) ?_
        refine WO_nil ?_
        refine thn_normal ?_
        refine W_if rfl (fun hb66 => ?_) (fun hb66 => ?_)
        · have hb66p := hb66.h; try simp only [al_ete, al_dfn, Bool.not_eq_true', Bool.not_eq_false', al_ne, Bool.not_not, al_nn] at hb66p
          refine W_skip ?_
          refine thn_normal ?_
          refine W_condT rfl hb66.h ?_
          refine W_seq ?_
          refine W_region rfl ?_
          refine WO_p (PS_assign_int rfl) ?_
          refine WO_p (PS_assign_int rfl) ?_
          refine WO_p (PS_assign_int rfl) ?_
          refine WO_p (PS_assign_bool rfl) ?_
          refine WO_nil ?_
          refine thn_normal ?_
          refine W_ret ?_
          refine inBlk_ret ?_
          refine thn_ret ?_
          refine bodyQ_ret4 Hvad.results50 rfl rfl rfl rfl (.int _ _) (.int _ _) (.int _ _) (.bool _) rfl rfl rfl rfl ?_
          first
          | (exfalso; omega)
          | (refine ⟨(by repeat (first | assumption | exact Ext.refl _ | refine Ext.alloc ?_ _ | refine Ext.drew ?_ | refine Ext.setB ?_ (by first | omega | (simp only [size_alloc, size_setB, size_drew]; omega)) _ | refine Ext.trans ?_ (by assumption))), ?_⟩; rw [show o = _ from by assumption]; rfl)
          | (refine ⟨(by repeat (first | assumption | exact Ext.refl _ | refine Ext.alloc ?_ _ | refine Ext.drew ?_ | refine Ext.setB ?_ (by first | omega | (simp only [size_alloc, size_setB, size_drew]; omega)) _ | refine Ext.trans ?_ (by assumption))), ?_⟩; unfold infoW; rw [if_pos (by omega)])
          | (refine ⟨(by repeat (first | assumption | exact Ext.refl _ | refine Ext.alloc ?_ _ | refine Ext.drew ?_ | refine Ext.setB ?_ (by first | omega | (simp only [size_alloc, size_setB, size_drew]; omega)) _ | refine Ext.trans ?_ (by assumption))), ?_⟩; unfold infoW; rw [if_neg (by omega), if_pos (by omega)])
          | (refine ⟨(by repeat (first | assumption | exact Ext.refl _ | refine Ext.alloc ?_ _ | refine Ext.drew ?_ | refine Ext.setB ?_ (by first | omega | (simp only [size_alloc, size_setB, size_drew]; omega)) _ | refine Ext.trans ?_ (by assumption))), ?_⟩; unfold infoW; rw [if_neg (by omega), if_neg (by omega), if_pos (by omega)])
          | (refine ⟨(by repeat (first | assumption | exact Ext.refl _ | refine Ext.alloc ?_ _ | refine Ext.drew ?_ | refine Ext.setB ?_ (by first | omega | (simp only [size_alloc, size_setB, size_drew]; omega)) _ | refine Ext.trans ?_ (by assumption))), ?_⟩; unfold infoW; rw [if_neg (by omega), if_neg (by omega), if_neg (by omega), if_pos (by omega)])
          | (refine ⟨(by repeat (first | assumption | exact Ext.refl _ | refine Ext.alloc ?_ _ | refine Ext.drew ?_ | refine Ext.setB ?_ (by first | omega | (simp only [size_alloc, size_setB, size_drew]; omega)) _ | refine Ext.trans ?_ (by assumption))), ?_⟩; unfold infoW; repeat rw [if_neg (by omega)])
        · have hb66p := hb66.h; try simp only [al_ete, al_dfn, Bool.not_eq_true', Bool.not_eq_false', al_ne, Bool.not_not, al_nn] at hb66p
          refine W_seq ?_
          refine W_region rfl ?_
          refine WO_p (PS_eql rfl rfl) ?_
          refine WO_p (PS_assign_bool rfl) ?_
          refine WO_nil ?_
          refine thn_normal ?_
          refine W_if rfl (fun hb68 => ?_) (fun hb68 => ?_)
          · have hb68p := hb68.h; try simp only [al_ete, al_dfn, Bool.not_eq_true', Bool.not_eq_false', al_ne, Bool.not_not, al_nn] at hb68p
            refine W_skip ?_
            refine thn_normal ?_
            refine W_condT rfl hb68.h ?_
            refine W_seq ?_
            refine W_region rfl ?_
            refine WO_p (PS_assign_int rfl) ?_
            refine WO_p (PS_assign_int rfl) ?_
            refine WO_p (PS_assign_int rfl) ?_
            refine WO_p (PS_assign_bool rfl) ?_
            refine WO_nil ?_
            refine thn_normal ?_
            refine W_ret ?_
            refine inBlk_ret ?_
            refine thn_ret ?_
            refine bodyQ_ret4 Hvad.results50 rfl rfl rfl rfl (.int _ _) (.int _ _) (.int _ _) (.bool _) rfl rfl rfl rfl ?_
            first
            | (exfalso; omega)
            | (refine ⟨(by repeat (first | assumption | exact Ext.refl _ | refine Ext.alloc ?_ _ | refine Ext.drew ?_ | refine Ext.setB ?_ (by first | omega | (simp only [size_alloc, size_setB, size_drew]; omega)) _ | refine Ext.trans ?_ (by assumption))), ?_⟩; rw [show o = _ from by assumption]; rfl)
            | (refine ⟨(by repeat (first | assumption | exact Ext.refl _ | refine Ext.alloc ?_ _ | refine Ext.drew ?_ | refine Ext.setB ?_ (by first | omega | (simp only [size_alloc, size_setB, size_drew]; omega)) _ | refine Ext.trans ?_ (by assumption))), ?_⟩; unfold infoW; rw [if_pos (by omega)])
            | (refine ⟨(by repeat (first | assumption | exact Ext.refl _ | refine Ext.alloc ?_ _ | refine Ext.drew ?_ | refine Ext.setB ?_ (by first | omega | (simp only [size_alloc, size_setB, size_drew]; omega)) _ | refine Ext.trans ?_ (by assumption))), ?_⟩; unfold infoW; rw [if_neg (by omega), if_pos (by omega)])
            | (refine ⟨(by repeat (first | assumption | exact Ext.refl _ | refine Ext.alloc ?_ _ | refine Ext.drew ?_ | refine Ext.setB ?_ (by first | omega | (simp only [size_alloc, size_setB, size_drew]; omega)) _ | refine Ext.trans ?_ (by assumption))), ?_⟩; unfold infoW; rw [if_neg (by omega), if_neg (by omega), if_pos (by omega)])
            | (refine ⟨(by repeat (first | assumption | exact Ext.refl _ | refine Ext.alloc ?_ _ | refine Ext.drew ?_ | refine Ext.setB ?_ (by first | omega | (simp only [size_alloc, size_setB, size_drew]; omega)) _ | refine Ext.trans ?_ (by assumption))), ?_⟩; unfold infoW; rw [if_neg (by omega), if_neg (by omega), if_neg (by omega), if_pos (by omega)])
            | (refine ⟨(by repeat (first | assumption | exact Ext.refl _ | refine Ext.alloc ?_ _ | refine Ext.drew ?_ | refine Ext.setB ?_ (by first | omega | (simp only [size_alloc, size_setB, size_drew]; omega)) _ | refine Ext.trans ?_ (by assumption))), ?_⟩; unfold infoW; repeat rw [if_neg (by omega)])
          · have hb68p := hb68.h; try simp only [al_ete, al_dfn, Bool.not_eq_true', Bool.not_eq_false', al_ne, Bool.not_not, al_nn] at hb68p
            refine W_seq ?_
            refine W_region rfl ?_
            refine WO_p (PS_eql rfl rfl) ?_
            refine WO_p (PS_assign_bool rfl) ?_
            refine WO_nil ?_
            refine thn_normal ?_
            refine W_if rfl (fun hb70 => ?_) (fun hb70 => ?_)
            · have hb70p := hb70.h; try simp only [al_ete, al_dfn, Bool.not_eq_true', Bool.not_eq_false', al_ne, Bool.not_not, al_nn] at hb70p
              refine W_skip ?_
              refine thn_normal ?_
              refine W_condT rfl hb70.h ?_
              refine W_seq ?_
              refine W_region rfl ?_
              refine WO_p (PS_assign_int rfl) ?_
              refine WO_p (PS_assign_int rfl) ?_
              refine WO_p (PS_assign_int rfl) ?_
              refine WO_p (PS_assign_bool rfl) ?_
              refine WO_nil ?_
              refine thn_normal ?_
              refine W_ret ?_
              refine inBlk_ret ?_
              refine thn_ret ?_
              refine bodyQ_ret4 Hvad.results50 rfl rfl rfl rfl (.int _ _) (.int _ _) (.int _ _) (.bool _) rfl rfl rfl rfl ?_
              first
              | (exfalso; omega)
              | (refine ⟨(by repeat (first | assumption | exact Ext.refl _ | refine Ext.alloc ?_ _ | refine Ext.drew ?_ | refine Ext.setB ?_ (by first | omega | (simp only [size_alloc, size_setB, size_drew]; omega)) _ | refine Ext.trans ?_ (by assumption))), ?_⟩; rw [show o = _ from by assumption]; rfl)
              | (refine ⟨(by repeat (first | assumption | exact Ext.refl _ | refine Ext.alloc ?_ _ | refine Ext.drew ?_ | refine Ext.setB ?_ (by first | omega | (simp only [size_alloc, size_setB, size_drew]; omega)) _ | refine Ext.trans ?_ (by assumption))), ?_⟩; unfold infoW; rw [if_pos (by omega)])
              | (refine ⟨(by repeat (first | assumption | exact Ext.refl _ | refine Ext.alloc ?_ _ | refine Ext.drew ?_ | refine Ext.setB ?_ (by first | omega | (simp only [size_alloc, size_setB, size_drew]; omega)) _ | refine Ext.trans ?_ (by assumption))), ?_⟩; unfold infoW; rw [if_neg (by omega), if_pos (by omega)])
              | (refine ⟨(by repeat (first | assumption | exact Ext.refl _ | refine Ext.alloc ?_ _ | refine Ext.drew ?_ | refine Ext.setB ?_ (by first | omega | (simp only [size_alloc, size_setB, size_drew]; omega)) _ | refine Ext.trans ?_ (by assumption))), ?_⟩; unfold infoW; rw [if_neg (by omega), if_neg (by omega), if_pos (by omega)])
              | (refine ⟨(by repeat (first | assumption | exact Ext.refl _ | refine Ext.alloc ?_ _ | refine Ext.drew ?_ | refine Ext.setB ?_ (by first | omega | (simp only [size_alloc, size_setB, size_drew]; omega)) _ | refine Ext.trans ?_ (by assumption))), ?_⟩; unfold infoW; rw [if_neg (by omega), if_neg (by omega), if_neg (by omega), if_pos (by omega)])
              | (refine ⟨(by repeat (first | assumption | exact Ext.refl _ | refine Ext.alloc ?_ _ | refine Ext.drew ?_ | refine Ext.setB ?_ (by first | omega | (simp only [size_alloc, size_setB, size_drew]; omega)) _ | refine Ext.trans ?_ (by assumption))), ?_⟩; unfold infoW; repeat rw [if_neg (by omega)])
            · have hb70p := hb70.h; try simp only [al_ete, al_dfn, Bool.not_eq_true', Bool.not_eq_false', al_ne, Bool.not_not, al_nn] at hb70p
              refine W_seq ?_
              refine W_region rfl ?_
              refine WO_p (PS_eql rfl rfl) ?_
              refine WO_p (PS_assign_bool rfl) ?_
              refine WO_nil ?_
              refine thn_normal ?_
              refine W_if rfl (fun hb72 => ?_) (fun hb72 => ?_)
              · have hb72p := hb72.h; try simp only [al_ete, al_dfn, Bool.not_eq_true', Bool.not_eq_false', al_ne, Bool.not_not, al_nn] at hb72p
                refine W_skip ?_
                refine thn_normal ?_
                refine W_condT rfl hb72.h ?_
                refine W_seq ?_
                refine W_region rfl ?_
                refine WO_p (PS_assign_int rfl) ?_
                refine WO_p (PS_assign_int rfl) ?_
                refine WO_p (PS_assign_int rfl) ?_
                refine WO_p (PS_assign_bool rfl) ?_
                refine WO_nil ?_
                refine thn_normal ?_
                refine W_ret ?_
                refine inBlk_ret ?_
                refine thn_ret ?_
                refine bodyQ_ret4 Hvad.results50 rfl rfl rfl rfl (.int _ _) (.int _ _) (.int _ _) (.bool _) rfl rfl rfl rfl ?_
                first
                | (exfalso; omega)
                | (refine ⟨(by repeat (first | assumption | exact Ext.refl _ | refine Ext.alloc ?_ _ | refine Ext.drew ?_ | refine Ext.setB ?_ (by first | omega | (simp only [size_alloc, size_setB, size_drew]; omega)) _ | refine Ext.trans ?_ (by assumption))), ?_⟩; rw [show o = _ from by assumption]; rfl)
                | (refine ⟨(by repeat (first | assumption | exact Ext.refl _ | refine Ext.alloc ?_ _ | refine Ext.drew ?_ | refine Ext.setB ?_ (by first | omega | (simp only [size_alloc, size_setB, size_drew]; omega)) _ | refine Ext.trans ?_ (by assumption))), ?_⟩; unfold infoW; rw [if_pos (by omega)])
                | (refine ⟨(by repeat (first | assumption | exact Ext.refl _ | refine Ext.alloc ?_ _ | refine Ext.drew ?_ | refine Ext.setB ?_ (by first | omega | (simp only [size_alloc, size_setB, size_drew]; omega)) _ | refine Ext.trans ?_ (by assumption))), ?_⟩; unfold infoW; rw [if_neg (by omega), if_pos (by omega)])
                | (refine ⟨(by repeat (first | assumption | exact Ext.refl _ | refine Ext.alloc ?_ _ | refine Ext.drew ?_ | refine Ext.setB ?_ (by first | omega | (simp only [size_alloc, size_setB, size_drew]; omega)) _ | refine Ext.trans ?_ (by assumption))), ?_⟩; unfold infoW; rw [if_neg (by omega), if_neg (by omega), if_pos (by omega)])
                | (refine ⟨(by repeat (first | assumption | exact Ext.refl _ | refine Ext.alloc ?_ _ | refine Ext.drew ?_ | refine Ext.setB ?_ (by first | omega | (simp only [size_alloc, size_setB, size_drew]; omega)) _ | refine Ext.trans ?_ (by assumption))), ?_⟩; unfold infoW; rw [if_neg (by omega), if_neg (by omega), if_neg (by omega), if_pos (by omega)])
                | (refine ⟨(by repeat (first | assumption | exact Ext.refl _ | refine Ext.alloc ?_ _ | refine Ext.drew ?_ | refine Ext.setB ?_ (by first | omega | (simp only [size_alloc, size_setB, size_drew]; omega)) _ | refine Ext.trans ?_ (by assumption))), ?_⟩; unfold infoW; repeat rw [if_neg (by omega)])
              · have hb72p := hb72.h; try simp only [al_ete, al_dfn, Bool.not_eq_true', Bool.not_eq_false', al_ne, Bool.not_not, al_nn] at hb72p
                refine W_seq ?_
                refine W_region rfl ?_
                refine WO_p (PS_eql rfl rfl) ?_
                refine WO_p (PS_assign_bool rfl) ?_
                refine WO_nil ?_
                refine thn_normal ?_
                refine W_if rfl (fun hb74 => ?_) (fun hb74 => ?_)
                · have hb74p := hb74.h; try simp only [al_ete, al_dfn, Bool.not_eq_true', Bool.not_eq_false', al_ne, Bool.not_not, al_nn] at hb74p
                  refine W_skip ?_
                  refine thn_normal ?_
                  refine W_condT rfl hb74.h ?_
                  refine W_seq ?_
                  refine W_region rfl ?_
                  refine WO_p (PS_assign_int rfl) ?_
                  refine WO_p (PS_assign_int rfl) ?_
                  refine WO_p (PS_assign_int rfl) ?_
                  refine WO_p (PS_assign_bool rfl) ?_
                  refine WO_nil ?_
                  refine thn_normal ?_
                  refine W_ret ?_
                  refine inBlk_ret ?_
                  refine thn_ret ?_
                  refine bodyQ_ret4 Hvad.results50 rfl rfl rfl rfl (.int _ _) (.int _ _) (.int _ _) (.bool _) rfl rfl rfl rfl ?_
                  first
                  | (exfalso; omega)
                  | (refine ⟨(by repeat (first | assumption | exact Ext.refl _ | refine Ext.alloc ?_ _ | refine Ext.drew ?_ | refine Ext.setB ?_ (by first | omega | (simp only [size_alloc, size_setB, size_drew]; omega)) _ | refine Ext.trans ?_ (by assumption))), ?_⟩; rw [show o = _ from by assumption]; rfl)
                  | (refine ⟨(by repeat (first | assumption | exact Ext.refl _ | refine Ext.alloc ?_ _ | refine Ext.drew ?_ | refine Ext.setB ?_ (by first | omega | (simp only [size_alloc, size_setB, size_drew]; omega)) _ | refine Ext.trans ?_ (by assumption))), ?_⟩; unfold infoW; rw [if_pos (by omega)])
                  | (refine ⟨(by repeat (first | assumption | exact Ext.refl _ | refine Ext.alloc ?_ _ | refine Ext.drew ?_ | refine Ext.setB ?_ (by first | omega | (simp only [size_alloc, size_setB, size_drew]; omega)) _ | refine Ext.trans ?_ (by assumption))), ?_⟩; unfold infoW; rw [if_neg (by omega), if_pos (by omega)])
                  | (refine ⟨(by repeat (first | assumption | exact Ext.refl _ | refine Ext.alloc ?_ _ | refine Ext.drew ?_ | refine Ext.setB ?_ (by first | omega | (simp only [size_alloc, size_setB, size_drew]; omega)) _ | refine Ext.trans ?_ (by assumption))), ?_⟩; unfold infoW; rw [if_neg (by omega), if_neg (by omega), if_pos (by omega)])
                  | (refine ⟨(by repeat (first | assumption | exact Ext.refl _ | refine Ext.alloc ?_ _ | refine Ext.drew ?_ | refine Ext.setB ?_ (by first | omega | (simp only [size_alloc, size_setB, size_drew]; omega)) _ | refine Ext.trans ?_ (by assumption))), ?_⟩; unfold infoW; rw [if_neg (by omega), if_neg (by omega), if_neg (by omega), if_pos (by omega)])
                  | (refine ⟨(by repeat (first | assumption | exact Ext.refl _ | refine Ext.alloc ?_ _ | refine Ext.drew ?_ | refine Ext.setB ?_ (by first | omega | (simp only [size_alloc, size_setB, size_drew]; omega)) _ | refine Ext.trans ?_ (by assumption))), ?_⟩; unfold infoW; repeat rw [if_neg (by omega)])
                · have hb74p := hb74.h; try simp only [al_ete, al_dfn, Bool.not_eq_true', Bool.not_eq_false', al_ne, Bool.not_not, al_nn] at hb74p
                  refine W_seq ?_
                  refine W_region rfl ?_
                  refine WO_p (PS_eql rfl rfl) ?_
                  refine WO_p (PS_assign_bool rfl) ?_
                  refine WO_nil ?_
                  refine thn_normal ?_
                  refine W_if rfl (fun hb76 => ?_) (fun hb76 => ?_)
                  · have hb76p := hb76.h; try simp only [al_ete, al_dfn, Bool.not_eq_true', Bool.not_eq_false', al_ne, Bool.not_not, al_nn] at hb76p
                    refine W_skip ?_
                    refine thn_normal ?_
                    refine W_condT rfl hb76.h ?_
                    refine W_seq ?_
                    refine W_region rfl ?_
                    refine WO_p (PS_assign_int rfl) ?_
                    refine WO_p (PS_assign_int rfl) ?_
                    refine WO_p (PS_assign_int rfl) ?_
                    refine WO_p (PS_assign_bool rfl) ?_
                    refine WO_nil ?_
                    refine thn_normal ?_
                    refine W_ret ?_
                    refine inBlk_ret ?_
                    refine thn_ret ?_
                    refine bodyQ_ret4 Hvad.results50 rfl rfl rfl rfl (.int _ _) (.int _ _) (.int _ _) (.bool _) rfl rfl rfl rfl ?_
                    first
                    | (exfalso; omega)
                    | (refine ⟨(by repeat (first | assumption | exact Ext.refl _ | refine Ext.alloc ?_ _ | refine Ext.drew ?_ | refine Ext.setB ?_ (by first | omega | (simp only [size_alloc, size_setB, size_drew]; omega)) _ | refine Ext.trans ?_ (by assumption))), ?_⟩; rw [show o = _ from by assumption]; rfl)
                    | (refine ⟨(by repeat (first | assumption | exact Ext.refl _ | refine Ext.alloc ?_ _ | refine Ext.drew ?_ | refine Ext.setB ?_ (by first | omega | (simp only [size_alloc, size_setB, size_drew]; omega)) _ | refine Ext.trans ?_ (by assumption))), ?_⟩; unfold infoW; rw [if_pos (by omega)])
                    | (refine ⟨(by repeat (first | assumption | exact Ext.refl _ | refine Ext.alloc ?_ _ | refine Ext.drew ?_ | refine Ext.setB ?_ (by first | omega | (simp only [size_alloc, size_setB, size_drew]; omega)) _ | refine Ext.trans ?_ (by assumption))), ?_⟩; unfold infoW; rw [if_neg (by omega), if_pos (by omega)])
                    | (refine ⟨(by repeat (first | assumption | exact Ext.refl _ | refine Ext.alloc ?_ _ | refine Ext.drew ?_ | refine Ext.setB ?_ (by first | omega | (simp only [size_alloc, size_setB, size_drew]; omega)) _ | refine Ext.trans ?_ (by assumption))), ?_⟩; unfold infoW; rw [if_neg (by omega), if_neg (by omega), if_pos (by omega)])
                    | (refine ⟨(by repeat (first | assumption | exact Ext.refl _ | refine Ext.alloc ?_ _ | refine Ext.drew ?_ | refine Ext.setB ?_ (by first | omega | (simp only [size_alloc, size_setB, size_drew]; omega)) _ | refine Ext.trans ?_ (by assumption))), ?_⟩; unfold infoW; rw [if_neg (by omega), if_neg (by omega), if_neg (by omega), if_pos (by omega)])
                    | (refine ⟨(by repeat (first | assumption | exact Ext.refl _ | refine Ext.alloc ?_ _ | refine Ext.drew ?_ | refine Ext.setB ?_ (by first | omega | (simp only [size_alloc, size_setB, size_drew]; omega)) _ | refine Ext.trans ?_ (by assumption))), ?_⟩; unfold infoW; repeat rw [if_neg (by omega)])
                  · have hb76p := hb76.h; try simp only [al_ete, al_dfn, Bool.not_eq_true', Bool.not_eq_false', al_ne, Bool.not_not, al_nn] at hb76p
                    refine W_seq ?_
                    refine W_region rfl ?_
                    refine WO_p (PS_eql rfl rfl) ?_
                    refine WO_p (PS_assign_bool rfl) ?_
                    refine WO_nil ?_
                    refine thn_normal ?_
                    refine W_if rfl (fun hb78 => ?_) (fun hb78 => ?_)
                    · have hb78p := hb78.h; try simp only [al_ete, al_dfn, Bool.not_eq_true', Bool.not_eq_false', al_ne, Bool.not_not, al_nn] at hb78p
                      refine W_skip ?_
                      refine thn_normal ?_
                      refine W_condT rfl hb78.h ?_
                      refine W_seq ?_
                      refine W_region rfl ?_
                      refine WO_p (PS_assign_int rfl) ?_
                      refine WO_p (PS_assign_int rfl) ?_
                      refine WO_p (PS_assign_int rfl) ?_
                      refine WO_p (PS_assign_bool rfl) ?_
                      refine WO_nil ?_
                      refine thn_normal ?_
                      refine W_ret ?_
                      refine inBlk_ret ?_
                      refine thn_ret ?_
                      refine bodyQ_ret4 Hvad.results50 rfl rfl rfl rfl (.int _ _) (.int _ _) (.int _ _) (.bool _) rfl rfl rfl rfl ?_
                      first
                      | (exfalso; omega)
                      | (refine ⟨(by repeat (first | assumption | exact Ext.refl _ | refine Ext.alloc ?_ _ | refine Ext.drew ?_ | refine Ext.setB ?_ (by first | omega | (simp only [size_alloc, size_setB, size_drew]; omega)) _ | refine Ext.trans ?_ (by assumption))), ?_⟩; rw [show o = _ from by assumption]; rfl)
                      | (refine ⟨(by repeat (first | assumption | exact Ext.refl _ | refine Ext.alloc ?_ _ | refine Ext.drew ?_ | refine Ext.setB ?_ (by first | omega | (simp only [size_alloc, size_setB, size_drew]; omega)) _ | refine Ext.trans ?_ (by assumption))), ?_⟩; unfold infoW; rw [if_pos (by omega)])
                      | (refine ⟨(by repeat (first | assumption | exact Ext.refl _ | refine Ext.alloc ?_ _ | refine Ext.drew ?_ | refine Ext.setB ?_ (by first | omega | (simp only [size_alloc, size_setB, size_drew]; omega)) _ | refine Ext.trans ?_ (by assumption))), ?_⟩; unfold infoW; rw [if_neg (by omega), if_pos (by omega)])
                      | (refine ⟨(by repeat (first | assumption | exact Ext.refl _ | refine Ext.alloc ?_ _ | refine Ext.drew ?_ | refine Ext.setB ?_ (by first | omega | (simp only [size_alloc, size_setB, size_drew]; omega)) _ | refine Ext.trans ?_ (by assumption))), ?_⟩; unfold infoW; rw [if_neg (by omega), if_neg (by omega), if_pos (by omega)])
                      | (refine ⟨(by repeat (first | assumption | exact Ext.refl _ | refine Ext.alloc ?_ _ | refine Ext.drew ?_ | refine Ext.setB ?_ (by first | omega | (simp only [size_alloc, size_setB, size_drew]; omega)) _ | refine Ext.trans ?_ (by assumption))), ?_⟩; unfold infoW; rw [if_neg (by omega), if_neg (by omega), if_neg (by omega), if_pos (by omega)])
                      | (refine ⟨(by repeat (first | assumption | exact Ext.refl _ | refine Ext.alloc ?_ _ | refine Ext.drew ?_ | refine Ext.setB ?_ (by first | omega | (simp only [size_alloc, size_setB, size_drew]; omega)) _ | refine Ext.trans ?_ (by assumption))), ?_⟩; unfold infoW; repeat rw [if_neg (by omega)])
                    · have hb78p := hb78.h; try simp only [al_ete, al_dfn, Bool.not_eq_true', Bool.not_eq_false', al_ne, Bool.not_not, al_nn] at hb78p
                      refine W_seq ?_
                      refine W_region rfl ?_
                      refine WO_p (PS_eql rfl rfl) ?_
                      refine WO_p (PS_assign_bool rfl) ?_
                      refine WO_nil ?_
                      refine thn_normal ?_
                      refine W_if rfl (fun hb80 => ?_) (fun hb80 => ?_)
                      · have hb80p := hb80.h; try simp only [al_ete, al_dfn, Bool.not_eq_true', Bool.not_eq_false', al_ne, Bool.not_not, al_nn] at hb80p
                        refine W_skip ?_
                        refine thn_normal ?_
                        refine W_condT rfl hb80.h ?_
                        refine W_seq ?_
                        refine W_region rfl ?_
                        refine WO_p (PS_assign_int rfl) ?_
                        refine WO_p (PS_assign_int rfl) ?_
                        refine WO_p (PS_assign_int rfl) ?_
                        refine WO_p (PS_assign_bool rfl) ?_
                        refine WO_nil ?_
                        refine thn_normal ?_
                        refine W_ret ?_
                        refine inBlk_ret ?_
                        refine thn_ret ?_
                        refine bodyQ_ret4 Hvad.results50 rfl rfl rfl rfl (.int _ _) (.int _ _) (.int _ _) (.bool _) rfl rfl rfl rfl ?_
                        first
                        | (exfalso; omega)
                        | (refine ⟨(by repeat (first | assumption | exact Ext.refl _ | refine Ext.alloc ?_ _ | refine Ext.drew ?_ | refine Ext.setB ?_ (by first | omega | (simp only [size_alloc, size_setB, size_drew]; omega)) _ | refine Ext.trans ?_ (by assumption))), ?_⟩; rw [show o = _ from by assumption]; rfl)
                        | (refine ⟨(by repeat (first | assumption | exact Ext.refl _ | refine Ext.alloc ?_ _ | refine Ext.drew ?_ | refine Ext.setB ?_ (by first | omega | (simp only [size_alloc, size_setB, size_drew]; omega)) _ | refine Ext.trans ?_ (by assumption))), ?_⟩; unfold infoW; rw [if_pos (by omega)])
                        | (refine ⟨(by repeat (first | assumption | exact Ext.refl _ | refine Ext.alloc ?_ _ | refine Ext.drew ?_ | refine Ext.setB ?_ (by first | omega | (simp only [size_alloc, size_setB, size_drew]; omega)) _ | refine Ext.trans ?_ (by assumption))), ?_⟩; unfold infoW; rw [if_neg (by omega), if_pos (by omega)])
                        | (refine ⟨(by repeat (first | assumption | exact Ext.refl _ | refine Ext.alloc ?_ _ | refine Ext.drew ?_ | refine Ext.setB ?_ (by first | omega | (simp only [size_alloc, size_setB, size_drew]; omega)) _ | refine Ext.trans ?_ (by assumption))), ?_⟩; unfold infoW; rw [if_neg (by omega), if_neg (by omega), if_pos (by omega)])
                        | (refine ⟨(by repeat (first | assumption | exact Ext.refl _ | refine Ext.alloc ?_ _ | refine Ext.drew ?_ | refine Ext.setB ?_ (by first | omega | (simp only [size_alloc, size_setB, size_drew]; omega)) _ | refine Ext.trans ?_ (by assumption))), ?_⟩; unfold infoW; rw [if_neg (by omega), if_neg (by omega), if_neg (by omega), if_pos (by omega)])
                        | (refine ⟨(by repeat (first | assumption | exact Ext.refl _ | refine Ext.alloc ?_ _ | refine Ext.drew ?_ | refine Ext.setB ?_ (by first | omega | (simp only [size_alloc, size_setB, size_drew]; omega)) _ | refine Ext.trans ?_ (by assumption))), ?_⟩; unfold infoW; repeat rw [if_neg (by omega)])
                      · have hb80p := hb80.h; try simp only [al_ete, al_dfn, Bool.not_eq_true', Bool.not_eq_false', al_ne, Bool.not_not, al_nn] at hb80p
                        refine W_seq ?_
                        refine W_region rfl ?_
                        refine WO_p (PS_eql rfl rfl) ?_
                        refine WO_p (PS_assign_bool rfl) ?_
                        refine WO_nil ?_
                        refine thn_normal ?_
                        refine W_if rfl (fun hb82 => ?_) (fun hb82 => ?_)
                        · have hb82p := hb82.h; try simp only [al_ete, al_dfn, Bool.not_eq_true', Bool.not_eq_false', al_ne, Bool.not_not, al_nn] at hb82p
                          refine W_skip ?_
                          refine thn_normal ?_
                          refine W_condT rfl hb82.h ?_
                          refine W_seq ?_
                          refine W_region rfl ?_
                          refine WO_p (PS_assign_int rfl) ?_
                          refine WO_p (PS_assign_int rfl) ?_
                          refine WO_p (PS_assign_int rfl) ?_
                          refine WO_p (PS_assign_bool rfl) ?_
                          refine WO_nil ?_
                          refine thn_normal ?_
                          refine W_ret ?_
                          refine inBlk_ret ?_
                          refine thn_ret ?_
                          refine bodyQ_ret4 Hvad.results50 rfl rfl rfl rfl (.int _ _) (.int _ _) (.int _ _) (.bool _) rfl rfl rfl rfl ?_
                          first
                          | (exfalso; omega)
                          | (refine ⟨(by repeat (first | assumption | exact Ext.refl _ | refine Ext.alloc ?_ _ | refine Ext.drew ?_ | refine Ext.setB ?_ (by first | omega | (simp only [size_alloc, size_setB, size_drew]; omega)) _ | refine Ext.trans ?_ (by assumption))), ?_⟩; rw [show o = _ from by assumption]; rfl)
                          | (refine ⟨(by repeat (first | assumption | exact Ext.refl _ | refine Ext.alloc ?_ _ | refine Ext.drew ?_ | refine Ext.setB ?_ (by first | omega | (simp only [size_alloc, size_setB, size_drew]; omega)) _ | refine Ext.trans ?_ (by assumption))), ?_⟩; unfold infoW; rw [if_pos (by omega)])
                          | (refine ⟨(by repeat (first | assumption | exact Ext.refl _ | refine Ext.alloc ?_ _ | refine Ext.drew ?_ | refine Ext.setB ?_ (by first | omega | (simp only [size_alloc, size_setB, size_drew]; omega)) _ | refine Ext.trans ?_ (by assumption))), ?_⟩; unfold infoW; rw [if_neg (by omega), if_pos (by omega)])
                          | (refine ⟨(by repeat (first | assumption | exact Ext.refl _ | refine Ext.alloc ?_ _ | refine Ext.drew ?_ | refine Ext.setB ?_ (by first | omega | (simp only [size_alloc, size_setB, size_drew]; omega)) _ | refine Ext.trans ?_ (by assumption))), ?_⟩; unfold infoW; rw [if_neg (by omega), if_neg (by omega), if_pos (by omega)])
                          | (refine ⟨(by repeat (first | assumption | exact Ext.refl _ | refine Ext.alloc ?_ _ | refine Ext.drew ?_ | refine Ext.setB ?_ (by first | omega | (simp only [size_alloc, size_setB, size_drew]; omega)) _ | refine Ext.trans ?_ (by assumption))), ?_⟩; unfold infoW; rw [if_neg (by omega), if_neg (by omega), if_neg (by omega), if_pos (by omega)])
                          | (refine ⟨(by repeat (first | assumption | exact Ext.refl _ | refine Ext.alloc ?_ _ | refine Ext.drew ?_ | refine Ext.setB ?_ (by first | omega | (simp only [size_alloc, size_setB, size_drew]; omega)) _ | refine Ext.trans ?_ (by assumption))), ?_⟩; unfold infoW; repeat rw [if_neg (by omega)])
                        · have hb82p := hb82.h; try simp only [al_ete, al_dfn, Bool.not_eq_true', Bool.not_eq_false', al_ne, Bool.not_not, al_nn] at hb82p
                          refine W_seq ?_
                          refine W_region rfl ?_
                          refine WO_p (PS_eql rfl rfl) ?_
                          refine WO_p (PS_assign_bool rfl) ?_
                          refine WO_nil ?_
                          refine thn_normal ?_
                          refine W_if rfl (fun hb84 => ?_) (fun hb84 => ?_)
                          · have hb84p := hb84.h; try simp only [al_ete, al_dfn, Bool.not_eq_true', Bool.not_eq_false', al_ne, Bool.not_not, al_nn] at hb84p
                            refine W_skip ?_
                            refine thn_normal ?_
                            refine W_condT rfl hb84.h ?_
                            refine W_seq ?_
                            refine W_region rfl ?_
                            refine WO_p (PS_assign_int rfl) ?_
                            refine WO_p (PS_assign_int rfl) ?_
                            refine WO_p (PS_assign_int rfl) ?_
                            refine WO_p (PS_assign_bool rfl) ?_
                            refine WO_nil ?_
                            refine thn_normal ?_
                            refine W_ret ?_
                            refine inBlk_ret ?_
                            refine thn_ret ?_
                            refine bodyQ_ret4 Hvad.results50 rfl rfl rfl rfl (.int _ _) (.int _ _) (.int _ _) (.bool _) rfl rfl rfl rfl ?_
                            first
                            | (exfalso; omega)
                            | (refine ⟨(by repeat (first | assumption | exact Ext.refl _ | refine Ext.alloc ?_ _ | refine Ext.drew ?_ | refine Ext.setB ?_ (by first | omega | (simp only [size_alloc, size_setB, size_drew]; omega)) _ | refine Ext.trans ?_ (by assumption))), ?_⟩; rw [show o = _ from by assumption]; rfl)
                            | (refine ⟨(by repeat (first | assumption | exact Ext.refl _ | refine Ext.alloc ?_ _ | refine Ext.drew ?_ | refine Ext.setB ?_ (by first | omega | (simp only [size_alloc, size_setB, size_drew]; omega)) _ | refine Ext.trans ?_ (by assumption))), ?_⟩; unfold infoW; rw [if_pos (by omega)])
                            | (refine ⟨(by repeat (first | assumption | exact Ext.refl _ | refine Ext.alloc ?_ _ | refine Ext.drew ?_ | refine Ext.setB ?_ (by first | omega | (simp only [size_alloc, size_setB, size_drew]; omega)) _ | refine Ext.trans ?_ (by assumption))), ?_⟩; unfold infoW; rw [if_neg (by omega), if_pos (by omega)])
                            | (refine ⟨(by repeat (first | assumption | exact Ext.refl _ | refine Ext.alloc ?_ _ | refine Ext.drew ?_ | refine Ext.setB ?_ (by first | omega | (simp only [size_alloc, size_setB, size_drew]; omega)) _ | refine Ext.trans ?_ (by assumption))), ?_⟩; unfold infoW; rw [if_neg (by omega), if_neg (by omega), if_pos (by omega)])
                            | (refine ⟨(by repeat (first | assumption | exact Ext.refl _ | refine Ext.alloc ?_ _ | refine Ext.drew ?_ | refine Ext.setB ?_ (by first | omega | (simp only [size_alloc, size_setB, size_drew]; omega)) _ | refine Ext.trans ?_ (by assumption))), ?_⟩; unfold infoW; rw [if_neg (by omega), if_neg (by omega), if_neg (by omega), if_pos (by omega)])
                            | (refine ⟨(by repeat (first | assumption | exact Ext.refl _ | refine Ext.alloc ?_ _ | refine Ext.drew ?_ | refine Ext.setB ?_ (by first | omega | (simp only [size_alloc, size_setB, size_drew]; omega)) _ | refine Ext.trans ?_ (by assumption))), ?_⟩; unfold infoW; repeat rw [if_neg (by omega)])
                          · have hb84p := hb84.h; try simp only [al_ete, al_dfn, Bool.not_eq_true', Bool.not_eq_false', al_ne, Bool.not_not, al_nn] at hb84p
                            refine W_seq ?_
                            refine W_region rfl ?_
                            refine WO_p (PS_eql rfl rfl) ?_
                            refine WO_p (PS_assign_bool rfl) ?_
                            refine WO_nil ?_
                            refine thn_normal ?_
                            refine W_if rfl (fun hb86 => ?_) (fun hb86 => ?_)
                            · have hb86p := hb86.h; try simp only [al_ete, al_dfn, Bool.not_eq_true', Bool.not_eq_false', al_ne, Bool.not_not, al_nn] at hb86p
                              refine W_skip ?_
                              refine thn_normal ?_
                              refine W_condT rfl hb86.h ?_
                              refine W_seq ?_
                              refine W_region rfl ?_
                              refine WO_p (PS_assign_int rfl) ?_
                              refine WO_p (PS_assign_int rfl) ?_
                              refine WO_p (PS_assign_int rfl) ?_
                              refine WO_p (PS_assign_bool rfl) ?_
                              refine WO_nil ?_
                              refine thn_normal ?_
                              refine W_ret ?_
                              refine inBlk_ret ?_
                              refine thn_ret ?_
                              refine bodyQ_ret4 Hvad.results50 rfl rfl rfl rfl (.int _ _) (.int _ _) (.int _ _) (.bool _) rfl rfl rfl rfl ?_
                              first
                              | (exfalso; omega)
                              | (refine ⟨(by repeat (first | assumption | exact Ext.refl _ | refine Ext.alloc ?_ _ | refine Ext.drew ?_ | refine Ext.setB ?_ (by first | omega | (simp only [size_alloc, size_setB, size_drew]; omega)) _ | refine Ext.trans ?_ (by assumption))), ?_⟩; rw [show o = _ from by assumption]; rfl)
                              | (refine ⟨(by repeat (first | assumption | exact Ext.refl _ | refine Ext.alloc ?_ _ | refine Ext.drew ?_ | refine Ext.setB ?_ (by first | omega | (simp only [size_alloc, size_setB, size_drew]; omega)) _ | refine Ext.trans ?_ (by assumption))), ?_⟩; unfold infoW; rw [if_pos (by omega)])
                              | (refine ⟨(by repeat (first | assumption | exact Ext.refl _ | refine Ext.alloc ?_ _ | refine Ext.drew ?_ | refine Ext.setB ?_ (by first | omega | (simp only [size_alloc, size_setB, size_drew]; omega)) _ | refine Ext.trans ?_ (by assumption))), ?_⟩; unfold infoW; rw [if_neg (by omega), if_pos (by omega)])
                              | (refine ⟨(by repeat (first | assumption | exact Ext.refl _ | refine Ext.alloc ?_ _ | refine Ext.drew ?_ | refine Ext.setB ?_ (by first | omega | (simp only [size_alloc, size_setB, size_drew]; omega)) _ | refine Ext.trans ?_ (by assumption))), ?_⟩; unfold infoW; rw [if_neg (by omega), if_neg (by omega), if_pos (by omega)])
                              | (refine ⟨(by repeat (first | assumption | exact Ext.refl _ | refine Ext.alloc ?_ _ | refine Ext.drew ?_ | refine Ext.setB ?_ (by first | omega | (simp only [size_alloc, size_setB, size_drew]; omega)) _ | refine Ext.trans ?_ (by assumption))), ?_⟩; unfold infoW; rw [if_neg (by omega), if_neg (by omega), if_neg (by omega), if_pos (by omega)])
                              | (refine ⟨(by repeat (first | assumption | exact Ext.refl _ | refine Ext.alloc ?_ _ | refine Ext.drew ?_ | refine Ext.setB ?_ (by first | omega | (simp only [size_alloc, size_setB, size_drew]; omega)) _ | refine Ext.trans ?_ (by assumption))), ?_⟩; unfold infoW; repeat rw [if_neg (by omega)])
                            · have hb86p := hb86.h; try simp only [al_ete, al_dfn, Bool.not_eq_true', Bool.not_eq_false', al_ne, Bool.not_not, al_nn] at hb86p
                              refine W_seq ?_
                              refine W_region rfl ?_
                              refine WO_p (PS_eql rfl rfl) ?_
                              refine WO_p (PS_assign_bool rfl) ?_
                              refine WO_nil ?_
                              refine thn_normal ?_
                              refine W_if rfl (fun hb88 => ?_) (fun hb88 => ?_)
                              · have hb88p := hb88.h; try simp only [al_ete, al_dfn, Bool.not_eq_true', Bool.not_eq_false', al_ne, Bool.not_not, al_nn] at hb88p
                                refine W_skip ?_
                                refine thn_normal ?_
                                refine W_condT rfl hb88.h ?_
                                refine W_seq ?_
                                refine W_region rfl ?_
                                refine WO_p (PS_assign_int rfl) ?_
                                refine WO_p (PS_assign_int rfl) ?_
                                refine WO_p (PS_assign_int rfl) ?_
                                refine WO_p (PS_assign_bool rfl) ?_
                                refine WO_nil ?_
                                refine thn_normal ?_
                                refine W_ret ?_
                                refine inBlk_ret ?_
                                refine thn_ret ?_
                                refine bodyQ_ret4 Hvad.results50 rfl rfl rfl rfl (.int _ _) (.int _ _) (.int _ _) (.bool _) rfl rfl rfl rfl ?_
                                first
                                | (exfalso; omega)
                                | (refine ⟨(by repeat (first | assumption | exact Ext.refl _ | refine Ext.alloc ?_ _ | refine Ext.drew ?_ | refine Ext.setB ?_ (by first | omega | (simp only [size_alloc, size_setB, size_drew]; omega)) _ | refine Ext.trans ?_ (by assumption))), ?_⟩; rw [show o = _ from by assumption]; rfl)
                                | (refine ⟨(by repeat (first | assumption | exact Ext.refl _ | refine Ext.alloc ?_ _ | refine Ext.drew ?_ | refine Ext.setB ?_ (by first | omega | (simp only [size_alloc, size_setB, size_drew]; omega)) _ | refine Ext.trans ?_ (by assumption))), ?_⟩; unfold infoW; rw [if_pos (by omega)])
                                | (refine ⟨(by repeat (first | assumption | exact Ext.refl _ | refine Ext.alloc ?_ _ | refine Ext.drew ?_ | refine Ext.setB ?_ (by first | omega | (simp only [size_alloc, size_setB, size_drew]; omega)) _ | refine Ext.trans ?_ (by assumption))), ?_⟩; unfold infoW; rw [if_neg (by omega), if_pos (by omega)])
                                | (refine ⟨(by repeat (first | assumption | exact Ext.refl _ | refine Ext.alloc ?_ _ | refine Ext.drew ?_ | refine Ext.setB ?_ (by first | omega | (simp only [size_alloc, size_setB, size_drew]; omega)) _ | refine Ext.trans ?_ (by assumption))), ?_⟩; unfold infoW; rw [if_neg (by omega), if_neg (by omega), if_pos (by omega)])
                                | (refine ⟨(by repeat (first | assumption | exact Ext.refl _ | refine Ext.alloc ?_ _ | refine Ext.drew ?_ | refine Ext.setB ?_ (by first | omega | (simp only [size_alloc, size_setB, size_drew]; omega)) _ | refine Ext.trans ?_ (by assumption))), ?_⟩; unfold infoW; rw [if_neg (by omega), if_neg (by omega), if_neg (by omega), if_pos (by omega)])
                                | (refine ⟨(by repeat (first | assumption | exact Ext.refl _ | refine Ext.alloc ?_ _ | refine Ext.drew ?_ | refine Ext.setB ?_ (by first | omega | (simp only [size_alloc, size_setB, size_drew]; omega)) _ | refine Ext.trans ?_ (by assumption))), ?_⟩; unfold infoW; repeat rw [if_neg (by omega)])
                              · have hb88p := hb88.h; try simp only [al_ete, al_dfn, Bool.not_eq_true', Bool.not_eq_false', al_ne, Bool.not_not, al_nn] at hb88p
                                refine W_seq ?_
                                refine W_region rfl ?_
                                refine WO_p (PS_eql rfl rfl) ?_
                                refine WO_p (PS_assign_bool rfl) ?_
                                refine WO_nil ?_
                                refine thn_normal ?_
                                refine W_if rfl (fun hb90 => ?_) (fun hb90 => ?_)
                                · have hb90p := hb90.h; try simp only [al_ete, al_dfn, Bool.not_eq_true', Bool.not_eq_false', al_ne, Bool.not_not, al_nn] at hb90p
                                  refine W_skip ?_
                                  refine thn_normal ?_
                                  refine W_condT rfl hb90.h ?_
                                  refine W_seq ?_
                                  refine W_region rfl ?_
                                  refine WO_p (PS_assign_int rfl) ?_
                                  refine WO_p (PS_assign_int rfl) ?_
                                  refine WO_p (PS_assign_int rfl) ?_
                                  refine WO_p (PS_assign_bool rfl) ?_
                                  refine WO_nil ?_
                                  refine thn_normal ?_
                                  refine W_ret ?_
                                  refine inBlk_ret ?_
                                  refine thn_ret ?_
                                  refine bodyQ_ret4 Hvad.results50 rfl rfl rfl rfl (.int _ _) (.int _ _) (.int _ _) (.bool _) rfl rfl rfl rfl ?_
                                  first
                                  | (exfalso; omega)
                                  | (refine ⟨(by repeat (first | assumption | exact Ext.refl _ | refine Ext.alloc ?_ _ | refine Ext.drew ?_ | refine Ext.setB ?_ (by first | omega | (simp only [size_alloc, size_setB, size_drew]; omega)) _ | refine Ext.trans ?_ (by assumption))), ?_⟩; rw [show o = _ from by assumption]; rfl)
                                  | (refine ⟨(by repeat (first | assumption | exact Ext.refl _ | refine Ext.alloc ?_ _ | refine Ext.drew ?_ | refine Ext.setB ?_ (by first | omega | (simp only [size_alloc, size_setB, size_drew]; omega)) _ | refine Ext.trans ?_ (by assumption))), ?_⟩; unfold infoW; rw [if_pos (by omega)])
                                  | (refine ⟨(by repeat (first | assumption | exact Ext.refl _ | refine Ext.alloc ?_ _ | refine Ext.drew ?_ | refine Ext.setB ?_ (by first | omega | (simp only [size_alloc, size_setB, size_drew]; omega)) _ | refine Ext.trans ?_ (by assumption))), ?_⟩; unfold infoW; rw [if_neg (by omega), if_pos (by omega)])
                                  | (refine ⟨(by repeat (first | assumption | exact Ext.refl _ | refine Ext.alloc ?_ _ | refine Ext.drew ?_ | refine Ext.setB ?_ (by first | omega | (simp only [size_alloc, size_setB, size_drew]; omega)) _ | refine Ext.trans ?_ (by assumption))), ?_⟩; unfold infoW; rw [if_neg (by omega), if_neg (by omega), if_pos (by omega)])
                                  | (refine ⟨(by repeat (first | assumption | exact Ext.refl _ | refine Ext.alloc ?_ _ | refine Ext.drew ?_ | refine Ext.setB ?_ (by first | omega | (simp only [size_alloc, size_setB, size_drew]; omega)) _ | refine Ext.trans ?_ (by assumption))), ?_⟩; unfold infoW; rw [if_neg (by omega), if_neg (by omega), if_neg (by omega), if_pos (by omega)])
                                  | (refine ⟨(by repeat (first | assumption | exact Ext.refl _ | refine Ext.alloc ?_ _ | refine Ext.drew ?_ | refine Ext.setB ?_ (by first | omega | (simp only [size_alloc, size_setB, size_drew]; omega)) _ | refine Ext.trans ?_ (by assumption))), ?_⟩; unfold infoW; repeat rw [if_neg (by omega)])
                                · have hb90p := hb90.h; try simp only [al_ete, al_dfn, Bool.not_eq_true', Bool.not_eq_false', al_ne, Bool.not_not, al_nn] at hb90p
                                  refine W_seq ?_
                                  refine W_region rfl ?_
                                  refine WO_p (PS_eql rfl rfl) ?_
                                  refine WO_p (PS_assign_bool rfl) ?_
                                  refine WO_nil ?_
                                  refine thn_normal ?_
                                  refine W_if rfl (fun hb92 => ?_) (fun hb92 => ?_)
                                  · have hb92p := hb92.h; try simp only [al_ete, al_dfn, Bool.not_eq_true', Bool.not_eq_false', al_ne, Bool.not_not, al_nn] at hb92p
                                    refine W_skip ?_
                                    refine thn_normal ?_
                                    refine W_condT rfl hb92.h ?_
                                    refine W_seq ?_
                                    refine W_region rfl ?_
                                    refine WO_p (PS_assign_int rfl) ?_
                                    refine WO_p (PS_assign_int rfl) ?_
                                    refine WO_p (PS_assign_int rfl) ?_
                                    refine WO_p (PS_assign_bool rfl) ?_
                                    refine WO_nil ?_
                                    refine thn_normal ?_
                                    refine W_ret ?_
                                    refine inBlk_ret ?_
                                    refine thn_ret ?_
                                    refine bodyQ_ret4 Hvad.results50 rfl rfl rfl rfl (.int _ _) (.int _ _) (.int _ _) (.bool _) rfl rfl rfl rfl ?_
                                    first
                                    | (exfalso; omega)
                                    | (refine ⟨(by repeat (first | assumption | exact Ext.refl _ | refine Ext.alloc ?_ _ | refine Ext.drew ?_ | refine Ext.setB ?_ (by first | omega | (simp only [size_alloc, size_setB, size_drew]; omega)) _ | refine Ext.trans ?_ (by assumption))), ?_⟩; rw [show o = _ from by assumption]; rfl)
                                    | (refine ⟨(by repeat (first | assumption | exact Ext.refl _ | refine Ext.alloc ?_ _ | refine Ext.drew ?_ | refine Ext.setB ?_ (by first | omega | (simp only [size_alloc, size_setB, size_drew]; omega)) _ | refine Ext.trans ?_ (by assumption))), ?_⟩; unfold infoW; rw [if_pos (by omega)])
                                    | (refine ⟨(by repeat (first | assumption | exact Ext.refl _ | refine Ext.alloc ?_ _ | refine Ext.drew ?_ | refine Ext.setB ?_ (by first | omega | (simp only [size_alloc, size_setB, size_drew]; omega)) _ | refine Ext.trans ?_ (by assumption))), ?_⟩; unfold infoW; rw [if_neg (by omega), if_pos (by omega)])
                                    | (refine ⟨(by repeat (first | assumption | exact Ext.refl _ | refine Ext.alloc ?_ _ | refine Ext.drew ?_ | refine Ext.setB ?_ (by first | omega | (simp only [size_alloc, size_setB, size_drew]; omega)) _ | refine Ext.trans ?_ (by assumption))), ?_⟩; unfold infoW; rw [if_neg (by omega), if_neg (by omega), if_pos (by omega)])
                                    | (refine ⟨(by repeat (first | assumption | exact Ext.refl _ | refine Ext.alloc ?_ _ | refine Ext.drew ?_ | refine Ext.setB ?_ (by first | omega | (simp only [size_alloc, size_setB, size_drew]; omega)) _ | refine Ext.trans ?_ (by assumption))), ?_⟩; unfold infoW; rw [if_neg (by omega), if_neg (by omega), if_neg (by omega), if_pos (by omega)])
                                    | (refine ⟨(by repeat (first | assumption | exact Ext.refl _ | refine Ext.alloc ?_ _ | refine Ext.drew ?_ | refine Ext.setB ?_ (by first | omega | (simp only [size_alloc, size_setB, size_drew]; omega)) _ | refine Ext.trans ?_ (by assumption))), ?_⟩; unfold infoW; repeat rw [if_neg (by omega)])
                                  · have hb92p := hb92.h; try simp only [al_ete, al_dfn, Bool.not_eq_true', Bool.not_eq_false', al_ne, Bool.not_not, al_nn] at hb92p
                                    refine W_seq ?_
                                    refine W_region rfl ?_
                                    refine WO_p (PS_eql rfl rfl) ?_
                                    refine WO_p (PS_assign_bool rfl) ?_
                                    refine WO_nil ?_
                                    refine thn_normal ?_
                                    refine W_if rfl (fun hb94 => ?_) (fun hb94 => ?_)
                                    · have hb94p := hb94.h; try simp only [al_ete, al_dfn, Bool.not_eq_true', Bool.not_eq_false', al_ne, Bool.not_not, al_nn] at hb94p
                                      refine W_skip ?_
                                      refine thn_normal ?_
                                      refine W_condT rfl hb94.h ?_
                                      refine W_seq ?_
                                      refine W_region rfl ?_
                                      refine WO_p (PS_assign_int rfl) ?_
                                      refine WO_p (PS_assign_int rfl) ?_
                                      refine WO_p (PS_assign_int rfl) ?_
                                      refine WO_p (PS_assign_bool rfl) ?_
                                      refine WO_nil ?_
                                      refine thn_normal ?_
                                      refine W_ret ?_
                                      refine inBlk_ret ?_
                                      refine thn_ret ?_
                                      refine bodyQ_ret4 Hvad.results50 rfl rfl rfl rfl (.int _ _) (.int _ _) (.int _ _) (.bool _) rfl rfl rfl rfl ?_
                                      first
                                      | (exfalso; omega)
                                      | (refine ⟨(by repeat (first | assumption | exact Ext.refl _ | refine Ext.alloc ?_ _ | refine Ext.drew ?_ | refine Ext.setB ?_ (by first | omega | (simp only [size_alloc, size_setB, size_drew]; omega)) _ | refine Ext.trans ?_ (by assumption))), ?_⟩; rw [show o = _ from by assumption]; rfl)
                                      | (refine ⟨(by repeat (first | assumption | exact Ext.refl _ | refine Ext.alloc ?_ _ | refine Ext.drew ?_ | refine Ext.setB ?_ (by first | omega | (simp only [size_alloc, size_setB, size_drew]; omega)) _ | refine Ext.trans ?_ (by assumption))), ?_⟩; unfold infoW; rw [if_pos (by omega)])
                                      | (refine ⟨(by repeat (first | assumption | exact Ext.refl _ | refine Ext.alloc ?_ _ | refine Ext.drew ?_ | refine Ext.setB ?_ (by first | omega | (simp only [size_alloc, size_setB, size_drew]; omega)) _ | refine Ext.trans ?_ (by assumption))), ?_⟩; unfold infoW; rw [if_neg (by omega), if_pos (by omega)])
                                      | (refine ⟨(by repeat (first | assumption | exact Ext.refl _ | refine Ext.alloc ?_ _ | refine Ext.drew ?_ | refine Ext.setB ?_ (by first | omega | (simp only [size_alloc, size_setB, size_drew]; omega)) _ | refine Ext.trans ?_ (by assumption))), ?_⟩; unfold infoW; rw [if_neg (by omega), if_neg (by omega), if_pos (by omega)])
                                      | (refine ⟨(by repeat (first | assumption | exact Ext.refl _ | refine Ext.alloc ?_ _ | refine Ext.drew ?_ | refine Ext.setB ?_ (by first | omega | (simp only [size_alloc, size_setB, size_drew]; omega)) _ | refine Ext.trans ?_ (by assumption))), ?_⟩; unfold infoW; rw [if_neg (by omega), if_neg (by omega), if_neg (by omega), if_pos (by omega)])
                                      | (refine ⟨(by repeat (first | assumption | exact Ext.refl _ | refine Ext.alloc ?_ _ | refine Ext.drew ?_ | refine Ext.setB ?_ (by first | omega | (simp only [size_alloc, size_setB, size_drew]; omega)) _ | refine Ext.trans ?_ (by assumption))), ?_⟩; unfold infoW; repeat rw [if_neg (by omega)])
                                    · have hb94p := hb94.h; try simp only [al_ete, al_dfn, Bool.not_eq_true', Bool.not_eq_false', al_ne, Bool.not_not, al_nn] at hb94p
                                      refine W_seq ?_
                                      refine W_region rfl ?_
                                      refine WO_p (PS_eql rfl rfl) ?_
                                      refine WO_p (PS_assign_bool rfl) ?_
                                      refine WO_nil ?_
                                      refine thn_normal ?_
                                      refine W_if rfl (fun hb96 => ?_) (fun hb96 => ?_)
                                      · have hb96p := hb96.h; try simp only [al_ete, al_dfn, Bool.not_eq_true', Bool.not_eq_false', al_ne, Bool.not_not, al_nn] at hb96p
                                        refine W_skip ?_
                                        refine thn_normal ?_
                                        refine W_condT rfl hb96.h ?_
                                        refine W_seq ?_
                                        refine W_region rfl ?_
                                        refine WO_p (PS_assign_int rfl) ?_
                                        refine WO_p (PS_assign_int rfl) ?_
                                        refine WO_p (PS_assign_int rfl) ?_
                                        refine WO_p (PS_assign_bool rfl) ?_
                                        refine WO_nil ?_
                                        refine thn_normal ?_
                                        refine W_ret ?_
                                        refine inBlk_ret ?_
                                        refine thn_ret ?_
                                        refine bodyQ_ret4 Hvad.results50 rfl rfl rfl rfl (.int _ _) (.int _ _) (.int _ _) (.bool _) rfl rfl rfl rfl ?_
                                        first
                                        | (exfalso; omega)
                                        | (refine ⟨(by repeat (first | assumption | exact Ext.refl _ | refine Ext.alloc ?_ _ | refine Ext.drew ?_ | refine Ext.setB ?_ (by first | omega | (simp only [size_alloc, size_setB, size_drew]; omega)) _ | refine Ext.trans ?_ (by assumption))), ?_⟩; rw [show o = _ from by assumption]; rfl)
                                        | (refine ⟨(by repeat (first | assumption | exact Ext.refl _ | refine Ext.alloc ?_ _ | refine Ext.drew ?_ | refine Ext.setB ?_ (by first | omega | (simp only [size_alloc, size_setB, size_drew]; omega)) _ | refine Ext.trans ?_ (by assumption))), ?_⟩; unfold infoW; rw [if_pos (by omega)])
                                        | (refine ⟨(by repeat (first | assumption | exact Ext.refl _ | refine Ext.alloc ?_ _ | refine Ext.drew ?_ | refine Ext.setB ?_ (by first | omega | (simp only [size_alloc, size_setB, size_drew]; omega)) _ | refine Ext.trans ?_ (by assumption))), ?_⟩; unfold infoW; rw [if_neg (by omega), if_pos (by omega)])
                                        | (refine ⟨(by repeat (first | assumption | exact Ext.refl _ | refine Ext.alloc ?_ _ | refine Ext.drew ?_ | refine Ext.setB ?_ (by first | omega | (simp only [size_alloc, size_setB, size_drew]; omega)) _ | refine Ext.trans ?_ (by assumption))), ?_⟩; unfold infoW; rw [if_neg (by omega), if_neg (by omega), if_pos (by omega)])
                                        | (refine ⟨(by repeat (first | assumption | exact Ext.refl _ | refine Ext.alloc ?_ _ | refine Ext.drew ?_ | refine Ext.setB ?_ (by first | omega | (simp only [size_alloc, size_setB, size_drew]; omega)) _ | refine Ext.trans ?_ (by assumption))), ?_⟩; unfold infoW; rw [if_neg (by omega), if_neg (by omega), if_neg (by omega), if_pos (by omega)])
                                        | (refine ⟨(by repeat (first | assumption | exact Ext.refl _ | refine Ext.alloc ?_ _ | refine Ext.drew ?_ | refine Ext.setB ?_ (by first | omega | (simp only [size_alloc, size_setB, size_drew]; omega)) _ | refine Ext.trans ?_ (by assumption))), ?_⟩; unfold infoW; repeat rw [if_neg (by omega)])
                                      · have hb96p := hb96.h; try simp only [al_ete, al_dfn, Bool.not_eq_true', Bool.not_eq_false', al_ne, Bool.not_not, al_nn] at hb96p
                                        refine W_seq ?_
                                        refine W_region rfl ?_
                                        refine WO_p (PS_eql rfl rfl) ?_
                                        refine WO_p (PS_assign_bool rfl) ?_
                                        refine WO_nil ?_
                                        refine thn_normal ?_
                                        refine W_if rfl (fun hb98 => ?_) (fun hb98 => ?_)
                                        · have hb98p := hb98.h; try simp only [al_ete, al_dfn, Bool.not_eq_true', Bool.not_eq_false', al_ne, Bool.not_not, al_nn] at hb98p
                                          refine W_skip ?_
                                          refine thn_normal ?_
                                          refine W_condT rfl hb98.h ?_
                                          refine W_seq ?_
                                          refine W_region rfl ?_
                                          refine WO_p (PS_assign_int rfl) ?_
                                          refine WO_p (PS_assign_int rfl) ?_
                                          refine WO_p (PS_assign_int rfl) ?_
                                          refine WO_p (PS_assign_bool rfl) ?_
                                          refine WO_nil ?_
                                          refine thn_normal ?_
                                          refine W_ret ?_
                                          refine inBlk_ret ?_
                                          refine thn_ret ?_
                                          refine bodyQ_ret4 Hvad.results50 rfl rfl rfl rfl (.int _ _) (.int _ _) (.int _ _) (.bool _) rfl rfl rfl rfl ?_
                                          first
                                          | (exfalso; omega)
                                          | (refine ⟨(by repeat (first | assumption | exact Ext.refl _ | refine Ext.alloc ?_ _ | refine Ext.drew ?_ | refine Ext.setB ?_ (by first | omega | (simp only [size_alloc, size_setB, size_drew]; omega)) _ | refine Ext.trans ?_ (by assumption))), ?_⟩; rw [show o = _ from by assumption]; rfl)
                                          | (refine ⟨(by repeat (first | assumption | exact Ext.refl _ | refine Ext.alloc ?_ _ | refine Ext.drew ?_ | refine Ext.setB ?_ (by first | omega | (simp only [size_alloc, size_setB, size_drew]; omega)) _ | refine Ext.trans ?_ (by assumption))), ?_⟩; unfold infoW; rw [if_pos (by omega)])
                                          | (refine ⟨(by repeat (first | assumption | exact Ext.refl _ | refine Ext.alloc ?_ _ | refine Ext.drew ?_ | refine Ext.setB ?_ (by first | omega | (simp only [size_alloc, size_setB, size_drew]; omega)) _ | refine Ext.trans ?_ (by assumption))), ?_⟩; unfold infoW; rw [if_neg (by omega), if_pos (by omega)])
                                          | (refine ⟨(by repeat (first | assumption | exact Ext.refl _ | refine Ext.alloc ?_ _ | refine Ext.drew ?_ | refine Ext.setB ?_ (by first | omega | (simp only [size_alloc, size_setB, size_drew]; omega)) _ | refine Ext.trans ?_ (by assumption))), ?_⟩; unfold infoW; rw [if_neg (by omega), if_neg (by omega), if_pos (by omega)])
                                          | (refine ⟨(by repeat (first | assumption | exact Ext.refl _ | refine Ext.alloc ?_ _ | refine Ext.drew ?_ | refine Ext.setB ?_ (by first | omega | (simp only [size_alloc, size_setB, size_drew]; omega)) _ | refine Ext.trans ?_ (by assumption))), ?_⟩; unfold infoW; rw [if_neg (by omega), if_neg (by omega), if_neg (by omega), if_pos (by omega)])
                                          | (refine ⟨(by repeat (first | assumption | exact Ext.refl _ | refine Ext.alloc ?_ _ | refine Ext.drew ?_ | refine Ext.setB ?_ (by first | omega | (simp only [size_alloc, size_setB, size_drew]; omega)) _ | refine Ext.trans ?_ (by assumption))), ?_⟩; unfold infoW; repeat rw [if_neg (by omega)])
                                        · have hb98p := hb98.h; try simp only [al_ete, al_dfn, Bool.not_eq_true', Bool.not_eq_false', al_ne, Bool.not_not, al_nn] at hb98p
                                          refine W_seq ?_
                                          refine W_region rfl ?_
                                          refine WO_p (PS_eql rfl rfl) ?_
                                          refine WO_p (PS_assign_bool rfl) ?_
                                          refine WO_nil ?_
                                          refine thn_normal ?_
                                          refine W_if rfl (fun hb100 => ?_) (fun hb100 => ?_)
                                          · have hb100p := hb100.h; try simp only [al_ete, al_dfn, Bool.not_eq_true', Bool.not_eq_false', al_ne, Bool.not_not, al_nn] at hb100p
                                            refine W_skip ?_
                                            refine thn_normal ?_
                                            refine W_condT rfl hb100.h ?_
                                            refine W_seq ?_
                                            refine W_region rfl ?_
                                            refine WO_p (PS_assign_int rfl) ?_
                                            refine WO_p (PS_assign_int rfl) ?_
                                            refine WO_p (PS_assign_int rfl) ?_
                                            refine WO_p (PS_assign_bool rfl) ?_
                                            refine WO_nil ?_
                                            refine thn_normal ?_
                                            refine W_ret ?_
                                            refine inBlk_ret ?_
                                            refine thn_ret ?_
                                            refine bodyQ_ret4 Hvad.results50 rfl rfl rfl rfl (.int _ _) (.int _ _) (.int _ _) (.bool _) rfl rfl rfl rfl ?_
                                            first
                                            | (exfalso; omega)
                                            | (refine ⟨(by repeat (first | assumption | exact Ext.refl _ | refine Ext.alloc ?_ _ | refine Ext.drew ?_ | refine Ext.setB ?_ (by first | omega | (simp only [size_alloc, size_setB, size_drew]; omega)) _ | refine Ext.trans ?_ (by assumption))), ?_⟩; rw [show o = _ from by assumption]; rfl)
                                            | (refine ⟨(by repeat (first | assumption | exact Ext.refl _ | refine Ext.alloc ?_ _ | refine Ext.drew ?_ | refine Ext.setB ?_ (by first | omega | (simp only [size_alloc, size_setB, size_drew]; omega)) _ | refine Ext.trans ?_ (by assumption))), ?_⟩; unfold infoW; rw [if_pos (by omega)])
                                            | (refine ⟨(by repeat (first | assumption | exact Ext.refl _ | refine Ext.alloc ?_ _ | refine Ext.drew ?_ | refine Ext.setB ?_ (by first | omega | (simp only [size_alloc, size_setB, size_drew]; omega)) _ | refine Ext.trans ?_ (by assumption))), ?_⟩; unfold infoW; rw [if_neg (by omega), if_pos (by omega)])
                                            | (refine ⟨(by repeat (first | assumption | exact Ext.refl _ | refine Ext.alloc ?_ _ | refine Ext.drew ?_ | refine Ext.setB ?_ (by first | omega | (simp only [size_alloc, size_setB, size_drew]; omega)) _ | refine Ext.trans ?_ (by assumption))), ?_⟩; unfold infoW; rw [if_neg (by omega), if_neg (by omega), if_pos (by omega)])
                                            | (refine ⟨(by repeat (first | assumption | exact Ext.refl _ | refine Ext.alloc ?_ _ | refine Ext.drew ?_ | refine Ext.setB ?_ (by first | omega | (simp only [size_alloc, size_setB, size_drew]; omega)) _ | refine Ext.trans ?_ (by assumption))), ?_⟩; unfold infoW; rw [if_neg (by omega), if_neg (by omega), if_neg (by omega), if_pos (by omega)])
                                            | (refine ⟨(by repeat (first | assumption | exact Ext.refl _ | refine Ext.alloc ?_ _ | refine Ext.drew ?_ | refine Ext.setB ?_ (by first | omega | (simp only [size_alloc, size_setB, size_drew]; omega)) _ | refine Ext.trans ?_ (by assumption))), ?_⟩; unfold infoW; repeat rw [if_neg (by omega)])
                                          · have hb100p := hb100.h; try simp only [al_ete, al_dfn, Bool.not_eq_true', Bool.not_eq_false', al_ne, Bool.not_not, al_nn] at hb100p
                                            refine W_region rfl ?_
                                            refine WO_p (PS_eql rfl rfl) ?_
                                            refine WO_p (PS_assign_bool rfl) ?_
                                            refine WO_nil ?_
                                            refine thn_normal ?_
                                            refine W_if rfl (fun hb102 => ?_) (fun hb102 => ?_)
                                            · have hb102p := hb102.h; try simp only [al_ete, al_dfn, Bool.not_eq_true', Bool.not_eq_false', al_ne, Bool.not_not, al_nn] at hb102p
                                              refine W_seq ?_
                                              refine W_region rfl ?_
                                              refine WO_p (PS_assign_int rfl) ?_
                                              refine WO_p (PS_assign_int rfl) ?_
                                              refine WO_p (PS_assign_int rfl) ?_
                                              refine WO_p (PS_assign_bool rfl) ?_
                                              refine WO_nil ?_
                                              refine thn_normal ?_
                                              refine W_ret ?_
                                              refine inBlk_ret ?_
                                              refine thn_ret ?_
                                              refine bodyQ_ret4 Hvad.results50 rfl rfl rfl rfl (.int _ _) (.int _ _) (.int _ _) (.bool _) rfl rfl rfl rfl ?_
                                              first
                                              | (exfalso; omega)
                                              | (refine ⟨(by repeat (first | assumption | exact Ext.refl _ | refine Ext.alloc ?_ _ | refine Ext.drew ?_ | refine Ext.setB ?_ (by first | omega | (simp only [size_alloc, size_setB, size_drew]; omega)) _ | refine Ext.trans ?_ (by assumption))), ?_⟩; rw [show o = _ from by assumption]; rfl)
                                              | (refine ⟨(by repeat (first | assumption | exact Ext.refl _ | refine Ext.alloc ?_ _ | refine Ext.drew ?_ | refine Ext.setB ?_ (by first | omega | (simp only [size_alloc, size_setB, size_drew]; omega)) _ | refine Ext.trans ?_ (by assumption))), ?_⟩; unfold infoW; rw [if_pos (by omega)])
                                              | (refine ⟨(by repeat (first | assumption | exact Ext.refl _ | refine Ext.alloc ?_ _ | refine Ext.drew ?_ | refine Ext.setB ?_ (by first | omega | (simp only [size_alloc, size_setB, size_drew]; omega)) _ | refine Ext.trans ?_ (by assumption))), ?_⟩; unfold infoW; rw [if_neg (by omega), if_pos (by omega)])
                                              | (refine ⟨(by repeat (first | assumption | exact Ext.refl _ | refine Ext.alloc ?_ _ | refine Ext.drew ?_ | refine Ext.setB ?_ (by first | omega | (simp only [size_alloc, size_setB, size_drew]; omega)) _ | refine Ext.trans ?_ (by assumption))), ?_⟩; unfold infoW; rw [if_neg (by omega), if_neg (by omega), if_pos (by omega)])
                                              | (refine ⟨(by repeat (first | assumption | exact Ext.refl _ | refine Ext.alloc ?_ _ | refine Ext.drew ?_ | refine Ext.setB ?_ (by first | omega | (simp only [size_alloc, size_setB, size_drew]; omega)) _ | refine Ext.trans ?_ (by assumption))), ?_⟩; unfold infoW; rw [if_neg (by omega), if_neg (by omega), if_neg (by omega), if_pos (by omega)])
                                              | (refine ⟨(by repeat (first | assumption | exact Ext.refl _ | refine Ext.alloc ?_ _ | refine Ext.drew ?_ | refine Ext.setB ?_ (by first | omega | (simp only [size_alloc, size_setB, size_drew]; omega)) _ | refine Ext.trans ?_ (by assumption))), ?_⟩; unfold infoW; repeat rw [if_neg (by omega)])
                                            · have hb102p := hb102.h; try simp only [al_ete, al_dfn, Bool.not_eq_true', Bool.not_eq_false', al_ne, Bool.not_not, al_nn] at hb102p
                                              refine W_seq ?_
                                              refine W_region rfl ?_
                                              refine WO_p (PS_eql rfl rfl) ?_
                                              refine WO_p (PS_assign_bool rfl) ?_
                                              refine WO_nil ?_
                                              refine thn_normal ?_
                                              refine W_if rfl (fun hb104 => ?_) (fun hb104 => ?_)
                                              · have hb104p := hb104.h; try simp only [al_ete, al_dfn, Bool.not_eq_true', Bool.not_eq_false', al_ne, Bool.not_not, al_nn] at hb104p
                                                refine W_seq ?_
                                                refine W_region rfl ?_
                                                refine WO_p (PS_assign_int rfl) ?_
                                                refine WO_p (PS_assign_int rfl) ?_
                                                refine WO_p (PS_assign_int rfl) ?_
                                                refine WO_p (PS_assign_bool rfl) ?_
                                                refine WO_nil ?_
                                                refine thn_normal ?_
                                                refine W_ret ?_
                                                refine inBlk_ret ?_
                                                refine thn_ret ?_
                                                refine bodyQ_ret4 Hvad.results50 rfl rfl rfl rfl (.int _ _) (.int _ _) (.int _ _) (.bool _) rfl rfl rfl rfl ?_
                                                first
                                                | (exfalso; omega)
                                                | (refine ⟨(by repeat (first | assumption | exact Ext.refl _ | refine Ext.alloc ?_ _ | refine Ext.drew ?_ | refine Ext.setB ?_ (by first | omega | (simp only [size_alloc, size_setB, size_drew]; omega)) _ | refine Ext.trans ?_ (by assumption))), ?_⟩; rw [show o = _ from by assumption]; rfl)
                                                | (refine ⟨(by repeat (first | assumption | exact Ext.refl _ | refine Ext.alloc ?_ _ | refine Ext.drew ?_ | refine Ext.setB ?_ (by first | omega | (simp only [size_alloc, size_setB, size_drew]; omega)) _ | refine Ext.trans ?_ (by assumption))), ?_⟩; unfold infoW; rw [if_pos (by omega)])
                                                | (refine ⟨(by repeat (first | assumption | exact Ext.refl _ | refine Ext.alloc ?_ _ | refine Ext.drew ?_ | refine Ext.setB ?_ (by first | omega | (simp only [size_alloc, size_setB, size_drew]; omega)) _ | refine Ext.trans ?_ (by assumption))), ?_⟩; unfold infoW; rw [if_neg (by omega), if_pos (by omega)])
                                                | (refine ⟨(by repeat (first | assumption | exact Ext.refl _ | refine Ext.alloc ?_ _ | refine Ext.drew ?_ | refine Ext.setB ?_ (by first | omega | (simp only [size_alloc, size_setB, size_drew]; omega)) _ | refine Ext.trans ?_ (by assumption))), ?_⟩; unfold infoW; rw [if_neg (by omega), if_neg (by omega), if_pos (by omega)])
                                                | (refine ⟨(by repeat (first | assumption | exact Ext.refl _ | refine Ext.alloc ?_ _ | refine Ext.drew ?_ | refine Ext.setB ?_ (by first | omega | (simp only [size_alloc, size_setB, size_drew]; omega)) _ | refine Ext.trans ?_ (by assumption))), ?_⟩; unfold infoW; rw [if_neg (by omega), if_neg (by omega), if_neg (by omega), if_pos (by omega)])
                                                | (refine ⟨(by repeat (first | assumption | exact Ext.refl _ | refine Ext.alloc ?_ _ | refine Ext.drew ?_ | refine Ext.setB ?_ (by first | omega | (simp only [size_alloc, size_setB, size_drew]; omega)) _ | refine Ext.trans ?_ (by assumption))), ?_⟩; unfold infoW; repeat rw [if_neg (by omega)])
                                              · have hb104p := hb104.h; try simp only [al_ete, al_dfn, Bool.not_eq_true', Bool.not_eq_false', al_ne, Bool.not_not, al_nn] at hb104p
                                                refine W_seq ?_
                                                refine W_seq ?_
                                                refine W_region rfl ?_
                                                refine WO_p (PS_eql rfl rfl) ?_
                                                refine WO_p (PS_assign_bool rfl) ?_
                                                refine WO_nil ?_
                                                refine thn_normal ?_
                                                refine W_if rfl (fun hb106 => ?_) (fun hb106 => ?_)
                                                · have hb106p := hb106.h; try simp only [al_ete, al_dfn, Bool.not_eq_true', Bool.not_eq_false', al_ne, Bool.not_not, al_nn] at hb106p
                                                  refine W_skip ?_
                                                  refine thn_normal ?_
                                                  refine W_condT rfl hb106.h ?_
                                                  refine W_seq ?_
                                                  refine W_region rfl ?_
                                                  refine WO_p (PS_assign_int rfl) ?_
                                                  refine WO_p (PS_assign_int rfl) ?_
                                                  refine WO_p (PS_assign_int rfl) ?_
                                                  refine WO_p (PS_assign_bool rfl) ?_
                                                  refine WO_nil ?_
                                                  refine thn_normal ?_
                                                  refine W_ret ?_
                                                  refine inBlk_ret ?_
                                                  refine thn_ret ?_
                                                  refine bodyQ_ret4 Hvad.results50 rfl rfl rfl rfl (.int _ _) (.int _ _) (.int _ _) (.bool _) rfl rfl rfl rfl ?_
                                                  first
                                                  | (exfalso; omega)
                                                  | (refine ⟨(by repeat (first | assumption | exact Ext.refl _ | refine Ext.alloc ?_ _ | refine Ext.drew ?_ | refine Ext.setB ?_ (by first | omega | (simp only [size_alloc, size_setB, size_drew]; omega)) _ | refine Ext.trans ?_ (by assumption))), ?_⟩; rw [show o = _ from by assumption]; rfl)
                                                  | (refine ⟨(by repeat (first | assumption | exact Ext.refl _ | refine Ext.alloc ?_ _ | refine Ext.drew ?_ | refine Ext.setB ?_ (by first | omega | (simp only [size_alloc, size_setB, size_drew]; omega)) _ | refine Ext.trans ?_ (by assumption))), ?_⟩; unfold infoW; rw [if_pos (by omega)])
                                                  | (refine ⟨(by repeat (first | assumption | exact Ext.refl _ | refine Ext.alloc ?_ _ | refine Ext.drew ?_ | refine Ext.setB ?_ (by first | omega | (simp only [size_alloc, size_setB, size_drew]; omega)) _ | refine Ext.trans ?_ (by assumption))), ?_⟩; unfold infoW; rw [if_neg (by omega), if_pos (by omega)])
                                                  | (refine ⟨(by repeat (first | assumption | exact Ext.refl _ | refine Ext.alloc ?_ _ | refine Ext.drew ?_ | refine Ext.setB ?_ (by first | omega | (simp only [size_alloc, size_setB, size_drew]; omega)) _ | refine Ext.trans ?_ (by assumption))), ?_⟩; unfold infoW; rw [if_neg (by omega), if_neg (by omega), if_pos (by omega)])
                                                  | (refine ⟨(by repeat (first | assumption | exact Ext.refl _ | refine Ext.alloc ?_ _ | refine Ext.drew ?_ | refine Ext.setB ?_ (by first | omega | (simp only [size_alloc, size_setB, size_drew]; omega)) _ | refine Ext.trans ?_ (by assumption))), ?_⟩; unfold infoW; rw [if_neg (by omega), if_neg (by omega), if_neg (by omega), if_pos (by omega)])
                                                  | (refine ⟨(by repeat (first | assumption | exact Ext.refl _ | refine Ext.alloc ?_ _ | refine Ext.drew ?_ | refine Ext.setB ?_ (by first | omega | (simp only [size_alloc, size_setB, size_drew]; omega)) _ | refine Ext.trans ?_ (by assumption))), ?_⟩; unfold infoW; repeat rw [if_neg (by omega)])
                                                · have hb106p := hb106.h; try simp only [al_ete, al_dfn, Bool.not_eq_true', Bool.not_eq_false', al_ne, Bool.not_not, al_nn] at hb106p
                                                  refine W_seq ?_
                                                  refine W_region rfl ?_
                                                  refine WO_p (PS_eql rfl rfl) ?_
                                                  refine WO_p (PS_assign_bool rfl) ?_
                                                  refine WO_nil ?_
                                                  refine thn_normal ?_
                                                  refine W_if rfl (fun hb108 => ?_) (fun hb108 => ?_)
                                                  · have hb108p := hb108.h; try simp only [al_ete, al_dfn, Bool.not_eq_true', Bool.not_eq_false', al_ne, Bool.not_not, al_nn] at hb108p
                                                    refine W_skip ?_
                                                    refine thn_normal ?_
                                                    refine W_condT rfl hb108.h ?_
                                                    refine W_seq ?_
                                                    refine W_region rfl ?_
                                                    refine WO_p (PS_assign_int rfl) ?_
                                                    refine WO_p (PS_assign_int rfl) ?_
                                                    refine WO_p (PS_assign_int rfl) ?_
                                                    refine WO_p (PS_assign_bool rfl) ?_
                                                    refine WO_nil ?_
                                                    refine thn_normal ?_
                                                    refine W_ret ?_
                                                    refine inBlk_ret ?_
                                                    refine thn_ret ?_
                                                    refine bodyQ_ret4 Hvad.results50 rfl rfl rfl rfl (.int _ _) (.int _ _) (.int _ _) (.bool _) rfl rfl rfl rfl ?_
                                                    first
                                                    | (exfalso; omega)
                                                    | (refine ⟨(by repeat (first | assumption | exact Ext.refl _ | refine Ext.alloc ?_ _ | refine Ext.drew ?_ | refine Ext.setB ?_ (by first | omega | (simp only [size_alloc, size_setB, size_drew]; omega)) _ | refine Ext.trans ?_ (by assumption))), ?_⟩; rw [show o = _ from by assumption]; rfl)
                                                    | (refine ⟨(by repeat (first | assumption | exact Ext.refl _ | refine Ext.alloc ?_ _ | refine Ext.drew ?_ | refine Ext.setB ?_ (by first | omega | (simp only [size_alloc, size_setB, size_drew]; omega)) _ | refine Ext.trans ?_ (by assumption))), ?_⟩; unfold infoW; rw [if_pos (by omega)])
                                                    | (refine ⟨(by repeat (first | assumption | exact Ext.refl _ | refine Ext.alloc ?_ _ | refine Ext.drew ?_ | refine Ext.setB ?_ (by first | omega | (simp only [size_alloc, size_setB, size_drew]; omega)) _ | refine Ext.trans ?_ (by assumption))), ?_⟩; unfold infoW; rw [if_neg (by omega), if_pos (by omega)])
                                                    | (refine ⟨(by repeat (first | assumption | exact Ext.refl _ | refine Ext.alloc ?_ _ | refine Ext.drew ?_ | refine Ext.setB ?_ (by first | omega | (simp only [size_alloc, size_setB, size_drew]; omega)) _ | refine Ext.trans ?_ (by assumption))), ?_⟩; unfold infoW; rw [if_neg (by omega), if_neg (by omega), if_pos (by omega)])
                                                    | (refine ⟨(by repeat (first | assumption | exact Ext.refl _ | refine Ext.alloc ?_ _ | refine Ext.drew ?_ | refine Ext.setB ?_ (by first | omega | (simp only [size_alloc, size_setB, size_drew]; omega)) _ | refine Ext.trans ?_ (by assumption))), ?_⟩; unfold infoW; rw [if_neg (by omega), if_neg (by omega), if_neg (by omega), if_pos (by omega)])
                                                    | (refine ⟨(by repeat (first | assumption | exact Ext.refl _ | refine Ext.alloc ?_ _ | refine Ext.drew ?_ | refine Ext.setB ?_ (by first | omega | (simp only [size_alloc, size_setB, size_drew]; omega)) _ | refine Ext.trans ?_ (by assumption))), ?_⟩; unfold infoW; repeat rw [if_neg (by omega)])
                                                  · have hb108p := hb108.h; try simp only [al_ete, al_dfn, Bool.not_eq_true', Bool.not_eq_false', al_ne, Bool.not_not, al_nn] at hb108p
                                                    refine W_seq ?_
                                                    refine W_region rfl ?_
                                                    refine WO_p (PS_eql rfl rfl) ?_
                                                    refine WO_p (PS_assign_bool rfl) ?_
                                                    refine WO_nil ?_
                                                    refine thn_normal ?_
                                                    refine W_if rfl (fun hb110 => ?_) (fun hb110 => ?_)
                                                    · have hb110p := hb110.h; try simp only [al_ete, al_dfn, Bool.not_eq_true', Bool.not_eq_false', al_ne, Bool.not_not, al_nn] at hb110p
                                                      refine W_skip ?_
                                                      refine thn_normal ?_
                                                      refine W_condT rfl hb110.h ?_
                                                      refine W_seq ?_
                                                      refine W_region rfl ?_
                                                      refine WO_p (PS_assign_int rfl) ?_
                                                      refine WO_p (PS_assign_int rfl) ?_
                                                      refine WO_p (PS_assign_int rfl) ?_
                                                      refine WO_p (PS_assign_bool rfl) ?_
                                                      refine WO_nil ?_
                                                      refine thn_normal ?_
                                                      refine W_ret ?_
                                                      refine inBlk_ret ?_
                                                      refine thn_ret ?_
                                                      refine bodyQ_ret4 Hvad.results50 rfl rfl rfl rfl (.int _ _) (.int _ _) (.int _ _) (.bool _) rfl rfl rfl rfl ?_
                                                      first
                                                      | (exfalso; omega)
                                                      | (refine ⟨(by repeat (first | assumption | exact Ext.refl _ | refine Ext.alloc ?_ _ | refine Ext.drew ?_ | refine Ext.setB ?_ (by first | omega | (simp only [size_alloc, size_setB, size_drew]; omega)) _ | refine Ext.trans ?_ (by assumption))), ?_⟩; rw [show o = _ from by assumption]; rfl)
                                                      | (refine ⟨(by repeat (first | assumption | exact Ext.refl _ | refine Ext.alloc ?_ _ | refine Ext.drew ?_ | refine Ext.setB ?_ (by first | omega | (simp only [size_alloc, size_setB, size_drew]; omega)) _ | refine Ext.trans ?_ (by assumption))), ?_⟩; unfold infoW; rw [if_pos (by omega)])
                                                      | (refine ⟨(by repeat (first | assumption | exact Ext.refl _ | refine Ext.alloc ?_ _ | refine Ext.drew ?_ | refine Ext.setB ?_ (by first | omega | (simp only [size_alloc, size_setB, size_drew]; omega)) _ | refine Ext.trans ?_ (by assumption))), ?_⟩; unfold infoW; rw [if_neg (by omega), if_pos (by omega)])
                                                      | (refine ⟨(by repeat (first | assumption | exact Ext.refl _ | refine Ext.alloc ?_ _ | refine Ext.drew ?_ | refine Ext.setB ?_ (by first | omega | (simp only [size_alloc, size_setB, size_drew]; omega)) _ | refine Ext.trans ?_ (by assumption))), ?_⟩; unfold infoW; rw [if_neg (by omega), if_neg (by omega), if_pos (by omega)])
                                                      | (refine ⟨(by repeat (first | assumption | exact Ext.refl _ | refine Ext.alloc ?_ _ | refine Ext.drew ?_ | refine Ext.setB ?_ (by first | omega | (simp only [size_alloc, size_setB, size_drew]; omega)) _ | refine Ext.trans ?_ (by assumption))), ?_⟩; unfold infoW; rw [if_neg (by omega), if_neg (by omega), if_neg (by omega), if_pos (by omega)])
                                                      | (refine ⟨(by repeat (first | assumption | exact Ext.refl _ | refine Ext.alloc ?_ _ | refine Ext.drew ?_ | refine Ext.setB ?_ (by first | omega | (simp only [size_alloc, size_setB, size_drew]; omega)) _ | refine Ext.trans ?_ (by assumption))), ?_⟩; unfold infoW; repeat rw [if_neg (by omega)])
                                                    · have hb110p := hb110.h; try simp only [al_ete, al_dfn, Bool.not_eq_true', Bool.not_eq_false', al_ne, Bool.not_not, al_nn] at hb110p
                                                      refine W_seq ?_
                                                      refine W_region rfl ?_
                                                      refine WO_p (PS_eql rfl rfl) ?_
                                                      refine WO_p (PS_assign_bool rfl) ?_
                                                      refine WO_nil ?_
                                                      refine thn_normal ?_
                                                      refine W_if rfl (fun hb112 => ?_) (fun hb112 => ?_)
                                                      · have hb112p := hb112.h; try simp only [al_ete, al_dfn, Bool.not_eq_true', Bool.not_eq_false', al_ne, Bool.not_not, al_nn] at hb112p
                                                        refine W_skip ?_
                                                        refine thn_normal ?_
                                                        refine W_condT rfl hb112.h ?_
                                                        refine W_seq ?_
                                                        refine W_region rfl ?_
                                                        refine WO_p (PS_assign_int rfl) ?_
                                                        refine WO_p (PS_assign_int rfl) ?_
                                                        refine WO_p (PS_assign_int rfl) ?_
                                                        refine WO_p (PS_assign_bool rfl) ?_
                                                        refine WO_nil ?_
                                                        refine thn_normal ?_
                                                        refine W_ret ?_
                                                        refine inBlk_ret ?_
                                                        refine thn_ret ?_
                                                        refine bodyQ_ret4 Hvad.results50 rfl rfl rfl rfl (.int _ _) (.int _ _) (.int _ _) (.bool _) rfl rfl rfl rfl ?_
                                                        first
                                                        | (exfalso; omega)
                                                        | (refine ⟨(by repeat (first | assumption | exact Ext.refl _ | refine Ext.alloc ?_ _ | refine Ext.drew ?_ | refine Ext.setB ?_ (by first | omega | (simp only [size_alloc, size_setB, size_drew]; omega)) _ | refine Ext.trans ?_ (by assumption))), ?_⟩; rw [show o = _ from by assumption]; rfl)
                                                        | (refine ⟨(by repeat (first | assumption | exact Ext.refl _ | refine Ext.alloc ?_ _ | refine Ext.drew ?_ | refine Ext.setB ?_ (by first | omega | (simp only [size_alloc, size_setB, size_drew]; omega)) _ | refine Ext.trans ?_ (by assumption))), ?_⟩; unfold infoW; rw [if_pos (by omega)])
                                                        | (refine ⟨(by repeat (first | assumption | exact Ext.refl _ | refine Ext.alloc ?_ _ | refine Ext.drew ?_ | refine Ext.setB ?_ (by first | omega | (simp only [size_alloc, size_setB, size_drew]; omega)) _ | refine Ext.trans ?_ (by assumption))), ?_⟩; unfold infoW; rw [if_neg (by omega), if_pos (by omega)])
                                                        | (refine ⟨(by repeat (first | assumption | exact Ext.refl _ | refine Ext.alloc ?_ _ | refine Ext.drew ?_ | refine Ext.setB ?_ (by first | omega | (simp only [size_alloc, size_setB, size_drew]; omega)) _ | refine Ext.trans ?_ (by assumption))), ?_⟩; unfold infoW; rw [if_neg (by omega), if_neg (by omega), if_pos (by omega)])
                                                        | (refine ⟨(by repeat (first | assumption | exact Ext.refl _ | refine Ext.alloc ?_ _ | refine Ext.drew ?_ | refine Ext.setB ?_ (by first | omega | (simp only [size_alloc, size_setB, size_drew]; omega)) _ | refine Ext.trans ?_ (by assumption))), ?_⟩; unfold infoW; rw [if_neg (by omega), if_neg (by omega), if_neg (by omega), if_pos (by omega)])
                                                        | (refine ⟨(by repeat (first | assumption | exact Ext.refl _ | refine Ext.alloc ?_ _ | refine Ext.drew ?_ | refine Ext.setB ?_ (by first | omega | (simp only [size_alloc, size_setB, size_drew]; omega)) _ | refine Ext.trans ?_ (by assumption))), ?_⟩; unfold infoW; repeat rw [if_neg (by omega)])
                                                      · have hb112p := hb112.h; try simp only [al_ete, al_dfn, Bool.not_eq_true', Bool.not_eq_false', al_ne, Bool.not_not, al_nn] at hb112p
                                                        refine W_seq ?_
                                                        refine W_region rfl ?_
                                                        refine WO_p (PS_eql rfl rfl) ?_
                                                        refine WO_p (PS_assign_bool rfl) ?_
                                                        refine WO_nil ?_
                                                        refine thn_normal ?_
                                                        refine W_if rfl (fun hb114 => ?_) (fun hb114 => ?_)
                                                        · have hb114p := hb114.h; try simp only [al_ete, al_dfn, Bool.not_eq_true', Bool.not_eq_false', al_ne, Bool.not_not, al_nn] at hb114p
                                                          refine W_skip ?_
                                                          refine thn_normal ?_
                                                          refine W_condT rfl hb114.h ?_
                                                          refine W_seq ?_
                                                          refine W_region rfl ?_
                                                          refine WO_p (PS_assign_int rfl) ?_
                                                          refine WO_p (PS_assign_int rfl) ?_
                                                          refine WO_p (PS_assign_int rfl) ?_
                                                          refine WO_p (PS_assign_bool rfl) ?_
                                                          refine WO_nil ?_
                                                          refine thn_normal ?_
                                                          refine W_ret ?_
                                                          refine inBlk_ret ?_
                                                          refine thn_ret ?_
                                                          refine bodyQ_ret4 Hvad.results50 rfl rfl rfl rfl (.int _ _) (.int _ _) (.int _ _) (.bool _) rfl rfl rfl rfl ?_
                                                          first
                                                          | (exfalso; omega)
                                                          | (refine ⟨(by repeat (first | assumption | exact Ext.refl _ | refine Ext.alloc ?_ _ | refine Ext.drew ?_ | refine Ext.setB ?_ (by first | omega | (simp only [size_alloc, size_setB, size_drew]; omega)) _ | refine Ext.trans ?_ (by assumption))), ?_⟩; rw [show o = _ from by assumption]; rfl)
                                                          | (refine ⟨(by repeat (first | assumption | exact Ext.refl _ | refine Ext.alloc ?_ _ | refine Ext.drew ?_ | refine Ext.setB ?_ (by first | omega | (simp only [size_alloc, size_setB, size_drew]; omega)) _ | refine Ext.trans ?_ (by assumption))), ?_⟩; unfold infoW; rw [if_pos (by omega)])
                                                          | (refine ⟨(by repeat (first | assumption | exact Ext.refl _ | refine Ext.alloc ?_ _ | refine Ext.drew ?_ | refine Ext.setB ?_ (by first | omega | (simp only [size_alloc, size_setB, size_drew]; omega)) _ | refine Ext.trans ?_ (by assumption))), ?_⟩; unfold infoW; rw [if_neg (by omega), if_pos (by omega)])
                                                          | (refine ⟨(by repeat (first | assumption | exact Ext.refl _ | refine Ext.alloc ?_ _ | refine Ext.drew ?_ | refine Ext.setB ?_ (by first | omega | (simp only [size_alloc, size_setB, size_drew]; omega)) _ | refine Ext.trans ?_ (by assumption))), ?_⟩; unfold infoW; rw [if_neg (by omega), if_neg (by omega), if_pos (by omega)])
                                                          | (refine ⟨(by repeat (first | assumption | exact Ext.refl _ | refine Ext.alloc ?_ _ | refine Ext.drew ?_ | refine Ext.setB ?_ (by first | omega | (simp only [size_alloc, size_setB, size_drew]; omega)) _ | refine Ext.trans ?_ (by assumption))), ?_⟩; unfold infoW; rw [if_neg (by omega), if_neg (by omega), if_neg (by omega), if_pos (by omega)])
                                                          | (refine ⟨(by repeat (first | assumption | exact Ext.refl _ | refine Ext.alloc ?_ _ | refine Ext.drew ?_ | refine Ext.setB ?_ (by first | omega | (simp only [size_alloc, size_setB, size_drew]; omega)) _ | refine Ext.trans ?_ (by assumption))), ?_⟩; unfold infoW; repeat rw [if_neg (by omega)])
                                                        · have hb114p := hb114.h; try simp only [al_ete, al_dfn, Bool.not_eq_true', Bool.not_eq_false', al_ne, Bool.not_not, al_nn] at hb114p
                                                          refine W_seq ?_
                                                          refine W_region rfl ?_
                                                          refine WO_p (PS_eql rfl rfl) ?_
                                                          refine WO_p (PS_assign_bool rfl) ?_
                                                          refine WO_nil ?_
                                                          refine thn_normal ?_
                                                          refine W_if rfl (fun hb116 => ?_) (fun hb116 => ?_)
                                                          · have hb116p := hb116.h; try simp only [al_ete, al_dfn, Bool.not_eq_true', Bool.not_eq_false', al_ne, Bool.not_not, al_nn] at hb116p
                                                            refine W_skip ?_
                                                            refine thn_normal ?_
                                                            refine W_condT rfl hb116.h ?_
                                                            refine W_seq ?_
                                                            refine W_region rfl ?_
                                                            refine WO_p (PS_assign_int rfl) ?_
                                                            refine WO_p (PS_assign_int rfl) ?_
                                                            refine WO_p (PS_assign_int rfl) ?_
                                                            refine WO_p (PS_assign_bool rfl) ?_
                                                            refine WO_nil ?_
                                                            refine thn_normal ?_
                                                            refine W_ret ?_
                                                            refine inBlk_ret ?_
                                                            refine thn_ret ?_
                                                            refine bodyQ_ret4 Hvad.results50 rfl rfl rfl rfl (.int _ _) (.int _ _) (.int _ _) (.bool _) rfl rfl rfl rfl ?_
                                                            first
                                                            | (exfalso; omega)
                                                            | (refine ⟨(by repeat (first | assumption | exact Ext.refl _ | refine Ext.alloc ?_ _ | refine Ext.drew ?_ | refine Ext.setB ?_ (by first | omega | (simp only [size_alloc, size_setB, size_drew]; omega)) _ | refine Ext.trans ?_ (by assumption))), ?_⟩; rw [show o = _ from by assumption]; rfl)
                                                            | (refine ⟨(by repeat (first | assumption | exact Ext.refl _ | refine Ext.alloc ?_ _ | refine Ext.drew ?_ | refine Ext.setB ?_ (by first | omega | (simp only [size_alloc, size_setB, size_drew]; omega)) _ | refine Ext.trans ?_ (by assumption))), ?_⟩; unfold infoW; rw [if_pos (by omega)])
                                                            | (refine ⟨(by repeat (first | assumption | exact Ext.refl _ | refine Ext.alloc ?_ _ | refine Ext.drew ?_ | refine Ext.setB ?_ (by first | omega | (simp only [size_alloc, size_setB, size_drew]; omega)) _ | refine Ext.trans ?_ (by assumption))), ?_⟩; unfold infoW; rw [if_neg (by omega), if_pos (by omega)])
                                                            | (refine ⟨(by repeat (first | assumption | exact Ext.refl _ | refine Ext.alloc ?_ _ | refine Ext.drew ?_ | refine Ext.setB ?_ (by first | omega | (simp only [size_alloc, size_setB, size_drew]; omega)) _ | refine Ext.trans ?_ (by assumption))), ?_⟩; unfold infoW; rw [if_neg (by omega), if_neg (by omega), if_pos (by omega)])
                                                            | (refine ⟨(by repeat (first | assumption | exact Ext.refl _ | refine Ext.alloc ?_ _ | refine Ext.drew ?_ | refine Ext.setB ?_ (by first | omega | (simp only [size_alloc, size_setB, size_drew]; omega)) _ | refine Ext.trans ?_ (by assumption))), ?_⟩; unfold infoW; rw [if_neg (by omega), if_neg (by omega), if_neg (by omega), if_pos (by omega)])
                                                            | (refine ⟨(by repeat (first | assumption | exact Ext.refl _ | refine Ext.alloc ?_ _ | refine Ext.drew ?_ | refine Ext.setB ?_ (by first | omega | (simp only [size_alloc, size_setB, size_drew]; omega)) _ | refine Ext.trans ?_ (by assumption))), ?_⟩; unfold infoW; repeat rw [if_neg (by omega)])
                                                          · have hb116p := hb116.h; try simp only [al_ete, al_dfn, Bool.not_eq_true', Bool.not_eq_false', al_ne, Bool.not_not, al_nn] at hb116p
                                                            refine W_seq ?_
                                                            refine W_region rfl ?_
                                                            refine WO_p (PS_eql rfl rfl) ?_
                                                            refine WO_p (PS_assign_bool rfl) ?_
                                                            refine WO_nil ?_
                                                            refine thn_normal ?_
                                                            refine W_if rfl (fun hb118 => ?_) (fun hb118 => ?_)
                                                            · have hb118p := hb118.h; try simp only [al_ete, al_dfn, Bool.not_eq_true', Bool.not_eq_false', al_ne, Bool.not_not, al_nn] at hb118p
                                                              refine W_skip ?_
                                                              refine thn_normal ?_
                                                              refine W_condT rfl hb118.h ?_
                                                              refine W_seq ?_
                                                              refine W_region rfl ?_
                                                              refine WO_p (PS_assign_int rfl) ?_
                                                              refine WO_p (PS_assign_int rfl) ?_
                                                              refine WO_p (PS_assign_int rfl) ?_
                                                              refine WO_p (PS_assign_bool rfl) ?_
                                                              refine WO_nil ?_
                                                              refine thn_normal ?_
                                                              refine W_ret ?_
                                                              refine inBlk_ret ?_
                                                              refine thn_ret ?_
                                                              refine bodyQ_ret4 Hvad.results50 rfl rfl rfl rfl (.int _ _) (.int _ _) (.int _ _) (.bool _) rfl rfl rfl rfl ?_
                                                              first
                                                              | (exfalso; omega)
                                                              | (refine ⟨(by repeat (first | assumption | exact Ext.refl _ | refine Ext.alloc ?_ _ | refine Ext.drew ?_ | refine Ext.setB ?_ (by first | omega | (simp only [size_alloc, size_setB, size_drew]; omega)) _ | refine Ext.trans ?_ (by assumption))), ?_⟩; rw [show o = _ from by assumption]; rfl)
                                                              | (refine ⟨(by repeat (first | assumption | exact Ext.refl _ | refine Ext.alloc ?_ _ | refine Ext.drew ?_ | refine Ext.setB ?_ (by first | omega | (simp only [size_alloc, size_setB, size_drew]; omega)) _ | refine Ext.trans ?_ (by assumption))), ?_⟩; unfold infoW; rw [if_pos (by omega)])
                                                              | (refine ⟨(by repeat (first | assumption | exact Ext.refl _ | refine Ext.alloc ?_ _ | refine Ext.drew ?_ | refine Ext.setB ?_ (by first | omega | (simp only [size_alloc, size_setB, size_drew]; omega)) _ | refine Ext.trans ?_ (by assumption))), ?_⟩; unfold infoW; rw [if_neg (by omega), if_pos (by omega)])
                                                              | (refine ⟨(by repeat (first | assumption | exact Ext.refl _ | refine Ext.alloc ?_ _ | refine Ext.drew ?_ | refine Ext.setB ?_ (by first | omega | (simp only [size_alloc, size_setB, size_drew]; omega)) _ | refine Ext.trans ?_ (by assumption))), ?_⟩; unfold infoW; rw [if_neg (by omega), if_neg (by omega), if_pos (by omega)])
                                                              | (refine ⟨(by repeat (first | assumption | exact Ext.refl _ | refine Ext.alloc ?_ _ | refine Ext.drew ?_ | refine Ext.setB ?_ (by first | omega | (simp only [size_alloc, size_setB, size_drew]; omega)) _ | refine Ext.trans ?_ (by assumption))), ?_⟩; unfold infoW; rw [if_neg (by omega), if_neg (by omega), if_neg (by omega), if_pos (by omega)])
                                                              | (refine ⟨(by repeat (first | assumption | exact Ext.refl _ | refine Ext.alloc ?_ _ | refine Ext.drew ?_ | refine Ext.setB ?_ (by first | omega | (simp only [size_alloc, size_setB, size_drew]; omega)) _ | refine Ext.trans ?_ (by assumption))), ?_⟩; unfold infoW; repeat rw [if_neg (by omega)])
                                                            · have hb118p := hb118.h; try simp only [al_ete, al_dfn, Bool.not_eq_true', Bool.not_eq_false', al_ne, Bool.not_not, al_nn] at hb118p
                                                              refine W_seq ?_
                                                              refine W_region rfl ?_
                                                              refine WO_p (PS_eql rfl rfl) ?_
                                                              refine WO_p (PS_assign_bool rfl) ?_
                                                              refine WO_nil ?_
                                                              refine thn_normal ?_
                                                              refine W_if rfl (fun hb120 => ?_) (fun hb120 => ?_)
                                                              · have hb120p := hb120.h; try simp only [al_ete, al_dfn, Bool.not_eq_true', Bool.not_eq_false', al_ne, Bool.not_not, al_nn] at hb120p
                                                                refine W_skip ?_
                                                                refine thn_normal ?_
                                                                refine W_condT rfl hb120.h ?_
                                                                refine W_seq ?_
                                                                refine W_region rfl ?_
                                                                refine WO_p (PS_assign_int rfl) ?_
                                                                refine WO_p (PS_assign_int rfl) ?_
                                                                refine WO_p (PS_assign_int rfl) ?_
                                                                refine WO_p (PS_assign_bool rfl) ?_
                                                                refine WO_nil ?_
                                                                refine thn_normal ?_
                                                                refine W_ret ?_
                                                                refine inBlk_ret ?_
                                                                refine thn_ret ?_
                                                                refine bodyQ_ret4 Hvad.results50 rfl rfl rfl rfl (.int _ _) (.int _ _) (.int _ _) (.bool _) rfl rfl rfl rfl ?_
                                                                first
                                                                | (exfalso; omega)
                                                                | (refine ⟨(by repeat (first | assumption | exact Ext.refl _ | refine Ext.alloc ?_ _ | refine Ext.drew ?_ | refine Ext.setB ?_ (by first | omega | (simp only [size_alloc, size_setB, size_drew]; omega)) _ | refine Ext.trans ?_ (by assumption))), ?_⟩; rw [show o = _ from by assumption]; rfl)
                                                                | (refine ⟨(by repeat (first | assumption | exact Ext.refl _ | refine Ext.alloc ?_ _ | refine Ext.drew ?_ | refine Ext.setB ?_ (by first | omega | (simp only [size_alloc, size_setB, size_drew]; omega)) _ | refine Ext.trans ?_ (by assumption))), ?_⟩; unfold infoW; rw [if_pos (by omega)])
                                                                | (refine ⟨(by repeat (first | assumption | exact Ext.refl _ | refine Ext.alloc ?_ _ | refine Ext.drew ?_ | refine Ext.setB ?_ (by first | omega | (simp only [size_alloc, size_setB, size_drew]; omega)) _ | refine Ext.trans ?_ (by assumption))), ?_⟩; unfold infoW; rw [if_neg (by omega), if_pos (by omega)])
                                                                | (refine ⟨(by repeat (first | assumption | exact Ext.refl _ | refine Ext.alloc ?_ _ | refine Ext.drew ?_ | refine Ext.setB ?_ (by first | omega | (simp only [size_alloc, size_setB, size_drew]; omega)) _ | refine Ext.trans ?_ (by assumption))), ?_⟩; unfold infoW; rw [if_neg (by omega), if_neg (by omega), if_pos (by omega)])
                                                                | (refine ⟨(by repeat (first | assumption | exact Ext.refl _ | refine Ext.alloc ?_ _ | refine Ext.drew ?_ | refine Ext.setB ?_ (by first | omega | (simp only [size_alloc, size_setB, size_drew]; omega)) _ | refine Ext.trans ?_ (by assumption))), ?_⟩; unfold infoW; rw [if_neg (by omega), if_neg (by omega), if_neg (by omega), if_pos (by omega)])
                                                                | (refine ⟨(by repeat (first | assumption | exact Ext.refl _ | refine Ext.alloc ?_ _ | refine Ext.drew ?_ | refine Ext.setB ?_ (by first | omega | (simp only [size_alloc, size_setB, size_drew]; omega)) _ | refine Ext.trans ?_ (by assumption))), ?_⟩; unfold infoW; repeat rw [if_neg (by omega)])
                                                              · have hb120p := hb120.h; try simp only [al_ete, al_dfn, Bool.not_eq_true', Bool.not_eq_false', al_ne, Bool.not_not, al_nn] at hb120p
                                                                refine W_seq ?_
                                                                refine W_region rfl ?_
                                                                refine WO_p (PS_eql rfl rfl) ?_
                                                                refine WO_p (PS_assign_bool rfl) ?_
                                                                refine WO_nil ?_
                                                                refine thn_normal ?_
                                                                refine W_if rfl (fun hb122 => ?_) (fun hb122 => ?_)
                                                                · have hb122p := hb122.h; try simp only [al_ete, al_dfn, Bool.not_eq_true', Bool.not_eq_false', al_ne, Bool.not_not, al_nn] at hb122p
                                                                  refine W_skip ?_
                                                                  refine thn_normal ?_
                                                                  refine W_condT rfl hb122.h ?_
                                                                  refine W_seq ?_
                                                                  refine W_region rfl ?_
                                                                  refine WO_p (PS_assign_int rfl) ?_
                                                                  refine WO_p (PS_assign_int rfl) ?_
                                                                  refine WO_p (PS_assign_int rfl) ?_
                                                                  refine WO_p (PS_assign_bool rfl) ?_
                                                                  refine WO_nil ?_
                                                                  refine thn_normal ?_
                                                                  refine W_ret ?_
                                                                  refine inBlk_ret ?_
                                                                  refine thn_ret ?_
                                                                  refine bodyQ_ret4 Hvad.results50 rfl rfl rfl rfl (.int _ _) (.int _ _) (.int _ _) (.bool _) rfl rfl rfl rfl ?_
                                                                  first
                                                                  | (exfalso; omega)
                                                                  | (refine ⟨(by repeat (first | assumption | exact Ext.refl _ | refine Ext.alloc ?_ _ | refine Ext.drew ?_ | refine Ext.setB ?_ (by first | omega | (simp only [size_alloc, size_setB, size_drew]; omega)) _ | refine Ext.trans ?_ (by assumption))), ?_⟩; rw [show o = _ from by assumption]; rfl)
                                                                  | (refine ⟨(by repeat (first | assumption | exact Ext.refl _ | refine Ext.alloc ?_ _ | refine Ext.drew ?_ | refine Ext.setB ?_ (by first | omega | (simp only [size_alloc, size_setB, size_drew]; omega)) _ | refine Ext.trans ?_ (by assumption))), ?_⟩; unfold infoW; rw [if_pos (by omega)])
                                                                  | (refine ⟨(by repeat (first | assumption | exact Ext.refl _ | refine Ext.alloc ?_ _ | refine Ext.drew ?_ | refine Ext.setB ?_ (by first | omega | (simp only [size_alloc, size_setB, size_drew]; omega)) _ | refine Ext.trans ?_ (by assumption))), ?_⟩; unfold infoW; rw [if_neg (by omega), if_pos (by omega)])
                                                                  | (refine ⟨(by repeat (first | assumption | exact Ext.refl _ | refine Ext.alloc ?_ _ | refine Ext.drew ?_ | refine Ext.setB ?_ (by first | omega | (simp only [size_alloc, size_setB, size_drew]; omega)) _ | refine Ext.trans ?_ (by assumption))), ?_⟩; unfold infoW; rw [if_neg (by omega), if_neg (by omega), if_pos (by omega)])
                                                                  | (refine ⟨(by repeat (first | assumption | exact Ext.refl _ | refine Ext.alloc ?_ _ | refine Ext.drew ?_ | refine Ext.setB ?_ (by first | omega | (simp only [size_alloc, size_setB, size_drew]; omega)) _ | refine Ext.trans ?_ (by assumption))), ?_⟩; unfold infoW; rw [if_neg (by omega), if_neg (by omega), if_neg (by omega), if_pos (by omega)])
                                                                  | (refine ⟨(by repeat (first | assumption | exact Ext.refl _ | refine Ext.alloc ?_ _ | refine Ext.drew ?_ | refine Ext.setB ?_ (by first | omega | (simp only [size_alloc, size_setB, size_drew]; omega)) _ | refine Ext.trans ?_ (by assumption))), ?_⟩; unfold infoW; repeat rw [if_neg (by omega)])
                                                                · have hb122p := hb122.h; try simp only [al_ete, al_dfn, Bool.not_eq_true', Bool.not_eq_false', al_ne, Bool.not_not, al_nn] at hb122p
                                                                  refine W_seq ?_
                                                                  refine W_region rfl ?_
                                                                  refine WO_p (PS_eql rfl rfl) ?_
                                                                  refine WO_p (PS_assign_bool rfl) ?_
                                                                  refine WO_nil ?_
                                                                  refine thn_normal ?_
                                                                  refine W_if rfl (fun hb124 => ?_) (fun hb124 => ?_)
                                                                  · have hb124p := hb124.h; try simp only [al_ete, al_dfn, Bool.not_eq_true', Bool.not_eq_false', al_ne, Bool.not_not, al_nn] at hb124p
                                                                    refine W_skip ?_
                                                                    refine thn_normal ?_
                                                                    refine W_condT rfl hb124.h ?_
                                                                    refine W_seq ?_
                                                                    refine W_region rfl ?_
                                                                    refine WO_p (PS_assign_int rfl) ?_
                                                                    refine WO_p (PS_assign_int rfl) ?_
                                                                    refine WO_p (PS_assign_int rfl) ?_
                                                                    refine WO_p (PS_assign_bool rfl) ?_
                                                                    refine WO_nil ?_
                                                                    refine thn_normal ?_
                                                                    refine W_ret ?_
                                                                    refine inBlk_ret ?_
                                                                    refine thn_ret ?_
                                                                    refine bodyQ_ret4 Hvad.results50 rfl rfl rfl rfl (.int _ _) (.int _ _) (.int _ _) (.bool _) rfl rfl rfl rfl ?_
                                                                    first
                                                                    | (exfalso; omega)
                                                                    | (refine ⟨(by repeat (first | assumption | exact Ext.refl _ | refine Ext.alloc ?_ _ | refine Ext.drew ?_ | refine Ext.setB ?_ (by first | omega | (simp only [size_alloc, size_setB, size_drew]; omega)) _ | refine Ext.trans ?_ (by assumption))), ?_⟩; rw [show o = _ from by assumption]; rfl)
                                                                    | (refine ⟨(by repeat (first | assumption | exact Ext.refl _ | refine Ext.alloc ?_ _ | refine Ext.drew ?_ | refine Ext.setB ?_ (by first | omega | (simp only [size_alloc, size_setB, size_drew]; omega)) _ | refine Ext.trans ?_ (by assumption))), ?_⟩; unfold infoW; rw [if_pos (by omega)])
                                                                    | (refine ⟨(by repeat (first | assumption | exact Ext.refl _ | refine Ext.alloc ?_ _ | refine Ext.drew ?_ | refine Ext.setB ?_ (by first | omega | (simp only [size_alloc, size_setB, size_drew]; omega)) _ | refine Ext.trans ?_ (by assumption))), ?_⟩; unfold infoW; rw [if_neg (by omega), if_pos (by omega)])
                                                                    | (refine ⟨(by repeat (first | assumption | exact Ext.refl _ | refine Ext.alloc ?_ _ | refine Ext.drew ?_ | refine Ext.setB ?_ (by first | omega | (simp only [size_alloc, size_setB, size_drew]; omega)) _ | refine Ext.trans ?_ (by assumption))), ?_⟩; unfold infoW; rw [if_neg (by omega), if_neg (by omega), if_pos (by omega)])
                                                                    | (refine ⟨(by repeat (first | assumption | exact Ext.refl _ | refine Ext.alloc ?_ _ | refine Ext.drew ?_ | refine Ext.setB ?_ (by first | omega | (simp only [size_alloc, size_setB, size_drew]; omega)) _ | refine Ext.trans ?_ (by assumption))), ?_⟩; unfold infoW; rw [if_neg (by omega), if_neg (by omega), if_neg (by omega), if_pos (by omega)])
                                                                    | (refine ⟨(by repeat (first | assumption | exact Ext.refl _ | refine Ext.alloc ?_ _ | refine Ext.drew ?_ | refine Ext.setB ?_ (by first | omega | (simp only [size_alloc, size_setB, size_drew]; omega)) _ | refine Ext.trans ?_ (by assumption))), ?_⟩; unfold infoW; repeat rw [if_neg (by omega)])
                                                                  · have hb124p := hb124.h; try simp only [al_ete, al_dfn, Bool.not_eq_true', Bool.not_eq_false', al_ne, Bool.not_not, al_nn] at hb124p
                                                                    refine W_seq ?_
                                                                    refine W_region rfl ?_
                                                                    refine WO_p (PS_eql rfl rfl) ?_
                                                                    refine WO_p (PS_assign_bool rfl) ?_
                                                                    refine WO_nil ?_
                                                                    refine thn_normal ?_
                                                                    refine W_if rfl (fun hb126 => ?_) (fun hb126 => ?_)
                                                                    · have hb126p := hb126.h; try simp only [al_ete, al_dfn, Bool.not_eq_true', Bool.not_eq_false', al_ne, Bool.not_not, al_nn] at hb126p
                                                                      refine W_skip ?_
                                                                      refine thn_normal ?_
                                                                      refine W_condT rfl hb126.h ?_
                                                                      refine W_seq ?_
                                                                      refine W_region rfl ?_
                                                                      refine WO_p (PS_assign_int rfl) ?_
                                                                      refine WO_p (PS_assign_int rfl) ?_
                                                                      refine WO_p (PS_assign_int rfl) ?_
                                                                      refine WO_p (PS_assign_bool rfl) ?_
                                                                      refine WO_nil ?_
                                                                      refine thn_normal ?_
                                                                      refine W_ret ?_
                                                                      refine inBlk_ret ?_
                                                                      refine thn_ret ?_
                                                                      refine bodyQ_ret4 Hvad.results50 rfl rfl rfl rfl (.int _ _) (.int _ _) (.int _ _) (.bool _) rfl rfl rfl rfl ?_
                                                                      first
                                                                      | (exfalso; omega)
                                                                      | (refine ⟨(by repeat (first | assumption | exact Ext.refl _ | refine Ext.alloc ?_ _ | refine Ext.drew ?_ | refine Ext.setB ?_ (by first | omega | (simp only [size_alloc, size_setB, size_drew]; omega)) _ | refine Ext.trans ?_ (by assumption))), ?_⟩; rw [show o = _ from by assumption]; rfl)
                                                                      | (refine ⟨(by repeat (first | assumption | exact Ext.refl _ | refine Ext.alloc ?_ _ | refine Ext.drew ?_ | refine Ext.setB ?_ (by first | omega | (simp only [size_alloc, size_setB, size_drew]; omega)) _ | refine Ext.trans ?_ (by assumption))), ?_⟩; unfold infoW; rw [if_pos (by omega)])
                                                                      | (refine ⟨(by repeat (first | assumption | exact Ext.refl _ | refine Ext.alloc ?_ _ | refine Ext.drew ?_ | refine Ext.setB ?_ (by first | omega | (simp only [size_alloc, size_setB, size_drew]; omega)) _ | refine Ext.trans ?_ (by assumption))), ?_⟩; unfold infoW; rw [if_neg (by omega), if_pos (by omega)])
                                                                      | (refine ⟨(by repeat (first | assumption | exact Ext.refl _ | refine Ext.alloc ?_ _ | refine Ext.drew ?_ | refine Ext.setB ?_ (by first | omega | (simp only [size_alloc, size_setB, size_drew]; omega)) _ | refine Ext.trans ?_ (by assumption))), ?_⟩; unfold infoW; rw [if_neg (by omega), if_neg (by omega), if_pos (by omega)])
                                                                      | (refine ⟨(by repeat (first | assumption | exact Ext.refl _ | refine Ext.alloc ?_ _ | refine Ext.drew ?_ | refine Ext.setB ?_ (by first | omega | (simp only [size_alloc, size_setB, size_drew]; omega)) _ | refine Ext.trans ?_ (by assumption))), ?_⟩; unfold infoW; rw [if_neg (by omega), if_neg (by omega), if_neg (by omega), if_pos (by omega)])
                                                                      | (refine ⟨(by repeat (first | assumption | exact Ext.refl _ | refine Ext.alloc ?_ _ | refine Ext.drew ?_ | refine Ext.setB ?_ (by first | omega | (simp only [size_alloc, size_setB, size_drew]; omega)) _ | refine Ext.trans ?_ (by assumption))), ?_⟩; unfold infoW; repeat rw [if_neg (by omega)])
                                                                    · have hb126p := hb126.h; try simp only [al_ete, al_dfn, Bool.not_eq_true', Bool.not_eq_false', al_ne, Bool.not_not, al_nn] at hb126p
                                                                      refine W_seq ?_
                                                                      refine W_region rfl ?_
                                                                      refine WO_p (PS_eql rfl rfl) ?_
                                                                      refine WO_p (PS_assign_bool rfl) ?_
                                                                      refine WO_nil ?_
                                                                      refine thn_normal ?_
                                                                      refine W_if rfl (fun hb128 => ?_) (fun hb128 => ?_)
                                                                      · have hb128p := hb128.h; try simp only [al_ete, al_dfn, Bool.not_eq_true', Bool.not_eq_false', al_ne, Bool.not_not, al_nn] at hb128p
                                                                        refine W_skip ?_
                                                                        refine thn_normal ?_
                                                                        refine W_condT rfl hb128.h ?_
                                                                        refine W_seq ?_
                                                                        refine W_region rfl ?_
                                                                        refine WO_p (PS_assign_int rfl) ?_
                                                                        refine WO_p (PS_assign_int rfl) ?_
                                                                        refine WO_p (PS_assign_int rfl) ?_
                                                                        refine WO_p (PS_assign_bool rfl) ?_
                                                                        refine WO_nil ?_
                                                                        refine thn_normal ?_
                                                                        refine W_ret ?_
                                                                        refine inBlk_ret ?_
                                                                        refine thn_ret ?_
                                                                        refine bodyQ_ret4 Hvad.results50 rfl rfl rfl rfl (.int _ _) (.int _ _) (.int _ _) (.bool _) rfl rfl rfl rfl ?_
                                                                        first
                                                                        | (exfalso; omega)
                                                                        | (refine ⟨(by repeat (first | assumption | exact Ext.refl _ | refine Ext.alloc ?_ _ | refine Ext.drew ?_ | refine Ext.setB ?_ (by first | omega | (simp only [size_alloc, size_setB, size_drew]; omega)) _ | refine Ext.trans ?_ (by assumption))), ?_⟩; rw [show o = _ from by assumption]; rfl)
                                                                        | (refine ⟨(by repeat (first | assumption | exact Ext.refl _ | refine Ext.alloc ?_ _ | refine Ext.drew ?_ | refine Ext.setB ?_ (by first | omega | (simp only [size_alloc, size_setB, size_drew]; omega)) _ | refine Ext.trans ?_ (by assumption))), ?_⟩; unfold infoW; rw [if_pos (by omega)])
                                                                        | (refine ⟨(by repeat (first | assumption | exact Ext.refl _ | refine Ext.alloc ?_ _ | refine Ext.drew ?_ | refine Ext.setB ?_ (by first | omega | (simp only [size_alloc, size_setB, size_drew]; omega)) _ | refine Ext.trans ?_ (by assumption))), ?_⟩; unfold infoW; rw [if_neg (by omega), if_pos (by omega)])
                                                                        | (refine ⟨(by repeat (first | assumption | exact Ext.refl _ | refine Ext.alloc ?_ _ | refine Ext.drew ?_ | refine Ext.setB ?_ (by first | omega | (simp only [size_alloc, size_setB, size_drew]; omega)) _ | refine Ext.trans ?_ (by assumption))), ?_⟩; unfold infoW; rw [if_neg (by omega), if_neg (by omega), if_pos (by omega)])
                                                                        | (refine ⟨(by repeat (first | assumption | exact Ext.refl _ | refine Ext.alloc ?_ _ | refine Ext.drew ?_ | refine Ext.setB ?_ (by first | omega | (simp only [size_alloc, size_setB, size_drew]; omega)) _ | refine Ext.trans ?_ (by assumption))), ?_⟩; unfold infoW; rw [if_neg (by omega), if_neg (by omega), if_neg (by omega), if_pos (by omega)])
                                                                        | (refine ⟨(by repeat (first | assumption | exact Ext.refl _ | refine Ext.alloc ?_ _ | refine Ext.drew ?_ | refine Ext.setB ?_ (by first | omega | (simp only [size_alloc, size_setB, size_drew]; omega)) _ | refine Ext.trans ?_ (by assumption))), ?_⟩; unfold infoW; repeat rw [if_neg (by omega)])
                                                                      · have hb128p := hb128.h; try simp only [al_ete, al_dfn, Bool.not_eq_true', Bool.not_eq_false', al_ne, Bool.not_not, al_nn] at hb128p
                                                                        refine W_seq ?_
                                                                        refine W_region rfl ?_
                                                                        refine WO_p (PS_eql rfl rfl) ?_
                                                                        refine WO_p (PS_assign_bool rfl) ?_
                                                                        refine WO_nil ?_
                                                                        refine thn_normal ?_
                                                                        refine W_if rfl (fun hb130 => ?_) (fun hb130 => ?_)
                                                                        · have hb130p := hb130.h; try simp only [al_ete, al_dfn, Bool.not_eq_true', Bool.not_eq_false', al_ne, Bool.not_not, al_nn] at hb130p
                                                                          refine W_skip ?_
                                                                          refine thn_normal ?_
                                                                          refine W_condT rfl hb130.h ?_
                                                                          refine W_seq ?_
                                                                          refine W_region rfl ?_
                                                                          refine WO_p (PS_assign_int rfl) ?_
                                                                          refine WO_p (PS_assign_int rfl) ?_
                                                                          refine WO_p (PS_assign_int rfl) ?_
                                                                          refine WO_p (PS_assign_bool rfl) ?_
                                                                          refine WO_nil ?_
                                                                          refine thn_normal ?_
                                                                          refine W_ret ?_
                                                                          refine inBlk_ret ?_
                                                                          refine thn_ret ?_
                                                                          refine bodyQ_ret4 Hvad.results50 rfl rfl rfl rfl (.int _ _) (.int _ _) (.int _ _) (.bool _) rfl rfl rfl rfl ?_
                                                                          first
                                                                          | (exfalso; omega)
                                                                          | (refine ⟨(by repeat (first | assumption | exact Ext.refl _ | refine Ext.alloc ?_ _ | refine Ext.drew ?_ | refine Ext.setB ?_ (by first | omega | (simp only [size_alloc, size_setB, size_drew]; omega)) _ | refine Ext.trans ?_ (by assumption))), ?_⟩; rw [show o = _ from by assumption]; rfl)
                                                                          | (refine ⟨(by repeat (first | assumption | exact Ext.refl _ | refine Ext.alloc ?_ _ | refine Ext.drew ?_ | refine Ext.setB ?_ (by first | omega | (simp only [size_alloc, size_setB, size_drew]; omega)) _ | refine Ext.trans ?_ (by assumption))), ?_⟩; unfold infoW; rw [if_pos (by omega)])
                                                                          | (refine ⟨(by repeat (first | assumption | exact Ext.refl _ | refine Ext.alloc ?_ _ | refine Ext.drew ?_ | refine Ext.setB ?_ (by first | omega | (simp only [size_alloc, size_setB, size_drew]; omega)) _ | refine Ext.trans ?_ (by assumption))), ?_⟩; unfold infoW; rw [if_neg (by omega), if_pos (by omega)])
                                                                          | (refine ⟨(by repeat (first | assumption | exact Ext.refl _ | refine Ext.alloc ?_ _ | refine Ext.drew ?_ | refine Ext.setB ?_ (by first | omega | (simp only [size_alloc, size_setB, size_drew]; omega)) _ | refine Ext.trans ?_ (by assumption))), ?_⟩; unfold infoW; rw [if_neg (by omega), if_neg (by omega), if_pos (by omega)])
                                                                          | (refine ⟨(by repeat (first | assumption | exact Ext.refl _ | refine Ext.alloc ?_ _ | refine Ext.drew ?_ | refine Ext.setB ?_ (by first | omega | (simp only [size_alloc, size_setB, size_drew]; omega)) _ | refine Ext.trans ?_ (by assumption))), ?_⟩; unfold infoW; rw [if_neg (by omega), if_neg (by omega), if_neg (by omega), if_pos (by omega)])
                                                                          | (refine ⟨(by repeat (first | assumption | exact Ext.refl _ | refine Ext.alloc ?_ _ | refine Ext.drew ?_ | refine Ext.setB ?_ (by first | omega | (simp only [size_alloc, size_setB, size_drew]; omega)) _ | refine Ext.trans ?_ (by assumption))), ?_⟩; unfold infoW; repeat rw [if_neg (by omega)])
                                                                        · have hb130p := hb130.h; try simp only [al_ete, al_dfn, Bool.not_eq_true', Bool.not_eq_false', al_ne, Bool.not_not, al_nn] at hb130p
                                                                          refine W_region rfl ?_
                                                                          refine WO_p (PS_eql rfl rfl) ?_
                                                                          refine WO_p (PS_assign_bool rfl) ?_
                                                                          refine WO_nil ?_
                                                                          refine thn_normal ?_
                                                                          refine W_if rfl (fun hb132 => ?_) (fun hb132 => ?_)
                                                                          · have hb132p := hb132.h; try simp only [al_ete, al_dfn, Bool.not_eq_true', Bool.not_eq_false', al_ne, Bool.not_not, al_nn] at hb132p
                                                                            refine W_seq ?_
                                                                            refine W_region rfl ?_
                                                                            refine WO_p (PS_assign_int rfl) ?_
                                                                            refine WO_p (PS_assign_int rfl) ?_
                                                                            refine WO_p (PS_assign_int rfl) ?_
                                                                            refine WO_p (PS_assign_bool rfl) ?_
                                                                            refine WO_nil ?_
                                                                            refine thn_normal ?_
                                                                            refine W_ret ?_
                                                                            refine inBlk_ret ?_
                                                                            refine thn_ret ?_
                                                                            refine bodyQ_ret4 Hvad.results50 rfl rfl rfl rfl (.int _ _) (.int _ _) (.int _ _) (.bool _) rfl rfl rfl rfl ?_
                                                                            first
                                                                            | (exfalso; omega)
                                                                            | (refine ⟨(by repeat (first | assumption | exact Ext.refl _ | refine Ext.alloc ?_ _ | refine Ext.drew ?_ | refine Ext.setB ?_ (by first | omega | (simp only [size_alloc, size_setB, size_drew]; omega)) _ | refine Ext.trans ?_ (by assumption))), ?_⟩; rw [show o = _ from by assumption]; rfl)
                                                                            | (refine ⟨(by repeat (first | assumption | exact Ext.refl _ | refine Ext.alloc ?_ _ | refine Ext.drew ?_ | refine Ext.setB ?_ (by first | omega | (simp only [size_alloc, size_setB, size_drew]; omega)) _ | refine Ext.trans ?_ (by assumption))), ?_⟩; unfold infoW; rw [if_pos (by omega)])
                                                                            | (refine ⟨(by repeat (first | assumption | exact Ext.refl _ | refine Ext.alloc ?_ _ | refine Ext.drew ?_ | refine Ext.setB ?_ (by first | omega | (simp only [size_alloc, size_setB, size_drew]; omega)) _ | refine Ext.trans ?_ (by assumption))), ?_⟩; unfold infoW; rw [if_neg (by omega), if_pos (by omega)])
                                                                            | (refine ⟨(by repeat (first | assumption | exact Ext.refl _ | refine Ext.alloc ?_ _ | refine Ext.drew ?_ | refine Ext.setB ?_ (by first | omega | (simp only [size_alloc, size_setB, size_drew]; omega)) _ | refine Ext.trans ?_ (by assumption))), ?_⟩; unfold infoW; rw [if_neg (by omega), if_neg (by omega), if_pos (by omega)])
                                                                            | (refine ⟨(by repeat (first | assumption | exact Ext.refl _ | refine Ext.alloc ?_ _ | refine Ext.drew ?_ | refine Ext.setB ?_ (by first | omega | (simp only [size_alloc, size_setB, size_drew]; omega)) _ | refine Ext.trans ?_ (by assumption))), ?_⟩; unfold infoW; rw [if_neg (by omega), if_neg (by omega), if_neg (by omega), if_pos (by omega)])
                                                                            | (refine ⟨(by repeat (first | assumption | exact Ext.refl _ | refine Ext.alloc ?_ _ | refine Ext.drew ?_ | refine Ext.setB ?_ (by first | omega | (simp only [size_alloc, size_setB, size_drew]; omega)) _ | refine Ext.trans ?_ (by assumption))), ?_⟩; unfold infoW; repeat rw [if_neg (by omega)])
                                                                          · have hb132p := hb132.h; try simp only [al_ete, al_dfn, Bool.not_eq_true', Bool.not_eq_false', al_ne, Bool.not_not, al_nn] at hb132p
                                                                            refine W_seq ?_
                                                                            refine W_seq ?_
                                                                            refine W_region rfl ?_
                                                                            refine WO_p (PS_eql rfl rfl) ?_
                                                                            refine WO_p (PS_assign_bool rfl) ?_
                                                                            refine WO_nil ?_
                                                                            refine thn_normal ?_
                                                                            refine W_if rfl (fun hb134 => ?_) (fun hb134 => ?_)
                                                                            · have hb134p := hb134.h; try simp only [al_ete, al_dfn, Bool.not_eq_true', Bool.not_eq_false', al_ne, Bool.not_not, al_nn] at hb134p
                                                                              refine W_skip ?_
                                                                              refine thn_normal ?_
                                                                              refine W_condT rfl hb134.h ?_
                                                                              refine W_seq ?_
                                                                              refine W_region rfl ?_
                                                                              refine WO_p (PS_assign_int rfl) ?_
                                                                              refine WO_p (PS_assign_int rfl) ?_
                                                                              refine WO_p (PS_assign_int rfl) ?_
                                                                              refine WO_p (PS_assign_bool rfl) ?_
                                                                              refine WO_nil ?_
                                                                              refine thn_normal ?_
                                                                              refine W_ret ?_
                                                                              refine inBlk_ret ?_
                                                                              refine thn_ret ?_
                                                                              refine bodyQ_ret4 Hvad.results50 rfl rfl rfl rfl (.int _ _) (.int _ _) (.int _ _) (.bool _) rfl rfl rfl rfl ?_
                                                                              first
                                                                              | (exfalso; omega)
                                                                              | (refine ⟨(by repeat (first | assumption | exact Ext.refl _ | refine Ext.alloc ?_ _ | refine Ext.drew ?_ | refine Ext.setB ?_ (by first | omega | (simp only [size_alloc, size_setB, size_drew]; omega)) _ | refine Ext.trans ?_ (by assumption))), ?_⟩; rw [show o = _ from by assumption]; rfl)
                                                                              | (refine ⟨(by repeat (first | assumption | exact Ext.refl _ | refine Ext.alloc ?_ _ | refine Ext.drew ?_ | refine Ext.setB ?_ (by first | omega | (simp only [size_alloc, size_setB, size_drew]; omega)) _ | refine Ext.trans ?_ (by assumption))), ?_⟩; unfold infoW; rw [if_pos (by omega)])
                                                                              | (refine ⟨(by repeat (first | assumption | exact Ext.refl _ | refine Ext.alloc ?_ _ | refine Ext.drew ?_ | refine Ext.setB ?_ (by first | omega | (simp only [size_alloc, size_setB, size_drew]; omega)) _ | refine Ext.trans ?_ (by assumption))), ?_⟩; unfold infoW; rw [if_neg (by omega), if_pos (by omega)])
                                                                              | (refine ⟨(by repeat (first | assumption | exact Ext.refl _ | refine Ext.alloc ?_ _ | refine Ext.drew ?_ | refine Ext.setB ?_ (by first | omega | (simp only [size_alloc, size_setB, size_drew]; omega)) _ | refine Ext.trans ?_ (by assumption))), ?_⟩; unfold infoW; rw [if_neg (by omega), if_neg (by omega), if_pos (by omega)])
                                                                              | (refine ⟨(by repeat (first | assumption | exact Ext.refl _ | refine Ext.alloc ?_ _ | refine Ext.drew ?_ | refine Ext.setB ?_ (by first | omega | (simp only [size_alloc, size_setB, size_drew]; omega)) _ | refine Ext.trans ?_ (by assumption))), ?_⟩; unfold infoW; rw [if_neg (by omega), if_neg (by omega), if_neg (by omega), if_pos (by omega)])
                                                                              | (refine ⟨(by repeat (first | assumption | exact Ext.refl _ | refine Ext.alloc ?_ _ | refine Ext.drew ?_ | refine Ext.setB ?_ (by first | omega | (simp only [size_alloc, size_setB, size_drew]; omega)) _ | refine Ext.trans ?_ (by assumption))), ?_⟩; unfold infoW; repeat rw [if_neg (by omega)])
                                                                            · have hb134p := hb134.h; try simp only [al_ete, al_dfn, Bool.not_eq_true', Bool.not_eq_false', al_ne, Bool.not_not, al_nn] at hb134p
                                                                              refine W_seq ?_
                                                                              refine W_region rfl ?_
                                                                              refine WO_p (PS_eql rfl rfl) ?_
                                                                              refine WO_p (PS_assign_bool rfl) ?_
                                                                              refine WO_nil ?_
                                                                              refine thn_normal ?_
                                                                              refine W_if rfl (fun hb136 => ?_) (fun hb136 => ?_)
                                                                              · have hb136p := hb136.h; try simp only [al_ete, al_dfn, Bool.not_eq_true', Bool.not_eq_false', al_ne, Bool.not_not, al_nn] at hb136p
                                                                                refine W_skip ?_
                                                                                refine thn_normal ?_
                                                                                refine W_condT rfl hb136.h ?_
                                                                                refine W_seq ?_
                                                                                refine W_region rfl ?_
                                                                                refine WO_p (PS_assign_int rfl) ?_
                                                                                refine WO_p (PS_assign_int rfl) ?_
                                                                                refine WO_p (PS_assign_int rfl) ?_
                                                                                refine WO_p (PS_assign_bool rfl) ?_
                                                                                refine WO_nil ?_
                                                                                refine thn_normal ?_
                                                                                refine W_ret ?_
                                                                                refine inBlk_ret ?_
                                                                                refine thn_ret ?_
                                                                                refine bodyQ_ret4 Hvad.results50 rfl rfl rfl rfl (.int _ _) (.int _ _) (.int _ _) (.bool _) rfl rfl rfl rfl ?_
                                                                                first
                                                                                | (exfalso; omega)
                                                                                | (refine ⟨(by repeat (first | assumption | exact Ext.refl _ | refine Ext.alloc ?_ _ | refine Ext.drew ?_ | refine Ext.setB ?_ (by first | omega | (simp only [size_alloc, size_setB, size_drew]; omega)) _ | refine Ext.trans ?_ (by assumption))), ?_⟩; rw [show o = _ from by assumption]; rfl)
                                                                                | (refine ⟨(by repeat (first | assumption | exact Ext.refl _ | refine Ext.alloc ?_ _ | refine Ext.drew ?_ | refine Ext.setB ?_ (by first | omega | (simp only [size_alloc, size_setB, size_drew]; omega)) _ | refine Ext.trans ?_ (by assumption))), ?_⟩; unfold infoW; rw [if_pos (by omega)])
                                                                                | (refine ⟨(by repeat (first | assumption | exact Ext.refl _ | refine Ext.alloc ?_ _ | refine Ext.drew ?_ | refine Ext.setB ?_ (by first | omega | (simp only [size_alloc, size_setB, size_drew]; omega)) _ | refine Ext.trans ?_ (by assumption))), ?_⟩; unfold infoW; rw [if_neg (by omega), if_pos (by omega)])
                                                                                | (refine ⟨(by repeat (first | assumption | exact Ext.refl _ | refine Ext.alloc ?_ _ | refine Ext.drew ?_ | refine Ext.setB ?_ (by first | omega | (simp only [size_alloc, size_setB, size_drew]; omega)) _ | refine Ext.trans ?_ (by assumption))), ?_⟩; unfold infoW; rw [if_neg (by omega), if_neg (by omega), if_pos (by omega)])
                                                                                | (refine ⟨(by repeat (first | assumption | exact Ext.refl _ | refine Ext.alloc ?_ _ | refine Ext.drew ?_ | refine Ext.setB ?_ (by first | omega | (simp only [size_alloc, size_setB, size_drew]; omega)) _ | refine Ext.trans ?_ (by assumption))), ?_⟩; unfold infoW; rw [if_neg (by omega), if_neg (by omega), if_neg (by omega), if_pos (by omega)])
                                                                                | (refine ⟨(by repeat (first | assumption | exact Ext.refl _ | refine Ext.alloc ?_ _ | refine Ext.drew ?_ | refine Ext.setB ?_ (by first | omega | (simp only [size_alloc, size_setB, size_drew]; omega)) _ | refine Ext.trans ?_ (by assumption))), ?_⟩; unfold infoW; repeat rw [if_neg (by omega)])
                                                                              · have hb136p := hb136.h; try simp only [al_ete, al_dfn, Bool.not_eq_true', Bool.not_eq_false', al_ne, Bool.not_not, al_nn] at hb136p
                                                                                refine W_seq ?_
                                                                                refine W_region rfl ?_
                                                                                refine WO_p (PS_eql rfl rfl) ?_
                                                                                refine WO_p (PS_assign_bool rfl) ?_
                                                                                refine WO_nil ?_
                                                                                refine thn_normal ?_
                                                                                refine W_if rfl (fun hb138 => ?_) (fun hb138 => ?_)
                                                                                · have hb138p := hb138.h; try simp only [al_ete, al_dfn, Bool.not_eq_true', Bool.not_eq_false', al_ne, Bool.not_not, al_nn] at hb138p
                                                                                  refine W_skip ?_
                                                                                  refine thn_normal ?_
                                                                                  refine W_condT rfl hb138.h ?_
                                                                                  refine W_seq ?_
                                                                                  refine W_region rfl ?_
                                                                                  refine WO_p (PS_assign_int rfl) ?_
                                                                                  refine WO_p (PS_assign_int rfl) ?_
                                                                                  refine WO_p (PS_assign_int rfl) ?_
                                                                                  refine WO_p (PS_assign_bool rfl) ?_
                                                                                  refine WO_nil ?_
                                                                                  refine thn_normal ?_
                                                                                  refine W_ret ?_
                                                                                  refine inBlk_ret ?_
                                                                                  refine thn_ret ?_
                                                                                  refine bodyQ_ret4 Hvad.results50 rfl rfl rfl rfl (.int _ _) (.int _ _) (.int _ _) (.bool _) rfl rfl rfl rfl ?_
                                                                                  first
                                                                                  | (exfalso; omega)
                                                                                  | (refine ⟨(by repeat (first | assumption | exact Ext.refl _ | refine Ext.alloc ?_ _ | refine Ext.drew ?_ | refine Ext.setB ?_ (by first | omega | (simp only [size_alloc, size_setB, size_drew]; omega)) _ | refine Ext.trans ?_ (by assumption))), ?_⟩; rw [show o = _ from by assumption]; rfl)
                                                                                  | (refine ⟨(by repeat (first | assumption | exact Ext.refl _ | refine Ext.alloc ?_ _ | refine Ext.drew ?_ | refine Ext.setB ?_ (by first | omega | (simp only [size_alloc, size_setB, size_drew]; omega)) _ | refine Ext.trans ?_ (by assumption))), ?_⟩; unfold infoW; rw [if_pos (by omega)])
                                                                                  | (refine ⟨(by repeat (first | assumption | exact Ext.refl _ | refine Ext.alloc ?_ _ | refine Ext.drew ?_ | refine Ext.setB ?_ (by first | omega | (simp only [size_alloc, size_setB, size_drew]; omega)) _ | refine Ext.trans ?_ (by assumption))), ?_⟩; unfold infoW; rw [if_neg (by omega), if_pos (by omega)])
                                                                                  | (refine ⟨(by repeat (first | assumption | exact Ext.refl _ | refine Ext.alloc ?_ _ | refine Ext.drew ?_ | refine Ext.setB ?_ (by first | omega | (simp only [size_alloc, size_setB, size_drew]; omega)) _ | refine Ext.trans ?_ (by assumption))), ?_⟩; unfold infoW; rw [if_neg (by omega), if_neg (by omega), if_pos (by omega)])
                                                                                  | (refine ⟨(by repeat (first | assumption | exact Ext.refl _ | refine Ext.alloc ?_ _ | refine Ext.drew ?_ | refine Ext.setB ?_ (by first | omega | (simp only [size_alloc, size_setB, size_drew]; omega)) _ | refine Ext.trans ?_ (by assumption))), ?_⟩; unfold infoW; rw [if_neg (by omega), if_neg (by omega), if_neg (by omega), if_pos (by omega)])
                                                                                  | (refine ⟨(by repeat (first | assumption | exact Ext.refl _ | refine Ext.alloc ?_ _ | refine Ext.drew ?_ | refine Ext.setB ?_ (by first | omega | (simp only [size_alloc, size_setB, size_drew]; omega)) _ | refine Ext.trans ?_ (by assumption))), ?_⟩; unfold infoW; repeat rw [if_neg (by omega)])
                                                                                · have hb138p := hb138.h; try simp only [al_ete, al_dfn, Bool.not_eq_true', Bool.not_eq_false', al_ne, Bool.not_not, al_nn] at hb138p
                                                                                  refine W_seq ?_
                                                                                  refine W_region rfl ?_
                                                                                  refine WO_p (PS_eql rfl rfl) ?_
                                                                                  refine WO_p (PS_assign_bool rfl) ?_
                                                                                  refine WO_nil ?_
                                                                                  refine thn_normal ?_
                                                                                  refine W_if rfl (fun hb140 => ?_) (fun hb140 => ?_)
                                                                                  · have hb140p := hb140.h; try simp only [al_ete, al_dfn, Bool.not_eq_true', Bool.not_eq_false', al_ne, Bool.not_not, al_nn] at hb140p
                                                                                    refine W_skip ?_
                                                                                    refine thn_normal ?_
                                                                                    refine W_condT rfl hb140.h ?_
                                                                                    refine W_seq ?_
                                                                                    refine W_region rfl ?_
                                                                                    refine WO_p (PS_assign_int rfl) ?_
                                                                                    refine WO_p (PS_assign_int rfl) ?_
                                                                                    refine WO_p (PS_assign_int rfl) ?_
                                                                                    refine WO_p (PS_assign_bool rfl) ?_
                                                                                    refine WO_nil ?_
                                                                                    refine thn_normal ?_
                                                                                    refine W_ret ?_
                                                                                    refine inBlk_ret ?_
                                                                                    refine thn_ret ?_
                                                                                    refine bodyQ_ret4 Hvad.results50 rfl rfl rfl rfl (.int _ _) (.int _ _) (.int _ _) (.bool _) rfl rfl rfl rfl ?_
                                                                                    first
                                                                                    | (exfalso; omega)
                                                                                    | (refine ⟨(by repeat (first | assumption | exact Ext.refl _ | refine Ext.alloc ?_ _ | refine Ext.drew ?_ | refine Ext.setB ?_ (by first | omega | (simp only [size_alloc, size_setB, size_drew]; omega)) _ | refine Ext.trans ?_ (by assumption))), ?_⟩; rw [show o = _ from by assumption]; rfl)
                                                                                    | (refine ⟨(by repeat (first | assumption | exact Ext.refl _ | refine Ext.alloc ?_ _ | refine Ext.drew ?_ | refine Ext.setB ?_ (by first | omega | (simp only [size_alloc, size_setB, size_drew]; omega)) _ | refine Ext.trans ?_ (by assumption))), ?_⟩; unfold infoW; rw [if_pos (by omega)])
                                                                                    | (refine ⟨(by repeat (first | assumption | exact Ext.refl _ | refine Ext.alloc ?_ _ | refine Ext.drew ?_ | refine Ext.setB ?_ (by first | omega | (simp only [size_alloc, size_setB, size_drew]; omega)) _ | refine Ext.trans ?_ (by assumption))), ?_⟩; unfold infoW; rw [if_neg (by omega), if_pos (by omega)])
                                                                                    | (refine ⟨(by repeat (first | assumption | exact Ext.refl _ | refine Ext.alloc ?_ _ | refine Ext.drew ?_ | refine Ext.setB ?_ (by first | omega | (simp only [size_alloc, size_setB, size_drew]; omega)) _ | refine Ext.trans ?_ (by assumption))), ?_⟩; unfold infoW; rw [if_neg (by omega), if_neg (by omega), if_pos (by omega)])
                                                                                    | (refine ⟨(by repeat (first | assumption | exact Ext.refl _ | refine Ext.alloc ?_ _ | refine Ext.drew ?_ | refine Ext.setB ?_ (by first | omega | (simp only [size_alloc, size_setB, size_drew]; omega)) _ | refine Ext.trans ?_ (by assumption))), ?_⟩; unfold infoW; rw [if_neg (by omega), if_neg (by omega), if_neg (by omega), if_pos (by omega)])
                                                                                    | (refine ⟨(by repeat (first | assumption | exact Ext.refl _ | refine Ext.alloc ?_ _ | refine Ext.drew ?_ | refine Ext.setB ?_ (by first | omega | (simp only [size_alloc, size_setB, size_drew]; omega)) _ | refine Ext.trans ?_ (by assumption))), ?_⟩; unfold infoW; repeat rw [if_neg (by omega)])
                                                                                  · have hb140p := hb140.h; try simp only [al_ete, al_dfn, Bool.not_eq_true', Bool.not_eq_false', al_ne, Bool.not_not, al_nn] at hb140p
                                                                                    refine W_seq ?_
                                                                                    refine W_region rfl ?_
                                                                                    refine WO_p (PS_eql rfl rfl) ?_
                                                                                    refine WO_p (PS_assign_bool rfl) ?_
                                                                                    refine WO_nil ?_
                                                                                    refine thn_normal ?_
                                                                                    refine W_if rfl (fun hb142 => ?_) (fun hb142 => ?_)
                                                                                    · have hb142p := hb142.h; try simp only [al_ete, al_dfn, Bool.not_eq_true', Bool.not_eq_false', al_ne, Bool.not_not, al_nn] at hb142p
                                                                                      refine W_skip ?_
                                                                                      refine thn_normal ?_
                                                                                      refine W_condT rfl hb142.h ?_
                                                                                      refine W_seq ?_
                                                                                      refine W_region rfl ?_
                                                                                      refine WO_p (PS_assign_int rfl) ?_
                                                                                      refine WO_p (PS_assign_int rfl) ?_
                                                                                      refine WO_p (PS_assign_int rfl) ?_
                                                                                      refine WO_p (PS_assign_bool rfl) ?_
                                                                                      refine WO_nil ?_
                                                                                      refine thn_normal ?_
                                                                                      refine W_ret ?_
                                                                                      refine inBlk_ret ?_
                                                                                      refine thn_ret ?_
                                                                                      refine bodyQ_ret4 Hvad.results50 rfl rfl rfl rfl (.int _ _) (.int _ _) (.int _ _) (.bool _) rfl rfl rfl rfl ?_
                                                                                      first
                                                                                      | (exfalso; omega)
                                                                                      | (refine ⟨(by repeat (first | assumption | exact Ext.refl _ | refine Ext.alloc ?_ _ | refine Ext.drew ?_ | refine Ext.setB ?_ (by first | omega | (simp only [size_alloc, size_setB, size_drew]; omega)) _ | refine Ext.trans ?_ (by assumption))), ?_⟩; rw [show o = _ from by assumption]; rfl)
                                                                                      | (refine ⟨(by repeat (first | assumption | exact Ext.refl _ | refine Ext.alloc ?_ _ | refine Ext.drew ?_ | refine Ext.setB ?_ (by first | omega | (simp only [size_alloc, size_setB, size_drew]; omega)) _ | refine Ext.trans ?_ (by assumption))), ?_⟩; unfold infoW; rw [if_pos (by omega)])
                                                                                      | (refine ⟨(by repeat (first | assumption | exact Ext.refl _ | refine Ext.alloc ?_ _ | refine Ext.drew ?_ | refine Ext.setB ?_ (by first | omega | (simp only [size_alloc, size_setB, size_drew]; omega)) _ | refine Ext.trans ?_ (by assumption))), ?_⟩; unfold infoW; rw [if_neg (by omega), if_pos (by omega)])
                                                                                      | (refine ⟨(by repeat (first | assumption | exact Ext.refl _ | refine Ext.alloc ?_ _ | refine Ext.drew ?_ | refine Ext.setB ?_ (by first | omega | (simp only [size_alloc, size_setB, size_drew]; omega)) _ | refine Ext.trans ?_ (by assumption))), ?_⟩; unfold infoW; rw [if_neg (by omega), if_neg (by omega), if_pos (by omega)])
                                                                                      | (refine ⟨(by repeat (first | assumption | exact Ext.refl _ | refine Ext.alloc ?_ _ | refine Ext.drew ?_ | refine Ext.setB ?_ (by first | omega | (simp only [size_alloc, size_setB, size_drew]; omega)) _ | refine Ext.trans ?_ (by assumption))), ?_⟩; unfold infoW; rw [if_neg (by omega), if_neg (by omega), if_neg (by omega), if_pos (by omega)])
                                                                                      | (refine ⟨(by repeat (first | assumption | exact Ext.refl _ | refine Ext.alloc ?_ _ | refine Ext.drew ?_ | refine Ext.setB ?_ (by first | omega | (simp only [size_alloc, size_setB, size_drew]; omega)) _ | refine Ext.trans ?_ (by assumption))), ?_⟩; unfold infoW; repeat rw [if_neg (by omega)])
                                                                                    · have hb142p := hb142.h; try simp only [al_ete, al_dfn, Bool.not_eq_true', Bool.not_eq_false', al_ne, Bool.not_not, al_nn] at hb142p
                                                                                      refine W_region rfl ?_
                                                                                      refine WO_p (PS_eql rfl rfl) ?_
                                                                                      refine WO_p (PS_assign_bool rfl) ?_
                                                                                      refine WO_nil ?_
                                                                                      refine thn_normal ?_
                                                                                      refine W_if rfl (fun hb144 => ?_) (fun hb144 => ?_)
                                                                                      · have hb144p := hb144.h; try simp only [al_ete, al_dfn, Bool.not_eq_true', Bool.not_eq_false', al_ne, Bool.not_not, al_nn] at hb144p
                                                                                        refine W_seq ?_
                                                                                        refine W_region rfl ?_
                                                                                        refine WO_p (PS_assign_int rfl) ?_
                                                                                        refine WO_p (PS_assign_int rfl) ?_
                                                                                        refine WO_p (PS_assign_int rfl) ?_
                                                                                        refine WO_p (PS_assign_bool rfl) ?_
                                                                                        refine WO_nil ?_
                                                                                        refine thn_normal ?_
                                                                                        refine W_ret ?_
                                                                                        refine inBlk_ret ?_
                                                                                        refine thn_ret ?_
                                                                                        refine bodyQ_ret4 Hvad.results50 rfl rfl rfl rfl (.int _ _) (.int _ _) (.int _ _) (.bool _) rfl rfl rfl rfl ?_
                                                                                        first
                                                                                        | (exfalso; omega)
                                                                                        | (refine ⟨(by repeat (first | assumption | exact Ext.refl _ | refine Ext.alloc ?_ _ | refine Ext.drew ?_ | refine Ext.setB ?_ (by first | omega | (simp only [size_alloc, size_setB, size_drew]; omega)) _ | refine Ext.trans ?_ (by assumption))), ?_⟩; rw [show o = _ from by assumption]; rfl)
                                                                                        | (refine ⟨(by repeat (first | assumption | exact Ext.refl _ | refine Ext.alloc ?_ _ | refine Ext.drew ?_ | refine Ext.setB ?_ (by first | omega | (simp only [size_alloc, size_setB, size_drew]; omega)) _ | refine Ext.trans ?_ (by assumption))), ?_⟩; unfold infoW; rw [if_pos (by omega)])
                                                                                        | (refine ⟨(by repeat (first | assumption | exact Ext.refl _ | refine Ext.alloc ?_ _ | refine Ext.drew ?_ | refine Ext.setB ?_ (by first | omega | (simp only [size_alloc, size_setB, size_drew]; omega)) _ | refine Ext.trans ?_ (by assumption))), ?_⟩; unfold infoW; rw [if_neg (by omega), if_pos (by omega)])
                                                                                        | (refine ⟨(by repeat (first | assumption | exact Ext.refl _ | refine Ext.alloc ?_ _ | refine Ext.drew ?_ | refine Ext.setB ?_ (by first | omega | (simp only [size_alloc, size_setB, size_drew]; omega)) _ | refine Ext.trans ?_ (by assumption))), ?_⟩; unfold infoW; rw [if_neg (by omega), if_neg (by omega), if_pos (by omega)])
                                                                                        | (refine ⟨(by repeat (first | assumption | exact Ext.refl _ | refine Ext.alloc ?_ _ | refine Ext.drew ?_ | refine Ext.setB ?_ (by first | omega | (simp only [size_alloc, size_setB, size_drew]; omega)) _ | refine Ext.trans ?_ (by assumption))), ?_⟩; unfold infoW; rw [if_neg (by omega), if_neg (by omega), if_neg (by omega), if_pos (by omega)])
                                                                                        | (refine ⟨(by repeat (first | assumption | exact Ext.refl _ | refine Ext.alloc ?_ _ | refine Ext.drew ?_ | refine Ext.setB ?_ (by first | omega | (simp only [size_alloc, size_setB, size_drew]; omega)) _ | refine Ext.trans ?_ (by assumption))), ?_⟩; unfold infoW; repeat rw [if_neg (by omega)])
                                                                                      · have hb144p := hb144.h; try simp only [al_ete, al_dfn, Bool.not_eq_true', Bool.not_eq_false', al_ne, Bool.not_not, al_nn] at hb144p
                                                                                        refine W_seq ?_
                                                                                        refine W_region rfl ?_
                                                                                        refine WO_p (PS_eql rfl rfl) ?_
                                                                                        refine WO_p (PS_assign_bool rfl) ?_
                                                                                        refine WO_nil ?_
                                                                                        refine thn_normal ?_
                                                                                        refine W_if rfl (fun hb146 => ?_) (fun hb146 => ?_)
                                                                                        · have hb146p := hb146.h; try simp only [al_ete, al_dfn, Bool.not_eq_true', Bool.not_eq_false', al_ne, Bool.not_not, al_nn] at hb146p
                                                                                          refine W_seq ?_
                                                                                          refine W_region rfl ?_
                                                                                          refine WO_p (PS_assign_int rfl) ?_
                                                                                          refine WO_p (PS_assign_int rfl) ?_
                                                                                          refine WO_p (PS_assign_int rfl) ?_
                                                                                          refine WO_p (PS_assign_bool rfl) ?_
                                                                                          refine WO_nil ?_
                                                                                          refine thn_normal ?_
                                                                                          refine W_ret ?_
                                                                                          refine inBlk_ret ?_
                                                                                          refine thn_ret ?_
                                                                                          refine bodyQ_ret4 Hvad.results50 rfl rfl rfl rfl (.int _ _) (.int _ _) (.int _ _) (.bool _) rfl rfl rfl rfl ?_
                                                                                          first
                                                                                          | (exfalso; omega)
                                                                                          | (refine ⟨(by repeat (first | assumption | exact Ext.refl _ | refine Ext.alloc ?_ _ | refine Ext.drew ?_ | refine Ext.setB ?_ (by first | omega | (simp only [size_alloc, size_setB, size_drew]; omega)) _ | refine Ext.trans ?_ (by assumption))), ?_⟩; rw [show o = _ from by assumption]; rfl)
                                                                                          | (refine ⟨(by repeat (first | assumption | exact Ext.refl _ | refine Ext.alloc ?_ _ | refine Ext.drew ?_ | refine Ext.setB ?_ (by first | omega | (simp only [size_alloc, size_setB, size_drew]; omega)) _ | refine Ext.trans ?_ (by assumption))), ?_⟩; unfold infoW; rw [if_pos (by omega)])
                                                                                          | (refine ⟨(by repeat (first | assumption | exact Ext.refl _ | refine Ext.alloc ?_ _ | refine Ext.drew ?_ | refine Ext.setB ?_ (by first | omega | (simp only [size_alloc, size_setB, size_drew]; omega)) _ | refine Ext.trans ?_ (by assumption))), ?_⟩; unfold infoW; rw [if_neg (by omega), if_pos (by omega)])
                                                                                          | (refine ⟨(by repeat (first | assumption | exact Ext.refl _ | refine Ext.alloc ?_ _ | refine Ext.drew ?_ | refine Ext.setB ?_ (by first | omega | (simp only [size_alloc, size_setB, size_drew]; omega)) _ | refine Ext.trans ?_ (by assumption))), ?_⟩; unfold infoW; rw [if_neg (by omega), if_neg (by omega), if_pos (by omega)])
                                                                                          | (refine ⟨(by repeat (first | assumption | exact Ext.refl _ | refine Ext.alloc ?_ _ | refine Ext.drew ?_ | refine Ext.setB ?_ (by first | omega | (simp only [size_alloc, size_setB, size_drew]; omega)) _ | refine Ext.trans ?_ (by assumption))), ?_⟩; unfold infoW; rw [if_neg (by omega), if_neg (by omega), if_neg (by omega), if_pos (by omega)])
                                                                                          | (refine ⟨(by repeat (first | assumption | exact Ext.refl _ | refine Ext.alloc ?_ _ | refine Ext.drew ?_ | refine Ext.setB ?_ (by first | omega | (simp only [size_alloc, size_setB, size_drew]; omega)) _ | refine Ext.trans ?_ (by assumption))), ?_⟩; unfold infoW; repeat rw [if_neg (by omega)])
                                                                                        · have hb146p := hb146.h; try simp only [al_ete, al_dfn, Bool.not_eq_true', Bool.not_eq_false', al_ne, Bool.not_not, al_nn] at hb146p
                                                                                          refine W_seq ?_
                                                                                          refine W_region rfl ?_
                                                                                          refine WO_p (PS_eql rfl rfl) ?_
                                                                                          refine WO_p (PS_assign_bool rfl) ?_
                                                                                          refine WO_nil ?_
                                                                                          refine thn_normal ?_
                                                                                          refine W_if rfl (fun hb148 => ?_) (fun hb148 => ?_)
                                                                                          · have hb148p := hb148.h; try simp only [al_ete, al_dfn, Bool.not_eq_true', Bool.not_eq_false', al_ne, Bool.not_not, al_nn] at hb148p
                                                                                            refine W_seq ?_
                                                                                            refine W_region rfl ?_
                                                                                            refine WO_p (PS_assign_int rfl) ?_
                                                                                            refine WO_p (PS_assign_int rfl) ?_
                                                                                            refine WO_p (PS_assign_int rfl) ?_
                                                                                            refine WO_p (PS_assign_bool rfl) ?_
                                                                                            refine WO_nil ?_
                                                                                            refine thn_normal ?_
                                                                                            refine W_ret ?_
                                                                                            refine inBlk_ret ?_
                                                                                            refine thn_ret ?_
                                                                                            refine bodyQ_ret4 Hvad.results50 rfl rfl rfl rfl (.int _ _) (.int _ _) (.int _ _) (.bool _) rfl rfl rfl rfl ?_
                                                                                            first
                                                                                            | (exfalso; omega)
                                                                                            | (refine ⟨(by repeat (first | assumption | exact Ext.refl _ | refine Ext.alloc ?_ _ | refine Ext.drew ?_ | refine Ext.setB ?_ (by first | omega | (simp only [size_alloc, size_setB, size_drew]; omega)) _ | refine Ext.trans ?_ (by assumption))), ?_⟩; rw [show o = _ from by assumption]; rfl)
                                                                                            | (refine ⟨(by repeat (first | assumption | exact Ext.refl _ | refine Ext.alloc ?_ _ | refine Ext.drew ?_ | refine Ext.setB ?_ (by first | omega | (simp only [size_alloc, size_setB, size_drew]; omega)) _ | refine Ext.trans ?_ (by assumption))), ?_⟩; unfold infoW; rw [if_pos (by omega)])
                                                                                            | (refine ⟨(by repeat (first | assumption | exact Ext.refl _ | refine Ext.alloc ?_ _ | refine Ext.drew ?_ | refine Ext.setB ?_ (by first | omega | (simp only [size_alloc, size_setB, size_drew]; omega)) _ | refine Ext.trans ?_ (by assumption))), ?_⟩; unfold infoW; rw [if_neg (by omega), if_pos (by omega)])
                                                                                            | (refine ⟨(by repeat (first | assumption | exact Ext.refl _ | refine Ext.alloc ?_ _ | refine Ext.drew ?_ | refine Ext.setB ?_ (by first | omega | (simp only [size_alloc, size_setB, size_drew]; omega)) _ | refine Ext.trans ?_ (by assumption))), ?_⟩; unfold infoW; rw [if_neg (by omega), if_neg (by omega), if_pos (by omega)])
                                                                                            | (refine ⟨(by repeat (first | assumption | exact Ext.refl _ | refine Ext.alloc ?_ _ | refine Ext.drew ?_ | refine Ext.setB ?_ (by first | omega | (simp only [size_alloc, size_setB, size_drew]; omega)) _ | refine Ext.trans ?_ (by assumption))), ?_⟩; unfold infoW; rw [if_neg (by omega), if_neg (by omega), if_neg (by omega), if_pos (by omega)])
                                                                                            | (refine ⟨(by repeat (first | assumption | exact Ext.refl _ | refine Ext.alloc ?_ _ | refine Ext.drew ?_ | refine Ext.setB ?_ (by first | omega | (simp only [size_alloc, size_setB, size_drew]; omega)) _ | refine Ext.trans ?_ (by assumption))), ?_⟩; unfold infoW; repeat rw [if_neg (by omega)])
                                                                                          · have hb148p := hb148.h; try simp only [al_ete, al_dfn, Bool.not_eq_true', Bool.not_eq_false', al_ne, Bool.not_not, al_nn] at hb148p
                                                                                            refine W_seq ?_
                                                                                            refine W_seq ?_
                                                                                            refine W_region rfl ?_
                                                                                            refine WO_p (PS_eql rfl rfl) ?_
                                                                                            refine WO_p (PS_assign_bool rfl) ?_
                                                                                            refine WO_nil ?_
                                                                                            refine thn_normal ?_
                                                                                            refine W_if rfl (fun hb150 => ?_) (fun hb150 => ?_)
                                                                                            · have hb150p := hb150.h; try simp only [al_ete, al_dfn, Bool.not_eq_true', Bool.not_eq_false', al_ne, Bool.not_not, al_nn] at hb150p
                                                                                              refine W_skip ?_
                                                                                              refine thn_normal ?_
                                                                                              refine W_condT rfl hb150.h ?_
                                                                                              refine W_seq ?_
                                                                                              refine W_region rfl ?_
                                                                                              refine WO_p (PS_assign_int rfl) ?_
                                                                                              refine WO_p (PS_assign_int rfl) ?_
                                                                                              refine WO_p (PS_assign_int rfl) ?_
                                                                                              refine WO_p (PS_assign_bool rfl) ?_
                                                                                              refine WO_nil ?_
                                                                                              refine thn_normal ?_
                                                                                              refine W_ret ?_
                                                                                              refine inBlk_ret ?_
                                                                                              refine thn_ret ?_
                                                                                              refine bodyQ_ret4 Hvad.results50 rfl rfl rfl rfl (.int _ _) (.int _ _) (.int _ _) (.bool _) rfl rfl rfl rfl ?_
                                                                                              first
                                                                                              | (exfalso; omega)
                                                                                              | (refine ⟨(by repeat (first | assumption | exact Ext.refl _ | refine Ext.alloc ?_ _ | refine Ext.drew ?_ | refine Ext.setB ?_ (by first | omega | (simp only [size_alloc, size_setB, size_drew]; omega)) _ | refine Ext.trans ?_ (by assumption))), ?_⟩; rw [show o = _ from by assumption]; rfl)
                                                                                              | (refine ⟨(by repeat (first | assumption | exact Ext.refl _ | refine Ext.alloc ?_ _ | refine Ext.drew ?_ | refine Ext.setB ?_ (by first | omega | (simp only [size_alloc, size_setB, size_drew]; omega)) _ | refine Ext.trans ?_ (by assumption))), ?_⟩; unfold infoW; rw [if_pos (by omega)])
                                                                                              | (refine ⟨(by repeat (first | assumption | exact Ext.refl _ | refine Ext.alloc ?_ _ | refine Ext.drew ?_ | refine Ext.setB ?_ (by first | omega | (simp only [size_alloc, size_setB, size_drew]; omega)) _ | refine Ext.trans ?_ (by assumption))), ?_⟩; unfold infoW; rw [if_neg (by omega), if_pos (by omega)])
                                                                                              | (refine ⟨(by repeat (first | assumption | exact Ext.refl _ | refine Ext.alloc ?_ _ | refine Ext.drew ?_ | refine Ext.setB ?_ (by first | omega | (simp only [size_alloc, size_setB, size_drew]; omega)) _ | refine Ext.trans ?_ (by assumption))), ?_⟩; unfold infoW; rw [if_neg (by omega), if_neg (by omega), if_pos (by omega)])
                                                                                              | (refine ⟨(by repeat (first | assumption | exact Ext.refl _ | refine Ext.alloc ?_ _ | refine Ext.drew ?_ | refine Ext.setB ?_ (by first | omega | (simp only [size_alloc, size_setB, size_drew]; omega)) _ | refine Ext.trans ?_ (by assumption))), ?_⟩; unfold infoW; rw [if_neg (by omega), if_neg (by omega), if_neg (by omega), if_pos (by omega)])
                                                                                              | (refine ⟨(by repeat (first | assumption | exact Ext.refl _ | refine Ext.alloc ?_ _ | refine Ext.drew ?_ | refine Ext.setB ?_ (by first | omega | (simp only [size_alloc, size_setB, size_drew]; omega)) _ | refine Ext.trans ?_ (by assumption))), ?_⟩; unfold infoW; repeat rw [if_neg (by omega)])
                                                                                            · have hb150p := hb150.h; try simp only [al_ete, al_dfn, Bool.not_eq_true', Bool.not_eq_false', al_ne, Bool.not_not, al_nn] at hb150p
                                                                                              refine W_region rfl ?_
                                                                                              refine WO_p (PS_eql rfl rfl) ?_
                                                                                              refine WO_p (PS_assign_bool rfl) ?_
                                                                                              refine WO_nil ?_
                                                                                              refine thn_normal ?_
                                                                                              refine W_if rfl (fun hb152 => ?_) (fun hb152 => ?_)
                                                                                              · have hb152p := hb152.h; try simp only [al_ete, al_dfn, Bool.not_eq_true', Bool.not_eq_false', al_ne, Bool.not_not, al_nn] at hb152p
                                                                                                refine W_seq ?_
                                                                                                refine W_region rfl ?_
                                                                                                refine WO_p (PS_assign_int rfl) ?_
                                                                                                refine WO_p (PS_assign_int rfl) ?_
                                                                                                refine WO_p (PS_assign_int rfl) ?_
                                                                                                refine WO_p (PS_assign_bool rfl) ?_
                                                                                                refine WO_nil ?_
                                                                                                refine thn_normal ?_
                                                                                                refine W_ret ?_
                                                                                                refine inBlk_ret ?_
                                                                                                refine thn_ret ?_
                                                                                                refine bodyQ_ret4 Hvad.results50 rfl rfl rfl rfl (.int _ _) (.int _ _) (.int _ _) (.bool _) rfl rfl rfl rfl ?_
                                                                                                first
                                                                                                | (exfalso; omega)
                                                                                                | (refine ⟨(by repeat (first | assumption | exact Ext.refl _ | refine Ext.alloc ?_ _ | refine Ext.drew ?_ | refine Ext.setB ?_ (by first | omega | (simp only [size_alloc, size_setB, size_drew]; omega)) _ | refine Ext.trans ?_ (by assumption))), ?_⟩; rw [show o = _ from by assumption]; rfl)
                                                                                                | (refine ⟨(by repeat (first | assumption | exact Ext.refl _ | refine Ext.alloc ?_ _ | refine Ext.drew ?_ | refine Ext.setB ?_ (by first | omega | (simp only [size_alloc, size_setB, size_drew]; omega)) _ | refine Ext.trans ?_ (by assumption))), ?_⟩; unfold infoW; rw [if_pos (by omega)])
                                                                                                | (refine ⟨(by repeat (first | assumption | exact Ext.refl _ | refine Ext.alloc ?_ _ | refine Ext.drew ?_ | refine Ext.setB ?_ (by first | omega | (simp only [size_alloc, size_setB, size_drew]; omega)) _ | refine Ext.trans ?_ (by assumption))), ?_⟩; unfold infoW; rw [if_neg (by omega), if_pos (by omega)])
                                                                                                | (refine ⟨(by repeat (first | assumption | exact Ext.refl _ | refine Ext.alloc ?_ _ | refine Ext.drew ?_ | refine Ext.setB ?_ (by first | omega | (simp only [size_alloc, size_setB, size_drew]; omega)) _ | refine Ext.trans ?_ (by assumption))), ?_⟩; unfold infoW; rw [if_neg (by omega), if_neg (by omega), if_pos (by omega)])
                                                                                                | (refine ⟨(by repeat (first | assumption | exact Ext.refl _ | refine Ext.alloc ?_ _ | refine Ext.drew ?_ | refine Ext.setB ?_ (by first | omega | (simp only [size_alloc, size_setB, size_drew]; omega)) _ | refine Ext.trans ?_ (by assumption))), ?_⟩; unfold infoW; rw [if_neg (by omega), if_neg (by omega), if_neg (by omega), if_pos (by omega)])
                                                                                                | (refine ⟨(by repeat (first | assumption | exact Ext.refl _ | refine Ext.alloc ?_ _ | refine Ext.drew ?_ | refine Ext.setB ?_ (by first | omega | (simp only [size_alloc, size_setB, size_drew]; omega)) _ | refine Ext.trans ?_ (by assumption))), ?_⟩; unfold infoW; repeat rw [if_neg (by omega)])
                                                                                              · have hb152p := hb152.h; try simp only [al_ete, al_dfn, Bool.not_eq_true', Bool.not_eq_false', al_ne, Bool.not_not, al_nn] at hb152p
                                                                                                refine W_seq ?_
                                                                                                refine W_seq ?_
                                                                                                refine W_region rfl ?_
                                                                                                refine WO_p (PS_eql rfl rfl) ?_
                                                                                                refine WO_p (PS_assign_bool rfl) ?_
                                                                                                refine WO_nil ?_
                                                                                                refine thn_normal ?_
                                                                                                refine W_if rfl (fun hb154 => ?_) (fun hb154 => ?_)
                                                                                                · have hb154p := hb154.h; try simp only [al_ete, al_dfn, Bool.not_eq_true', Bool.not_eq_false', al_ne, Bool.not_not, al_nn] at hb154p
                                                                                                  refine W_skip ?_
                                                                                                  refine thn_normal ?_
                                                                                                  refine W_condT rfl hb154.h ?_
                                                                                                  refine W_seq ?_
                                                                                                  refine W_region rfl ?_
                                                                                                  refine WO_p (PS_assign_int rfl) ?_
                                                                                                  refine WO_p (PS_assign_int rfl) ?_
                                                                                                  refine WO_p (PS_assign_int rfl) ?_
                                                                                                  refine WO_p (PS_assign_bool rfl) ?_
                                                                                                  refine WO_nil ?_
                                                                                                  refine thn_normal ?_
                                                                                                  refine W_ret ?_
                                                                                                  refine inBlk_ret ?_
                                                                                                  refine thn_ret ?_
                                                                                                  refine bodyQ_ret4 Hvad.results50 rfl rfl rfl rfl (.int _ _) (.int _ _) (.int _ _) (.bool _) rfl rfl rfl rfl ?_
                                                                                                  first
                                                                                                  | (exfalso; omega)
                                                                                                  | (refine ⟨(by repeat (first | assumption | exact Ext.refl _ | refine Ext.alloc ?_ _ | refine Ext.drew ?_ | refine Ext.setB ?_ (by first | omega | (simp only [size_alloc, size_setB, size_drew]; omega)) _ | refine Ext.trans ?_ (by assumption))), ?_⟩; rw [show o = _ from by assumption]; rfl)
                                                                                                  | (refine ⟨(by repeat (first | assumption | exact Ext.refl _ | refine Ext.alloc ?_ _ | refine Ext.drew ?_ | refine Ext.setB ?_ (by first | omega | (simp only [size_alloc, size_setB, size_drew]; omega)) _ | refine Ext.trans ?_ (by assumption))), ?_⟩; unfold infoW; rw [if_pos (by omega)])
                                                                                                  | (refine ⟨(by repeat (first | assumption | exact Ext.refl _ | refine Ext.alloc ?_ _ | refine Ext.drew ?_ | refine Ext.setB ?_ (by first | omega | (simp only [size_alloc, size_setB, size_drew]; omega)) _ | refine Ext.trans ?_ (by assumption))), ?_⟩; unfold infoW; rw [if_neg (by omega), if_pos (by omega)])
                                                                                                  | (refine ⟨(by repeat (first | assumption | exact Ext.refl _ | refine Ext.alloc ?_ _ | refine Ext.drew ?_ | refine Ext.setB ?_ (by first | omega | (simp only [size_alloc, size_setB, size_drew]; omega)) _ | refine Ext.trans ?_ (by assumption))), ?_⟩; unfold infoW; rw [if_neg (by omega), if_neg (by omega), if_pos (by omega)])
                                                                                                  | (refine ⟨(by repeat (first | assumption | exact Ext.refl _ | refine Ext.alloc ?_ _ | refine Ext.drew ?_ | refine Ext.setB ?_ (by first | omega | (simp only [size_alloc, size_setB, size_drew]; omega)) _ | refine Ext.trans ?_ (by assumption))), ?_⟩; unfold infoW; rw [if_neg (by omega), if_neg (by omega), if_neg (by omega), if_pos (by omega)])
                                                                                                  | (refine ⟨(by repeat (first | assumption | exact Ext.refl _ | refine Ext.alloc ?_ _ | refine Ext.drew ?_ | refine Ext.setB ?_ (by first | omega | (simp only [size_alloc, size_setB, size_drew]; omega)) _ | refine Ext.trans ?_ (by assumption))), ?_⟩; unfold infoW; repeat rw [if_neg (by omega)])
                                                                                                · have hb154p := hb154.h; try simp only [al_ete, al_dfn, Bool.not_eq_true', Bool.not_eq_false', al_ne, Bool.not_not, al_nn] at hb154p
                                                                                                  refine W_seq ?_
                                                                                                  refine W_region rfl ?_
                                                                                                  refine WO_p (PS_eql rfl rfl) ?_
                                                                                                  refine WO_p (PS_assign_bool rfl) ?_
                                                                                                  refine WO_nil ?_
                                                                                                  refine thn_normal ?_
                                                                                                  refine W_if rfl (fun hb156 => ?_) (fun hb156 => ?_)
                                                                                                  · have hb156p := hb156.h; try simp only [al_ete, al_dfn, Bool.not_eq_true', Bool.not_eq_false', al_ne, Bool.not_not, al_nn] at hb156p
                                                                                                    refine W_skip ?_
                                                                                                    refine thn_normal ?_
                                                                                                    refine W_condT rfl hb156.h ?_
                                                                                                    refine W_seq ?_
                                                                                                    refine W_region rfl ?_
                                                                                                    refine WO_p (PS_assign_int rfl) ?_
                                                                                                    refine WO_p (PS_assign_int rfl) ?_
                                                                                                    refine WO_p (PS_assign_int rfl) ?_
                                                                                                    refine WO_p (PS_assign_bool rfl) ?_
                                                                                                    refine WO_nil ?_
                                                                                                    refine thn_normal ?_
                                                                                                    refine W_ret ?_
                                                                                                    refine inBlk_ret ?_
                                                                                                    refine thn_ret ?_
                                                                                                    refine bodyQ_ret4 Hvad.results50 rfl rfl rfl rfl (.int _ _) (.int _ _) (.int _ _) (.bool _) rfl rfl rfl rfl ?_
                                                                                                    first
                                                                                                    | (exfalso; omega)
                                                                                                    | (refine ⟨(by repeat (first | assumption | exact Ext.refl _ | refine Ext.alloc ?_ _ | refine Ext.drew ?_ | refine Ext.setB ?_ (by first | omega | (simp only [size_alloc, size_setB, size_drew]; omega)) _ | refine Ext.trans ?_ (by assumption))), ?_⟩; rw [show o = _ from by assumption]; rfl)
                                                                                                    | (refine ⟨(by repeat (first | assumption | exact Ext.refl _ | refine Ext.alloc ?_ _ | refine Ext.drew ?_ | refine Ext.setB ?_ (by first | omega | (simp only [size_alloc, size_setB, size_drew]; omega)) _ | refine Ext.trans ?_ (by assumption))), ?_⟩; unfold infoW; rw [if_pos (by omega)])
                                                                                                    | (refine ⟨(by repeat (first | assumption | exact Ext.refl _ | refine Ext.alloc ?_ _ | refine Ext.drew ?_ | refine Ext.setB ?_ (by first | omega | (simp only [size_alloc, size_setB, size_drew]; omega)) _ | refine Ext.trans ?_ (by assumption))), ?_⟩; unfold infoW; rw [if_neg (by omega), if_pos (by omega)])
                                                                                                    | (refine ⟨(by repeat (first | assumption | exact Ext.refl _ | refine Ext.alloc ?_ _ | refine Ext.drew ?_ | refine Ext.setB ?_ (by first | omega | (simp only [size_alloc, size_setB, size_drew]; omega)) _ | refine Ext.trans ?_ (by assumption))), ?_⟩; unfold infoW; rw [if_neg (by omega), if_neg (by omega), if_pos (by omega)])
                                                                                                    | (refine ⟨(by repeat (first | assumption | exact Ext.refl _ | refine Ext.alloc ?_ _ | refine Ext.drew ?_ | refine Ext.setB ?_ (by first | omega | (simp only [size_alloc, size_setB, size_drew]; omega)) _ | refine Ext.trans ?_ (by assumption))), ?_⟩; unfold infoW; rw [if_neg (by omega), if_neg (by omega), if_neg (by omega), if_pos (by omega)])
                                                                                                    | (refine ⟨(by repeat (first | assumption | exact Ext.refl _ | refine Ext.alloc ?_ _ | refine Ext.drew ?_ | refine Ext.setB ?_ (by first | omega | (simp only [size_alloc, size_setB, size_drew]; omega)) _ | refine Ext.trans ?_ (by assumption))), ?_⟩; unfold infoW; repeat rw [if_neg (by omega)])
                                                                                                  · have hb156p := hb156.h; try simp only [al_ete, al_dfn, Bool.not_eq_true', Bool.not_eq_false', al_ne, Bool.not_not, al_nn] at hb156p
                                                                                                    refine W_seq ?_
                                                                                                    refine W_region rfl ?_
                                                                                                    refine WO_p (PS_eql rfl rfl) ?_
                                                                                                    refine WO_p (PS_assign_bool rfl) ?_
                                                                                                    refine WO_nil ?_
                                                                                                    refine thn_normal ?_
                                                                                                    refine W_if rfl (fun hb158 => ?_) (fun hb158 => ?_)
                                                                                                    · have hb158p := hb158.h; try simp only [al_ete, al_dfn, Bool.not_eq_true', Bool.not_eq_false', al_ne, Bool.not_not, al_nn] at hb158p
                                                                                                      refine W_skip ?_
                                                                                                      refine thn_normal ?_
                                                                                                      refine W_condT rfl hb158.h ?_
                                                                                                      refine W_seq ?_
                                                                                                      refine W_region rfl ?_
                                                                                                      refine WO_p (PS_assign_int rfl) ?_
                                                                                                      refine WO_p (PS_assign_int rfl) ?_
                                                                                                      refine WO_p (PS_assign_int rfl) ?_
                                                                                                      refine WO_p (PS_assign_bool rfl) ?_
                                                                                                      refine WO_nil ?_
                                                                                                      refine thn_normal ?_
                                                                                                      refine W_ret ?_
                                                                                                      refine inBlk_ret ?_
                                                                                                      refine thn_ret ?_
                                                                                                      refine bodyQ_ret4 Hvad.results50 rfl rfl rfl rfl (.int _ _) (.int _ _) (.int _ _) (.bool _) rfl rfl rfl rfl ?_
                                                                                                      first
                                                                                                      | (exfalso; omega)
                                                                                                      | (refine ⟨(by repeat (first | assumption | exact Ext.refl _ | refine Ext.alloc ?_ _ | refine Ext.drew ?_ | refine Ext.setB ?_ (by first | omega | (simp only [size_alloc, size_setB, size_drew]; omega)) _ | refine Ext.trans ?_ (by assumption))), ?_⟩; rw [show o = _ from by assumption]; rfl)
                                                                                                      | (refine ⟨(by repeat (first | assumption | exact Ext.refl _ | refine Ext.alloc ?_ _ | refine Ext.drew ?_ | refine Ext.setB ?_ (by first | omega | (simp only [size_alloc, size_setB, size_drew]; omega)) _ | refine Ext.trans ?_ (by assumption))), ?_⟩; unfold infoW; rw [if_pos (by omega)])
                                                                                                      | (refine ⟨(by repeat (first | assumption | exact Ext.refl _ | refine Ext.alloc ?_ _ | refine Ext.drew ?_ | refine Ext.setB ?_ (by first | omega | (simp only [size_alloc, size_setB, size_drew]; omega)) _ | refine Ext.trans ?_ (by assumption))), ?_⟩; unfold infoW; rw [if_neg (by omega), if_pos (by omega)])
                                                                                                      | (refine ⟨(by repeat (first | assumption | exact Ext.refl _ | refine Ext.alloc ?_ _ | refine Ext.drew ?_ | refine Ext.setB ?_ (by first | omega | (simp only [size_alloc, size_setB, size_drew]; omega)) _ | refine Ext.trans ?_ (by assumption))), ?_⟩; unfold infoW; rw [if_neg (by omega), if_neg (by omega), if_pos (by omega)])
                                                                                                      | (refine ⟨(by repeat (first | assumption | exact Ext.refl _ | refine Ext.alloc ?_ _ | refine Ext.drew ?_ | refine Ext.setB ?_ (by first | omega | (simp only [size_alloc, size_setB, size_drew]; omega)) _ | refine Ext.trans ?_ (by assumption))), ?_⟩; unfold infoW; rw [if_neg (by omega), if_neg (by omega), if_neg (by omega), if_pos (by omega)])
                                                                                                      | (refine ⟨(by repeat (first | assumption | exact Ext.refl _ | refine Ext.alloc ?_ _ | refine Ext.drew ?_ | refine Ext.setB ?_ (by first | omega | (simp only [size_alloc, size_setB, size_drew]; omega)) _ | refine Ext.trans ?_ (by assumption))), ?_⟩; unfold infoW; repeat rw [if_neg (by omega)])
                                                                                                    · have hb158p := hb158.h; try simp only [al_ete, al_dfn, Bool.not_eq_true', Bool.not_eq_false', al_ne, Bool.not_not, al_nn] at hb158p
                                                                                                      refine W_region rfl ?_
                                                                                                      refine WO_p (PS_eql rfl rfl) ?_
                                                                                                      refine WO_p (PS_assign_bool rfl) ?_
                                                                                                      refine WO_nil ?_
                                                                                                      refine thn_normal ?_
                                                                                                      refine W_if rfl (fun hb160 => ?_) (fun hb160 => ?_)
                                                                                                      · have hb160p := hb160.h; try simp only [al_ete, al_dfn, Bool.not_eq_true', Bool.not_eq_false', al_ne, Bool.not_not, al_nn] at hb160p
                                                                                                        refine W_seq ?_
                                                                                                        refine W_region rfl ?_
                                                                                                        refine WO_p (PS_assign_int rfl) ?_
                                                                                                        refine WO_p (PS_assign_int rfl) ?_
                                                                                                        refine WO_p (PS_assign_int rfl) ?_
                                                                                                        refine WO_p (PS_assign_bool rfl) ?_
                                                                                                        refine WO_nil ?_
                                                                                                        refine thn_normal ?_
                                                                                                        refine W_ret ?_
                                                                                                        refine inBlk_ret ?_
                                                                                                        refine thn_ret ?_
                                                                                                        refine bodyQ_ret4 Hvad.results50 rfl rfl rfl rfl (.int _ _) (.int _ _) (.int _ _) (.bool _) rfl rfl rfl rfl ?_
                                                                                                        first
                                                                                                        | (exfalso; omega)
                                                                                                        | (refine ⟨(by repeat (first | assumption | exact Ext.refl _ | refine Ext.alloc ?_ _ | refine Ext.drew ?_ | refine Ext.setB ?_ (by first | omega | (simp only [size_alloc, size_setB, size_drew]; omega)) _ | refine Ext.trans ?_ (by assumption))), ?_⟩; rw [show o = _ from by assumption]; rfl)
                                                                                                        | (refine ⟨(by repeat (first | assumption | exact Ext.refl _ | refine Ext.alloc ?_ _ | refine Ext.drew ?_ | refine Ext.setB ?_ (by first | omega | (simp only [size_alloc, size_setB, size_drew]; omega)) _ | refine Ext.trans ?_ (by assumption))), ?_⟩; unfold infoW; rw [if_pos (by omega)])
                                                                                                        | (refine ⟨(by repeat (first | assumption | exact Ext.refl _ | refine Ext.alloc ?_ _ | refine Ext.drew ?_ | refine Ext.setB ?_ (by first | omega | (simp only [size_alloc, size_setB, size_drew]; omega)) _ | refine Ext.trans ?_ (by assumption))), ?_⟩; unfold infoW; rw [if_neg (by omega), if_pos (by omega)])
                                                                                                        | (refine ⟨(by repeat (first | assumption | exact Ext.refl _ | refine Ext.alloc ?_ _ | refine Ext.drew ?_ | refine Ext.setB ?_ (by first | omega | (simp only [size_alloc, size_setB, size_drew]; omega)) _ | refine Ext.trans ?_ (by assumption))), ?_⟩; unfold infoW; rw [if_neg (by omega), if_neg (by omega), if_pos (by omega)])
                                                                                                        | (refine ⟨(by repeat (first | assumption | exact Ext.refl _ | refine Ext.alloc ?_ _ | refine Ext.drew ?_ | refine Ext.setB ?_ (by first | omega | (simp only [size_alloc, size_setB, size_drew]; omega)) _ | refine Ext.trans ?_ (by assumption))), ?_⟩; unfold infoW; rw [if_neg (by omega), if_neg (by omega), if_neg (by omega), if_pos (by omega)])
                                                                                                        | (refine ⟨(by repeat (first | assumption | exact Ext.refl _ | refine Ext.alloc ?_ _ | refine Ext.drew ?_ | refine Ext.setB ?_ (by first | omega | (simp only [size_alloc, size_setB, size_drew]; omega)) _ | refine Ext.trans ?_ (by assumption))), ?_⟩; unfold infoW; repeat rw [if_neg (by omega)])
                                                                                                      · have hb160p := hb160.h; try simp only [al_ete, al_dfn, Bool.not_eq_true', Bool.not_eq_false', al_ne, Bool.not_not, al_nn] at hb160p
                                                                                                        refine W_seq ?_
                                                                                                        refine W_seq ?_
                                                                                                        refine W_region rfl ?_
                                                                                                        refine WO_p (PS_eql rfl rfl) ?_
                                                                                                        refine WO_p (PS_assign_bool rfl) ?_
                                                                                                        refine WO_nil ?_
                                                                                                        refine thn_normal ?_
                                                                                                        refine W_if rfl (fun hb162 => ?_) (fun hb162 => ?_)
                                                                                                        · have hb162p := hb162.h; try simp only [al_ete, al_dfn, Bool.not_eq_true', Bool.not_eq_false', al_ne, Bool.not_not, al_nn] at hb162p
                                                                                                          refine W_skip ?_
                                                                                                          refine thn_normal ?_
                                                                                                          refine W_condT rfl hb162.h ?_
                                                                                                          refine W_seq ?_
                                                                                                          refine W_region rfl ?_
                                                                                                          refine WO_p (PS_assign_int rfl) ?_
                                                                                                          refine WO_p (PS_assign_int rfl) ?_
                                                                                                          refine WO_p (PS_assign_int rfl) ?_
                                                                                                          refine WO_p (PS_assign_bool rfl) ?_
                                                                                                          refine WO_nil ?_
                                                                                                          refine thn_normal ?_
                                                                                                          refine W_ret ?_
                                                                                                          refine inBlk_ret ?_
                                                                                                          refine thn_ret ?_
                                                                                                          refine bodyQ_ret4 Hvad.results50 rfl rfl rfl rfl (.int _ _) (.int _ _) (.int _ _) (.bool _) rfl rfl rfl rfl ?_
                                                                                                          first
                                                                                                          | (exfalso; omega)
                                                                                                          | (refine ⟨(by repeat (first | assumption | exact Ext.refl _ | refine Ext.alloc ?_ _ | refine Ext.drew ?_ | refine Ext.setB ?_ (by first | omega | (simp only [size_alloc, size_setB, size_drew]; omega)) _ | refine Ext.trans ?_ (by assumption))), ?_⟩; rw [show o = _ from by assumption]; rfl)
                                                                                                          | (refine ⟨(by repeat (first | assumption | exact Ext.refl _ | refine Ext.alloc ?_ _ | refine Ext.drew ?_ | refine Ext.setB ?_ (by first | omega | (simp only [size_alloc, size_setB, size_drew]; omega)) _ | refine Ext.trans ?_ (by assumption))), ?_⟩; unfold infoW; rw [if_pos (by omega)])
                                                                                                          | (refine ⟨(by repeat (first | assumption | exact Ext.refl _ | refine Ext.alloc ?_ _ | refine Ext.drew ?_ | refine Ext.setB ?_ (by first | omega | (simp only [size_alloc, size_setB, size_drew]; omega)) _ | refine Ext.trans ?_ (by assumption))), ?_⟩; unfold infoW; rw [if_neg (by omega), if_pos (by omega)])
                                                                                                          | (refine ⟨(by repeat (first | assumption | exact Ext.refl _ | refine Ext.alloc ?_ _ | refine Ext.drew ?_ | refine Ext.setB ?_ (by first | omega | (simp only [size_alloc, size_setB, size_drew]; omega)) _ | refine Ext.trans ?_ (by assumption))), ?_⟩; unfold infoW; rw [if_neg (by omega), if_neg (by omega), if_pos (by omega)])
                                                                                                          | (refine ⟨(by repeat (first | assumption | exact Ext.refl _ | refine Ext.alloc ?_ _ | refine Ext.drew ?_ | refine Ext.setB ?_ (by first | omega | (simp only [size_alloc, size_setB, size_drew]; omega)) _ | refine Ext.trans ?_ (by assumption))), ?_⟩; unfold infoW; rw [if_neg (by omega), if_neg (by omega), if_neg (by omega), if_pos (by omega)])
                                                                                                          | (refine ⟨(by repeat (first | assumption | exact Ext.refl _ | refine Ext.alloc ?_ _ | refine Ext.drew ?_ | refine Ext.setB ?_ (by first | omega | (simp only [size_alloc, size_setB, size_drew]; omega)) _ | refine Ext.trans ?_ (by assumption))), ?_⟩; unfold infoW; repeat rw [if_neg (by omega)])
                                                                                                        · have hb162p := hb162.h; try simp only [al_ete, al_dfn, Bool.not_eq_true', Bool.not_eq_false', al_ne, Bool.not_not, al_nn] at hb162p
                                                                                                          refine W_seq ?_
                                                                                                          refine W_region rfl ?_
                                                                                                          refine WO_p (PS_eql rfl rfl) ?_
                                                                                                          refine WO_p (PS_assign_bool rfl) ?_
                                                                                                          refine WO_nil ?_
                                                                                                          refine thn_normal ?_
                                                                                                          refine W_if rfl (fun hb164 => ?_) (fun hb164 => ?_)
                                                                                                          · have hb164p := hb164.h; try simp only [al_ete, al_dfn, Bool.not_eq_true', Bool.not_eq_false', al_ne, Bool.not_not, al_nn] at hb164p
                                                                                                            refine W_skip ?_
                                                                                                            refine thn_normal ?_
                                                                                                            refine W_condT rfl hb164.h ?_
                                                                                                            refine W_seq ?_
                                                                                                            refine W_region rfl ?_
                                                                                                            refine WO_p (PS_assign_int rfl) ?_
                                                                                                            refine WO_p (PS_assign_int rfl) ?_
                                                                                                            refine WO_p (PS_assign_int rfl) ?_
                                                                                                            refine WO_p (PS_assign_bool rfl) ?_
                                                                                                            refine WO_nil ?_
                                                                                                            refine thn_normal ?_
                                                                                                            refine W_ret ?_
                                                                                                            refine inBlk_ret ?_
                                                                                                            refine thn_ret ?_
                                                                                                            refine bodyQ_ret4 Hvad.results50 rfl rfl rfl rfl (.int _ _) (.int _ _) (.int _ _) (.bool _) rfl rfl rfl rfl ?_
                                                                                                            first
                                                                                                            | (exfalso; omega)
                                                                                                            | (refine ⟨(by repeat (first | assumption | exact Ext.refl _ | refine Ext.alloc ?_ _ | refine Ext.drew ?_ | refine Ext.setB ?_ (by first | omega | (simp only [size_alloc, size_setB, size_drew]; omega)) _ | refine Ext.trans ?_ (by assumption))), ?_⟩; rw [show o = _ from by assumption]; rfl)
                                                                                                            | (refine ⟨(by repeat (first | assumption | exact Ext.refl _ | refine Ext.alloc ?_ _ | refine Ext.drew ?_ | refine Ext.setB ?_ (by first | omega | (simp only [size_alloc, size_setB, size_drew]; omega)) _ | refine Ext.trans ?_ (by assumption))), ?_⟩; unfold infoW; rw [if_pos (by omega)])
                                                                                                            | (refine ⟨(by repeat (first | assumption | exact Ext.refl _ | refine Ext.alloc ?_ _ | refine Ext.drew ?_ | refine Ext.setB ?_ (by first | omega | (simp only [size_alloc, size_setB, size_drew]; omega)) _ | refine Ext.trans ?_ (by assumption))), ?_⟩; unfold infoW; rw [if_neg (by omega), if_pos (by omega)])
                                                                                                            | (refine ⟨(by repeat (first | assumption | exact Ext.refl _ | refine Ext.alloc ?_ _ | refine Ext.drew ?_ | refine Ext.setB ?_ (by first | omega | (simp only [size_alloc, size_setB, size_drew]; omega)) _ | refine Ext.trans ?_ (by assumption))), ?_⟩; unfold infoW; rw [if_neg (by omega), if_neg (by omega), if_pos (by omega)])
                                                                                                            | (refine ⟨(by repeat (first | assumption | exact Ext.refl _ | refine Ext.alloc ?_ _ | refine Ext.drew ?_ | refine Ext.setB ?_ (by first | omega | (simp only [size_alloc, size_setB, size_drew]; omega)) _ | refine Ext.trans ?_ (by assumption))), ?_⟩; unfold infoW; rw [if_neg (by omega), if_neg (by omega), if_neg (by omega), if_pos (by omega)])
                                                                                                            | (refine ⟨(by repeat (first | assumption | exact Ext.refl _ | refine Ext.alloc ?_ _ | refine Ext.drew ?_ | refine Ext.setB ?_ (by first | omega | (simp only [size_alloc, size_setB, size_drew]; omega)) _ | refine Ext.trans ?_ (by assumption))), ?_⟩; unfold infoW; repeat rw [if_neg (by omega)])
                                                                                                          · have hb164p := hb164.h; try simp only [al_ete, al_dfn, Bool.not_eq_true', Bool.not_eq_false', al_ne, Bool.not_not, al_nn] at hb164p
                                                                                                            refine W_seq ?_
                                                                                                            refine W_region rfl ?_
                                                                                                            refine WO_p (PS_eql rfl rfl) ?_
                                                                                                            refine WO_p (PS_assign_bool rfl) ?_
                                                                                                            refine WO_nil ?_
                                                                                                            refine thn_normal ?_
                                                                                                            refine W_if rfl (fun hb166 => ?_) (fun hb166 => ?_)
                                                                                                            · have hb166p := hb166.h; try simp only [al_ete, al_dfn, Bool.not_eq_true', Bool.not_eq_false', al_ne, Bool.not_not, al_nn] at hb166p
                                                                                                              refine W_skip ?_
                                                                                                              refine thn_normal ?_
                                                                                                              refine W_condT rfl hb166.h ?_
                                                                                                              refine W_seq ?_
                                                                                                              refine W_region rfl ?_
                                                                                                              refine WO_p (PS_assign_int rfl) ?_
                                                                                                              refine WO_p (PS_assign_int rfl) ?_
                                                                                                              refine WO_p (PS_assign_int rfl) ?_
                                                                                                              refine WO_p (PS_assign_bool rfl) ?_
                                                                                                              refine WO_nil ?_
                                                                                                              refine thn_normal ?_
                                                                                                              refine W_ret ?_
                                                                                                              refine inBlk_ret ?_
                                                                                                              refine thn_ret ?_
                                                                                                              refine bodyQ_ret4 Hvad.results50 rfl rfl rfl rfl (.int _ _) (.int _ _) (.int _ _) (.bool _) rfl rfl rfl rfl ?_
                                                                                                              first
                                                                                                              | (exfalso; omega)
                                                                                                              | (refine ⟨(by repeat (first | assumption | exact Ext.refl _ | refine Ext.alloc ?_ _ | refine Ext.drew ?_ | refine Ext.setB ?_ (by first | omega | (simp only [size_alloc, size_setB, size_drew]; omega)) _ | refine Ext.trans ?_ (by assumption))), ?_⟩; rw [show o = _ from by assumption]; rfl)
                                                                                                              | (refine ⟨(by repeat (first | assumption | exact Ext.refl _ | refine Ext.alloc ?_ _ | refine Ext.drew ?_ | refine Ext.setB ?_ (by first | omega | (simp only [size_alloc, size_setB, size_drew]; omega)) _ | refine Ext.trans ?_ (by assumption))), ?_⟩; unfold infoW; rw [if_pos (by omega)])
                                                                                                              | (refine ⟨(by repeat (first | assumption | exact Ext.refl _ | refine Ext.alloc ?_ _ | refine Ext.drew ?_ | refine Ext.setB ?_ (by first | omega | (simp only [size_alloc, size_setB, size_drew]; omega)) _ | refine Ext.trans ?_ (by assumption))), ?_⟩; unfold infoW; rw [if_neg (by omega), if_pos (by omega)])
                                                                                                              | (refine ⟨(by repeat (first | assumption | exact Ext.refl _ | refine Ext.alloc ?_ _ | refine Ext.drew ?_ | refine Ext.setB ?_ (by first | omega | (simp only [size_alloc, size_setB, size_drew]; omega)) _ | refine Ext.trans ?_ (by assumption))), ?_⟩; unfold infoW; rw [if_neg (by omega), if_neg (by omega), if_pos (by omega)])
                                                                                                              | (refine ⟨(by repeat (first | assumption | exact Ext.refl _ | refine Ext.alloc ?_ _ | refine Ext.drew ?_ | refine Ext.setB ?_ (by first | omega | (simp only [size_alloc, size_setB, size_drew]; omega)) _ | refine Ext.trans ?_ (by assumption))), ?_⟩; unfold infoW; rw [if_neg (by omega), if_neg (by omega), if_neg (by omega), if_pos (by omega)])
                                                                                                              | (refine ⟨(by repeat (first | assumption | exact Ext.refl _ | refine Ext.alloc ?_ _ | refine Ext.drew ?_ | refine Ext.setB ?_ (by first | omega | (simp only [size_alloc, size_setB, size_drew]; omega)) _ | refine Ext.trans ?_ (by assumption))), ?_⟩; unfold infoW; repeat rw [if_neg (by omega)])
                                                                                                            · have hb166p := hb166.h; try simp only [al_ete, al_dfn, Bool.not_eq_true', Bool.not_eq_false', al_ne, Bool.not_not, al_nn] at hb166p
                                                                                                              refine W_region rfl ?_
                                                                                                              refine WO_p (PS_eql rfl rfl) ?_
                                                                                                              refine WO_p (PS_assign_bool rfl) ?_
                                                                                                              refine WO_nil ?_
                                                                                                              refine thn_normal ?_
                                                                                                              refine W_if rfl (fun hb168 => ?_) (fun hb168 => ?_)
                                                                                                              · have hb168p := hb168.h; try simp only [al_ete, al_dfn, Bool.not_eq_true', Bool.not_eq_false', al_ne, Bool.not_not, al_nn] at hb168p
                                                                                                                refine W_seq ?_
                                                                                                                refine W_region rfl ?_
                                                                                                                refine WO_p (PS_assign_int rfl) ?_
                                                                                                                refine WO_p (PS_assign_int rfl) ?_
                                                                                                                refine WO_p (PS_assign_int rfl) ?_
                                                                                                                refine WO_p (PS_assign_bool rfl) ?_
                                                                                                                refine WO_nil ?_
                                                                                                                refine thn_normal ?_
                                                                                                                refine W_ret ?_
                                                                                                                refine inBlk_ret ?_
                                                                                                                refine thn_ret ?_
                                                                                                                refine bodyQ_ret4 Hvad.results50 rfl rfl rfl rfl (.int _ _) (.int _ _) (.int _ _) (.bool _) rfl rfl rfl rfl ?_
                                                                                                                first
                                                                                                                | (exfalso; omega)
                                                                                                                | (refine ⟨(by repeat (first | assumption | exact Ext.refl _ | refine Ext.alloc ?_ _ | refine Ext.drew ?_ | refine Ext.setB ?_ (by first | omega | (simp only [size_alloc, size_setB, size_drew]; omega)) _ | refine Ext.trans ?_ (by assumption))), ?_⟩; rw [show o = _ from by assumption]; rfl)
                                                                                                                | (refine ⟨(by repeat (first | assumption | exact Ext.refl _ | refine Ext.alloc ?_ _ | refine Ext.drew ?_ | refine Ext.setB ?_ (by first | omega | (simp only [size_alloc, size_setB, size_drew]; omega)) _ | refine Ext.trans ?_ (by assumption))), ?_⟩; unfold infoW; rw [if_pos (by omega)])
                                                                                                                | (refine ⟨(by repeat (first | assumption | exact Ext.refl _ | refine Ext.alloc ?_ _ | refine Ext.drew ?_ | refine Ext.setB ?_ (by first | omega | (simp only [size_alloc, size_setB, size_drew]; omega)) _ | refine Ext.trans ?_ (by assumption))), ?_⟩; unfold infoW; rw [if_neg (by omega), if_pos (by omega)])
                                                                                                                | (refine ⟨(by repeat (first | assumption | exact Ext.refl _ | refine Ext.alloc ?_ _ | refine Ext.drew ?_ | refine Ext.setB ?_ (by first | omega | (simp only [size_alloc, size_setB, size_drew]; omega)) _ | refine Ext.trans ?_ (by assumption))), ?_⟩; unfold infoW; rw [if_neg (by omega), if_neg (by omega), if_pos (by omega)])
                                                                                                                | (refine ⟨(by repeat (first | assumption | exact Ext.refl _ | refine Ext.alloc ?_ _ | refine Ext.drew ?_ | refine Ext.setB ?_ (by first | omega | (simp only [size_alloc, size_setB, size_drew]; omega)) _ | refine Ext.trans ?_ (by assumption))), ?_⟩; unfold infoW; rw [if_neg (by omega), if_neg (by omega), if_neg (by omega), if_pos (by omega)])
                                                                                                                | (refine ⟨(by repeat (first | assumption | exact Ext.refl _ | refine Ext.alloc ?_ _ | refine Ext.drew ?_ | refine Ext.setB ?_ (by first | omega | (simp only [size_alloc, size_setB, size_drew]; omega)) _ | refine Ext.trans ?_ (by assumption))), ?_⟩; unfold infoW; repeat rw [if_neg (by omega)])
                                                                                                              · have hb168p := hb168.h; try simp only [al_ete, al_dfn, Bool.not_eq_true', Bool.not_eq_false', al_ne, Bool.not_not, al_nn] at hb168p
                                                                                                                refine W_seq ?_
                                                                                                                refine W_region rfl ?_
                                                                                                                refine WO_p (PS_eql rfl rfl) ?_
                                                                                                                refine WO_p (PS_assign_bool rfl) ?_
                                                                                                                refine WO_nil ?_
                                                                                                                refine thn_normal ?_
                                                                                                                refine W_if rfl (fun hb170 => ?_) (fun hb170 => ?_)
                                                                                                                · have hb170p := hb170.h; try simp only [al_ete, al_dfn, Bool.not_eq_true', Bool.not_eq_false', al_ne, Bool.not_not, al_nn] at hb170p
                                                                                                                  refine W_seq ?_
                                                                                                                  refine W_region rfl ?_
                                                                                                                  refine WO_p (PS_assign_int rfl) ?_
                                                                                                                  refine WO_p (PS_assign_int rfl) ?_
                                                                                                                  refine WO_p (PS_assign_int rfl) ?_
                                                                                                                  refine WO_p (PS_assign_bool rfl) ?_
                                                                                                                  refine WO_nil ?_
                                                                                                                  refine thn_normal ?_
                                                                                                                  refine W_ret ?_
                                                                                                                  refine inBlk_ret ?_
                                                                                                                  refine thn_ret ?_
                                                                                                                  refine bodyQ_ret4 Hvad.results50 rfl rfl rfl rfl (.int _ _) (.int _ _) (.int _ _) (.bool _) rfl rfl rfl rfl ?_
                                                                                                                  first
                                                                                                                  | (exfalso; omega)
                                                                                                                  | (refine ⟨(by repeat (first | assumption | exact Ext.refl _ | refine Ext.alloc ?_ _ | refine Ext.drew ?_ | refine Ext.setB ?_ (by first | omega | (simp only [size_alloc, size_setB, size_drew]; omega)) _ | refine Ext.trans ?_ (by assumption))), ?_⟩; rw [show o = _ from by assumption]; rfl)
                                                                                                                  | (refine ⟨(by repeat (first | assumption | exact Ext.refl _ | refine Ext.alloc ?_ _ | refine Ext.drew ?_ | refine Ext.setB ?_ (by first | omega | (simp only [size_alloc, size_setB, size_drew]; omega)) _ | refine Ext.trans ?_ (by assumption))), ?_⟩; unfold infoW; rw [if_pos (by omega)])
                                                                                                                  | (refine ⟨(by repeat (first | assumption | exact Ext.refl _ | refine Ext.alloc ?_ _ | refine Ext.drew ?_ | refine Ext.setB ?_ (by first | omega | (simp only [size_alloc, size_setB, size_drew]; omega)) _ | refine Ext.trans ?_ (by assumption))), ?_⟩; unfold infoW; rw [if_neg (by omega), if_pos (by omega)])
                                                                                                                  | (refine ⟨(by repeat (first | assumption | exact Ext.refl _ | refine Ext.alloc ?_ _ | refine Ext.drew ?_ | refine Ext.setB ?_ (by first | omega | (simp only [size_alloc, size_setB, size_drew]; omega)) _ | refine Ext.trans ?_ (by assumption))), ?_⟩; unfold infoW; rw [if_neg (by omega), if_neg (by omega), if_pos (by omega)])
                                                                                                                  | (refine ⟨(by repeat (first | assumption | exact Ext.refl _ | refine Ext.alloc ?_ _ | refine Ext.drew ?_ | refine Ext.setB ?_ (by first | omega | (simp only [size_alloc, size_setB, size_drew]; omega)) _ | refine Ext.trans ?_ (by assumption))), ?_⟩; unfold infoW; rw [if_neg (by omega), if_neg (by omega), if_neg (by omega), if_pos (by omega)])
                                                                                                                  | (refine ⟨(by repeat (first | assumption | exact Ext.refl _ | refine Ext.alloc ?_ _ | refine Ext.drew ?_ | refine Ext.setB ?_ (by first | omega | (simp only [size_alloc, size_setB, size_drew]; omega)) _ | refine Ext.trans ?_ (by assumption))), ?_⟩; unfold infoW; repeat rw [if_neg (by omega)])
                                                                                                                · have hb170p := hb170.h; try simp only [al_ete, al_dfn, Bool.not_eq_true', Bool.not_eq_false', al_ne, Bool.not_not, al_nn] at hb170p
                                                                                                                  refine W_seq ?_
                                                                                                                  refine W_region rfl ?_
                                                                                                                  refine WO_p (PS_eql rfl rfl) ?_
                                                                                                                  refine WO_p (PS_assign_bool rfl) ?_
                                                                                                                  refine WO_nil ?_
                                                                                                                  refine thn_normal ?_
                                                                                                                  refine W_if rfl (fun hb172 => ?_) (fun hb172 => ?_)
                                                                                                                  · have hb172p := hb172.h; try simp only [al_ete, al_dfn, Bool.not_eq_true', Bool.not_eq_false', al_ne, Bool.not_not, al_nn] at hb172p
                                                                                                                    refine W_seq ?_
                                                                                                                    refine W_region rfl ?_
                                                                                                                    refine WO_p (PS_assign_int rfl) ?_
                                                                                                                    refine WO_p (PS_assign_int rfl) ?_
                                                                                                                    refine WO_p (PS_assign_int rfl) ?_
                                                                                                                    refine WO_p (PS_assign_bool rfl) ?_
                                                                                                                    refine WO_nil ?_
                                                                                                                    refine thn_normal ?_
                                                                                                                    refine W_ret ?_
                                                                                                                    refine inBlk_ret ?_
                                                                                                                    refine thn_ret ?_
                                                                                                                    refine bodyQ_ret4 Hvad.results50 rfl rfl rfl rfl (.int _ _) (.int _ _) (.int _ _) (.bool _) rfl rfl rfl rfl ?_
                                                                                                                    first
                                                                                                                    | (exfalso; omega)
                                                                                                                    | (refine ⟨(by repeat (first | assumption | exact Ext.refl _ | refine Ext.alloc ?_ _ | refine Ext.drew ?_ | refine Ext.setB ?_ (by first | omega | (simp only [size_alloc, size_setB, size_drew]; omega)) _ | refine Ext.trans ?_ (by assumption))), ?_⟩; rw [show o = _ from by assumption]; rfl)
                                                                                                                    | (refine ⟨(by repeat (first | assumption | exact Ext.refl _ | refine Ext.alloc ?_ _ | refine Ext.drew ?_ | refine Ext.setB ?_ (by first | omega | (simp only [size_alloc, size_setB, size_drew]; omega)) _ | refine Ext.trans ?_ (by assumption))), ?_⟩; unfold infoW; rw [if_pos (by omega)])
                                                                                                                    | (refine ⟨(by repeat (first | assumption | exact Ext.refl _ | refine Ext.alloc ?_ _ | refine Ext.drew ?_ | refine Ext.setB ?_ (by first | omega | (simp only [size_alloc, size_setB, size_drew]; omega)) _ | refine Ext.trans ?_ (by assumption))), ?_⟩; unfold infoW; rw [if_neg (by omega), if_pos (by omega)])
                                                                                                                    | (refine ⟨(by repeat (first | assumption | exact Ext.refl _ | refine Ext.alloc ?_ _ | refine Ext.drew ?_ | refine Ext.setB ?_ (by first | omega | (simp only [size_alloc, size_setB, size_drew]; omega)) _ | refine Ext.trans ?_ (by assumption))), ?_⟩; unfold infoW; rw [if_neg (by omega), if_neg (by omega), if_pos (by omega)])
                                                                                                                    | (refine ⟨(by repeat (first | assumption | exact Ext.refl _ | refine Ext.alloc ?_ _ | refine Ext.drew ?_ | refine Ext.setB ?_ (by first | omega | (simp only [size_alloc, size_setB, size_drew]; omega)) _ | refine Ext.trans ?_ (by assumption))), ?_⟩; unfold infoW; rw [if_neg (by omega), if_neg (by omega), if_neg (by omega), if_pos (by omega)])
                                                                                                                    | (refine ⟨(by repeat (first | assumption | exact Ext.refl _ | refine Ext.alloc ?_ _ | refine Ext.drew ?_ | refine Ext.setB ?_ (by first | omega | (simp only [size_alloc, size_setB, size_drew]; omega)) _ | refine Ext.trans ?_ (by assumption))), ?_⟩; unfold infoW; repeat rw [if_neg (by omega)])
                                                                                                                  · have hb172p := hb172.h; try simp only [al_ete, al_dfn, Bool.not_eq_true', Bool.not_eq_false', al_ne, Bool.not_not, al_nn] at hb172p
                                                                                                                    refine W_seq ?_
                                                                                                                    refine W_region rfl ?_
                                                                                                                    refine WO_p (PS_eql rfl rfl) ?_
                                                                                                                    refine WO_p (PS_assign_bool rfl) ?_
                                                                                                                    refine WO_nil ?_
                                                                                                                    refine thn_normal ?_
                                                                                                                    refine W_if rfl (fun hb174 => ?_) (fun hb174 => ?_)
                                                                                                                    · have hb174p := hb174.h; try simp only [al_ete, al_dfn, Bool.not_eq_true', Bool.not_eq_false', al_ne, Bool.not_not, al_nn] at hb174p
                                                                                                                      refine W_seq ?_
                                                                                                                      refine W_region rfl ?_
                                                                                                                      refine WO_p (PS_assign_int rfl) ?_
                                                                                                                      refine WO_p (PS_assign_int rfl) ?_
                                                                                                                      refine WO_p (PS_assign_int rfl) ?_
                                                                                                                      refine WO_p (PS_assign_bool rfl) ?_
                                                                                                                      refine WO_nil ?_
                                                                                                                      refine thn_normal ?_
                                                                                                                      refine W_ret ?_
                                                                                                                      refine inBlk_ret ?_
                                                                                                                      refine thn_ret ?_
                                                                                                                      refine bodyQ_ret4 Hvad.results50 rfl rfl rfl rfl (.int _ _) (.int _ _) (.int _ _) (.bool _) rfl rfl rfl rfl ?_
                                                                                                                      first
                                                                                                                      | (exfalso; omega)
                                                                                                                      | (refine ⟨(by repeat (first | assumption | exact Ext.refl _ | refine Ext.alloc ?_ _ | refine Ext.drew ?_ | refine Ext.setB ?_ (by first | omega | (simp only [size_alloc, size_setB, size_drew]; omega)) _ | refine Ext.trans ?_ (by assumption))), ?_⟩; rw [show o = _ from by assumption]; rfl)
                                                                                                                      | (refine ⟨(by repeat (first | assumption | exact Ext.refl _ | refine Ext.alloc ?_ _ | refine Ext.drew ?_ | refine Ext.setB ?_ (by first | omega | (simp only [size_alloc, size_setB, size_drew]; omega)) _ | refine Ext.trans ?_ (by assumption))), ?_⟩; unfold infoW; rw [if_pos (by omega)])
                                                                                                                      | (refine ⟨(by repeat (first | assumption | exact Ext.refl _ | refine Ext.alloc ?_ _ | refine Ext.drew ?_ | refine Ext.setB ?_ (by first | omega | (simp only [size_alloc, size_setB, size_drew]; omega)) _ | refine Ext.trans ?_ (by assumption))), ?_⟩; unfold infoW; rw [if_neg (by omega), if_pos (by omega)])
                                                                                                                      | (refine ⟨(by repeat (first | assumption | exact Ext.refl _ | refine Ext.alloc ?_ _ | refine Ext.drew ?_ | refine Ext.setB ?_ (by first | omega | (simp only [size_alloc, size_setB, size_drew]; omega)) _ | refine Ext.trans ?_ (by assumption))), ?_⟩; unfold infoW; rw [if_neg (by omega), if_neg (by omega), if_pos (by omega)])
                                                                                                                      | (refine ⟨(by repeat (first | assumption | exact Ext.refl _ | refine Ext.alloc ?_ _ | refine Ext.drew ?_ | refine Ext.setB ?_ (by first | omega | (simp only [size_alloc, size_setB, size_drew]; omega)) _ | refine Ext.trans ?_ (by assumption))), ?_⟩; unfold infoW; rw [if_neg (by omega), if_neg (by omega), if_neg (by omega), if_pos (by omega)])
                                                                                                                      | (refine ⟨(by repeat (first | assumption | exact Ext.refl _ | refine Ext.alloc ?_ _ | refine Ext.drew ?_ | refine Ext.setB ?_ (by first | omega | (simp only [size_alloc, size_setB, size_drew]; omega)) _ | refine Ext.trans ?_ (by assumption))), ?_⟩; unfold infoW; repeat rw [if_neg (by omega)])
                                                                                                                    · have hb174p := hb174.h; try simp only [al_ete, al_dfn, Bool.not_eq_true', Bool.not_eq_false', al_ne, Bool.not_not, al_nn] at hb174p
                                                                                                                      refine W_seq ?_
                                                                                                                      refine W_region rfl ?_
                                                                                                                      refine WO_p (PS_eql rfl rfl) ?_
                                                                                                                      refine WO_p (PS_assign_bool rfl) ?_
                                                                                                                      refine WO_nil ?_
                                                                                                                      refine thn_normal ?_
                                                                                                                      refine W_if rfl (fun hb176 => ?_) (fun hb176 => ?_)
                                                                                                                      · have hb176p := hb176.h; try simp only [al_ete, al_dfn, Bool.not_eq_true', Bool.not_eq_false', al_ne, Bool.not_not, al_nn] at hb176p
                                                                                                                        refine W_seq ?_
                                                                                                                        refine W_region rfl ?_
                                                                                                                        refine WO_p (PS_assign_int rfl) ?_
                                                                                                                        refine WO_p (PS_assign_int rfl) ?_
                                                                                                                        refine WO_p (PS_assign_int rfl) ?_
                                                                                                                        refine WO_p (PS_assign_bool rfl) ?_
                                                                                                                        refine WO_nil ?_
                                                                                                                        refine thn_normal ?_
                                                                                                                        refine W_ret ?_
                                                                                                                        refine inBlk_ret ?_
                                                                                                                        refine thn_ret ?_
                                                                                                                        refine bodyQ_ret4 Hvad.results50 rfl rfl rfl rfl (.int _ _) (.int _ _) (.int _ _) (.bool _) rfl rfl rfl rfl ?_
                                                                                                                        first
                                                                                                                        | (exfalso; omega)
                                                                                                                        | (refine ⟨(by repeat (first | assumption | exact Ext.refl _ | refine Ext.alloc ?_ _ | refine Ext.drew ?_ | refine Ext.setB ?_ (by first | omega | (simp only [size_alloc, size_setB, size_drew]; omega)) _ | refine Ext.trans ?_ (by assumption))), ?_⟩; rw [show o = _ from by assumption]; rfl)
                                                                                                                        | (refine ⟨(by repeat (first | assumption | exact Ext.refl _ | refine Ext.alloc ?_ _ | refine Ext.drew ?_ | refine Ext.setB ?_ (by first | omega | (simp only [size_alloc, size_setB, size_drew]; omega)) _ | refine Ext.trans ?_ (by assumption))), ?_⟩; unfold infoW; rw [if_pos (by omega)])
                                                                                                                        | (refine ⟨(by repeat (first | assumption | exact Ext.refl _ | refine Ext.alloc ?_ _ | refine Ext.drew ?_ | refine Ext.setB ?_ (by first | omega | (simp only [size_alloc, size_setB, size_drew]; omega)) _ | refine Ext.trans ?_ (by assumption))), ?_⟩; unfold infoW; rw [if_neg (by omega), if_pos (by omega)])
                                                                                                                        | (refine ⟨(by repeat (first | assumption | exact Ext.refl _ | refine Ext.alloc ?_ _ | refine Ext.drew ?_ | refine Ext.setB ?_ (by first | omega | (simp only [size_alloc, size_setB, size_drew]; omega)) _ | refine Ext.trans ?_ (by assumption))), ?_⟩; unfold infoW; rw [if_neg (by omega), if_neg (by omega), if_pos (by omega)])
                                                                                                                        | (refine ⟨(by repeat (first | assumption | exact Ext.refl _ | refine Ext.alloc ?_ _ | refine Ext.drew ?_ | refine Ext.setB ?_ (by first | omega | (simp only [size_alloc, size_setB, size_drew]; omega)) _ | refine Ext.trans ?_ (by assumption))), ?_⟩; unfold infoW; rw [if_neg (by omega), if_neg (by omega), if_neg (by omega), if_pos (by omega)])
                                                                                                                        | (refine ⟨(by repeat (first | assumption | exact Ext.refl _ | refine Ext.alloc ?_ _ | refine Ext.drew ?_ | refine Ext.setB ?_ (by first | omega | (simp only [size_alloc, size_setB, size_drew]; omega)) _ | refine Ext.trans ?_ (by assumption))), ?_⟩; unfold infoW; repeat rw [if_neg (by omega)])
                                                                                                                      · have hb176p := hb176.h; try simp only [al_ete, al_dfn, Bool.not_eq_true', Bool.not_eq_false', al_ne, Bool.not_not, al_nn] at hb176p
                                                                                                                        refine W_seq ?_
                                                                                                                        refine W_region rfl ?_
                                                                                                                        refine WO_p (PS_eql rfl rfl) ?_
                                                                                                                        refine WO_p (PS_assign_bool rfl) ?_
                                                                                                                        refine WO_nil ?_
                                                                                                                        refine thn_normal ?_
                                                                                                                        refine W_if rfl (fun hb178 => ?_) (fun hb178 => ?_)
                                                                                                                        · have hb178p := hb178.h; try simp only [al_ete, al_dfn, Bool.not_eq_true', Bool.not_eq_false', al_ne, Bool.not_not, al_nn] at hb178p
                                                                                                                          refine W_seq ?_
                                                                                                                          refine W_region rfl ?_
                                                                                                                          refine WO_p (PS_assign_int rfl) ?_
                                                                                                                          refine WO_p (PS_assign_int rfl) ?_
                                                                                                                          refine WO_p (PS_assign_int rfl) ?_
                                                                                                                          refine WO_p (PS_assign_bool rfl) ?_
                                                                                                                          refine WO_nil ?_
                                                                                                                          refine thn_normal ?_
                                                                                                                          refine W_ret ?_
                                                                                                                          refine inBlk_ret ?_
                                                                                                                          refine thn_ret ?_
                                                                                                                          refine bodyQ_ret4 Hvad.results50 rfl rfl rfl rfl (.int _ _) (.int _ _) (.int _ _) (.bool _) rfl rfl rfl rfl ?_
                                                                                                                          first
                                                                                                                          | (exfalso; omega)
                                                                                                                          | (refine ⟨(by repeat (first | assumption | exact Ext.refl _ | refine Ext.alloc ?_ _ | refine Ext.drew ?_ | refine Ext.setB ?_ (by first | omega | (simp only [size_alloc, size_setB, size_drew]; omega)) _ | refine Ext.trans ?_ (by assumption))), ?_⟩; rw [show o = _ from by assumption]; rfl)
                                                                                                                          | (refine ⟨(by repeat (first | assumption | exact Ext.refl _ | refine Ext.alloc ?_ _ | refine Ext.drew ?_ | refine Ext.setB ?_ (by first | omega | (simp only [size_alloc, size_setB, size_drew]; omega)) _ | refine Ext.trans ?_ (by assumption))), ?_⟩; unfold infoW; rw [if_pos (by omega)])
                                                                                                                          | (refine ⟨(by repeat (first | assumption | exact Ext.refl _ | refine Ext.alloc ?_ _ | refine Ext.drew ?_ | refine Ext.setB ?_ (by first | omega | (simp only [size_alloc, size_setB, size_drew]; omega)) _ | refine Ext.trans ?_ (by assumption))), ?_⟩; unfold infoW; rw [if_neg (by omega), if_pos (by omega)])
                                                                                                                          | (refine ⟨(by repeat (first | assumption | exact Ext.refl _ | refine Ext.alloc ?_ _ | refine Ext.drew ?_ | refine Ext.setB ?_ (by first | omega | (simp only [size_alloc, size_setB, size_drew]; omega)) _ | refine Ext.trans ?_ (by assumption))), ?_⟩; unfold infoW; rw [if_neg (by omega), if_neg (by omega), if_pos (by omega)])
                                                                                                                          | (refine ⟨(by repeat (first | assumption | exact Ext.refl _ | refine Ext.alloc ?_ _ | refine Ext.drew ?_ | refine Ext.setB ?_ (by first | omega | (simp only [size_alloc, size_setB, size_drew]; omega)) _ | refine Ext.trans ?_ (by assumption))), ?_⟩; unfold infoW; rw [if_neg (by omega), if_neg (by omega), if_neg (by omega), if_pos (by omega)])
                                                                                                                          | (refine ⟨(by repeat (first | assumption | exact Ext.refl _ | refine Ext.alloc ?_ _ | refine Ext.drew ?_ | refine Ext.setB ?_ (by first | omega | (simp only [size_alloc, size_setB, size_drew]; omega)) _ | refine Ext.trans ?_ (by assumption))), ?_⟩; unfold infoW; repeat rw [if_neg (by omega)])
                                                                                                                        · have hb178p := hb178.h; try simp only [al_ete, al_dfn, Bool.not_eq_true', Bool.not_eq_false', al_ne, Bool.not_not, al_nn] at hb178p
                                                                                                                          refine W_seq ?_
                                                                                                                          refine W_region rfl ?_
                                                                                                                          refine WO_p (PS_eql rfl rfl) ?_
                                                                                                                          refine WO_p (PS_assign_bool rfl) ?_
                                                                                                                          refine WO_nil ?_
                                                                                                                          refine thn_normal ?_
                                                                                                                          refine W_if rfl (fun hb180 => ?_) (fun hb180 => ?_)
                                                                                                                          · have hb180p := hb180.h; try simp only [al_ete, al_dfn, Bool.not_eq_true', Bool.not_eq_false', al_ne, Bool.not_not, al_nn] at hb180p
                                                                                                                            refine W_seq ?_
                                                                                                                            refine W_region rfl ?_
                                                                                                                            refine WO_p (PS_assign_int rfl) ?_
                                                                                                                            refine WO_p (PS_assign_int rfl) ?_
                                                                                                                            refine WO_p (PS_assign_int rfl) ?_
                                                                                                                            refine WO_p (PS_assign_bool rfl) ?_
                                                                                                                            refine WO_nil ?_
                                                                                                                            refine thn_normal ?_
                                                                                                                            refine W_ret ?_
                                                                                                                            refine inBlk_ret ?_
                                                                                                                            refine thn_ret ?_
                                                                                                                            refine bodyQ_ret4 Hvad.results50 rfl rfl rfl rfl (.int _ _) (.int _ _) (.int _ _) (.bool _) rfl rfl rfl rfl ?_
                                                                                                                            first
                                                                                                                            | (exfalso; omega)
                                                                                                                            | (refine ⟨(by repeat (first | assumption | exact Ext.refl _ | refine Ext.alloc ?_ _ | refine Ext.drew ?_ | refine Ext.setB ?_ (by first | omega | (simp only [size_alloc, size_setB, size_drew]; omega)) _ | refine Ext.trans ?_ (by assumption))), ?_⟩; rw [show o = _ from by assumption]; rfl)
                                                                                                                            | (refine ⟨(by repeat (first | assumption | exact Ext.refl _ | refine Ext.alloc ?_ _ | refine Ext.drew ?_ | refine Ext.setB ?_ (by first | omega | (simp only [size_alloc, size_setB, size_drew]; omega)) _ | refine Ext.trans ?_ (by assumption))), ?_⟩; unfold infoW; rw [if_pos (by omega)])
                                                                                                                            | (refine ⟨(by repeat (first | assumption | exact Ext.refl _ | refine Ext.alloc ?_ _ | refine Ext.drew ?_ | refine Ext.setB ?_ (by first | omega | (simp only [size_alloc, size_setB, size_drew]; omega)) _ | refine Ext.trans ?_ (by assumption))), ?_⟩; unfold infoW; rw [if_neg (by omega), if_pos (by omega)])
                                                                                                                            | (refine ⟨(by repeat (first | assumption | exact Ext.refl _ | refine Ext.alloc ?_ _ | refine Ext.drew ?_ | refine Ext.setB ?_ (by first | omega | (simp only [size_alloc, size_setB, size_drew]; omega)) _ | refine Ext.trans ?_ (by assumption))), ?_⟩; unfold infoW; rw [if_neg (by omega), if_neg (by omega), if_pos (by omega)])
                                                                                                                            | (refine ⟨(by repeat (first | assumption | exact Ext.refl _ | refine Ext.alloc ?_ _ | refine Ext.drew ?_ | refine Ext.setB ?_ (by first | omega | (simp only [size_alloc, size_setB, size_drew]; omega)) _ | refine Ext.trans ?_ (by assumption))), ?_⟩; unfold infoW; rw [if_neg (by omega), if_neg (by omega), if_neg (by omega), if_pos (by omega)])
                                                                                                                            | (refine ⟨(by repeat (first | assumption | exact Ext.refl _ | refine Ext.alloc ?_ _ | refine Ext.drew ?_ | refine Ext.setB ?_ (by first | omega | (simp only [size_alloc, size_setB, size_drew]; omega)) _ | refine Ext.trans ?_ (by assumption))), ?_⟩; unfold infoW; repeat rw [if_neg (by omega)])
                                                                                                                          · have hb180p := hb180.h; try simp only [al_ete, al_dfn, Bool.not_eq_true', Bool.not_eq_false', al_ne, Bool.not_not, al_nn] at hb180p
                                                                                                                            refine W_seq ?_
                                                                                                                            refine W_region rfl ?_
                                                                                                                            refine WO_p (PS_eql rfl rfl) ?_
                                                                                                                            refine WO_p (PS_assign_bool rfl) ?_
                                                                                                                            refine WO_nil ?_
                                                                                                                            refine thn_normal ?_
                                                                                                                            refine W_if rfl (fun hb182 => ?_) (fun hb182 => ?_)
                                                                                                                            · have hb182p := hb182.h; try simp only [al_ete, al_dfn, Bool.not_eq_true', Bool.not_eq_false', al_ne, Bool.not_not, al_nn] at hb182p
                                                                                                                              refine W_seq ?_
                                                                                                                              refine W_region rfl ?_
                                                                                                                              refine WO_p (PS_assign_int rfl) ?_
                                                                                                                              refine WO_p (PS_assign_int rfl) ?_
                                                                                                                              refine WO_p (PS_assign_int rfl) ?_
                                                                                                                              refine WO_p (PS_assign_bool rfl) ?_
                                                                                                                              refine WO_nil ?_
                                                                                                                              refine thn_normal ?_
                                                                                                                              refine W_ret ?_
                                                                                                                              refine inBlk_ret ?_
                                                                                                                              refine thn_ret ?_
                                                                                                                              refine bodyQ_ret4 Hvad.results50 rfl rfl rfl rfl (.int _ _) (.int _ _) (.int _ _) (.bool _) rfl rfl rfl rfl ?_
                                                                                                                              first
                                                                                                                              | (exfalso; omega)
                                                                                                                              | (refine ⟨(by repeat (first | assumption | exact Ext.refl _ | refine Ext.alloc ?_ _ | refine Ext.drew ?_ | refine Ext.setB ?_ (by first | omega | (simp only [size_alloc, size_setB, size_drew]; omega)) _ | refine Ext.trans ?_ (by assumption))), ?_⟩; rw [show o = _ from by assumption]; rfl)
                                                                                                                              | (refine ⟨(by repeat (first | assumption | exact Ext.refl _ | refine Ext.alloc ?_ _ | refine Ext.drew ?_ | refine Ext.setB ?_ (by first | omega | (simp only [size_alloc, size_setB, size_drew]; omega)) _ | refine Ext.trans ?_ (by assumption))), ?_⟩; unfold infoW; rw [if_pos (by omega)])
                                                                                                                              | (refine ⟨(by repeat (first | assumption | exact Ext.refl _ | refine Ext.alloc ?_ _ | refine Ext.drew ?_ | refine Ext.setB ?_ (by first | omega | (simp only [size_alloc, size_setB, size_drew]; omega)) _ | refine Ext.trans ?_ (by assumption))), ?_⟩; unfold infoW; rw [if_neg (by omega), if_pos (by omega)])
                                                                                                                              | (refine ⟨(by repeat (first | assumption | exact Ext.refl _ | refine Ext.alloc ?_ _ | refine Ext.drew ?_ | refine Ext.setB ?_ (by first | omega | (simp only [size_alloc, size_setB, size_drew]; omega)) _ | refine Ext.trans ?_ (by assumption))), ?_⟩; unfold infoW; rw [if_neg (by omega), if_neg (by omega), if_pos (by omega)])
                                                                                                                              | (refine ⟨(by repeat (first | assumption | exact Ext.refl _ | refine Ext.alloc ?_ _ | refine Ext.drew ?_ | refine Ext.setB ?_ (by first | omega | (simp only [size_alloc, size_setB, size_drew]; omega)) _ | refine Ext.trans ?_ (by assumption))), ?_⟩; unfold infoW; rw [if_neg (by omega), if_neg (by omega), if_neg (by omega), if_pos (by omega)])
                                                                                                                              | (refine ⟨(by repeat (first | assumption | exact Ext.refl _ | refine Ext.alloc ?_ _ | refine Ext.drew ?_ | refine Ext.setB ?_ (by first | omega | (simp only [size_alloc, size_setB, size_drew]; omega)) _ | refine Ext.trans ?_ (by assumption))), ?_⟩; unfold infoW; repeat rw [if_neg (by omega)])
                                                                                                                            · have hb182p := hb182.h; try simp only [al_ete, al_dfn, Bool.not_eq_true', Bool.not_eq_false', al_ne, Bool.not_not, al_nn] at hb182p
                                                                                                                              refine W_seq ?_
                                                                                                                              refine W_seq ?_
                                                                                                                              refine W_region rfl ?_
                                                                                                                              refine WO_p (PS_eql rfl rfl) ?_
                                                                                                                              refine WO_p (PS_assign_bool rfl) ?_
                                                                                                                              refine WO_nil ?_
                                                                                                                              refine thn_normal ?_
                                                                                                                              refine W_if rfl (fun hb184 => ?_) (fun hb184 => ?_)
                                                                                                                              · have hb184p := hb184.h; try simp only [al_ete, al_dfn, Bool.not_eq_true', Bool.not_eq_false', al_ne, Bool.not_not, al_nn] at hb184p
                                                                                                                                refine W_skip ?_
                                                                                                                                refine thn_normal ?_
                                                                                                                                refine W_condT rfl hb184.h ?_
                                                                                                                                refine W_seq ?_
                                                                                                                                refine W_region rfl ?_
                                                                                                                                refine WO_p (PS_assign_int rfl) ?_
                                                                                                                                refine WO_p (PS_assign_int rfl) ?_
                                                                                                                                refine WO_p (PS_assign_int rfl) ?_
                                                                                                                                refine WO_p (PS_assign_bool rfl) ?_
                                                                                                                                refine WO_nil ?_
                                                                                                                                refine thn_normal ?_
                                                                                                                                refine W_ret ?_
                                                                                                                                refine inBlk_ret ?_
                                                                                                                                refine thn_ret ?_
                                                                                                                                refine bodyQ_ret4 Hvad.results50 rfl rfl rfl rfl (.int _ _) (.int _ _) (.int _ _) (.bool _) rfl rfl rfl rfl ?_
                                                                                                                                first
                                                                                                                                | (exfalso; omega)
                                                                                                                                | (refine ⟨(by repeat (first | assumption | exact Ext.refl _ | refine Ext.alloc ?_ _ | refine Ext.drew ?_ | refine Ext.setB ?_ (by first | omega | (simp only [size_alloc, size_setB, size_drew]; omega)) _ | refine Ext.trans ?_ (by assumption))), ?_⟩; rw [show o = _ from by assumption]; rfl)
                                                                                                                                | (refine ⟨(by repeat (first | assumption | exact Ext.refl _ | refine Ext.alloc ?_ _ | refine Ext.drew ?_ | refine Ext.setB ?_ (by first | omega | (simp only [size_alloc, size_setB, size_drew]; omega)) _ | refine Ext.trans ?_ (by assumption))), ?_⟩; unfold infoW; rw [if_pos (by omega)])
                                                                                                                                | (refine ⟨(by repeat (first | assumption | exact Ext.refl _ | refine Ext.alloc ?_ _ | refine Ext.drew ?_ | refine Ext.setB ?_ (by first | omega | (simp only [size_alloc, size_setB, size_drew]; omega)) _ | refine Ext.trans ?_ (by assumption))), ?_⟩; unfold infoW; rw [if_neg (by omega), if_pos (by omega)])
                                                                                                                                | (refine ⟨(by repeat (first | assumption | exact Ext.refl _ | refine Ext.alloc ?_ _ | refine Ext.drew ?_ | refine Ext.setB ?_ (by first | omega | (simp only [size_alloc, size_setB, size_drew]; omega)) _ | refine Ext.trans ?_ (by assumption))), ?_⟩; unfold infoW; rw [if_neg (by omega), if_neg (by omega), if_pos (by omega)])
                                                                                                                                | (refine ⟨(by repeat (first | assumption | exact Ext.refl _ | refine Ext.alloc ?_ _ | refine Ext.drew ?_ | refine Ext.setB ?_ (by first | omega | (simp only [size_alloc, size_setB, size_drew]; omega)) _ | refine Ext.trans ?_ (by assumption))), ?_⟩; unfold infoW; rw [if_neg (by omega), if_neg (by omega), if_neg (by omega), if_pos (by omega)])
                                                                                                                                | (refine ⟨(by repeat (first | assumption | exact Ext.refl _ | refine Ext.alloc ?_ _ | refine Ext.drew ?_ | refine Ext.setB ?_ (by first | omega | (simp only [size_alloc, size_setB, size_drew]; omega)) _ | refine Ext.trans ?_ (by assumption))), ?_⟩; unfold infoW; repeat rw [if_neg (by omega)])
                                                                                                                              · have hb184p := hb184.h; try simp only [al_ete, al_dfn, Bool.not_eq_true', Bool.not_eq_false', al_ne, Bool.not_not, al_nn] at hb184p
                                                                                                                                refine W_region rfl ?_
                                                                                                                                refine WO_p (PS_eql rfl rfl) ?_
                                                                                                                                refine WO_p (PS_assign_bool rfl) ?_
                                                                                                                                refine WO_nil ?_
                                                                                                                                refine thn_normal ?_
                                                                                                                                refine W_if rfl (fun hb186 => ?_) (fun hb186 => ?_)
                                                                                                                                · have hb186p := hb186.h; try simp only [al_ete, al_dfn, Bool.not_eq_true', Bool.not_eq_false', al_ne, Bool.not_not, al_nn] at hb186p
                                                                                                                                  refine W_seq ?_
                                                                                                                                  refine W_region rfl ?_
                                                                                                                                  refine WO_p (PS_assign_int rfl) ?_
                                                                                                                                  refine WO_p (PS_assign_int rfl) ?_
                                                                                                                                  refine WO_p (PS_assign_int rfl) ?_
                                                                                                                                  refine WO_p (PS_assign_bool rfl) ?_
                                                                                                                                  refine WO_nil ?_
                                                                                                                                  refine thn_normal ?_
                                                                                                                                  refine W_ret ?_
                                                                                                                                  refine inBlk_ret ?_
                                                                                                                                  refine thn_ret ?_
                                                                                                                                  refine bodyQ_ret4 Hvad.results50 rfl rfl rfl rfl (.int _ _) (.int _ _) (.int _ _) (.bool _) rfl rfl rfl rfl ?_
                                                                                                                                  first
                                                                                                                                  | (exfalso; omega)
                                                                                                                                  | (refine ⟨(by repeat (first | assumption | exact Ext.refl _ | refine Ext.alloc ?_ _ | refine Ext.drew ?_ | refine Ext.setB ?_ (by first | omega | (simp only [size_alloc, size_setB, size_drew]; omega)) _ | refine Ext.trans ?_ (by assumption))), ?_⟩; rw [show o = _ from by assumption]; rfl)
                                                                                                                                  | (refine ⟨(by repeat (first | assumption | exact Ext.refl _ | refine Ext.alloc ?_ _ | refine Ext.drew ?_ | refine Ext.setB ?_ (by first | omega | (simp only [size_alloc, size_setB, size_drew]; omega)) _ | refine Ext.trans ?_ (by assumption))), ?_⟩; unfold infoW; rw [if_pos (by omega)])
                                                                                                                                  | (refine ⟨(by repeat (first | assumption | exact Ext.refl _ | refine Ext.alloc ?_ _ | refine Ext.drew ?_ | refine Ext.setB ?_ (by first | omega | (simp only [size_alloc, size_setB, size_drew]; omega)) _ | refine Ext.trans ?_ (by assumption))), ?_⟩; unfold infoW; rw [if_neg (by omega), if_pos (by omega)])
                                                                                                                                  | (refine ⟨(by repeat (first | assumption | exact Ext.refl _ | refine Ext.alloc ?_ _ | refine Ext.drew ?_ | refine Ext.setB ?_ (by first | omega | (simp only [size_alloc, size_setB, size_drew]; omega)) _ | refine Ext.trans ?_ (by assumption))), ?_⟩; unfold infoW; rw [if_neg (by omega), if_neg (by omega), if_pos (by omega)])
                                                                                                                                  | (refine ⟨(by repeat (first | assumption | exact Ext.refl _ | refine Ext.alloc ?_ _ | refine Ext.drew ?_ | refine Ext.setB ?_ (by first | omega | (simp only [size_alloc, size_setB, size_drew]; omega)) _ | refine Ext.trans ?_ (by assumption))), ?_⟩; unfold infoW; rw [if_neg (by omega), if_neg (by omega), if_neg (by omega), if_pos (by omega)])
                                                                                                                                  | (refine ⟨(by repeat (first | assumption | exact Ext.refl _ | refine Ext.alloc ?_ _ | refine Ext.drew ?_ | refine Ext.setB ?_ (by first | omega | (simp only [size_alloc, size_setB, size_drew]; omega)) _ | refine Ext.trans ?_ (by assumption))), ?_⟩; unfold infoW; repeat rw [if_neg (by omega)])
                                                                                                                                · have hb186p := hb186.h; try simp only [al_ete, al_dfn, Bool.not_eq_true', Bool.not_eq_false', al_ne, Bool.not_not, al_nn] at hb186p
                                                                                                                                  refine W_seq ?_
                                                                                                                                  refine W_seq ?_
                                                                                                                                  refine W_region rfl ?_
                                                                                                                                  refine WO_p (PS_eql rfl rfl) ?_
                                                                                                                                  refine WO_p (PS_assign_bool rfl) ?_
                                                                                                                                  refine WO_nil ?_
                                                                                                                                  refine thn_normal ?_
                                                                                                                                  refine W_if rfl (fun hb188 => ?_) (fun hb188 => ?_)
                                                                                                                                  · have hb188p := hb188.h; try simp only [al_ete, al_dfn, Bool.not_eq_true', Bool.not_eq_false', al_ne, Bool.not_not, al_nn] at hb188p
                                                                                                                                    refine W_skip ?_
                                                                                                                                    refine thn_normal ?_
                                                                                                                                    refine W_condT rfl hb188.h ?_
                                                                                                                                    refine W_seq ?_
                                                                                                                                    refine W_region rfl ?_
                                                                                                                                    refine WO_p (PS_assign_int rfl) ?_
                                                                                                                                    refine WO_p (PS_assign_int rfl) ?_
                                                                                                                                    refine WO_p (PS_assign_int rfl) ?_
                                                                                                                                    refine WO_p (PS_assign_bool rfl) ?_
                                                                                                                                    refine WO_nil ?_
                                                                                                                                    refine thn_normal ?_
                                                                                                                                    refine W_ret ?_
                                                                                                                                    refine inBlk_ret ?_
                                                                                                                                    refine thn_ret ?_
                                                                                                                                    refine bodyQ_ret4 Hvad.results50 rfl rfl rfl rfl (.int _ _) (.int _ _) (.int _ _) (.bool _) rfl rfl rfl rfl ?_
                                                                                                                                    first
                                                                                                                                    | (exfalso; omega)
                                                                                                                                    | (refine ⟨(by repeat (first | assumption | exact Ext.refl _ | refine Ext.alloc ?_ _ | refine Ext.drew ?_ | refine Ext.setB ?_ (by first | omega | (simp only [size_alloc, size_setB, size_drew]; omega)) _ | refine Ext.trans ?_ (by assumption))), ?_⟩; rw [show o = _ from by assumption]; rfl)
                                                                                                                                    | (refine ⟨(by repeat (first | assumption | exact Ext.refl _ | refine Ext.alloc ?_ _ | refine Ext.drew ?_ | refine Ext.setB ?_ (by first | omega | (simp only [size_alloc, size_setB, size_drew]; omega)) _ | refine Ext.trans ?_ (by assumption))), ?_⟩; unfold infoW; rw [if_pos (by omega)])
                                                                                                                                    | (refine ⟨(by repeat (first | assumption | exact Ext.refl _ | refine Ext.alloc ?_ _ | refine Ext.drew ?_ | refine Ext.setB ?_ (by first | omega | (simp only [size_alloc, size_setB, size_drew]; omega)) _ | refine Ext.trans ?_ (by assumption))), ?_⟩; unfold infoW; rw [if_neg (by omega), if_pos (by omega)])
                                                                                                                                    | (refine ⟨(by repeat (first | assumption | exact Ext.refl _ | refine Ext.alloc ?_ _ | refine Ext.drew ?_ | refine Ext.setB ?_ (by first | omega | (simp only [size_alloc, size_setB, size_drew]; omega)) _ | refine Ext.trans ?_ (by assumption))), ?_⟩; unfold infoW; rw [if_neg (by omega), if_neg (by omega), if_pos (by omega)])
                                                                                                                                    | (refine ⟨(by repeat (first | assumption | exact Ext.refl _ | refine Ext.alloc ?_ _ | refine Ext.drew ?_ | refine Ext.setB ?_ (by first | omega | (simp only [size_alloc, size_setB, size_drew]; omega)) _ | refine Ext.trans ?_ (by assumption))), ?_⟩; unfold infoW; rw [if_neg (by omega), if_neg (by omega), if_neg (by omega), if_pos (by omega)])
                                                                                                                                    | (refine ⟨(by repeat (first | assumption | exact Ext.refl _ | refine Ext.alloc ?_ _ | refine Ext.drew ?_ | refine Ext.setB ?_ (by first | omega | (simp only [size_alloc, size_setB, size_drew]; omega)) _ | refine Ext.trans ?_ (by assumption))), ?_⟩; unfold infoW; repeat rw [if_neg (by omega)])
                                                                                                                                  · have hb188p := hb188.h; try simp only [al_ete, al_dfn, Bool.not_eq_true', Bool.not_eq_false', al_ne, Bool.not_not, al_nn] at hb188p
                                                                                                                                    refine W_seq ?_
                                                                                                                                    refine W_region rfl ?_
                                                                                                                                    refine WO_p (PS_eql rfl rfl) ?_
                                                                                                                                    refine WO_p (PS_assign_bool rfl) ?_
                                                                                                                                    refine WO_nil ?_
                                                                                                                                    refine thn_normal ?_
                                                                                                                                    refine W_if rfl (fun hb190 => ?_) (fun hb190 => ?_)
                                                                                                                                    · have hb190p := hb190.h; try simp only [al_ete, al_dfn, Bool.not_eq_true', Bool.not_eq_false', al_ne, Bool.not_not, al_nn] at hb190p
                                                                                                                                      refine W_skip ?_
                                                                                                                                      refine thn_normal ?_
                                                                                                                                      refine W_condT rfl hb190.h ?_
                                                                                                                                      refine W_seq ?_
                                                                                                                                      refine W_region rfl ?_
                                                                                                                                      refine WO_p (PS_assign_int rfl) ?_
                                                                                                                                      refine WO_p (PS_assign_int rfl) ?_
                                                                                                                                      refine WO_p (PS_assign_int rfl) ?_
                                                                                                                                      refine WO_p (PS_assign_bool rfl) ?_
                                                                                                                                      refine WO_nil ?_
                                                                                                                                      refine thn_normal ?_
                                                                                                                                      refine W_ret ?_
                                                                                                                                      refine inBlk_ret ?_
                                                                                                                                      refine thn_ret ?_
                                                                                                                                      refine bodyQ_ret4 Hvad.results50 rfl rfl rfl rfl (.int _ _) (.int _ _) (.int _ _) (.bool _) rfl rfl rfl rfl ?_
                                                                                                                                      first
                                                                                                                                      | (exfalso; omega)
                                                                                                                                      | (refine ⟨(by repeat (first | assumption | exact Ext.refl _ | refine Ext.alloc ?_ _ | refine Ext.drew ?_ | refine Ext.setB ?_ (by first | omega | (simp only [size_alloc, size_setB, size_drew]; omega)) _ | refine Ext.trans ?_ (by assumption))), ?_⟩; rw [show o = _ from by assumption]; rfl)
                                                                                                                                      | (refine ⟨(by repeat (first | assumption | exact Ext.refl _ | refine Ext.alloc ?_ _ | refine Ext.drew ?_ | refine Ext.setB ?_ (by first | omega | (simp only [size_alloc, size_setB, size_drew]; omega)) _ | refine Ext.trans ?_ (by assumption))), ?_⟩; unfold infoW; rw [if_pos (by omega)])
                                                                                                                                      | (refine ⟨(by repeat (first | assumption | exact Ext.refl _ | refine Ext.alloc ?_ _ | refine Ext.drew ?_ | refine Ext.setB ?_ (by first | omega | (simp only [size_alloc, size_setB, size_drew]; omega)) _ | refine Ext.trans ?_ (by assumption))), ?_⟩; unfold infoW; rw [if_neg (by omega), if_pos (by omega)])
                                                                                                                                      | (refine ⟨(by repeat (first | assumption | exact Ext.refl _ | refine Ext.alloc ?_ _ | refine Ext.drew ?_ | refine Ext.setB ?_ (by first | omega | (simp only [size_alloc, size_setB, size_drew]; omega)) _ | refine Ext.trans ?_ (by assumption))), ?_⟩; unfold infoW; rw [if_neg (by omega), if_neg (by omega), if_pos (by omega)])
                                                                                                                                      | (refine ⟨(by repeat (first | assumption | exact Ext.refl _ | refine Ext.alloc ?_ _ | refine Ext.drew ?_ | refine Ext.setB ?_ (by first | omega | (simp only [size_alloc, size_setB, size_drew]; omega)) _ | refine Ext.trans ?_ (by assumption))), ?_⟩; unfold infoW; rw [if_neg (by omega), if_neg (by omega), if_neg (by omega), if_pos (by omega)])
                                                                                                                                      | (refine ⟨(by repeat (first | assumption | exact Ext.refl _ | refine Ext.alloc ?_ _ | refine Ext.drew ?_ | refine Ext.setB ?_ (by first | omega | (simp only [size_alloc, size_setB, size_drew]; omega)) _ | refine Ext.trans ?_ (by assumption))), ?_⟩; unfold infoW; repeat rw [if_neg (by omega)])
                                                                                                                                    · have hb190p := hb190.h; try simp only [al_ete, al_dfn, Bool.not_eq_true', Bool.not_eq_false', al_ne, Bool.not_not, al_nn] at hb190p
                                                                                                                                      refine W_region rfl ?_
                                                                                                                                      refine WO_p (PS_eql rfl rfl) ?_
                                                                                                                                      refine WO_p (PS_assign_bool rfl) ?_
                                                                                                                                      refine WO_nil ?_
                                                                                                                                      refine thn_normal ?_
                                                                                                                                      refine W_if rfl (fun hb192 => ?_) (fun hb192 => ?_)
                                                                                                                                      · have hb192p := hb192.h; try simp only [al_ete, al_dfn, Bool.not_eq_true', Bool.not_eq_false', al_ne, Bool.not_not, al_nn] at hb192p
                                                                                                                                        refine W_seq ?_
                                                                                                                                        refine W_region rfl ?_
                                                                                                                                        refine WO_p (PS_assign_int rfl) ?_
                                                                                                                                        refine WO_p (PS_assign_int rfl) ?_
                                                                                                                                        refine WO_p (PS_assign_int rfl) ?_
                                                                                                                                        refine WO_p (PS_assign_bool rfl) ?_
                                                                                                                                        refine WO_nil ?_
                                                                                                                                        refine thn_normal ?_
                                                                                                                                        refine W_ret ?_
                                                                                                                                        refine inBlk_ret ?_
                                                                                                                                        refine thn_ret ?_
                                                                                                                                        refine bodyQ_ret4 Hvad.results50 rfl rfl rfl rfl (.int _ _) (.int _ _) (.int _ _) (.bool _) rfl rfl rfl rfl ?_
                                                                                                                                        first
                                                                                                                                        | (exfalso; omega)
                                                                                                                                        | (refine ⟨(by repeat (first | assumption | exact Ext.refl _ | refine Ext.alloc ?_ _ | refine Ext.drew ?_ | refine Ext.setB ?_ (by first | omega | (simp only [size_alloc, size_setB, size_drew]; omega)) _ | refine Ext.trans ?_ (by assumption))), ?_⟩; rw [show o = _ from by assumption]; rfl)
                                                                                                                                        | (refine ⟨(by repeat (first | assumption | exact Ext.refl _ | refine Ext.alloc ?_ _ | refine Ext.drew ?_ | refine Ext.setB ?_ (by first | omega | (simp only [size_alloc, size_setB, size_drew]; omega)) _ | refine Ext.trans ?_ (by assumption))), ?_⟩; unfold infoW; rw [if_pos (by omega)])
                                                                                                                                        | (refine ⟨(by repeat (first | assumption | exact Ext.refl _ | refine Ext.alloc ?_ _ | refine Ext.drew ?_ | refine Ext.setB ?_ (by first | omega | (simp only [size_alloc, size_setB, size_drew]; omega)) _ | refine Ext.trans ?_ (by assumption))), ?_⟩; unfold infoW; rw [if_neg (by omega), if_pos (by omega)])
                                                                                                                                        | (refine ⟨(by repeat (first | assumption | exact Ext.refl _ | refine Ext.alloc ?_ _ | refine Ext.drew ?_ | refine Ext.setB ?_ (by first | omega | (simp only [size_alloc, size_setB, size_drew]; omega)) _ | refine Ext.trans ?_ (by assumption))), ?_⟩; unfold infoW; rw [if_neg (by omega), if_neg (by omega), if_pos (by omega)])
                                                                                                                                        | (refine ⟨(by repeat (first | assumption | exact Ext.refl _ | refine Ext.alloc ?_ _ | refine Ext.drew ?_ | refine Ext.setB ?_ (by first | omega | (simp only [size_alloc, size_setB, size_drew]; omega)) _ | refine Ext.trans ?_ (by assumption))), ?_⟩; unfold infoW; rw [if_neg (by omega), if_neg (by omega), if_neg (by omega), if_pos (by omega)])
                                                                                                                                        | (refine ⟨(by repeat (first | assumption | exact Ext.refl _ | refine Ext.alloc ?_ _ | refine Ext.drew ?_ | refine Ext.setB ?_ (by first | omega | (simp only [size_alloc, size_setB, size_drew]; omega)) _ | refine Ext.trans ?_ (by assumption))), ?_⟩; unfold infoW; repeat rw [if_neg (by omega)])
                                                                                                                                      · have hb192p := hb192.h; try simp only [al_ete, al_dfn, Bool.not_eq_true', Bool.not_eq_false', al_ne, Bool.not_not, al_nn] at hb192p
                                                                                                                                        refine W_seq ?_
                                                                                                                                        refine W_seq ?_
                                                                                                                                        refine W_region rfl ?_
                                                                                                                                        refine WO_p (PS_eql rfl rfl) ?_
                                                                                                                                        refine WO_p (PS_assign_bool rfl) ?_
                                                                                                                                        refine WO_nil ?_
                                                                                                                                        refine thn_normal ?_
                                                                                                                                        refine W_if rfl (fun hb194 => ?_) (fun hb194 => ?_)
                                                                                                                                        · have hb194p := hb194.h; try simp only [al_ete, al_dfn, Bool.not_eq_true', Bool.not_eq_false', al_ne, Bool.not_not, al_nn] at hb194p
                                                                                                                                          refine W_skip ?_
                                                                                                                                          refine thn_normal ?_
                                                                                                                                          refine W_condT rfl hb194.h ?_
                                                                                                                                          refine W_seq ?_
                                                                                                                                          refine W_region rfl ?_
                                                                                                                                          refine WO_p (PS_assign_int rfl) ?_
                                                                                                                                          refine WO_p (PS_assign_int rfl) ?_
                                                                                                                                          refine WO_p (PS_assign_int rfl) ?_
                                                                                                                                          refine WO_p (PS_assign_bool rfl) ?_
                                                                                                                                          refine WO_nil ?_
                                                                                                                                          refine thn_normal ?_
                                                                                                                                          refine W_ret ?_
                                                                                                                                          refine inBlk_ret ?_
                                                                                                                                          refine thn_ret ?_
                                                                                                                                          refine bodyQ_ret4 Hvad.results50 rfl rfl rfl rfl (.int _ _) (.int _ _) (.int _ _) (.bool _) rfl rfl rfl rfl ?_
                                                                                                                                          first
                                                                                                                                          | (exfalso; omega)
                                                                                                                                          | (refine ⟨(by repeat (first | assumption | exact Ext.refl _ | refine Ext.alloc ?_ _ | refine Ext.drew ?_ | refine Ext.setB ?_ (by first | omega | (simp only [size_alloc, size_setB, size_drew]; omega)) _ | refine Ext.trans ?_ (by assumption))), ?_⟩; rw [show o = _ from by assumption]; rfl)
                                                                                                                                          | (refine ⟨(by repeat (first | assumption | exact Ext.refl _ | refine Ext.alloc ?_ _ | refine Ext.drew ?_ | refine Ext.setB ?_ (by first | omega | (simp only [size_alloc, size_setB, size_drew]; omega)) _ | refine Ext.trans ?_ (by assumption))), ?_⟩; unfold infoW; rw [if_pos (by omega)])
                                                                                                                                          | (refine ⟨(by repeat (first | assumption | exact Ext.refl _ | refine Ext.alloc ?_ _ | refine Ext.drew ?_ | refine Ext.setB ?_ (by first | omega | (simp only [size_alloc, size_setB, size_drew]; omega)) _ | refine Ext.trans ?_ (by assumption))), ?_⟩; unfold infoW; rw [if_neg (by omega), if_pos (by omega)])
                                                                                                                                          | (refine ⟨(by repeat (first | assumption | exact Ext.refl _ | refine Ext.alloc ?_ _ | refine Ext.drew ?_ | refine Ext.setB ?_ (by first | omega | (simp only [size_alloc, size_setB, size_drew]; omega)) _ | refine Ext.trans ?_ (by assumption))), ?_⟩; unfold infoW; rw [if_neg (by omega), if_neg (by omega), if_pos (by omega)])
                                                                                                                                          | (refine ⟨(by repeat (first | assumption | exact Ext.refl _ | refine Ext.alloc ?_ _ | refine Ext.drew ?_ | refine Ext.setB ?_ (by first | omega | (simp only [size_alloc, size_setB, size_drew]; omega)) _ | refine Ext.trans ?_ (by assumption))), ?_⟩; unfold infoW; rw [if_neg (by omega), if_neg (by omega), if_neg (by omega), if_pos (by omega)])
                                                                                                                                          | (refine ⟨(by repeat (first | assumption | exact Ext.refl _ | refine Ext.alloc ?_ _ | refine Ext.drew ?_ | refine Ext.setB ?_ (by first | omega | (simp only [size_alloc, size_setB, size_drew]; omega)) _ | refine Ext.trans ?_ (by assumption))), ?_⟩; unfold infoW; repeat rw [if_neg (by omega)])
                                                                                                                                        · have hb194p := hb194.h; try simp only [al_ete, al_dfn, Bool.not_eq_true', Bool.not_eq_false', al_ne, Bool.not_not, al_nn] at hb194p
                                                                                                                                          refine W_seq ?_
                                                                                                                                          refine W_region rfl ?_
                                                                                                                                          refine WO_p (PS_eql rfl rfl) ?_
                                                                                                                                          refine WO_p (PS_assign_bool rfl) ?_
                                                                                                                                          refine WO_nil ?_
                                                                                                                                          refine thn_normal ?_
                                                                                                                                          refine W_if rfl (fun hb196 => ?_) (fun hb196 => ?_)
                                                                                                                                          · have hb196p := hb196.h; try simp only [al_ete, al_dfn, Bool.not_eq_true', Bool.not_eq_false', al_ne, Bool.not_not, al_nn] at hb196p
                                                                                                                                            refine W_skip ?_
                                                                                                                                            refine thn_normal ?_
                                                                                                                                            refine W_condT rfl hb196.h ?_
                                                                                                                                            refine W_seq ?_
                                                                                                                                            refine W_region rfl ?_
                                                                                                                                            refine WO_p (PS_assign_int rfl) ?_
                                                                                                                                            refine WO_p (PS_assign_int rfl) ?_
                                                                                                                                            refine WO_p (PS_assign_int rfl) ?_
                                                                                                                                            refine WO_p (PS_assign_bool rfl) ?_
                                                                                                                                            refine WO_nil ?_
                                                                                                                                            refine thn_normal ?_
                                                                                                                                            refine W_ret ?_
                                                                                                                                            refine inBlk_ret ?_
                                                                                                                                            refine thn_ret ?_
                                                                                                                                            refine bodyQ_ret4 Hvad.results50 rfl rfl rfl rfl (.int _ _) (.int _ _) (.int _ _) (.bool _) rfl rfl rfl rfl ?_
                                                                                                                                            first
                                                                                                                                            | (exfalso; omega)
                                                                                                                                            | (refine ⟨(by repeat (first | assumption | exact Ext.refl _ | refine Ext.alloc ?_ _ | refine Ext.drew ?_ | refine Ext.setB ?_ (by first | omega | (simp only [size_alloc, size_setB, size_drew]; omega)) _ | refine Ext.trans ?_ (by assumption))), ?_⟩; rw [show o = _ from by assumption]; rfl)
                                                                                                                                            | (refine ⟨(by repeat (first | assumption | exact Ext.refl _ | refine Ext.alloc ?_ _ | refine Ext.drew ?_ | refine Ext.setB ?_ (by first | omega | (simp only [size_alloc, size_setB, size_drew]; omega)) _ | refine Ext.trans ?_ (by assumption))), ?_⟩; unfold infoW; rw [if_pos (by omega)])
                                                                                                                                            | (refine ⟨(by repeat (first | assumption | exact Ext.refl _ | refine Ext.alloc ?_ _ | refine Ext.drew ?_ | refine Ext.setB ?_ (by first | omega | (simp only [size_alloc, size_setB, size_drew]; omega)) _ | refine Ext.trans ?_ (by assumption))), ?_⟩; unfold infoW; rw [if_neg (by omega), if_pos (by omega)])
                                                                                                                                            | (refine ⟨(by repeat (first | assumption | exact Ext.refl _ | refine Ext.alloc ?_ _ | refine Ext.drew ?_ | refine Ext.setB ?_ (by first | omega | (simp only [size_alloc, size_setB, size_drew]; omega)) _ | refine Ext.trans ?_ (by assumption))), ?_⟩; unfold infoW; rw [if_neg (by omega), if_neg (by omega), if_pos (by omega)])
                                                                                                                                            | (refine ⟨(by repeat (first | assumption | exact Ext.refl _ | refine Ext.alloc ?_ _ | refine Ext.drew ?_ | refine Ext.setB ?_ (by first | omega | (simp only [size_alloc, size_setB, size_drew]; omega)) _ | refine Ext.trans ?_ (by assumption))), ?_⟩; unfold infoW; rw [if_neg (by omega), if_neg (by omega), if_neg (by omega), if_pos (by omega)])
                                                                                                                                            | (refine ⟨(by repeat (first | assumption | exact Ext.refl _ | refine Ext.alloc ?_ _ | refine Ext.drew ?_ | refine Ext.setB ?_ (by first | omega | (simp only [size_alloc, size_setB, size_drew]; omega)) _ | refine Ext.trans ?_ (by assumption))), ?_⟩; unfold infoW; repeat rw [if_neg (by omega)])
                                                                                                                                          · have hb196p := hb196.h; try simp only [al_ete, al_dfn, Bool.not_eq_true', Bool.not_eq_false', al_ne, Bool.not_not, al_nn] at hb196p
                                                                                                                                            refine W_seq ?_
                                                                                                                                            refine W_region rfl ?_
                                                                                                                                            refine WO_p (PS_eql rfl rfl) ?_
                                                                                                                                            refine WO_p (PS_assign_bool rfl) ?_
                                                                                                                                            refine WO_nil ?_
                                                                                                                                            refine thn_normal ?_
                                                                                                                                            refine W_if rfl (fun hb198 => ?_) (fun hb198 => ?_)
                                                                                                                                            · have hb198p := hb198.h; try simp only [al_ete, al_dfn, Bool.not_eq_true', Bool.not_eq_false', al_ne, Bool.not_not, al_nn] at hb198p
                                                                                                                                              refine W_skip ?_
                                                                                                                                              refine thn_normal ?_
                                                                                                                                              refine W_condT rfl hb198.h ?_
                                                                                                                                              refine W_seq ?_
                                                                                                                                              refine W_region rfl ?_
                                                                                                                                              refine WO_p (PS_assign_int rfl) ?_
                                                                                                                                              refine WO_p (PS_assign_int rfl) ?_
                                                                                                                                              refine WO_p (PS_assign_int rfl) ?_
                                                                                                                                              refine WO_p (PS_assign_bool rfl) ?_
                                                                                                                                              refine WO_nil ?_
                                                                                                                                              refine thn_normal ?_
                                                                                                                                              refine W_ret ?_
                                                                                                                                              refine inBlk_ret ?_
                                                                                                                                              refine thn_ret ?_
                                                                                                                                              refine bodyQ_ret4 Hvad.results50 rfl rfl rfl rfl (.int _ _) (.int _ _) (.int _ _) (.bool _) rfl rfl rfl rfl ?_
                                                                                                                                              first
                                                                                                                                              | (exfalso; omega)
                                                                                                                                              | (refine ⟨(by repeat (first | assumption | exact Ext.refl _ | refine Ext.alloc ?_ _ | refine Ext.drew ?_ | refine Ext.setB ?_ (by first | omega | (simp only [size_alloc, size_setB, size_drew]; omega)) _ | refine Ext.trans ?_ (by assumption))), ?_⟩; rw [show o = _ from by assumption]; rfl)
                                                                                                                                              | (refine ⟨(by repeat (first | assumption | exact Ext.refl _ | refine Ext.alloc ?_ _ | refine Ext.drew ?_ | refine Ext.setB ?_ (by first | omega | (simp only [size_alloc, size_setB, size_drew]; omega)) _ | refine Ext.trans ?_ (by assumption))), ?_⟩; unfold infoW; rw [if_pos (by omega)])
                                                                                                                                              | (refine ⟨(by repeat (first | assumption | exact Ext.refl _ | refine Ext.alloc ?_ _ | refine Ext.drew ?_ | refine Ext.setB ?_ (by first | omega | (simp only [size_alloc, size_setB, size_drew]; omega)) _ | refine Ext.trans ?_ (by assumption))), ?_⟩; unfold infoW; rw [if_neg (by omega), if_pos (by omega)])
                                                                                                                                              | (refine ⟨(by repeat (first | assumption | exact Ext.refl _ | refine Ext.alloc ?_ _ | refine Ext.drew ?_ | refine Ext.setB ?_ (by first | omega | (simp only [size_alloc, size_setB, size_drew]; omega)) _ | refine Ext.trans ?_ (by assumption))), ?_⟩; unfold infoW; rw [if_neg (by omega), if_neg (by omega), if_pos (by omega)])
                                                                                                                                              | (refine ⟨(by repeat (first | assumption | exact Ext.refl _ | refine Ext.alloc ?_ _ | refine Ext.drew ?_ | refine Ext.setB ?_ (by first | omega | (simp only [size_alloc, size_setB, size_drew]; omega)) _ | refine Ext.trans ?_ (by assumption))), ?_⟩; unfold infoW; rw [if_neg (by omega), if_neg (by omega), if_neg (by omega), if_pos (by omega)])
                                                                                                                                              | (refine ⟨(by repeat (first | assumption | exact Ext.refl _ | refine Ext.alloc ?_ _ | refine Ext.drew ?_ | refine Ext.setB ?_ (by first | omega | (simp only [size_alloc, size_setB, size_drew]; omega)) _ | refine Ext.trans ?_ (by assumption))), ?_⟩; unfold infoW; repeat rw [if_neg (by omega)])
                                                                                                                                            · have hb198p := hb198.h; try simp only [al_ete, al_dfn, Bool.not_eq_true', Bool.not_eq_false', al_ne, Bool.not_not, al_nn] at hb198p
                                                                                                                                              refine W_region rfl ?_
                                                                                                                                              refine WO_p (PS_eql rfl rfl) ?_
                                                                                                                                              refine WO_p (PS_assign_bool rfl) ?_
                                                                                                                                              refine WO_nil ?_
                                                                                                                                              refine thn_normal ?_
                                                                                                                                              refine W_if rfl (fun hb200 => ?_) (fun hb200 => ?_)
                                                                                                                                              · have hb200p := hb200.h; try simp only [al_ete, al_dfn, Bool.not_eq_true', Bool.not_eq_false', al_ne, Bool.not_not, al_nn] at hb200p
                                                                                                                                                refine W_seq ?_
                                                                                                                                                refine W_region rfl ?_
                                                                                                                                                refine WO_p (PS_assign_int rfl) ?_
                                                                                                                                                refine WO_p (PS_assign_int rfl) ?_
                                                                                                                                                refine WO_p (PS_assign_int rfl) ?_
                                                                                                                                                refine WO_p (PS_assign_bool rfl) ?_
                                                                                                                                                refine WO_nil ?_
                                                                                                                                                refine thn_normal ?_
                                                                                                                                                refine W_ret ?_
                                                                                                                                                refine inBlk_ret ?_
                                                                                                                                                refine thn_ret ?_
                                                                                                                                                refine bodyQ_ret4 Hvad.results50 rfl rfl rfl rfl (.int _ _) (.int _ _) (.int _ _) (.bool _) rfl rfl rfl rfl ?_
                                                                                                                                                first
                                                                                                                                                | (exfalso; omega)
                                                                                                                                                | (refine ⟨(by repeat (first | assumption | exact Ext.refl _ | refine Ext.alloc ?_ _ | refine Ext.drew ?_ | refine Ext.setB ?_ (by first | omega | (simp only [size_alloc, size_setB, size_drew]; omega)) _ | refine Ext.trans ?_ (by assumption))), ?_⟩; rw [show o = _ from by assumption]; rfl)
                                                                                                                                                | (refine ⟨(by repeat (first | assumption | exact Ext.refl _ | refine Ext.alloc ?_ _ | refine Ext.drew ?_ | refine Ext.setB ?_ (by first | omega | (simp only [size_alloc, size_setB, size_drew]; omega)) _ | refine Ext.trans ?_ (by assumption))), ?_⟩; unfold infoW; rw [if_pos (by omega)])
                                                                                                                                                | (refine ⟨(by repeat (first | assumption | exact Ext.refl _ | refine Ext.alloc ?_ _ | refine Ext.drew ?_ | refine Ext.setB ?_ (by first | omega | (simp only [size_alloc, size_setB, size_drew]; omega)) _ | refine Ext.trans ?_ (by assumption))), ?_⟩; unfold infoW; rw [if_neg (by omega), if_pos (by omega)])
                                                                                                                                                | (refine ⟨(by repeat (first | assumption | exact Ext.refl _ | refine Ext.alloc ?_ _ | refine Ext.drew ?_ | refine Ext.setB ?_ (by first | omega | (simp only [size_alloc, size_setB, size_drew]; omega)) _ | refine Ext.trans ?_ (by assumption))), ?_⟩; unfold infoW; rw [if_neg (by omega), if_neg (by omega), if_pos (by omega)])
                                                                                                                                                | (refine ⟨(by repeat (first | assumption | exact Ext.refl _ | refine Ext.alloc ?_ _ | refine Ext.drew ?_ | refine Ext.setB ?_ (by first | omega | (simp only [size_alloc, size_setB, size_drew]; omega)) _ | refine Ext.trans ?_ (by assumption))), ?_⟩; unfold infoW; rw [if_neg (by omega), if_neg (by omega), if_neg (by omega), if_pos (by omega)])
                                                                                                                                                | (refine ⟨(by repeat (first | assumption | exact Ext.refl _ | refine Ext.alloc ?_ _ | refine Ext.drew ?_ | refine Ext.setB ?_ (by first | omega | (simp only [size_alloc, size_setB, size_drew]; omega)) _ | refine Ext.trans ?_ (by assumption))), ?_⟩; unfold infoW; repeat rw [if_neg (by omega)])
                                                                                                                                              · have hb200p := hb200.h; try simp only [al_ete, al_dfn, Bool.not_eq_true', Bool.not_eq_false', al_ne, Bool.not_not, al_nn] at hb200p
                                                                                                                                                refine W_seq ?_
                                                                                                                                                refine W_region rfl ?_
                                                                                                                                                refine WO_p (PS_eql rfl rfl) ?_
                                                                                                                                                refine WO_p (PS_assign_bool rfl) ?_
                                                                                                                                                refine WO_nil ?_
                                                                                                                                                refine thn_normal ?_
                                                                                                                                                refine W_if rfl (fun hb202 => ?_) (fun hb202 => ?_)
                                                                                                                                                · have hb202p := hb202.h; try simp only [al_ete, al_dfn, Bool.not_eq_true', Bool.not_eq_false', al_ne, Bool.not_not, al_nn] at hb202p
                                                                                                                                                  refine W_seq ?_
                                                                                                                                                  refine W_region rfl ?_
                                                                                                                                                  refine WO_p (PS_assign_int rfl) ?_
                                                                                                                                                  refine WO_p (PS_assign_int rfl) ?_
                                                                                                                                                  refine WO_p (PS_assign_int rfl) ?_
                                                                                                                                                  refine WO_p (PS_assign_bool rfl) ?_
                                                                                                                                                  refine WO_nil ?_
                                                                                                                                                  refine thn_normal ?_
                                                                                                                                                  refine W_ret ?_
                                                                                                                                                  refine inBlk_ret ?_
                                                                                                                                                  refine thn_ret ?_
                                                                                                                                                  refine bodyQ_ret4 Hvad.results50 rfl rfl rfl rfl (.int _ _) (.int _ _) (.int _ _) (.bool _) rfl rfl rfl rfl ?_
                                                                                                                                                  first
                                                                                                                                                  | (exfalso; omega)
                                                                                                                                                  | (refine ⟨(by repeat (first | assumption | exact Ext.refl _ | refine Ext.alloc ?_ _ | refine Ext.drew ?_ | refine Ext.setB ?_ (by first | omega | (simp only [size_alloc, size_setB, size_drew]; omega)) _ | refine Ext.trans ?_ (by assumption))), ?_⟩; rw [show o = _ from by assumption]; rfl)
                                                                                                                                                  | (refine ⟨(by repeat (first | assumption | exact Ext.refl _ | refine Ext.alloc ?_ _ | refine Ext.drew ?_ | refine Ext.setB ?_ (by first | omega | (simp only [size_alloc, size_setB, size_drew]; omega)) _ | refine Ext.trans ?_ (by assumption))), ?_⟩; unfold infoW; rw [if_pos (by omega)])
                                                                                                                                                  | (refine ⟨(by repeat (first | assumption | exact Ext.refl _ | refine Ext.alloc ?_ _ | refine Ext.drew ?_ | refine Ext.setB ?_ (by first | omega | (simp only [size_alloc, size_setB, size_drew]; omega)) _ | refine Ext.trans ?_ (by assumption))), ?_⟩; unfold infoW; rw [if_neg (by omega), if_pos (by omega)])
                                                                                                                                                  | (refine ⟨(by repeat (first | assumption | exact Ext.refl _ | refine Ext.alloc ?_ _ | refine Ext.drew ?_ | refine Ext.setB ?_ (by first | omega | (simp only [size_alloc, size_setB, size_drew]; omega)) _ | refine Ext.trans ?_ (by assumption))), ?_⟩; unfold infoW; rw [if_neg (by omega), if_neg (by omega), if_pos (by omega)])
                                                                                                                                                  | (refine ⟨(by repeat (first | assumption | exact Ext.refl _ | refine Ext.alloc ?_ _ | refine Ext.drew ?_ | refine Ext.setB ?_ (by first | omega | (simp only [size_alloc, size_setB, size_drew]; omega)) _ | refine Ext.trans ?_ (by assumption))), ?_⟩; unfold infoW; rw [if_neg (by omega), if_neg (by omega), if_neg (by omega), if_pos (by omega)])
                                                                                                                                                  | (refine ⟨(by repeat (first | assumption | exact Ext.refl _ | refine Ext.alloc ?_ _ | refine Ext.drew ?_ | refine Ext.setB ?_ (by first | omega | (simp only [size_alloc, size_setB, size_drew]; omega)) _ | refine Ext.trans ?_ (by assumption))), ?_⟩; unfold infoW; repeat rw [if_neg (by omega)])
                                                                                                                                                · have hb202p := hb202.h; try simp only [al_ete, al_dfn, Bool.not_eq_true', Bool.not_eq_false', al_ne, Bool.not_not, al_nn] at hb202p
                                                                                                                                                  refine W_seq ?_
                                                                                                                                                  refine W_region rfl ?_
                                                                                                                                                  refine WO_p (PS_eql rfl rfl) ?_
                                                                                                                                                  refine WO_p (PS_assign_bool rfl) ?_
                                                                                                                                                  refine WO_nil ?_
                                                                                                                                                  refine thn_normal ?_
                                                                                                                                                  refine W_if rfl (fun hb204 => ?_) (fun hb204 => ?_)
                                                                                                                                                  · have hb204p := hb204.h; try simp only [al_ete, al_dfn, Bool.not_eq_true', Bool.not_eq_false', al_ne, Bool.not_not, al_nn] at hb204p
                                                                                                                                                    refine W_seq ?_
                                                                                                                                                    refine W_region rfl ?_
                                                                                                                                                    refine WO_p (PS_assign_int rfl) ?_
                                                                                                                                                    refine WO_p (PS_assign_int rfl) ?_
                                                                                                                                                    refine WO_p (PS_assign_int rfl) ?_
                                                                                                                                                    refine WO_p (PS_assign_bool rfl) ?_
                                                                                                                                                    refine WO_nil ?_
                                                                                                                                                    refine thn_normal ?_
                                                                                                                                                    refine W_ret ?_
                                                                                                                                                    refine inBlk_ret ?_
                                                                                                                                                    refine thn_ret ?_
                                                                                                                                                    refine bodyQ_ret4 Hvad.results50 rfl rfl rfl rfl (.int _ _) (.int _ _) (.int _ _) (.bool _) rfl rfl rfl rfl ?_
                                                                                                                                                    first
                                                                                                                                                    | (exfalso; omega)
                                                                                                                                                    | (refine ⟨(by repeat (first | assumption | exact Ext.refl _ | refine Ext.alloc ?_ _ | refine Ext.drew ?_ | refine Ext.setB ?_ (by first | omega | (simp only [size_alloc, size_setB, size_drew]; omega)) _ | refine Ext.trans ?_ (by assumption))), ?_⟩; rw [show o = _ from by assumption]; rfl)
                                                                                                                                                    | (refine ⟨(by repeat (first | assumption | exact Ext.refl _ | refine Ext.alloc ?_ _ | refine Ext.drew ?_ | refine Ext.setB ?_ (by first | omega | (simp only [size_alloc, size_setB, size_drew]; omega)) _ | refine Ext.trans ?_ (by assumption))), ?_⟩; unfold infoW; rw [if_pos (by omega)])
                                                                                                                                                    | (refine ⟨(by repeat (first | assumption | exact Ext.refl _ | refine Ext.alloc ?_ _ | refine Ext.drew ?_ | refine Ext.setB ?_ (by first | omega | (simp only [size_alloc, size_setB, size_drew]; omega)) _ | refine Ext.trans ?_ (by assumption))), ?_⟩; unfold infoW; rw [if_neg (by omega), if_pos (by omega)])
                                                                                                                                                    | (refine ⟨(by repeat (first | assumption | exact Ext.refl _ | refine Ext.alloc ?_ _ | refine Ext.drew ?_ | refine Ext.setB ?_ (by first | omega | (simp only [size_alloc, size_setB, size_drew]; omega)) _ | refine Ext.trans ?_ (by assumption))), ?_⟩; unfold infoW; rw [if_neg (by omega), if_neg (by omega), if_pos (by omega)])
                                                                                                                                                    | (refine ⟨(by repeat (first | assumption | exact Ext.refl _ | refine Ext.alloc ?_ _ | refine Ext.drew ?_ | refine Ext.setB ?_ (by first | omega | (simp only [size_alloc, size_setB, size_drew]; omega)) _ | refine Ext.trans ?_ (by assumption))), ?_⟩; unfold infoW; rw [if_neg (by omega), if_neg (by omega), if_neg (by omega), if_pos (by omega)])
                                                                                                                                                    | (refine ⟨(by repeat (first | assumption | exact Ext.refl _ | refine Ext.alloc ?_ _ | refine Ext.drew ?_ | refine Ext.setB ?_ (by first | omega | (simp only [size_alloc, size_setB, size_drew]; omega)) _ | refine Ext.trans ?_ (by assumption))), ?_⟩; unfold infoW; repeat rw [if_neg (by omega)])
                                                                                                                                                  · have hb204p := hb204.h; try simp only [al_ete, al_dfn, Bool.not_eq_true', Bool.not_eq_false', al_ne, Bool.not_not, al_nn] at hb204p
                                                                                                                                                    refine W_seq ?_
                                                                                                                                                    refine W_region rfl ?_
                                                                                                                                                    refine WO_p (PS_eql rfl rfl) ?_
                                                                                                                                                    refine WO_p (PS_assign_bool rfl) ?_
                                                                                                                                                    refine WO_nil ?_
                                                                                                                                                    refine thn_normal ?_
                                                                                                                                                    refine W_if rfl (fun hb206 => ?_) (fun hb206 => ?_)
                                                                                                                                                    · have hb206p := hb206.h; try simp only [al_ete, al_dfn, Bool.not_eq_true', Bool.not_eq_false', al_ne, Bool.not_not, al_nn] at hb206p
                                                                                                                                                      refine W_seq ?_
                                                                                                                                                      refine W_region rfl ?_
                                                                                                                                                      refine WO_p (PS_assign_int rfl) ?_
                                                                                                                                                      refine WO_p (PS_assign_int rfl) ?_
                                                                                                                                                      refine WO_p (PS_assign_int rfl) ?_
                                                                                                                                                      refine WO_p (PS_assign_bool rfl) ?_
                                                                                                                                                      refine WO_nil ?_
                                                                                                                                                      refine thn_normal ?_
                                                                                                                                                      refine W_ret ?_
                                                                                                                                                      refine inBlk_ret ?_
                                                                                                                                                      refine thn_ret ?_
                                                                                                                                                      refine bodyQ_ret4 Hvad.results50 rfl rfl rfl rfl (.int _ _) (.int _ _) (.int _ _) (.bool _) rfl rfl rfl rfl ?_
                                                                                                                                                      first
                                                                                                                                                      | (exfalso; omega)
                                                                                                                                                      | (refine ⟨(by repeat (first | assumption | exact Ext.refl _ | refine Ext.alloc ?_ _ | refine Ext.drew ?_ | refine Ext.setB ?_ (by first | omega | (simp only [size_alloc, size_setB, size_drew]; omega)) _ | refine Ext.trans ?_ (by assumption))), ?_⟩; rw [show o = _ from by assumption]; rfl)
                                                                                                                                                      | (refine ⟨(by repeat (first | assumption | exact Ext.refl _ | refine Ext.alloc ?_ _ | refine Ext.drew ?_ | refine Ext.setB ?_ (by first | omega | (simp only [size_alloc, size_setB, size_drew]; omega)) _ | refine Ext.trans ?_ (by assumption))), ?_⟩; unfold infoW; rw [if_pos (by omega)])
                                                                                                                                                      | (refine ⟨(by repeat (first | assumption | exact Ext.refl _ | refine Ext.alloc ?_ _ | refine Ext.drew ?_ | refine Ext.setB ?_ (by first | omega | (simp only [size_alloc, size_setB, size_drew]; omega)) _ | refine Ext.trans ?_ (by assumption))), ?_⟩; unfold infoW; rw [if_neg (by omega), if_pos (by omega)])
                                                                                                                                                      | (refine ⟨(by repeat (first | assumption | exact Ext.refl _ | refine Ext.alloc ?_ _ | refine Ext.drew ?_ | refine Ext.setB ?_ (by first | omega | (simp only [size_alloc, size_setB, size_drew]; omega)) _ | refine Ext.trans ?_ (by assumption))), ?_⟩; unfold infoW; rw [if_neg (by omega), if_neg (by omega), if_pos (by omega)])
                                                                                                                                                      | (refine ⟨(by repeat (first | assumption | exact Ext.refl _ | refine Ext.alloc ?_ _ | refine Ext.drew ?_ | refine Ext.setB ?_ (by first | omega | (simp only [size_alloc, size_setB, size_drew]; omega)) _ | refine Ext.trans ?_ (by assumption))), ?_⟩; unfold infoW; rw [if_neg (by omega), if_neg (by omega), if_neg (by omega), if_pos (by omega)])
                                                                                                                                                      | (refine ⟨(by repeat (first | assumption | exact Ext.refl _ | refine Ext.alloc ?_ _ | refine Ext.drew ?_ | refine Ext.setB ?_ (by first | omega | (simp only [size_alloc, size_setB, size_drew]; omega)) _ | refine Ext.trans ?_ (by assumption))), ?_⟩; unfold infoW; repeat rw [if_neg (by omega)])
                                                                                                                                                    · have hb206p := hb206.h; try simp only [al_ete, al_dfn, Bool.not_eq_true', Bool.not_eq_false', al_ne, Bool.not_not, al_nn] at hb206p
                                                                                                                                                      refine W_seq ?_
                                                                                                                                                      refine W_seq ?_
                                                                                                                                                      refine W_region rfl ?_
                                                                                                                                                      refine WO_p (PS_eql rfl rfl) ?_
                                                                                                                                                      refine WO_p (PS_assign_bool rfl) ?_
                                                                                                                                                      refine WO_nil ?_
                                                                                                                                                      refine thn_normal ?_
                                                                                                                                                      refine W_if rfl (fun hb208 => ?_) (fun hb208 => ?_)
                                                                                                                                                      · have hb208p := hb208.h; try simp only [al_ete, al_dfn, Bool.not_eq_true', Bool.not_eq_false', al_ne, Bool.not_not, al_nn] at hb208p
                                                                                                                                                        refine W_skip ?_
                                                                                                                                                        refine thn_normal ?_
                                                                                                                                                        refine W_condT rfl hb208.h ?_
                                                                                                                                                        refine W_seq ?_
                                                                                                                                                        refine W_region rfl ?_
                                                                                                                                                        refine WO_p (PS_assign_int rfl) ?_
                                                                                                                                                        refine WO_p (PS_assign_int rfl) ?_
                                                                                                                                                        refine WO_p (PS_assign_int rfl) ?_
                                                                                                                                                        refine WO_p (PS_assign_bool rfl) ?_
                                                                                                                                                        refine WO_nil ?_
                                                                                                                                                        refine thn_normal ?_
                                                                                                                                                        refine W_ret ?_
                                                                                                                                                        refine inBlk_ret ?_
                                                                                                                                                        refine thn_ret ?_
                                                                                                                                                        refine bodyQ_ret4 Hvad.results50 rfl rfl rfl rfl (.int _ _) (.int _ _) (.int _ _) (.bool _) rfl rfl rfl rfl ?_
                                                                                                                                                        first
                                                                                                                                                        | (exfalso; omega)
                                                                                                                                                        | (refine ⟨(by repeat (first | assumption | exact Ext.refl _ | refine Ext.alloc ?_ _ | refine Ext.drew ?_ | refine Ext.setB ?_ (by first | omega | (simp only [size_alloc, size_setB, size_drew]; omega)) _ | refine Ext.trans ?_ (by assumption))), ?_⟩; rw [show o = _ from by assumption]; rfl)
                                                                                                                                                        | (refine ⟨(by repeat (first | assumption | exact Ext.refl _ | refine Ext.alloc ?_ _ | refine Ext.drew ?_ | refine Ext.setB ?_ (by first | omega | (simp only [size_alloc, size_setB, size_drew]; omega)) _ | refine Ext.trans ?_ (by assumption))), ?_⟩; unfold infoW; rw [if_pos (by omega)])
                                                                                                                                                        | (refine ⟨(by repeat (first | assumption | exact Ext.refl _ | refine Ext.alloc ?_ _ | refine Ext.drew ?_ | refine Ext.setB ?_ (by first | omega | (simp only [size_alloc, size_setB, size_drew]; omega)) _ | refine Ext.trans ?_ (by assumption))), ?_⟩; unfold infoW; rw [if_neg (by omega), if_pos (by omega)])
                                                                                                                                                        | (refine ⟨(by repeat (first | assumption | exact Ext.refl _ | refine Ext.alloc ?_ _ | refine Ext.drew ?_ | refine Ext.setB ?_ (by first | omega | (simp only [size_alloc, size_setB, size_drew]; omega)) _ | refine Ext.trans ?_ (by assumption))), ?_⟩; unfold infoW; rw [if_neg (by omega), if_neg (by omega), if_pos (by omega)])
                                                                                                                                                        | (refine ⟨(by repeat (first | assumption | exact Ext.refl _ | refine Ext.alloc ?_ _ | refine Ext.drew ?_ | refine Ext.setB ?_ (by first | omega | (simp only [size_alloc, size_setB, size_drew]; omega)) _ | refine Ext.trans ?_ (by assumption))), ?_⟩; unfold infoW; rw [if_neg (by omega), if_neg (by omega), if_neg (by omega), if_pos (by omega)])
                                                                                                                                                        | (refine ⟨(by repeat (first | assumption | exact Ext.refl _ | refine Ext.alloc ?_ _ | refine Ext.drew ?_ | refine Ext.setB ?_ (by first | omega | (simp only [size_alloc, size_setB, size_drew]; omega)) _ | refine Ext.trans ?_ (by assumption))), ?_⟩; unfold infoW; repeat rw [if_neg (by omega)])
                                                                                                                                                      · have hb208p := hb208.h; try simp only [al_ete, al_dfn, Bool.not_eq_true', Bool.not_eq_false', al_ne, Bool.not_not, al_nn] at hb208p
                                                                                                                                                        refine W_region rfl ?_
                                                                                                                                                        refine WO_p (PS_eql rfl rfl) ?_
                                                                                                                                                        refine WO_p (PS_assign_bool rfl) ?_
                                                                                                                                                        refine WO_nil ?_
                                                                                                                                                        refine thn_normal ?_
                                                                                                                                                        refine W_if rfl (fun hb210 => ?_) (fun hb210 => ?_)
                                                                                                                                                        · have hb210p := hb210.h; try simp only [al_ete, al_dfn, Bool.not_eq_true', Bool.not_eq_false', al_ne, Bool.not_not, al_nn] at hb210p
                                                                                                                                                          refine W_seq ?_
                                                                                                                                                          refine W_region rfl ?_
                                                                                                                                                          refine WO_p (PS_assign_int rfl) ?_
                                                                                                                                                          refine WO_p (PS_assign_int rfl) ?_
                                                                                                                                                          refine WO_p (PS_assign_int rfl) ?_
                                                                                                                                                          refine WO_p (PS_assign_bool rfl) ?_
                                                                                                                                                          refine WO_nil ?_
                                                                                                                                                          refine thn_normal ?_
                                                                                                                                                          refine W_ret ?_
                                                                                                                                                          refine inBlk_ret ?_
                                                                                                                                                          refine thn_ret ?_
                                                                                                                                                          refine bodyQ_ret4 Hvad.results50 rfl rfl rfl rfl (.int _ _) (.int _ _) (.int _ _) (.bool _) rfl rfl rfl rfl ?_
                                                                                                                                                          first
                                                                                                                                                          | (exfalso; omega)
                                                                                                                                                          | (refine ⟨(by repeat (first | assumption | exact Ext.refl _ | refine Ext.alloc ?_ _ | refine Ext.drew ?_ | refine Ext.setB ?_ (by first | omega | (simp only [size_alloc, size_setB, size_drew]; omega)) _ | refine Ext.trans ?_ (by assumption))), ?_⟩; rw [show o = _ from by assumption]; rfl)
                                                                                                                                                          | (refine ⟨(by repeat (first | assumption | exact Ext.refl _ | refine Ext.alloc ?_ _ | refine Ext.drew ?_ | refine Ext.setB ?_ (by first | omega | (simp only [size_alloc, size_setB, size_drew]; omega)) _ | refine Ext.trans ?_ (by assumption))), ?_⟩; unfold infoW; rw [if_pos (by omega)])
                                                                                                                                                          | (refine ⟨(by repeat (first | assumption | exact Ext.refl _ | refine Ext.alloc ?_ _ | refine Ext.drew ?_ | refine Ext.setB ?_ (by first | omega | (simp only [size_alloc, size_setB, size_drew]; omega)) _ | refine Ext.trans ?_ (by assumption))), ?_⟩; unfold infoW; rw [if_neg (by omega), if_pos (by omega)])
                                                                                                                                                          | (refine ⟨(by repeat (first | assumption | exact Ext.refl _ | refine Ext.alloc ?_ _ | refine Ext.drew ?_ | refine Ext.setB ?_ (by first | omega | (simp only [size_alloc, size_setB, size_drew]; omega)) _ | refine Ext.trans ?_ (by assumption))), ?_⟩; unfold infoW; rw [if_neg (by omega), if_neg (by omega), if_pos (by omega)])
                                                                                                                                                          | (refine ⟨(by repeat (first | assumption | exact Ext.refl _ | refine Ext.alloc ?_ _ | refine Ext.drew ?_ | refine Ext.setB ?_ (by first | omega | (simp only [size_alloc, size_setB, size_drew]; omega)) _ | refine Ext.trans ?_ (by assumption))), ?_⟩; unfold infoW; rw [if_neg (by omega), if_neg (by omega), if_neg (by omega), if_pos (by omega)])
                                                                                                                                                          | (refine ⟨(by repeat (first | assumption | exact Ext.refl _ | refine Ext.alloc ?_ _ | refine Ext.drew ?_ | refine Ext.setB ?_ (by first | omega | (simp only [size_alloc, size_setB, size_drew]; omega)) _ | refine Ext.trans ?_ (by assumption))), ?_⟩; unfold infoW; repeat rw [if_neg (by omega)])
                                                                                                                                                        · have hb210p := hb210.h; try simp only [al_ete, al_dfn, Bool.not_eq_true', Bool.not_eq_false', al_ne, Bool.not_not, al_nn] at hb210p
                                                                                                                                                          refine W_seq ?_
                                                                                                                                                          refine W_seq ?_
                                                                                                                                                          refine W_region rfl ?_
                                                                                                                                                          refine WO_p (PS_eql rfl rfl) ?_
                                                                                                                                                          refine WO_p (PS_assign_bool rfl) ?_
                                                                                                                                                          refine WO_nil ?_
                                                                                                                                                          refine thn_normal ?_
                                                                                                                                                          refine W_if rfl (fun hb212 => ?_) (fun hb212 => ?_)
                                                                                                                                                          · have hb212p := hb212.h; try simp only [al_ete, al_dfn, Bool.not_eq_true', Bool.not_eq_false', al_ne, Bool.not_not, al_nn] at hb212p
                                                                                                                                                            refine W_skip ?_
                                                                                                                                                            refine thn_normal ?_
                                                                                                                                                            refine W_condT rfl hb212.h ?_
                                                                                                                                                            refine W_seq ?_
                                                                                                                                                            refine W_region rfl ?_
                                                                                                                                                            refine WO_p (PS_assign_int rfl) ?_
                                                                                                                                                            refine WO_p (PS_assign_int rfl) ?_
                                                                                                                                                            refine WO_p (PS_assign_int rfl) ?_
                                                                                                                                                            refine WO_p (PS_assign_bool rfl) ?_
                                                                                                                                                            refine WO_nil ?_
                                                                                                                                                            refine thn_normal ?_
                                                                                                                                                            refine W_ret ?_
                                                                                                                                                            refine inBlk_ret ?_
                                                                                                                                                            refine thn_ret ?_
                                                                                                                                                            refine bodyQ_ret4 Hvad.results50 rfl rfl rfl rfl (.int _ _) (.int _ _) (.int _ _) (.bool _) rfl rfl rfl rfl ?_
                                                                                                                                                            first
                                                                                                                                                            | (exfalso; omega)
                                                                                                                                                            | (refine ⟨(by repeat (first | assumption | exact Ext.refl _ | refine Ext.alloc ?_ _ | refine Ext.drew ?_ | refine Ext.setB ?_ (by first | omega | (simp only [size_alloc, size_setB, size_drew]; omega)) _ | refine Ext.trans ?_ (by assumption))), ?_⟩; rw [show o = _ from by assumption]; rfl)
                                                                                                                                                            | (refine ⟨(by repeat (first | assumption | exact Ext.refl _ | refine Ext.alloc ?_ _ | refine Ext.drew ?_ | refine Ext.setB ?_ (by first | omega | (simp only [size_alloc, size_setB, size_drew]; omega)) _ | refine Ext.trans ?_ (by assumption))), ?_⟩; unfold infoW; rw [if_pos (by omega)])
                                                                                                                                                            | (refine ⟨(by repeat (first | assumption | exact Ext.refl _ | refine Ext.alloc ?_ _ | refine Ext.drew ?_ | refine Ext.setB ?_ (by first | omega | (simp only [size_alloc, size_setB, size_drew]; omega)) _ | refine Ext.trans ?_ (by assumption))), ?_⟩; unfold infoW; rw [if_neg (by omega), if_pos (by omega)])
                                                                                                                                                            | (refine ⟨(by repeat (first | assumption | exact Ext.refl _ | refine Ext.alloc ?_ _ | refine Ext.drew ?_ | refine Ext.setB ?_ (by first | omega | (simp only [size_alloc, size_setB, size_drew]; omega)) _ | refine Ext.trans ?_ (by assumption))), ?_⟩; unfold infoW; rw [if_neg (by omega), if_neg (by omega), if_pos (by omega)])
                                                                                                                                                            | (refine ⟨(by repeat (first | assumption | exact Ext.refl _ | refine Ext.alloc ?_ _ | refine Ext.drew ?_ | refine Ext.setB ?_ (by first | omega | (simp only [size_alloc, size_setB, size_drew]; omega)) _ | refine Ext.trans ?_ (by assumption))), ?_⟩; unfold infoW; rw [if_neg (by omega), if_neg (by omega), if_neg (by omega), if_pos (by omega)])
                                                                                                                                                            | (refine ⟨(by repeat (first | assumption | exact Ext.refl _ | refine Ext.alloc ?_ _ | refine Ext.drew ?_ | refine Ext.setB ?_ (by first | omega | (simp only [size_alloc, size_setB, size_drew]; omega)) _ | refine Ext.trans ?_ (by assumption))), ?_⟩; unfold infoW; repeat rw [if_neg (by omega)])
                                                                                                                                                          · have hb212p := hb212.h; try simp only [al_ete, al_dfn, Bool.not_eq_true', Bool.not_eq_false', al_ne, Bool.not_not, al_nn] at hb212p
                                                                                                                                                            refine W_region rfl ?_
                                                                                                                                                            refine WO_p (PS_eql rfl rfl) ?_
                                                                                                                                                            refine WO_p (PS_assign_bool rfl) ?_
                                                                                                                                                            refine WO_nil ?_
                                                                                                                                                            refine thn_normal ?_
                                                                                                                                                            refine W_if rfl (fun hb214 => ?_) (fun hb214 => ?_)
                                                                                                                                                            · have hb214p := hb214.h; try simp only [al_ete, al_dfn, Bool.not_eq_true', Bool.not_eq_false', al_ne, Bool.not_not, al_nn] at hb214p
                                                                                                                                                              refine W_seq ?_
                                                                                                                                                              refine W_region rfl ?_
                                                                                                                                                              refine WO_p (PS_assign_int rfl) ?_
                                                                                                                                                              refine WO_p (PS_assign_int rfl) ?_
                                                                                                                                                              refine WO_p (PS_assign_int rfl) ?_
                                                                                                                                                              refine WO_p (PS_assign_bool rfl) ?_
                                                                                                                                                              refine WO_nil ?_
                                                                                                                                                              refine thn_normal ?_
                                                                                                                                                              refine W_ret ?_
                                                                                                                                                              refine inBlk_ret ?_
                                                                                                                                                              refine thn_ret ?_
                                                                                                                                                              refine bodyQ_ret4 Hvad.results50 rfl rfl rfl rfl (.int _ _) (.int _ _) (.int _ _) (.bool _) rfl rfl rfl rfl ?_
                                                                                                                                                              first
                                                                                                                                                              | (exfalso; omega)
                                                                                                                                                              | (refine ⟨(by repeat (first | assumption | exact Ext.refl _ | refine Ext.alloc ?_ _ | refine Ext.drew ?_ | refine Ext.setB ?_ (by first | omega | (simp only [size_alloc, size_setB, size_drew]; omega)) _ | refine Ext.trans ?_ (by assumption))), ?_⟩; rw [show o = _ from by assumption]; rfl)
                                                                                                                                                              | (refine ⟨(by repeat (first | assumption | exact Ext.refl _ | refine Ext.alloc ?_ _ | refine Ext.drew ?_ | refine Ext.setB ?_ (by first | omega | (simp only [size_alloc, size_setB, size_drew]; omega)) _ | refine Ext.trans ?_ (by assumption))), ?_⟩; unfold infoW; rw [if_pos (by omega)])
                                                                                                                                                              | (refine ⟨(by repeat (first | assumption | exact Ext.refl _ | refine Ext.alloc ?_ _ | refine Ext.drew ?_ | refine Ext.setB ?_ (by first | omega | (simp only [size_alloc, size_setB, size_drew]; omega)) _ | refine Ext.trans ?_ (by assumption))), ?_⟩; unfold infoW; rw [if_neg (by omega), if_pos (by omega)])
                                                                                                                                                              | (refine ⟨(by repeat (first | assumption | exact Ext.refl _ | refine Ext.alloc ?_ _ | refine Ext.drew ?_ | refine Ext.setB ?_ (by first | omega | (simp only [size_alloc, size_setB, size_drew]; omega)) _ | refine Ext.trans ?_ (by assumption))), ?_⟩; unfold infoW; rw [if_neg (by omega), if_neg (by omega), if_pos (by omega)])
                                                                                                                                                              | (refine ⟨(by repeat (first | assumption | exact Ext.refl _ | refine Ext.alloc ?_ _ | refine Ext.drew ?_ | refine Ext.setB ?_ (by first | omega | (simp only [size_alloc, size_setB, size_drew]; omega)) _ | refine Ext.trans ?_ (by assumption))), ?_⟩; unfold infoW; rw [if_neg (by omega), if_neg (by omega), if_neg (by omega), if_pos (by omega)])
                                                                                                                                                              | (refine ⟨(by repeat (first | assumption | exact Ext.refl _ | refine Ext.alloc ?_ _ | refine Ext.drew ?_ | refine Ext.setB ?_ (by first | omega | (simp only [size_alloc, size_setB, size_drew]; omega)) _ | refine Ext.trans ?_ (by assumption))), ?_⟩; unfold infoW; repeat rw [if_neg (by omega)])
                                                                                                                                                            · have hb214p := hb214.h; try simp only [al_ete, al_dfn, Bool.not_eq_true', Bool.not_eq_false', al_ne, Bool.not_not, al_nn] at hb214p
                                                                                                                                                              refine W_skip ?_
                                                                                                                                                              refine inBlk_normal ?_
                                                                                                                                                              refine thn_normal ?_
                                                                                                                                                              refine W_seq ?_
                                                                                                                                                              refine W_region rfl ?_
                                                                                                                                                              refine WO_p (PS_assign_int rfl) ?_
                                                                                                                                                              refine WO_p (PS_assign_int rfl) ?_
                                                                                                                                                              refine WO_p (PS_assign_int rfl) ?_
                                                                                                                                                              refine WO_p (PS_assign_bool rfl) ?_
                                                                                                                                                              refine WO_nil ?_
                                                                                                                                                              refine thn_normal ?_
                                                                                                                                                              refine W_ret ?_
                                                                                                                                                              refine bodyQ_ret4 Hvad.results50 rfl rfl rfl rfl (.int _ _) (.int _ _) (.int _ _) (.bool _) rfl rfl rfl rfl ?_
                                                                                                                                                              first
                                                                                                                                                              | (exfalso; omega)
                                                                                                                                                              | (refine ⟨(by repeat (first | assumption | exact Ext.refl _ | refine Ext.alloc ?_ _ | refine Ext.drew ?_ | refine Ext.setB ?_ (by first | omega | (simp only [size_alloc, size_setB, size_drew]; omega)) _ | refine Ext.trans ?_ (by assumption))), ?_⟩; rw [show o = _ from by assumption]; rfl)
                                                                                                                                                              | (refine ⟨(by repeat (first | assumption | exact Ext.refl _ | refine Ext.alloc ?_ _ | refine Ext.drew ?_ | refine Ext.setB ?_ (by first | omega | (simp only [size_alloc, size_setB, size_drew]; omega)) _ | refine Ext.trans ?_ (by assumption))), ?_⟩; unfold infoW; rw [if_pos (by omega)])
                                                                                                                                                              | (refine ⟨(by repeat (first | assumption | exact Ext.refl _ | refine Ext.alloc ?_ _ | refine Ext.drew ?_ | refine Ext.setB ?_ (by first | omega | (simp only [size_alloc, size_setB, size_drew]; omega)) _ | refine Ext.trans ?_ (by assumption))), ?_⟩; unfold infoW; rw [if_neg (by omega), if_pos (by omega)])
                                                                                                                                                              | (refine ⟨(by repeat (first | assumption | exact Ext.refl _ | refine Ext.alloc ?_ _ | refine Ext.drew ?_ | refine Ext.setB ?_ (by first | omega | (simp only [size_alloc, size_setB, size_drew]; omega)) _ | refine Ext.trans ?_ (by assumption))), ?_⟩; unfold infoW; rw [if_neg (by omega), if_neg (by omega), if_pos (by omega)])
                                                                                                                                                              | (refine ⟨(by repeat (first | assumption | exact Ext.refl _ | refine Ext.alloc ?_ _ | refine Ext.drew ?_ | refine Ext.setB ?_ (by first | omega | (simp only [size_alloc, size_setB, size_drew]; omega)) _ | refine Ext.trans ?_ (by assumption))), ?_⟩; unfold infoW; rw [if_neg (by omega), if_neg (by omega), if_neg (by omega), if_pos (by omega)])
                                                                                                                                                              | (refine ⟨(by repeat (first | assumption | exact Ext.refl _ | refine Ext.alloc ?_ _ | refine Ext.drew ?_ | refine Ext.setB ?_ (by first | omega | (simp only [size_alloc, size_setB, size_drew]; omega)) _ | refine Ext.trans ?_ (by assumption))), ?_⟩; unfold infoW; repeat rw [if_neg (by omega)])

set_option maxRecDepth 10000 in
theorem mSstore_spec (C : Nat) (c : Array Value) (v : V) (B : VB) (m : Mc) (t : Nat) (f : Fm) (w : World) (hM : MS w C c v B m) (hA : FrA m t f) : Ret Hvad.prog 247 #[.pointer (some ⟨C, 0, none⟩), .pointer (some ⟨C, 1803 + t * 65, none⟩)] w fun u w' => Ext w w' ∧ u = .tuple #[.int .u64 (sstoreW (v.sorig f.self (m.argW f 0)) (v.sval f.self (m.argW f 0)) (m.argW f 1) (!v.isWarmS f.self (m.argW f 0))).1, .int .u64 (sstoreW (v.sorig f.self (m.argW f 0)) (v.sval f.self (m.argW f 0)) (m.argW f 1) (!v.isWarmS f.self (m.argW f 0))).2.1, .int .u64 (sstoreW (v.sorig f.self (m.argW f 0)) (v.sval f.self (m.argW f 0)) (m.argW f 1) (!v.isWarmS f.self (m.argW f 0))).2.2] := by
  have hA0 := hA
  have hblk := hM.vs.blk
  have hCl := hblk.lt
  have hcs := hM.sz
  have hc_s := hM.rep.s
  obtain ⟨ht6, hf, hsb, hsp⟩ := hA0
  obtain ⟨ht7, hfty, hF⟩ := hM.openF hf
  have hf_self := hF.self
  have hby := hfty.self
  have hw0 := argW_wd hM.ty f 0
  have hw1 := argW_wd hM.ty f 1
  have hwv := sval_wd hM.vs.ty f.self (m.argW f 0)
  have hwo := sorig_wd hM.vs.ty f.self (m.argW f 0)
  have hl0 := hw0.1
  have hlv := hwv.1
  have hlo := hwo.1
  refine Ret_of_W Hvad.func247 rfl rfl ?_
  refine W_seq ?_
  refine W_region rfl ?_
  refine WO_p (PS_assign_int rfl) ?_
  refine WO_p (PS_assign_int rfl) ?_
  refine WO_p (PS_assign_int rfl) ?_
  refine WO_nil ?_
  refine thn_normal ?_
  refine W_seq ?_
  refine W_region rfl ?_
  refine WO_p (PS_move_ptr rfl) ?_
  refine WO_p (PS_move_ptr rfl) ?_
  refine WO_call Hvad.call160 (by rfl) (Ret.mono (arg_spec C c v B m t f _ _ (MS.ext hM (by repeat (first | assumption | exact Ext.refl _ | refine Ext.alloc ?_ _ | refine Ext.drew ?_ | refine Ext.setB ?_ (by first | omega | (simp only [size_alloc, size_setB, size_drew]; omega)) _ | exact Ext.trans (by assumption) (by assumption) | refine Ext.trans ?_ (by assumption)))) hA (by omega)) ?_)
  rintro _ w160_0 ⟨hE160_0, rfl⟩
  have hz160_0 := hE160_0.1
  try simp only [size_alloc, size_setB, size_drew] at hz160_0
  refine WO_allocG Hvad.zeroValue59 ?_
  intro b7 v7 hg7 hE7 hH7 hl7
  try simp only [size_alloc, size_setB, size_drew] at hg7
  have hzz7 := hE7.1
  try simp only [size_alloc, size_setB, size_drew] at hzz7
  replace hH7 : Hb v7 b7 (.cells (ic .u64 [0, 0, 0, 0]) 59 (0, 0)) := hH7
  first | refine WO_storeW Hvad.sizeOf59 rfl (v := .agg _) rfl (Hb.h (by repeat (first | assumption | exact Hb.newY _ _ | refine Hb.alloc ?_ | refine Hb.drew ?_ | refine Hb.ext (by assumption) ?_ | exact Hb.setSameL (by first | omega | (simp only [size_alloc, size_setB, size_drew]; omega)) | exact Hb.setSame (by assumption) | refine Hb.set (by first | omega | (simp only [size_alloc, size_setB, size_drew]; omega)) ?_ ))) rfl (by first | omega | assumption | rfl | decide | exact Nat.le_refl _ | (simp only [size_ic, Value.cells]; omega) | simp) (by first | omega | assumption | rfl | decide | exact Nat.le_refl _ | (simp only [size_ic, Value.cells]; omega) | simp) (by first | exact oneCell_ic | assumption) ?_ | refine WO_store Hvad.sizeOf59 rfl (v := .agg _) rfl (Hb.h (by repeat (first | assumption | exact Hb.newY _ _ | refine Hb.alloc ?_ | refine Hb.drew ?_ | refine Hb.ext (by assumption) ?_ | exact Hb.setSameL (by first | omega | (simp only [size_alloc, size_setB, size_drew]; omega)) | exact Hb.setSame (by assumption) | refine Hb.set (by first | omega | (simp only [size_alloc, size_setB, size_drew]; omega)) ?_ ))) (by first | omega | assumption | rfl | decide | exact Nat.le_refl _ | (simp only [size_ic, Value.cells]; omega) | simp) (by first | omega | assumption | rfl | decide | exact Nat.le_refl _ | (simp only [size_ic, Value.cells]; omega) | simp) (by first | exact oneCell_ic | assumption) ?_
  refine WO_nil ?_
  refine thn_normal ?_
  refine W_seq ?_
  refine W_drawF [false, false, false, false, false, false, false, false, false, false, false, false, false, false, true, true, false, false, false] [14, 15] [0, 1, 2, 3, 4, 5, 6, 7, 8, 9, 10, 11, 12, 13, 16, 17, 18] hmix (by kernel_rfl) rfl rfl rfl ?_
  refine F_q (i := 0) rfl (by kernel_rfl) ?_
  refine WH_p (PS_move_ptr rfl) rfl ?_
  refine WH_nil ?_
  refine F_q (i := 1) rfl (by kernel_rfl) ?_
  refine WH_p (PS_nilCheck rfl) rfl ?_
  refine WH_nil ?_
  refine F_q (i := 2) rfl (by kernel_rfl) ?_
  refine WH_p (PS_fieldAddr 0 Hvad.runUnderlying69 rfl Hvad.sizeOf53 rfl rfl) rfl ?_
  refine WH_nil ?_
  refine F_q (i := 3) rfl (by kernel_rfl) ?_
  refine WH_load (.pointer _) Hvad.isAgg53 rfl (Hb.h (by repeat (first | assumption | exact Hb.newY _ _ | refine Hb.alloc ?_ | refine Hb.drew ?_ | refine Hb.ext (by assumption) ?_ | exact Hb.setSameL (by first | omega | (simp only [size_alloc, size_setB, size_drew]; omega)) | exact Hb.setSame (by assumption) | refine Hb.set (by first | omega | (simp only [size_alloc, size_setB, size_drew]; omega)) ?_ ))) (Ce.h (by first | assumption | exact ⟨rfl⟩)) ?_
  refine WH_nil ?_
  refine F_q (i := 4) rfl (by kernel_rfl) ?_
  refine WH_p (PS_move_ptr rfl) rfl ?_
  refine WH_nil ?_
  refine F_q (i := 5) rfl (by kernel_rfl) ?_
  refine WH_p (PS_nilCheck rfl) rfl ?_
  refine WH_nil ?_
  refine F_q (i := 6) rfl (by kernel_rfl) ?_
  refine WH_p (PS_fieldAddr 9 Hvad.runUnderlying65 rfl Hvad.sizeOf25 rfl rfl) rfl ?_
  refine WH_nil ?_
  refine F_q (i := 7) rfl (by kernel_rfl) ?_
  refine WH_loadA _ Hvad.isAgg25 Hvad.sizeOf25 rfl (Hb.h (by repeat (first | assumption | exact Hb.newY _ _ | refine Hb.alloc ?_ | refine Hb.drew ?_ | refine Hb.ext (by assumption) ?_ | exact Hb.setSameL (by first | omega | (simp only [size_alloc, size_setB, size_drew]; omega)) | exact Hb.setSame (by assumption) | refine Hb.set (by first | omega | (simp only [size_alloc, size_setB, size_drew]; omega)) ?_ ))) (by first | omega | assumption | rfl | decide | exact Nat.le_refl _ | (simp only [size_ic, Value.cells]; omega) | simp) (Xt.h (by first | assumption | exact Xt.whole rfl rfl | exact Xt.whole rfl (by simp only [size_ic, Value.cells]; omega) | exact ⟨rfl⟩)) ?_
  refine WH_nil ?_
  refine F_q (i := 8) rfl (by kernel_rfl) ?_
  refine WH_loadA _ Hvad.isAgg59 Hvad.sizeOf59 rfl (Hb.h (by repeat (first | assumption | exact Hb.newY _ _ | refine Hb.alloc ?_ | refine Hb.drew ?_ | refine Hb.ext (by assumption) ?_ | exact Hb.setSameL (by first | omega | (simp only [size_alloc, size_setB, size_drew]; omega)) | exact Hb.setSame (by assumption) | refine Hb.set (by first | omega | (simp only [size_alloc, size_setB, size_drew]; omega)) ?_ ))) (by first | omega | assumption | rfl | decide | exact Nat.le_refl _ | (simp only [size_ic, Value.cells]; omega) | simp) (Xt.h (by first | assumption | exact Xt.whole rfl rfl | exact Xt.whole rfl (by simp only [size_ic, Value.cells]; omega) | exact ⟨rfl⟩)) ?_
  refine WH_nil ?_
  refine F_fork2 (i := 9) rfl rfl rfl rfl ?_ ?_ ?_
  · refine WH_call Hvad.call201 (by rfl) (Ret.mono (peek_spec C c v B (bb m) _ _ _ (VS.ext hM.vs (by repeat (first | assumption | exact Ext.refl _ | refine Ext.alloc ?_ _ | refine Ext.drew ?_ | refine Ext.setB ?_ (by first | omega | (simp only [size_alloc, size_setB, size_drew]; omega)) _ | exact Ext.trans (by assumption) (by assumption) | refine Ext.trans ?_ (by assumption)))) (by first | assumption | exact addrW_by _) (by first | assumption | exact argW_wd hM.ty _ _ | exact Wd0)) ?_)
    rintro _ w201_1 ⟨rfl, hE201_1⟩
    refine ⟨(fun h => by cases h), ?_⟩
    have hz201_1 := hE201_1.1
    try simp only [size_alloc, size_setB, size_drew] at hz201_1
    refine WH_nil ?_
    refine F_q (i := 10) rfl (by kernel_rfl) ?_
    refine WH_p (PS_move_tuple rfl) rfl ?_
    refine WH_nil ?_
    refine F_q (i := 11) rfl (by kernel_rfl) ?_
    refine WH_p (PS_extract_agg rfl rfl) rfl ?_
    refine WH_nil ?_
    refine F_q (i := 12) rfl (by kernel_rfl) ?_
    refine WH_p (PS_extract_agg rfl rfl) rfl ?_
    refine WH_nil ?_
    refine F_q (i := 13) rfl (by kernel_rfl) ?_
    refine WH_p (PS_extract_bool rfl rfl) rfl ?_
    refine WH_nil ?_
    refine F_fork2B (i := 16) (by kernel_rfl) rfl rfl rfl ?_ ?_
    · refine WH_allocG Hvad.zeroValue59 ?_
      intro b8 v8 hg8 hE8 hH8 hl8
      try simp only [size_alloc, size_setB, size_drew] at hg8
      have hzz8 := hE8.1
      try simp only [size_alloc, size_setB, size_drew] at hzz8
      replace hH8 : Hb v8 b8 (.cells (ic .u64 [0, 0, 0, 0]) 59 (0, 0)) := hH8
      refine ⟨fun _ => (by repeat (first | assumption | exact Ext.refl _ | refine Ext.alloc ?_ _ | refine Ext.drew ?_ | refine Ext.setB ?_ (by first | omega | (simp only [size_alloc, size_setB, size_drew]; omega)) _ | exact Ext.trans (by assumption) (by assumption) | refine Ext.trans ?_ (by assumption))), ?_⟩
      refine WH_nil ?_
      refine F_fork1B (i := 16) (by kernel_rfl) rfl ?_
      · refine WH_allocG Hvad.zeroValue59 ?_
        intro b9 v9 hg9 hE9 hH9 hl9
        try simp only [size_alloc, size_setB, size_drew] at hg9
        have hzz9 := hE9.1
        try simp only [size_alloc, size_setB, size_drew] at hzz9
        replace hH9 : Hb v9 b9 (.cells (ic .u64 [0, 0, 0, 0]) 59 (0, 0)) := hH9
        refine ⟨fun _ => (by repeat (first | assumption | exact Ext.refl _ | refine Ext.alloc ?_ _ | refine Ext.drew ?_ | refine Ext.setB ?_ (by first | omega | (simp only [size_alloc, size_setB, size_drew]; omega)) _ | exact Ext.trans (by assumption) (by assumption) | refine Ext.trans ?_ (by assumption))), ?_⟩
        refine WH_nil ?_
        refine F_q (i := 16) rfl (by kernel_rfl) ?_
        first | refine WH_storeW Hvad.sizeOf59 rfl (v := .agg _) rfl (Hb.h (by repeat (first | assumption | exact Hb.newY _ _ | refine Hb.alloc ?_ | refine Hb.drew ?_ | refine Hb.ext (by assumption) ?_ | exact Hb.setSameL (by first | omega | (simp only [size_alloc, size_setB, size_drew]; omega)) | exact Hb.setSame (by assumption) | refine Hb.set (by first | omega | (simp only [size_alloc, size_setB, size_drew]; omega)) ?_ ))) rfl (by first | omega | assumption | rfl | decide | exact Nat.le_refl _ | (simp only [size_ic, Value.cells]; omega) | simp) (by first | omega | assumption | rfl | decide | exact Nat.le_refl _ | (simp only [size_ic, Value.cells]; omega) | simp) (by first | exact oneCell_ic | assumption) (fun h => by cases h) ?_ | refine WH_store Hvad.sizeOf59 rfl (v := .agg _) rfl (Hb.h (by repeat (first | assumption | exact Hb.newY _ _ | refine Hb.alloc ?_ | refine Hb.drew ?_ | refine Hb.ext (by assumption) ?_ | exact Hb.setSameL (by first | omega | (simp only [size_alloc, size_setB, size_drew]; omega)) | exact Hb.setSame (by assumption) | refine Hb.set (by first | omega | (simp only [size_alloc, size_setB, size_drew]; omega)) ?_ ))) (by first | omega | assumption | rfl | decide | exact Nat.le_refl _ | (simp only [size_ic, Value.cells]; omega) | simp) (by first | omega | assumption | rfl | decide | exact Nat.le_refl _ | (simp only [size_ic, Value.cells]; omega) | simp) (by first | exact oneCell_ic | assumption) (fun h => by cases h) ?_
        refine WH_nil ?_
        refine F_q (i := 17) rfl (by kernel_rfl) ?_
        first | refine WH_storeW Hvad.sizeOf59 rfl (v := .agg _) rfl (Hb.h (by repeat (first | assumption | exact Hb.newY _ _ | refine Hb.alloc ?_ | refine Hb.drew ?_ | refine Hb.ext (by assumption) ?_ | exact Hb.setSameL (by first | omega | (simp only [size_alloc, size_setB, size_drew]; omega)) | exact Hb.setSame (by assumption) | refine Hb.set (by first | omega | (simp only [size_alloc, size_setB, size_drew]; omega)) ?_ ))) rfl (by first | omega | assumption | rfl | decide | exact Nat.le_refl _ | (simp only [size_ic, Value.cells]; omega) | simp) (by first | omega | assumption | rfl | decide | exact Nat.le_refl _ | (simp only [size_ic, Value.cells]; omega) | simp) (by first | exact oneCell_ic | assumption) (fun h => by cases h) ?_ | refine WH_store Hvad.sizeOf59 rfl (v := .agg _) rfl (Hb.h (by repeat (first | assumption | exact Hb.newY _ _ | refine Hb.alloc ?_ | refine Hb.drew ?_ | refine Hb.ext (by assumption) ?_ | exact Hb.setSameL (by first | omega | (simp only [size_alloc, size_setB, size_drew]; omega)) | exact Hb.setSame (by assumption) | refine Hb.set (by first | omega | (simp only [size_alloc, size_setB, size_drew]; omega)) ?_ ))) (by first | omega | assumption | rfl | decide | exact Nat.le_refl _ | (simp only [size_ic, Value.cells]; omega) | simp) (by first | omega | assumption | rfl | decide | exact Nat.le_refl _ | (simp only [size_ic, Value.cells]; omega) | simp) (by first | exact oneCell_ic | assumption) (fun h => by cases h) ?_
        refine WH_nil ?_
        refine F_q (i := 18) rfl (by kernel_rfl) ?_
        refine WH_p (PS_assign_bool rfl) rfl ?_
        refine WH_nil ?_
        refine F_end ?_
        refine thn_normal ?_
        refine W_seq ?_
        refine W_drawE [false, false, false, false, true, false, false, false, false, false, false, false, false, false] hmix (by kernel_rfl) rfl ?_
        refine WH_loadA _ Hvad.isAgg59 Hvad.sizeOf59 rfl (Hb.h (by repeat (first | assumption | exact Hb.newY _ _ | refine Hb.alloc ?_ | refine Hb.drew ?_ | refine Hb.ext (by assumption) ?_ | exact Hb.setSameL (by first | omega | (simp only [size_alloc, size_setB, size_drew]; omega)) | exact Hb.setSame (by assumption) | refine Hb.set (by first | omega | (simp only [size_alloc, size_setB, size_drew]; omega)) ?_ ))) (by first | omega | assumption | rfl | decide | exact Nat.le_refl _ | (simp only [size_ic, Value.cells]; omega) | simp) (Xt.h (by first | assumption | exact Xt.whole rfl rfl | exact Xt.whole rfl (by simp only [size_ic, Value.cells]; omega) | exact ⟨rfl⟩)) ?_
        refine WH_loadA _ Hvad.isAgg59 Hvad.sizeOf59 rfl (Hb.h (by repeat (first | assumption | exact Hb.newY _ _ | refine Hb.alloc ?_ | refine Hb.drew ?_ | refine Hb.ext (by assumption) ?_ | exact Hb.setSameL (by first | omega | (simp only [size_alloc, size_setB, size_drew]; omega)) | exact Hb.setSame (by assumption) | refine Hb.set (by first | omega | (simp only [size_alloc, size_setB, size_drew]; omega)) ?_ ))) (by first | omega | assumption | rfl | decide | exact Nat.le_refl _ | (simp only [size_ic, Value.cells]; omega) | simp) (Xt.h (by first | assumption | exact Xt.whole rfl rfl | exact Xt.whole rfl (by simp only [size_ic, Value.cells]; omega) | exact ⟨rfl⟩)) ?_
        refine WH_p (PS_move_ptr rfl) rfl ?_
        refine WH_p (PS_move_ptr rfl) rfl ?_
        refine WH_call Hvad.call160 (by rfl) (Ret.mono (arg_spec C c v B m t f _ _ (MS.ext hM (by repeat (first | assumption | exact Ext.refl _ | refine Ext.alloc ?_ _ | refine Ext.drew ?_ | refine Ext.setB ?_ (by first | omega | (simp only [size_alloc, size_setB, size_drew]; omega)) _ | exact Ext.trans (by assumption) (by assumption) | refine Ext.trans ?_ (by assumption)))) hA (by omega)) ?_)
        rintro _ w160_3 ⟨hE160_3, rfl⟩
        refine ⟨fun _ => (by repeat (first | assumption | exact Ext.refl _ | refine Ext.alloc ?_ _ | refine Ext.drew ?_ | refine Ext.setB ?_ (by first | omega | (simp only [size_alloc, size_setB, size_drew]; omega)) _ | exact Ext.trans (by assumption) (by assumption) | refine Ext.trans ?_ (by assumption))), ?_⟩
        have hz160_3 := hE160_3.1
        try simp only [size_alloc, size_setB, size_drew] at hz160_3
        refine WH_p (PS_move_bool rfl) rfl ?_
        refine WH_p (PS_not rfl) rfl ?_
        refine WH_call Hvad.call202 (by rfl) (Ret.mono (sstoreR_spec _ _ _ _ _ (by assumption) (by assumption) (by assumption)) ?_)
        rintro _ w202_5 ⟨hE202_5, rfl⟩
        refine ⟨(fun h => by cases h), ?_⟩
        have hz202_5 := hE202_5.1
        try simp only [size_alloc, size_setB, size_drew] at hz202_5
        refine WH_p (PS_extract_int rfl rfl) rfl ?_
        refine WH_p (PS_extract_int rfl rfl) rfl ?_
        refine WH_p (PS_extract_int rfl rfl) rfl ?_
        refine WH_p (PS_assign_int rfl) rfl ?_
        refine WH_p (PS_assign_int rfl) rfl ?_
        refine WH_p (PS_assign_int rfl) rfl ?_
        refine WH_nil ?_
        refine thn_normal ?_
        refine W_ret ?_
        refine bodyQ_ret3 Hvad.results247 rfl rfl rfl (.int _ _) (.int _ _) (.int _ _) rfl rfl rfl ?_
        exact ⟨(by repeat (first | assumption | exact Ext.refl _ | refine Ext.alloc ?_ _ | refine Ext.drew ?_ | refine Ext.setB ?_ (by first | omega | (simp only [size_alloc, size_setB, size_drew]; omega)) _ | refine Ext.trans ?_ (by assumption))), rfl⟩
    · refine WH_allocG Hvad.zeroValue59 ?_
      intro b9 v9 hg9 hE9 hH9 hl9
      try simp only [size_alloc, size_setB, size_drew] at hg9
      have hzz9 := hE9.1
      try simp only [size_alloc, size_setB, size_drew] at hzz9
      replace hH9 : Hb v9 b9 (.cells (ic .u64 [0, 0, 0, 0]) 59 (0, 0)) := hH9
      refine ⟨fun _ => (by repeat (first | assumption | exact Ext.refl _ | refine Ext.alloc ?_ _ | refine Ext.drew ?_ | refine Ext.setB ?_ (by first | omega | (simp only [size_alloc, size_setB, size_drew]; omega)) _ | exact Ext.trans (by assumption) (by assumption) | refine Ext.trans ?_ (by assumption))), ?_⟩
      refine WH_nil ?_
      refine F_fork1B (i := 16) (by kernel_rfl) rfl ?_
      · refine WH_allocG Hvad.zeroValue59 ?_
        intro b8 v8 hg8 hE8 hH8 hl8
        try simp only [size_alloc, size_setB, size_drew] at hg8
        have hzz8 := hE8.1
        try simp only [size_alloc, size_setB, size_drew] at hzz8
        replace hH8 : Hb v8 b8 (.cells (ic .u64 [0, 0, 0, 0]) 59 (0, 0)) := hH8
        refine ⟨fun _ => (by repeat (first | assumption | exact Ext.refl _ | refine Ext.alloc ?_ _ | refine Ext.drew ?_ | refine Ext.setB ?_ (by first | omega | (simp only [size_alloc, size_setB, size_drew]; omega)) _ | exact Ext.trans (by assumption) (by assumption) | refine Ext.trans ?_ (by assumption))), ?_⟩
        refine WH_nil ?_
        refine F_q (i := 16) rfl (by kernel_rfl) ?_
        first | refine WH_storeW Hvad.sizeOf59 rfl (v := .agg _) rfl (Hb.h (by repeat (first | assumption | exact Hb.newY _ _ | refine Hb.alloc ?_ | refine Hb.drew ?_ | refine Hb.ext (by assumption) ?_ | exact Hb.setSameL (by first | omega | (simp only [size_alloc, size_setB, size_drew]; omega)) | exact Hb.setSame (by assumption) | refine Hb.set (by first | omega | (simp only [size_alloc, size_setB, size_drew]; omega)) ?_ ))) rfl (by first | omega | assumption | rfl | decide | exact Nat.le_refl _ | (simp only [size_ic, Value.cells]; omega) | simp) (by first | omega | assumption | rfl | decide | exact Nat.le_refl _ | (simp only [size_ic, Value.cells]; omega) | simp) (by first | exact oneCell_ic | assumption) (fun h => by cases h) ?_ | refine WH_store Hvad.sizeOf59 rfl (v := .agg _) rfl (Hb.h (by repeat (first | assumption | exact Hb.newY _ _ | refine Hb.alloc ?_ | refine Hb.drew ?_ | refine Hb.ext (by assumption) ?_ | exact Hb.setSameL (by first | omega | (simp only [size_alloc, size_setB, size_drew]; omega)) | exact Hb.setSame (by assumption) | refine Hb.set (by first | omega | (simp only [size_alloc, size_setB, size_drew]; omega)) ?_ ))) (by first | omega | assumption | rfl | decide | exact Nat.le_refl _ | (simp only [size_ic, Value.cells]; omega) | simp) (by first | omega | assumption | rfl | decide | exact Nat.le_refl _ | (simp only [size_ic, Value.cells]; omega) | simp) (by first | exact oneCell_ic | assumption) (fun h => by cases h) ?_
        refine WH_nil ?_
        refine F_q (i := 17) rfl (by kernel_rfl) ?_
        first | refine WH_storeW Hvad.sizeOf59 rfl (v := .agg _) rfl (Hb.h (by repeat (first | assumption | exact Hb.newY _ _ | refine Hb.alloc ?_ | refine Hb.drew ?_ | refine Hb.ext (by assumption) ?_ | exact Hb.setSameL (by first | omega | (simp only [size_alloc, size_setB, size_drew]; omega)) | exact Hb.setSame (by assumption) | refine Hb.set (by first | omega | (simp only [size_alloc, size_setB, size_drew]; omega)) ?_ ))) rfl (by first | omega | assumption | rfl | decide | exact Nat.le_refl _ | (simp only [size_ic, Value.cells]; omega) | simp) (by first | omega | assumption | rfl | decide | exact Nat.le_refl _ | (simp only [size_ic, Value.cells]; omega) | simp) (by first | exact oneCell_ic | assumption) (fun h => by cases h) ?_ | refine WH_store Hvad.sizeOf59 rfl (v := .agg _) rfl (Hb.h (by repeat (first | assumption | exact Hb.newY _ _ | refine Hb.alloc ?_ | refine Hb.drew ?_ | refine Hb.ext (by assumption) ?_ | exact Hb.setSameL (by first | omega | (simp only [size_alloc, size_setB, size_drew]; omega)) | exact Hb.setSame (by assumption) | refine Hb.set (by first | omega | (simp only [size_alloc, size_setB, size_drew]; omega)) ?_ ))) (by first | omega | assumption | rfl | decide | exact Nat.le_refl _ | (simp only [size_ic, Value.cells]; omega) | simp) (by first | omega | assumption | rfl | decide | exact Nat.le_refl _ | (simp only [size_ic, Value.cells]; omega) | simp) (by first | exact oneCell_ic | assumption) (fun h => by cases h) ?_
        refine WH_nil ?_
        refine F_q (i := 18) rfl (by kernel_rfl) ?_
        refine WH_p (PS_assign_bool rfl) rfl ?_
        refine WH_nil ?_
        refine F_end ?_
        refine thn_normal ?_
        refine W_seq ?_
        refine W_drawE [false, false, false, false, true, false, false, false, false, false, false, false, false, false] hmix (by kernel_rfl) rfl ?_
        refine WH_loadA _ Hvad.isAgg59 Hvad.sizeOf59 rfl (Hb.h (by repeat (first | assumption | exact Hb.newY _ _ | refine Hb.alloc ?_ | refine Hb.drew ?_ | refine Hb.ext (by assumption) ?_ | exact Hb.setSameL (by first | omega | (simp only [size_alloc, size_setB, size_drew]; omega)) | exact Hb.setSame (by assumption) | refine Hb.set (by first | omega | (simp only [size_alloc, size_setB, size_drew]; omega)) ?_ ))) (by first | omega | assumption | rfl | decide | exact Nat.le_refl _ | (simp only [size_ic, Value.cells]; omega) | simp) (Xt.h (by first | assumption | exact Xt.whole rfl rfl | exact Xt.whole rfl (by simp only [size_ic, Value.cells]; omega) | exact ⟨rfl⟩)) ?_
        refine WH_loadA _ Hvad.isAgg59 Hvad.sizeOf59 rfl (Hb.h (by repeat (first | assumption | exact Hb.newY _ _ | refine Hb.alloc ?_ | refine Hb.drew ?_ | refine Hb.ext (by assumption) ?_ | exact Hb.setSameL (by first | omega | (simp only [size_alloc, size_setB, size_drew]; omega)) | exact Hb.setSame (by assumption) | refine Hb.set (by first | omega | (simp only [size_alloc, size_setB, size_drew]; omega)) ?_ ))) (by first | omega | assumption | rfl | decide | exact Nat.le_refl _ | (simp only [size_ic, Value.cells]; omega) | simp) (Xt.h (by first | assumption | exact Xt.whole rfl rfl | exact Xt.whole rfl (by simp only [size_ic, Value.cells]; omega) | exact ⟨rfl⟩)) ?_
        refine WH_p (PS_move_ptr rfl) rfl ?_
        refine WH_p (PS_move_ptr rfl) rfl ?_
        refine WH_call Hvad.call160 (by rfl) (Ret.mono (arg_spec C c v B m t f _ _ (MS.ext hM (by repeat (first | assumption | exact Ext.refl _ | refine Ext.alloc ?_ _ | refine Ext.drew ?_ | refine Ext.setB ?_ (by first | omega | (simp only [size_alloc, size_setB, size_drew]; omega)) _ | exact Ext.trans (by assumption) (by assumption) | refine Ext.trans ?_ (by assumption)))) hA (by omega)) ?_)
        rintro _ w160_7 ⟨hE160_7, rfl⟩
        refine ⟨fun _ => (by repeat (first | assumption | exact Ext.refl _ | refine Ext.alloc ?_ _ | refine Ext.drew ?_ | refine Ext.setB ?_ (by first | omega | (simp only [size_alloc, size_setB, size_drew]; omega)) _ | exact Ext.trans (by assumption) (by assumption) | refine Ext.trans ?_ (by assumption))), ?_⟩
        have hz160_7 := hE160_7.1
        try simp only [size_alloc, size_setB, size_drew] at hz160_7
        refine WH_p (PS_move_bool rfl) rfl ?_
        refine WH_p (PS_not rfl) rfl ?_
        refine WH_call Hvad.call202 (by rfl) (Ret.mono (sstoreR_spec _ _ _ _ _ (by assumption) (by assumption) (by assumption)) ?_)
        rintro _ w202_9 ⟨hE202_9, rfl⟩
        refine ⟨(fun h => by cases h), ?_⟩
        have hz202_9 := hE202_9.1
        try simp only [size_alloc, size_setB, size_drew] at hz202_9
        refine WH_p (PS_extract_int rfl rfl) rfl ?_
        refine WH_p (PS_extract_int rfl rfl) rfl ?_
        refine WH_p (PS_extract_int rfl rfl) rfl ?_
        refine WH_p (PS_assign_int rfl) rfl ?_
        refine WH_p (PS_assign_int rfl) rfl ?_
        refine WH_p (PS_assign_int rfl) rfl ?_
        refine WH_nil ?_
        refine thn_normal ?_
        refine W_ret ?_
        refine bodyQ_ret3 Hvad.results247 rfl rfl rfl (.int _ _) (.int _ _) (.int _ _) rfl rfl rfl ?_
        exact ⟨(by repeat (first | assumption | exact Ext.refl _ | refine Ext.alloc ?_ _ | refine Ext.drew ?_ | refine Ext.setB ?_ (by first | omega | (simp only [size_alloc, size_setB, size_drew]; omega)) _ | refine Ext.trans ?_ (by assumption))), rfl⟩
  · refine WH_allocG Hvad.zeroValue59 ?_
    intro b8 v8 hg8 hE8 hH8 hl8
    try simp only [size_alloc, size_setB, size_drew] at hg8
    have hzz8 := hE8.1
    try simp only [size_alloc, size_setB, size_drew] at hzz8
    replace hH8 : Hb v8 b8 (.cells (ic .u64 [0, 0, 0, 0]) 59 (0, 0)) := hH8
    refine ⟨fun _ => (by repeat (first | assumption | exact Ext.refl _ | refine Ext.alloc ?_ _ | refine Ext.drew ?_ | refine Ext.setB ?_ (by first | omega | (simp only [size_alloc, size_setB, size_drew]; omega)) _ | exact Ext.trans (by assumption) (by assumption) | refine Ext.trans ?_ (by assumption))), ?_⟩
    refine WH_nil ?_
    refine F_fork1 (i := 9) rfl rfl ?_ ?_
    · refine WH_call Hvad.call201 (by rfl) (Ret.mono (peek_spec C c v B (bb m) _ _ _ (VS.ext hM.vs (by repeat (first | assumption | exact Ext.refl _ | refine Ext.alloc ?_ _ | refine Ext.drew ?_ | refine Ext.setB ?_ (by first | omega | (simp only [size_alloc, size_setB, size_drew]; omega)) _ | exact Ext.trans (by assumption) (by assumption) | refine Ext.trans ?_ (by assumption)))) (by first | assumption | exact addrW_by _) (by first | assumption | exact argW_wd hM.ty _ _ | exact Wd0)) ?_)
      rintro _ w201_10 ⟨rfl, hE201_10⟩
      refine ⟨(fun h => by cases h), ?_⟩
      have hz201_10 := hE201_10.1
      try simp only [size_alloc, size_setB, size_drew] at hz201_10
      refine WH_nil ?_
      refine F_q (i := 10) rfl (by kernel_rfl) ?_
      refine WH_p (PS_move_tuple rfl) rfl ?_
      refine WH_nil ?_
      refine F_q (i := 11) rfl (by kernel_rfl) ?_
      refine WH_p (PS_extract_agg rfl rfl) rfl ?_
      refine WH_nil ?_
      refine F_q (i := 12) rfl (by kernel_rfl) ?_
      refine WH_p (PS_extract_agg rfl rfl) rfl ?_
      refine WH_nil ?_
      refine F_q (i := 13) rfl (by kernel_rfl) ?_
      refine WH_p (PS_extract_bool rfl rfl) rfl ?_
      refine WH_nil ?_
      refine F_fork1B (i := 16) (by kernel_rfl) rfl ?_
      · refine WH_allocG Hvad.zeroValue59 ?_
        intro b9 v9 hg9 hE9 hH9 hl9
        try simp only [size_alloc, size_setB, size_drew] at hg9
        have hzz9 := hE9.1
        try simp only [size_alloc, size_setB, size_drew] at hzz9
        replace hH9 : Hb v9 b9 (.cells (ic .u64 [0, 0, 0, 0]) 59 (0, 0)) := hH9
        refine ⟨fun _ => (by repeat (first | assumption | exact Ext.refl _ | refine Ext.alloc ?_ _ | refine Ext.drew ?_ | refine Ext.setB ?_ (by first | omega | (simp only [size_alloc, size_setB, size_drew]; omega)) _ | exact Ext.trans (by assumption) (by assumption) | refine Ext.trans ?_ (by assumption))), ?_⟩
        refine WH_nil ?_
        refine F_q (i := 16) rfl (by kernel_rfl) ?_
        first | refine WH_storeW Hvad.sizeOf59 rfl (v := .agg _) rfl (Hb.h (by repeat (first | assumption | exact Hb.newY _ _ | refine Hb.alloc ?_ | refine Hb.drew ?_ | refine Hb.ext (by assumption) ?_ | exact Hb.setSameL (by first | omega | (simp only [size_alloc, size_setB, size_drew]; omega)) | exact Hb.setSame (by assumption) | refine Hb.set (by first | omega | (simp only [size_alloc, size_setB, size_drew]; omega)) ?_ ))) rfl (by first | omega | assumption | rfl | decide | exact Nat.le_refl _ | (simp only [size_ic, Value.cells]; omega) | simp) (by first | omega | assumption | rfl | decide | exact Nat.le_refl _ | (simp only [size_ic, Value.cells]; omega) | simp) (by first | exact oneCell_ic | assumption) (fun h => by cases h) ?_ | refine WH_store Hvad.sizeOf59 rfl (v := .agg _) rfl (Hb.h (by repeat (first | assumption | exact Hb.newY _ _ | refine Hb.alloc ?_ | refine Hb.drew ?_ | refine Hb.ext (by assumption) ?_ | exact Hb.setSameL (by first | omega | (simp only [size_alloc, size_setB, size_drew]; omega)) | exact Hb.setSame (by assumption) | refine Hb.set (by first | omega | (simp only [size_alloc, size_setB, size_drew]; omega)) ?_ ))) (by first | omega | assumption | rfl | decide | exact Nat.le_refl _ | (simp only [size_ic, Value.cells]; omega) | simp) (by first | omega | assumption | rfl | decide | exact Nat.le_refl _ | (simp only [size_ic, Value.cells]; omega) | simp) (by first | exact oneCell_ic | assumption) (fun h => by cases h) ?_
        refine WH_nil ?_
        refine F_q (i := 17) rfl (by kernel_rfl) ?_
        first | refine WH_storeW Hvad.sizeOf59 rfl (v := .agg _) rfl (Hb.h (by repeat (first | assumption | exact Hb.newY _ _ | refine Hb.alloc ?_ | refine Hb.drew ?_ | refine Hb.ext (by assumption) ?_ | exact Hb.setSameL (by first | omega | (simp only [size_alloc, size_setB, size_drew]; omega)) | exact Hb.setSame (by assumption) | refine Hb.set (by first | omega | (simp only [size_alloc, size_setB, size_drew]; omega)) ?_ ))) rfl (by first | omega | assumption | rfl | decide | exact Nat.le_refl _ | (simp only [size_ic, Value.cells]; omega) | simp) (by first | omega | assumption | rfl | decide | exact Nat.le_refl _ | (simp only [size_ic, Value.cells]; omega) | simp) (by first | exact oneCell_ic | assumption) (fun h => by cases h) ?_ | refine WH_store Hvad.sizeOf59 rfl (v := .agg _) rfl (Hb.h (by repeat (first | assumption | exact Hb.newY _ _ | refine Hb.alloc ?_ | refine Hb.drew ?_ | refine Hb.ext (by assumption) ?_ | exact Hb.setSameL (by first | omega | (simp only [size_alloc, size_setB, size_drew]; omega)) | exact Hb.setSame (by assumption) | refine Hb.set (by first | omega | (simp only [size_alloc, size_setB, size_drew]; omega)) ?_ ))) (by first | omega | assumption | rfl | decide | exact Nat.le_refl _ | (simp only [size_ic, Value.cells]; omega) | simp) (by first | omega | assumption | rfl | decide | exact Nat.le_refl _ | (simp only [size_ic, Value.cells]; omega) | simp) (by first | exact oneCell_ic | assumption) (fun h => by cases h) ?_
        refine WH_nil ?_
        refine F_q (i := 18) rfl (by kernel_rfl) ?_
        refine WH_p (PS_assign_bool rfl) rfl ?_
        refine WH_nil ?_
        refine F_end ?_
        refine thn_normal ?_
        refine W_seq ?_
        refine W_drawE [false, false, false, false, true, false, false, false, false, false, false, false, false, false] hmix (by kernel_rfl) rfl ?_
        refine WH_loadA _ Hvad.isAgg59 Hvad.sizeOf59 rfl (Hb.h (by repeat (first | assumption | exact Hb.newY _ _ | refine Hb.alloc ?_ | refine Hb.drew ?_ | refine Hb.ext (by assumption) ?_ | exact Hb.setSameL (by first | omega | (simp only [size_alloc, size_setB, size_drew]; omega)) | exact Hb.setSame (by assumption) | refine Hb.set (by first | omega | (simp only [size_alloc, size_setB, size_drew]; omega)) ?_ ))) (by first | omega | assumption | rfl | decide | exact Nat.le_refl _ | (simp only [size_ic, Value.cells]; omega) | simp) (Xt.h (by first | assumption | exact Xt.whole rfl rfl | exact Xt.whole rfl (by simp only [size_ic, Value.cells]; omega) | exact ⟨rfl⟩)) ?_
        refine WH_loadA _ Hvad.isAgg59 Hvad.sizeOf59 rfl (Hb.h (by repeat (first | assumption | exact Hb.newY _ _ | refine Hb.alloc ?_ | refine Hb.drew ?_ | refine Hb.ext (by assumption) ?_ | exact Hb.setSameL (by first | omega | (simp only [size_alloc, size_setB, size_drew]; omega)) | exact Hb.setSame (by assumption) | refine Hb.set (by first | omega | (simp only [size_alloc, size_setB, size_drew]; omega)) ?_ ))) (by first | omega | assumption | rfl | decide | exact Nat.le_refl _ | (simp only [size_ic, Value.cells]; omega) | simp) (Xt.h (by first | assumption | exact Xt.whole rfl rfl | exact Xt.whole rfl (by simp only [size_ic, Value.cells]; omega) | exact ⟨rfl⟩)) ?_
        refine WH_p (PS_move_ptr rfl) rfl ?_
        refine WH_p (PS_move_ptr rfl) rfl ?_
        refine WH_call Hvad.call160 (by rfl) (Ret.mono (arg_spec C c v B m t f _ _ (MS.ext hM (by repeat (first | assumption | exact Ext.refl _ | refine Ext.alloc ?_ _ | refine Ext.drew ?_ | refine Ext.setB ?_ (by first | omega | (simp only [size_alloc, size_setB, size_drew]; omega)) _ | exact Ext.trans (by assumption) (by assumption) | refine Ext.trans ?_ (by assumption)))) hA (by omega)) ?_)
        rintro _ w160_12 ⟨hE160_12, rfl⟩
        refine ⟨fun _ => (by repeat (first | assumption | exact Ext.refl _ | refine Ext.alloc ?_ _ | refine Ext.drew ?_ | refine Ext.setB ?_ (by first | omega | (simp only [size_alloc, size_setB, size_drew]; omega)) _ | exact Ext.trans (by assumption) (by assumption) | refine Ext.trans ?_ (by assumption))), ?_⟩
        have hz160_12 := hE160_12.1
        try simp only [size_alloc, size_setB, size_drew] at hz160_12
        refine WH_p (PS_move_bool rfl) rfl ?_
        refine WH_p (PS_not rfl) rfl ?_
        refine WH_call Hvad.call202 (by rfl) (Ret.mono (sstoreR_spec _ _ _ _ _ (by assumption) (by assumption) (by assumption)) ?_)
        rintro _ w202_14 ⟨hE202_14, rfl⟩
        refine ⟨(fun h => by cases h), ?_⟩
        have hz202_14 := hE202_14.1
        try simp only [size_alloc, size_setB, size_drew] at hz202_14
        refine WH_p (PS_extract_int rfl rfl) rfl ?_
        refine WH_p (PS_extract_int rfl rfl) rfl ?_
        refine WH_p (PS_extract_int rfl rfl) rfl ?_
        refine WH_p (PS_assign_int rfl) rfl ?_
        refine WH_p (PS_assign_int rfl) rfl ?_
        refine WH_p (PS_assign_int rfl) rfl ?_
        refine WH_nil ?_
        refine thn_normal ?_
        refine W_ret ?_
        refine bodyQ_ret3 Hvad.results247 rfl rfl rfl (.int _ _) (.int _ _) (.int _ _) rfl rfl rfl ?_
        exact ⟨(by repeat (first | assumption | exact Ext.refl _ | refine Ext.alloc ?_ _ | refine Ext.drew ?_ | refine Ext.setB ?_ (by first | omega | (simp only [size_alloc, size_setB, size_drew]; omega)) _ | refine Ext.trans ?_ (by assumption))), rfl⟩
    · refine WH_allocG Hvad.zeroValue59 ?_
      intro b9 v9 hg9 hE9 hH9 hl9
      try simp only [size_alloc, size_setB, size_drew] at hg9
      have hzz9 := hE9.1
      try simp only [size_alloc, size_setB, size_drew] at hzz9
      replace hH9 : Hb v9 b9 (.cells (ic .u64 [0, 0, 0, 0]) 59 (0, 0)) := hH9
      refine ⟨fun _ => (by repeat (first | assumption | exact Ext.refl _ | refine Ext.alloc ?_ _ | refine Ext.drew ?_ | refine Ext.setB ?_ (by first | omega | (simp only [size_alloc, size_setB, size_drew]; omega)) _ | exact Ext.trans (by assumption) (by assumption) | refine Ext.trans ?_ (by assumption))), ?_⟩
      refine WH_nil ?_
      refine F_q (i := 9) rfl (by kernel_rfl) ?_
      refine WH_call Hvad.call201 (by rfl) (Ret.mono (peek_spec C c v B (bb m) _ _ _ (VS.ext hM.vs (by repeat (first | assumption | exact Ext.refl _ | refine Ext.alloc ?_ _ | refine Ext.drew ?_ | refine Ext.setB ?_ (by first | omega | (simp only [size_alloc, size_setB, size_drew]; omega)) _ | exact Ext.trans (by assumption) (by assumption) | refine Ext.trans ?_ (by assumption)))) (by first | assumption | exact addrW_by _) (by first | assumption | exact argW_wd hM.ty _ _ | exact Wd0)) ?_)
      rintro _ w201_15 ⟨rfl, hE201_15⟩
      refine ⟨(fun h => by cases h), ?_⟩
      have hz201_15 := hE201_15.1
      try simp only [size_alloc, size_setB, size_drew] at hz201_15
      refine WH_nil ?_
      refine F_q (i := 10) rfl (by kernel_rfl) ?_
      refine WH_p (PS_move_tuple rfl) rfl ?_
      refine WH_nil ?_
      refine F_q (i := 11) rfl (by kernel_rfl) ?_
      refine WH_p (PS_extract_agg rfl rfl) rfl ?_
      refine WH_nil ?_
      refine F_q (i := 12) rfl (by kernel_rfl) ?_
      refine WH_p (PS_extract_agg rfl rfl) rfl ?_
      refine WH_nil ?_
      refine F_q (i := 13) rfl (by kernel_rfl) ?_
      refine WH_p (PS_extract_bool rfl rfl) rfl ?_
      refine WH_nil ?_
      refine F_q (i := 16) rfl (by kernel_rfl) ?_
      first | refine WH_storeW Hvad.sizeOf59 rfl (v := .agg _) rfl (Hb.h (by repeat (first | assumption | exact Hb.newY _ _ | refine Hb.alloc ?_ | refine Hb.drew ?_ | refine Hb.ext (by assumption) ?_ | exact Hb.setSameL (by first | omega | (simp only [size_alloc, size_setB, size_drew]; omega)) | exact Hb.setSame (by assumption) | refine Hb.set (by first | omega | (simp only [size_alloc, size_setB, size_drew]; omega)) ?_ ))) rfl (by first | omega | assumption | rfl | decide | exact Nat.le_refl _ | (simp only [size_ic, Value.cells]; omega) | simp) (by first | omega | assumption | rfl | decide | exact Nat.le_refl _ | (simp only [size_ic, Value.cells]; omega) | simp) (by first | exact oneCell_ic | assumption) (fun h => by cases h) ?_ | refine WH_store Hvad.sizeOf59 rfl (v := .agg _) rfl (Hb.h (by repeat (first | assumption | exact Hb.newY _ _ | refine Hb.alloc ?_ | refine Hb.drew ?_ | refine Hb.ext (by assumption) ?_ | exact Hb.setSameL (by first | omega | (simp only [size_alloc, size_setB, size_drew]; omega)) | exact Hb.setSame (by assumption) | refine Hb.set (by first | omega | (simp only [size_alloc, size_setB, size_drew]; omega)) ?_ ))) (by first | omega | assumption | rfl | decide | exact Nat.le_refl _ | (simp only [size_ic, Value.cells]; omega) | simp) (by first | omega | assumption | rfl | decide | exact Nat.le_refl _ | (simp only [size_ic, Value.cells]; omega) | simp) (by first | exact oneCell_ic | assumption) (fun h => by cases h) ?_
      refine WH_nil ?_
      refine F_q (i := 17) rfl (by kernel_rfl) ?_
      first | refine WH_storeW Hvad.sizeOf59 rfl (v := .agg _) rfl (Hb.h (by repeat (first | assumption | exact Hb.newY _ _ | refine Hb.alloc ?_ | refine Hb.drew ?_ | refine Hb.ext (by assumption) ?_ | exact Hb.setSameL (by first | omega | (simp only [size_alloc, size_setB, size_drew]; omega)) | exact Hb.setSame (by assumption) | refine Hb.set (by first | omega | (simp only [size_alloc, size_setB, size_drew]; omega)) ?_ ))) rfl (by first | omega | assumption | rfl | decide | exact Nat.le_refl _ | (simp only [size_ic, Value.cells]; omega) | simp) (by first | omega | assumption | rfl | decide | exact Nat.le_refl _ | (simp only [size_ic, Value.cells]; omega) | simp) (by first | exact oneCell_ic | assumption) (fun h => by cases h) ?_ | refine WH_store Hvad.sizeOf59 rfl (v := .agg _) rfl (Hb.h (by repeat (first | assumption | exact Hb.newY _ _ | refine Hb.alloc ?_ | refine Hb.drew ?_ | refine Hb.ext (by assumption) ?_ | exact Hb.setSameL (by first | omega | (simp only [size_alloc, size_setB, size_drew]; omega)) | exact Hb.setSame (by assumption) | refine Hb.set (by first | omega | (simp only [size_alloc, size_setB, size_drew]; omega)) ?_ ))) (by first | omega | assumption | rfl | decide | exact Nat.le_refl _ | (simp only [size_ic, Value.cells]; omega) | simp) (by first | omega | assumption | rfl | decide | exact Nat.le_refl _ | (simp only [size_ic, Value.cells]; omega) | simp) (by first | exact oneCell_ic | assumption) (fun h => by cases h) ?_
      refine WH_nil ?_
      refine F_q (i := 18) rfl (by kernel_rfl) ?_
      refine WH_p (PS_assign_bool rfl) rfl ?_
      refine WH_nil ?_
      refine F_end ?_
      refine thn_normal ?_
      refine W_seq ?_
      refine W_drawE [false, false, false, false, true, false, false, false, false, false, false, false, false, false] hmix (by kernel_rfl) rfl ?_
      refine WH_loadA _ Hvad.isAgg59 Hvad.sizeOf59 rfl (Hb.h (by repeat (first | assumption | exact Hb.newY _ _ | refine Hb.alloc ?_ | refine Hb.drew ?_ | refine Hb.ext (by assumption) ?_ | exact Hb.setSameL (by first | omega | (simp only [size_alloc, size_setB, size_drew]; omega)) | exact Hb.setSame (by assumption) | refine Hb.set (by first | omega | (simp only [size_alloc, size_setB, size_drew]; omega)) ?_ ))) (by first | omega | assumption | rfl | decide | exact Nat.le_refl _ | (simp only [size_ic, Value.cells]; omega) | simp) (Xt.h (by first | assumption | exact Xt.whole rfl rfl | exact Xt.whole rfl (by simp only [size_ic, Value.cells]; omega) | exact ⟨rfl⟩)) ?_
      refine WH_loadA _ Hvad.isAgg59 Hvad.sizeOf59 rfl (Hb.h (by repeat (first | assumption | exact Hb.newY _ _ | refine Hb.alloc ?_ | refine Hb.drew ?_ | refine Hb.ext (by assumption) ?_ | exact Hb.setSameL (by first | omega | (simp only [size_alloc, size_setB, size_drew]; omega)) | exact Hb.setSame (by assumption) | refine Hb.set (by first | omega | (simp only [size_alloc, size_setB, size_drew]; omega)) ?_ ))) (by first | omega | assumption | rfl | decide | exact Nat.le_refl _ | (simp only [size_ic, Value.cells]; omega) | simp) (Xt.h (by first | assumption | exact Xt.whole rfl rfl | exact Xt.whole rfl (by simp only [size_ic, Value.cells]; omega) | exact ⟨rfl⟩)) ?_
      refine WH_p (PS_move_ptr rfl) rfl ?_
      refine WH_p (PS_move_ptr rfl) rfl ?_
      refine WH_call Hvad.call160 (by rfl) (Ret.mono (arg_spec C c v B m t f _ _ (MS.ext hM (by repeat (first | assumption | exact Ext.refl _ | refine Ext.alloc ?_ _ | refine Ext.drew ?_ | refine Ext.setB ?_ (by first | omega | (simp only [size_alloc, size_setB, size_drew]; omega)) _ | exact Ext.trans (by assumption) (by assumption) | refine Ext.trans ?_ (by assumption)))) hA (by omega)) ?_)
      rintro _ w160_17 ⟨hE160_17, rfl⟩
      refine ⟨fun _ => (by repeat (first | assumption | exact Ext.refl _ | refine Ext.alloc ?_ _ | refine Ext.drew ?_ | refine Ext.setB ?_ (by first | omega | (simp only [size_alloc, size_setB, size_drew]; omega)) _ | exact Ext.trans (by assumption) (by assumption) | refine Ext.trans ?_ (by assumption))), ?_⟩
      have hz160_17 := hE160_17.1
      try simp only [size_alloc, size_setB, size_drew] at hz160_17
      refine WH_p (PS_move_bool rfl) rfl ?_
      refine WH_p (PS_not rfl) rfl ?_
      refine WH_call Hvad.call202 (by rfl) (Ret.mono (sstoreR_spec _ _ _ _ _ (by assumption) (by assumption) (by assumption)) ?_)
      rintro _ w202_19 ⟨hE202_19, rfl⟩
      refine ⟨(fun h => by cases h), ?_⟩
      have hz202_19 := hE202_19.1
      try simp only [size_alloc, size_setB, size_drew] at hz202_19
      refine WH_p (PS_extract_int rfl rfl) rfl ?_
      refine WH_p (PS_extract_int rfl rfl) rfl ?_
      refine WH_p (PS_extract_int rfl rfl) rfl ?_
      refine WH_p (PS_assign_int rfl) rfl ?_
      refine WH_p (PS_assign_int rfl) rfl ?_
      refine WH_p (PS_assign_int rfl) rfl ?_
      refine WH_nil ?_
      refine thn_normal ?_
      refine W_ret ?_
      refine bodyQ_ret3 Hvad.results247 rfl rfl rfl (.int _ _) (.int _ _) (.int _ _) rfl rfl rfl ?_
      exact ⟨(by repeat (first | assumption | exact Ext.refl _ | refine Ext.alloc ?_ _ | refine Ext.drew ?_ | refine Ext.setB ?_ (by first | omega | (simp only [size_alloc, size_setB, size_drew]; omega)) _ | refine Ext.trans ?_ (by assumption))), rfl⟩
  · refine WH_allocG Hvad.zeroValue59 ?_
    intro b9 v9 hg9 hE9 hH9 hl9
    try simp only [size_alloc, size_setB, size_drew] at hg9
    have hzz9 := hE9.1
    try simp only [size_alloc, size_setB, size_drew] at hzz9
    replace hH9 : Hb v9 b9 (.cells (ic .u64 [0, 0, 0, 0]) 59 (0, 0)) := hH9
    refine ⟨fun _ => (by repeat (first | assumption | exact Ext.refl _ | refine Ext.alloc ?_ _ | refine Ext.drew ?_ | refine Ext.setB ?_ (by first | omega | (simp only [size_alloc, size_setB, size_drew]; omega)) _ | exact Ext.trans (by assumption) (by assumption) | refine Ext.trans ?_ (by assumption))), ?_⟩
    refine WH_nil ?_
    refine F_fork1 (i := 9) rfl rfl ?_ ?_
    · refine WH_call Hvad.call201 (by rfl) (Ret.mono (peek_spec C c v B (bb m) _ _ _ (VS.ext hM.vs (by repeat (first | assumption | exact Ext.refl _ | refine Ext.alloc ?_ _ | refine Ext.drew ?_ | refine Ext.setB ?_ (by first | omega | (simp only [size_alloc, size_setB, size_drew]; omega)) _ | exact Ext.trans (by assumption) (by assumption) | refine Ext.trans ?_ (by assumption)))) (by first | assumption | exact addrW_by _) (by first | assumption | exact argW_wd hM.ty _ _ | exact Wd0)) ?_)
      rintro _ w201_20 ⟨rfl, hE201_20⟩
      refine ⟨(fun h => by cases h), ?_⟩
      have hz201_20 := hE201_20.1
      try simp only [size_alloc, size_setB, size_drew] at hz201_20
      refine WH_nil ?_
      refine F_q (i := 10) rfl (by kernel_rfl) ?_
      refine WH_p (PS_move_tuple rfl) rfl ?_
      refine WH_nil ?_
      refine F_q (i := 11) rfl (by kernel_rfl) ?_
      refine WH_p (PS_extract_agg rfl rfl) rfl ?_
      refine WH_nil ?_
      refine F_q (i := 12) rfl (by kernel_rfl) ?_
      refine WH_p (PS_extract_agg rfl rfl) rfl ?_
      refine WH_nil ?_
      refine F_q (i := 13) rfl (by kernel_rfl) ?_
      refine WH_p (PS_extract_bool rfl rfl) rfl ?_
      refine WH_nil ?_
      refine F_fork1B (i := 16) (by kernel_rfl) rfl ?_
      · refine WH_allocG Hvad.zeroValue59 ?_
        intro b8 v8 hg8 hE8 hH8 hl8
        try simp only [size_alloc, size_setB, size_drew] at hg8
        have hzz8 := hE8.1
        try simp only [size_alloc, size_setB, size_drew] at hzz8
        replace hH8 : Hb v8 b8 (.cells (ic .u64 [0, 0, 0, 0]) 59 (0, 0)) := hH8
        refine ⟨fun _ => (by repeat (first | assumption | exact Ext.refl _ | refine Ext.alloc ?_ _ | refine Ext.drew ?_ | refine Ext.setB ?_ (by first | omega | (simp only [size_alloc, size_setB, size_drew]; omega)) _ | exact Ext.trans (by assumption) (by assumption) | refine Ext.trans ?_ (by assumption))), ?_⟩
        refine WH_nil ?_
        refine F_q (i := 16) rfl (by kernel_rfl) ?_
        first | refine WH_storeW Hvad.sizeOf59 rfl (v := .agg _) rfl (Hb.h (by repeat (first | assumption | exact Hb.newY _ _ | refine Hb.alloc ?_ | refine Hb.drew ?_ | refine Hb.ext (by assumption) ?_ | exact Hb.setSameL (by first | omega | (simp only [size_alloc, size_setB, size_drew]; omega)) | exact Hb.setSame (by assumption) | refine Hb.set (by first | omega | (simp only [size_alloc, size_setB, size_drew]; omega)) ?_ ))) rfl (by first | omega | assumption | rfl | decide | exact Nat.le_refl _ | (simp only [size_ic, Value.cells]; omega) | simp) (by first | omega | assumption | rfl | decide | exact Nat.le_refl _ | (simp only [size_ic, Value.cells]; omega) | simp) (by first | exact oneCell_ic | assumption) (fun h => by cases h) ?_ | refine WH_store Hvad.sizeOf59 rfl (v := .agg _) rfl (Hb.h (by repeat (first | assumption | exact Hb.newY _ _ | refine Hb.alloc ?_ | refine Hb.drew ?_ | refine Hb.ext (by assumption) ?_ | exact Hb.setSameL (by first | omega | (simp only [size_alloc, size_setB, size_drew]; omega)) | exact Hb.setSame (by assumption) | refine Hb.set (by first | omega | (simp only [size_alloc, size_setB, size_drew]; omega)) ?_ ))) (by first | omega | assumption | rfl | decide | exact Nat.le_refl _ | (simp only [size_ic, Value.cells]; omega) | simp) (by first | omega | assumption | rfl | decide | exact Nat.le_refl _ | (simp only [size_ic, Value.cells]; omega) | simp) (by first | exact oneCell_ic | assumption) (fun h => by cases h) ?_
        refine WH_nil ?_
        refine F_q (i := 17) rfl (by kernel_rfl) ?_
        first | refine WH_storeW Hvad.sizeOf59 rfl (v := .agg _) rfl (Hb.h (by repeat (first | assumption | exact Hb.newY _ _ | refine Hb.alloc ?_ | refine Hb.drew ?_ | refine Hb.ext (by assumption) ?_ | exact Hb.setSameL (by first | omega | (simp only [size_alloc, size_setB, size_drew]; omega)) | exact Hb.setSame (by assumption) | refine Hb.set (by first | omega | (simp only [size_alloc, size_setB, size_drew]; omega)) ?_ ))) rfl (by first | omega | assumption | rfl | decide | exact Nat.le_refl _ | (simp only [size_ic, Value.cells]; omega) | simp) (by first | omega | assumption | rfl | decide | exact Nat.le_refl _ | (simp only [size_ic, Value.cells]; omega) | simp) (by first | exact oneCell_ic | assumption) (fun h => by cases h) ?_ | refine WH_store Hvad.sizeOf59 rfl (v := .agg _) rfl (Hb.h (by repeat (first | assumption | exact Hb.newY _ _ | refine Hb.alloc ?_ | refine Hb.drew ?_ | refine Hb.ext (by assumption) ?_ | exact Hb.setSameL (by first | omega | (simp only [size_alloc, size_setB, size_drew]; omega)) | exact Hb.setSame (by assumption) | refine Hb.set (by first | omega | (simp only [size_alloc, size_setB, size_drew]; omega)) ?_ ))) (by first | omega | assumption | rfl | decide | exact Nat.le_refl _ | (simp only [size_ic, Value.cells]; omega) | simp) (by first | omega | assumption | rfl | decide | exact Nat.le_refl _ | (simp only [size_ic, Value.cells]; omega) | simp) (by first | exact oneCell_ic | assumption) (fun h => by cases h) ?_
        refine WH_nil ?_
        refine F_q (i := 18) rfl (by kernel_rfl) ?_
        refine WH_p (PS_assign_bool rfl) rfl ?_
        refine WH_nil ?_
        refine F_end ?_
        refine thn_normal ?_
        refine W_seq ?_
        refine W_drawE [false, false, false, false, true, false, false, false, false, false, false, false, false, false] hmix (by kernel_rfl) rfl ?_
        refine WH_loadA _ Hvad.isAgg59 Hvad.sizeOf59 rfl (Hb.h (by repeat (first | assumption | exact Hb.newY _ _ | refine Hb.alloc ?_ | refine Hb.drew ?_ | refine Hb.ext (by assumption) ?_ | exact Hb.setSameL (by first | omega | (simp only [size_alloc, size_setB, size_drew]; omega)) | exact Hb.setSame (by assumption) | refine Hb.set (by first | omega | (simp only [size_alloc, size_setB, size_drew]; omega)) ?_ ))) (by first | omega | assumption | rfl | decide | exact Nat.le_refl _ | (simp only [size_ic, Value.cells]; omega) | simp) (Xt.h (by first | assumption | exact Xt.whole rfl rfl | exact Xt.whole rfl (by simp only [size_ic, Value.cells]; omega) | exact ⟨rfl⟩)) ?_
        refine WH_loadA _ Hvad.isAgg59 Hvad.sizeOf59 rfl (Hb.h (by repeat (first | assumption | exact Hb.newY _ _ | refine Hb.alloc ?_ | refine Hb.drew ?_ | refine Hb.ext (by assumption) ?_ | exact Hb.setSameL (by first | omega | (simp only [size_alloc, size_setB, size_drew]; omega)) | exact Hb.setSame (by assumption) | refine Hb.set (by first | omega | (simp only [size_alloc, size_setB, size_drew]; omega)) ?_ ))) (by first | omega | assumption | rfl | decide | exact Nat.le_refl _ | (simp only [size_ic, Value.cells]; omega) | simp) (Xt.h (by first | assumption | exact Xt.whole rfl rfl | exact Xt.whole rfl (by simp only [size_ic, Value.cells]; omega) | exact ⟨rfl⟩)) ?_
        refine WH_p (PS_move_ptr rfl) rfl ?_
        refine WH_p (PS_move_ptr rfl) rfl ?_
        refine WH_call Hvad.call160 (by rfl) (Ret.mono (arg_spec C c v B m t f _ _ (MS.ext hM (by repeat (first | assumption | exact Ext.refl _ | refine Ext.alloc ?_ _ | refine Ext.drew ?_ | refine Ext.setB ?_ (by first | omega | (simp only [size_alloc, size_setB, size_drew]; omega)) _ | exact Ext.trans (by assumption) (by assumption) | refine Ext.trans ?_ (by assumption)))) hA (by omega)) ?_)
        rintro _ w160_22 ⟨hE160_22, rfl⟩
        refine ⟨fun _ => (by repeat (first | assumption | exact Ext.refl _ | refine Ext.alloc ?_ _ | refine Ext.drew ?_ | refine Ext.setB ?_ (by first | omega | (simp only [size_alloc, size_setB, size_drew]; omega)) _ | exact Ext.trans (by assumption) (by assumption) | refine Ext.trans ?_ (by assumption))), ?_⟩
        have hz160_22 := hE160_22.1
        try simp only [size_alloc, size_setB, size_drew] at hz160_22
        refine WH_p (PS_move_bool rfl) rfl ?_
        refine WH_p (PS_not rfl) rfl ?_
        refine WH_call Hvad.call202 (by rfl) (Ret.mono (sstoreR_spec _ _ _ _ _ (by assumption) (by assumption) (by assumption)) ?_)
        rintro _ w202_24 ⟨hE202_24, rfl⟩
        refine ⟨(fun h => by cases h), ?_⟩
        have hz202_24 := hE202_24.1
        try simp only [size_alloc, size_setB, size_drew] at hz202_24
        refine WH_p (PS_extract_int rfl rfl) rfl ?_
        refine WH_p (PS_extract_int rfl rfl) rfl ?_
        refine WH_p (PS_extract_int rfl rfl) rfl ?_
        refine WH_p (PS_assign_int rfl) rfl ?_
        refine WH_p (PS_assign_int rfl) rfl ?_
        refine WH_p (PS_assign_int rfl) rfl ?_
        refine WH_nil ?_
        refine thn_normal ?_
        refine W_ret ?_
        refine bodyQ_ret3 Hvad.results247 rfl rfl rfl (.int _ _) (.int _ _) (.int _ _) rfl rfl rfl ?_
        exact ⟨(by repeat (first | assumption | exact Ext.refl _ | refine Ext.alloc ?_ _ | refine Ext.drew ?_ | refine Ext.setB ?_ (by first | omega | (simp only [size_alloc, size_setB, size_drew]; omega)) _ | refine Ext.trans ?_ (by assumption))), rfl⟩
    · refine WH_allocG Hvad.zeroValue59 ?_
      intro b8 v8 hg8 hE8 hH8 hl8
      try simp only [size_alloc, size_setB, size_drew] at hg8
      have hzz8 := hE8.1
      try simp only [size_alloc, size_setB, size_drew] at hzz8
      replace hH8 : Hb v8 b8 (.cells (ic .u64 [0, 0, 0, 0]) 59 (0, 0)) := hH8
      refine ⟨fun _ => (by repeat (first | assumption | exact Ext.refl _ | refine Ext.alloc ?_ _ | refine Ext.drew ?_ | refine Ext.setB ?_ (by first | omega | (simp only [size_alloc, size_setB, size_drew]; omega)) _ | exact Ext.trans (by assumption) (by assumption) | refine Ext.trans ?_ (by assumption))), ?_⟩
      refine WH_nil ?_
      refine F_q (i := 9) rfl (by kernel_rfl) ?_
      refine WH_call Hvad.call201 (by rfl) (Ret.mono (peek_spec C c v B (bb m) _ _ _ (VS.ext hM.vs (by repeat (first | assumption | exact Ext.refl _ | refine Ext.alloc ?_ _ | refine Ext.drew ?_ | refine Ext.setB ?_ (by first | omega | (simp only [size_alloc, size_setB, size_drew]; omega)) _ | exact Ext.trans (by assumption) (by assumption) | refine Ext.trans ?_ (by assumption)))) (by first | assumption | exact addrW_by _) (by first | assumption | exact argW_wd hM.ty _ _ | exact Wd0)) ?_)
      rintro _ w201_25 ⟨rfl, hE201_25⟩
      refine ⟨(fun h => by cases h), ?_⟩
      have hz201_25 := hE201_25.1
      try simp only [size_alloc, size_setB, size_drew] at hz201_25
      refine WH_nil ?_
      refine F_q (i := 10) rfl (by kernel_rfl) ?_
      refine WH_p (PS_move_tuple rfl) rfl ?_
      refine WH_nil ?_
      refine F_q (i := 11) rfl (by kernel_rfl) ?_
      refine WH_p (PS_extract_agg rfl rfl) rfl ?_
      refine WH_nil ?_
      refine F_q (i := 12) rfl (by kernel_rfl) ?_
      refine WH_p (PS_extract_agg rfl rfl) rfl ?_
      refine WH_nil ?_
      refine F_q (i := 13) rfl (by kernel_rfl) ?_
      refine WH_p (PS_extract_bool rfl rfl) rfl ?_
      refine WH_nil ?_
      refine F_q (i := 16) rfl (by kernel_rfl) ?_
      first | refine WH_storeW Hvad.sizeOf59 rfl (v := .agg _) rfl (Hb.h (by repeat (first | assumption | exact Hb.newY _ _ | refine Hb.alloc ?_ | refine Hb.drew ?_ | refine Hb.ext (by assumption) ?_ | exact Hb.setSameL (by first | omega | (simp only [size_alloc, size_setB, size_drew]; omega)) | exact Hb.setSame (by assumption) | refine Hb.set (by first | omega | (simp only [size_alloc, size_setB, size_drew]; omega)) ?_ ))) rfl (by first | omega | assumption | rfl | decide | exact Nat.le_refl _ | (simp only [size_ic, Value.cells]; omega) | simp) (by first | omega | assumption | rfl | decide | exact Nat.le_refl _ | (simp only [size_ic, Value.cells]; omega) | simp) (by first | exact oneCell_ic | assumption) (fun h => by cases h) ?_ | refine WH_store Hvad.sizeOf59 rfl (v := .agg _) rfl (Hb.h (by repeat (first | assumption | exact Hb.newY _ _ | refine Hb.alloc ?_ | refine Hb.drew ?_ | refine Hb.ext (by assumption) ?_ | exact Hb.setSameL (by first | omega | (simp only [size_alloc, size_setB, size_drew]; omega)) | exact Hb.setSame (by assumption) | refine Hb.set (by first | omega | (simp only [size_alloc, size_setB, size_drew]; omega)) ?_ ))) (by first | omega | assumption | rfl | decide | exact Nat.le_refl _ | (simp only [size_ic, Value.cells]; omega) | simp) (by first | omega | assumption | rfl | decide | exact Nat.le_refl _ | (simp only [size_ic, Value.cells]; omega) | simp) (by first | exact oneCell_ic | assumption) (fun h => by cases h) ?_
      refine WH_nil ?_
      refine F_q (i := 17) rfl (by kernel_rfl) ?_
      first | refine WH_storeW Hvad.sizeOf59 rfl (v := .agg _) rfl (Hb.h (by repeat (first | assumption | exact Hb.newY _ _ | refine Hb.alloc ?_ | refine Hb.drew ?_ | refine Hb.ext (by assumption) ?_ | exact Hb.setSameL (by first | omega | (simp only [size_alloc, size_setB, size_drew]; omega)) | exact Hb.setSame (by assumption) | refine Hb.set (by first | omega | (simp only [size_alloc, size_setB, size_drew]; omega)) ?_ ))) rfl (by first | omega | assumption | rfl | decide | exact Nat.le_refl _ | (simp only [size_ic, Value.cells]; omega) | simp) (by first | omega | assumption | rfl | decide | exact Nat.le_refl _ | (simp only [size_ic, Value.cells]; omega) | simp) (by first | exact oneCell_ic | assumption) (fun h => by cases h) ?_ | refine WH_store Hvad.sizeOf59 rfl (v := .agg _) rfl (Hb.h (by repeat (first | assumption | exact Hb.newY _ _ | refine Hb.alloc ?_ | refine Hb.drew ?_ | refine Hb.ext (by assumption) ?_ | exact Hb.setSameL (by first | omega | (simp only [size_alloc, size_setB, size_drew]; omega)) | exact Hb.setSame (by assumption) | refine Hb.set (by first | omega | (simp only [size_alloc, size_setB, size_drew]; omega)) ?_ ))) (by first | omega | assumption | rfl | decide | exact Nat.le_refl _ | (simp only [size_ic, Value.cells]; omega) | simp) (by first | omega | assumption | rfl | decide | exact Nat.le_refl _ | (simp only [size_ic, Value.cells]; omega) | simp) (by first | exact oneCell_ic | assumption) (fun h => by cases h) ?_
      refine WH_nil ?_
      refine F_q (i := 18) rfl (by kernel_rfl) ?_
      refine WH_p (PS_assign_bool rfl) rfl ?_
      refine WH_nil ?_
      refine F_end ?_
      refine thn_normal ?_
      refine W_seq ?_
      refine W_drawE [false, false, false, false, true, false, false, false, false, false, false, false, false, false] hmix (by kernel_rfl) rfl ?_
      refine WH_loadA _ Hvad.isAgg59 Hvad.sizeOf59 rfl (Hb.h (by repeat (first | assumption | exact Hb.newY _ _ | refine Hb.alloc ?_ | refine Hb.drew ?_ | refine Hb.ext (by assumption) ?_ | exact Hb.setSameL (by first | omega | (simp only [size_alloc, size_setB, size_drew]; omega)) | exact Hb.setSame (by assumption) | refine Hb.set (by first | omega | (simp only [size_alloc, size_setB, size_drew]; omega)) ?_ ))) (by first | omega | assumption | rfl | decide | exact Nat.le_refl _ | (simp only [size_ic, Value.cells]; omega) | simp) (Xt.h (by first | assumption | exact Xt.whole rfl rfl | exact Xt.whole rfl (by simp only [size_ic, Value.cells]; omega) | exact ⟨rfl⟩)) ?_
      refine WH_loadA _ Hvad.isAgg59 Hvad.sizeOf59 rfl (Hb.h (by repeat (first | assumption | exact Hb.newY _ _ | refine Hb.alloc ?_ | refine Hb.drew ?_ | refine Hb.ext (by assumption) ?_ | exact Hb.setSameL (by first | omega | (simp only [size_alloc, size_setB, size_drew]; omega)) | exact Hb.setSame (by assumption) | refine Hb.set (by first | omega | (simp only [size_alloc, size_setB, size_drew]; omega)) ?_ ))) (by first | omega | assumption | rfl | decide | exact Nat.le_refl _ | (simp only [size_ic, Value.cells]; omega) | simp) (Xt.h (by first | assumption | exact Xt.whole rfl rfl | exact Xt.whole rfl (by simp only [size_ic, Value.cells]; omega) | exact ⟨rfl⟩)) ?_
      refine WH_p (PS_move_ptr rfl) rfl ?_
      refine WH_p (PS_move_ptr rfl) rfl ?_
      refine WH_call Hvad.call160 (by rfl) (Ret.mono (arg_spec C c v B m t f _ _ (MS.ext hM (by repeat (first | assumption | exact Ext.refl _ | refine Ext.alloc ?_ _ | refine Ext.drew ?_ | refine Ext.setB ?_ (by first | omega | (simp only [size_alloc, size_setB, size_drew]; omega)) _ | exact Ext.trans (by assumption) (by assumption) | refine Ext.trans ?_ (by assumption)))) hA (by omega)) ?_)
      rintro _ w160_27 ⟨hE160_27, rfl⟩
      refine ⟨fun _ => (by repeat (first | assumption | exact Ext.refl _ | refine Ext.alloc ?_ _ | refine Ext.drew ?_ | refine Ext.setB ?_ (by first | omega | (simp only [size_alloc, size_setB, size_drew]; omega)) _ | exact Ext.trans (by assumption) (by assumption) | refine Ext.trans ?_ (by assumption))), ?_⟩
      have hz160_27 := hE160_27.1
      try simp only [size_alloc, size_setB, size_drew] at hz160_27
      refine WH_p (PS_move_bool rfl) rfl ?_
      refine WH_p (PS_not rfl) rfl ?_
      refine WH_call Hvad.call202 (by rfl) (Ret.mono (sstoreR_spec _ _ _ _ _ (by assumption) (by assumption) (by assumption)) ?_)
      rintro _ w202_29 ⟨hE202_29, rfl⟩
      refine ⟨(fun h => by cases h), ?_⟩
      have hz202_29 := hE202_29.1
      try simp only [size_alloc, size_setB, size_drew] at hz202_29
      refine WH_p (PS_extract_int rfl rfl) rfl ?_
      refine WH_p (PS_extract_int rfl rfl) rfl ?_
      refine WH_p (PS_extract_int rfl rfl) rfl ?_
      refine WH_p (PS_assign_int rfl) rfl ?_
      refine WH_p (PS_assign_int rfl) rfl ?_
      refine WH_p (PS_assign_int rfl) rfl ?_
      refine WH_nil ?_
      refine thn_normal ?_
      refine W_ret ?_
      refine bodyQ_ret3 Hvad.results247 rfl rfl rfl (.int _ _) (.int _ _) (.int _ _) rfl rfl rfl ?_
      exact ⟨(by repeat (first | assumption | exact Ext.refl _ | refine Ext.alloc ?_ _ | refine Ext.drew ?_ | refine Ext.setB ?_ (by first | omega | (simp only [size_alloc, size_setB, size_drew]; omega)) _ | refine Ext.trans ?_ (by assumption))), rfl⟩

set_option maxRecDepth 10000 in
theorem destroyCost_spec (C : Nat) (c : Array Value) (v : V) (B : VB) (m : Mc) (t : Nat) (f : Fm) (w : World) (hM : MS w C c v B m) (hA : FrA m t f) : Ret Hvad.prog 248 #[.pointer (some ⟨C, 0, none⟩), .pointer (some ⟨C, 1803 + t * 65, none⟩)] w fun u w' => Ext w w' ∧ ∃ x, u = .int .u64 x ∧ (0 ≤ x ∧ x ≤ 27600) ∧ (v.isWarmA (addrW (m.argW f 0)) = false → 2600 ≤ x) := by
  have hA0 := hA
  have hblk := hM.vs.blk
  have hCl := hblk.lt
  have hcs := hM.sz
  have hc_s := hM.rep.s
  obtain ⟨ht6, hf, hsb, hsp⟩ := hA0
  obtain ⟨ht7, hfty, hF⟩ := hM.openF hf
  have hf_self := hF.self
  have hby := hfty.self
  have hw0 := argW_wd hM.ty f 0
  have hwb := bal_wd hM.vs.ty f.self
  have hl0 := hw0.1
  have hlb := hwb.1
  have hba := addrW_by (m.argW f 0)
  have hbal := hba.1
  refine Ret_of_W Hvad.func248 rfl rfl ?_
  refine W_seq ?_
  refine W_region rfl ?_
  refine WO_p (PS_assign_int rfl) ?_
  refine WO_nil ?_
  refine thn_normal ?_
  refine W_seq ?_
  refine W_region rfl ?_
  refine WO_p (PS_move_ptr rfl) ?_
  refine WO_p (PS_move_ptr rfl) ?_
  refine WO_call Hvad.call160 (by rfl) (Ret.mono (arg_spec C c v B m t f _ _ (MS.ext hM (by repeat (first | assumption | exact Ext.refl _ | refine Ext.alloc ?_ _ | refine Ext.drew ?_ | refine Ext.setB ?_ (by first | omega | (simp only [size_alloc, size_setB, size_drew]; omega)) _ | exact Ext.trans (by assumption) (by assumption) | refine Ext.trans ?_ (by assumption)))) hA (by omega)) ?_)
  rintro _ w160_0 ⟨hE160_0, rfl⟩
  have hz160_0 := hE160_0.1
  try simp only [size_alloc, size_setB, size_drew] at hz160_0
  refine WO_call Hvad.call189 (by rfl) (Ret.mono (addrOf_spec _ _ (by first | assumption | exact argW_wd hM.ty _ _ | exact Wd0)) ?_)
  rintro _ w189_1 ⟨hE189_1, rfl⟩
  have hz189_1 := hE189_1.1
  try simp only [size_alloc, size_setB, size_drew] at hz189_1
  refine WO_allocG Hvad.zeroValue25 ?_
  intro b5 v5 hg5 hE5 hH5 hl5
  try simp only [size_alloc, size_setB, size_drew] at hg5
  have hzz5 := hE5.1
  try simp only [size_alloc, size_setB, size_drew] at hzz5
  replace hH5 : Hb v5 b5 (.cells (ic .u8 (List.replicate 20 0)) 25 (0, 0)) := hH5
  first | refine WO_storeW Hvad.sizeOf25 rfl (v := .agg _) rfl (Hb.h (by repeat (first | assumption | exact Hb.newY _ _ | refine Hb.alloc ?_ | refine Hb.drew ?_ | refine Hb.ext (by assumption) ?_ | exact Hb.setSameL (by first | omega | (simp only [size_alloc, size_setB, size_drew]; omega)) | exact Hb.setSame (by assumption) | refine Hb.set (by first | omega | (simp only [size_alloc, size_setB, size_drew]; omega)) ?_ ))) rfl (by first | omega | assumption | rfl | decide | exact Nat.le_refl _ | (simp only [size_ic, Value.cells]; omega) | simp) (by first | omega | assumption | rfl | decide | exact Nat.le_refl _ | (simp only [size_ic, Value.cells]; omega) | simp) (by first | exact oneCell_ic | assumption) ?_ | refine WO_store Hvad.sizeOf25 rfl (v := .agg _) rfl (Hb.h (by repeat (first | assumption | exact Hb.newY _ _ | refine Hb.alloc ?_ | refine Hb.drew ?_ | refine Hb.ext (by assumption) ?_ | exact Hb.setSameL (by first | omega | (simp only [size_alloc, size_setB, size_drew]; omega)) | exact Hb.setSame (by assumption) | refine Hb.set (by first | omega | (simp only [size_alloc, size_setB, size_drew]; omega)) ?_ ))) (by first | omega | assumption | rfl | decide | exact Nat.le_refl _ | (simp only [size_ic, Value.cells]; omega) | simp) (by first | omega | assumption | rfl | decide | exact Nat.le_refl _ | (simp only [size_ic, Value.cells]; omega) | simp) (by first | exact oneCell_ic | assumption) ?_
  refine WO_nil ?_
  refine thn_normal ?_
  refine W_seq ?_
  refine W_region rfl ?_
  refine WO_p (PS_assign_int rfl) ?_
  refine WO_nil ?_
  refine thn_normal ?_
  refine W_seq ?_
  refine W_seq ?_
  refine W_drawE [false, false, false, false, false, false, false] hmix (by kernel_rfl) rfl ?_
  refine WH_p (PS_move_ptr rfl) rfl ?_
  refine WH_p (PS_nilCheck rfl) rfl ?_
  refine WH_p (PS_fieldAddr 0 Hvad.runUnderlying69 rfl Hvad.sizeOf53 rfl rfl) rfl ?_
  refine WH_load (.pointer _) Hvad.isAgg53 rfl (Hb.h (by repeat (first | assumption | exact Hb.newY _ _ | refine Hb.alloc ?_ | refine Hb.drew ?_ | refine Hb.ext (by assumption) ?_ | exact Hb.setSameL (by first | omega | (simp only [size_alloc, size_setB, size_drew]; omega)) | exact Hb.setSame (by assumption) | refine Hb.set (by first | omega | (simp only [size_alloc, size_setB, size_drew]; omega)) ?_ ))) (Ce.h (by first | assumption | exact ⟨rfl⟩)) ?_
  refine WH_loadA _ Hvad.isAgg25 Hvad.sizeOf25 rfl (Hb.h (by repeat (first | assumption | exact Hb.newY _ _ | refine Hb.alloc ?_ | refine Hb.drew ?_ | refine Hb.ext (by assumption) ?_ | exact Hb.setSameL (by first | omega | (simp only [size_alloc, size_setB, size_drew]; omega)) | exact Hb.setSame (by assumption) | refine Hb.set (by first | omega | (simp only [size_alloc, size_setB, size_drew]; omega)) ?_ ))) (by first | omega | assumption | rfl | decide | exact Nat.le_refl _ | (simp only [size_ic, Value.cells]; omega) | simp) (Xt.h (by first | assumption | exact Xt.whole rfl rfl | exact Xt.whole rfl (by simp only [size_ic, Value.cells]; omega) | exact ⟨rfl⟩)) ?_
  refine WH_call Hvad.call76 (by rfl) (Ret.mono (isWarmA_spec C c v B (bb m) _ _ (VS.ext hM.vs (by repeat (first | assumption | exact Ext.refl _ | refine Ext.alloc ?_ _ | refine Ext.drew ?_ | refine Ext.setB ?_ (by first | omega | (simp only [size_alloc, size_setB, size_drew]; omega)) _ | exact Ext.trans (by assumption) (by assumption) | refine Ext.trans ?_ (by assumption)))) (by first | assumption | exact addrW_by _)) ?_)
  rintro _ w76_2 ⟨rfl, hE76_2⟩
  refine ⟨(fun h => by cases h), ?_⟩
  have hz76_2 := hE76_2.1
  try simp only [size_alloc, size_setB, size_drew] at hz76_2
  refine WH_p (PS_not rfl) rfl ?_
  refine WH_nil ?_
  refine thn_normal ?_
  refine W_if rfl (fun hb6 => ?_) (fun hb6 => ?_)
  · have hb6p := hb6.h; try simp only [al_ete, al_dfn, Bool.not_eq_true', Bool.not_eq_false', al_ne, Bool.not_not, al_nn] at hb6p
    refine W_region rfl ?_
    refine WO_p (PS_assign_int rfl) ?_
    refine WO_nil ?_
    refine thn_normal ?_
    refine W_seq ?_
    refine W_seq ?_
    refine W_drawF [false, false, false, false, false, false, false, false, false, true, false] [9] [0, 1, 2, 3, 4, 5, 6, 7, 8, 10] hmix (by kernel_rfl) rfl rfl rfl ?_
    refine F_q (i := 0) rfl (by kernel_rfl) ?_
    refine WH_p (PS_move_ptr rfl) rfl ?_
    refine WH_nil ?_
    refine F_q (i := 1) rfl (by kernel_rfl) ?_
    refine WH_p (PS_nilCheck rfl) rfl ?_
    refine WH_nil ?_
    refine F_q (i := 2) rfl (by kernel_rfl) ?_
    refine WH_p (PS_fieldAddr 0 Hvad.runUnderlying69 rfl Hvad.sizeOf53 rfl rfl) rfl ?_
    refine WH_nil ?_
    refine F_q (i := 3) rfl (by kernel_rfl) ?_
    refine WH_load (.pointer _) Hvad.isAgg53 rfl (Hb.h (by repeat (first | assumption | exact Hb.newY _ _ | refine Hb.alloc ?_ | refine Hb.drew ?_ | refine Hb.ext (by assumption) ?_ | exact Hb.setSameL (by first | omega | (simp only [size_alloc, size_setB, size_drew]; omega)) | exact Hb.setSame (by assumption) | refine Hb.set (by first | omega | (simp only [size_alloc, size_setB, size_drew]; omega)) ?_ ))) (Ce.h (by first | assumption | exact ⟨rfl⟩)) ?_
    refine WH_nil ?_
    refine F_q (i := 4) rfl (by kernel_rfl) ?_
    refine WH_p (PS_move_ptr rfl) rfl ?_
    refine WH_nil ?_
    refine F_q (i := 5) rfl (by kernel_rfl) ?_
    refine WH_p (PS_nilCheck rfl) rfl ?_
    refine WH_nil ?_
    refine F_q (i := 6) rfl (by kernel_rfl) ?_
    refine WH_p (PS_fieldAddr 9 Hvad.runUnderlying65 rfl Hvad.sizeOf25 rfl rfl) rfl ?_
    refine WH_nil ?_
    refine F_q (i := 7) rfl (by kernel_rfl) ?_
    refine WH_loadA _ Hvad.isAgg25 Hvad.sizeOf25 rfl (Hb.h (by repeat (first | assumption | exact Hb.newY _ _ | refine Hb.alloc ?_ | refine Hb.drew ?_ | refine Hb.ext (by assumption) ?_ | exact Hb.setSameL (by first | omega | (simp only [size_alloc, size_setB, size_drew]; omega)) | exact Hb.setSame (by assumption) | refine Hb.set (by first | omega | (simp only [size_alloc, size_setB, size_drew]; omega)) ?_ ))) (by first | omega | assumption | rfl | decide | exact Nat.le_refl _ | (simp only [size_ic, Value.cells]; omega) | simp) (Xt.h (by first | assumption | exact Xt.whole rfl rfl | exact Xt.whole rfl (by simp only [size_ic, Value.cells]; omega) | exact ⟨rfl⟩)) ?_
    refine WH_nil ?_
    refine F_fork1 (i := 8) rfl rfl ?_ ?_
    · refine WH_call Hvad.call36 (by rfl) (Ret.mono (balance_spec C c v B (bb m) _ _ (VS.ext hM.vs (by repeat (first | assumption | exact Ext.refl _ | refine Ext.alloc ?_ _ | refine Ext.drew ?_ | refine Ext.setB ?_ (by first | omega | (simp only [size_alloc, size_setB, size_drew]; omega)) _ | exact Ext.trans (by assumption) (by assumption) | refine Ext.trans ?_ (by assumption)))) (by first | assumption | exact addrW_by _)) ?_)
      rintro _ w36_6 ⟨rfl, hE36_6⟩
      refine ⟨(fun h => by cases h), ?_⟩
      have hz36_6 := hE36_6.1
      try simp only [size_alloc, size_setB, size_drew] at hz36_6
      refine WH_nil ?_
      refine F_fork1B (i := 10) (by kernel_rfl) rfl ?_
      · refine WH_allocG Hvad.zeroValue59 ?_
        intro b7 v7 hg7 hE7 hH7 hl7
        try simp only [size_alloc, size_setB, size_drew] at hg7
        have hzz7 := hE7.1
        try simp only [size_alloc, size_setB, size_drew] at hzz7
        replace hH7 : Hb v7 b7 (.cells (ic .u64 [0, 0, 0, 0]) 59 (0, 0)) := hH7
        refine ⟨fun _ => (by repeat (first | assumption | exact Ext.refl _ | refine Ext.alloc ?_ _ | refine Ext.drew ?_ | refine Ext.setB ?_ (by first | omega | (simp only [size_alloc, size_setB, size_drew]; omega)) _ | exact Ext.trans (by assumption) (by assumption) | refine Ext.trans ?_ (by assumption))), ?_⟩
        refine WH_nil ?_
        refine F_q (i := 10) rfl (by kernel_rfl) ?_
        first | refine WH_storeW Hvad.sizeOf59 rfl (v := .agg _) rfl (Hb.h (by repeat (first | assumption | exact Hb.newY _ _ | refine Hb.alloc ?_ | refine Hb.drew ?_ | refine Hb.ext (by assumption) ?_ | exact Hb.setSameL (by first | omega | (simp only [size_alloc, size_setB, size_drew]; omega)) | exact Hb.setSame (by assumption) | refine Hb.set (by first | omega | (simp only [size_alloc, size_setB, size_drew]; omega)) ?_ ))) rfl (by first | omega | assumption | rfl | decide | exact Nat.le_refl _ | (simp only [size_ic, Value.cells]; omega) | simp) (by first | omega | assumption | rfl | decide | exact Nat.le_refl _ | (simp only [size_ic, Value.cells]; omega) | simp) (by first | exact oneCell_ic | assumption) (fun h => by cases h) ?_ | refine WH_store Hvad.sizeOf59 rfl (v := .agg _) rfl (Hb.h (by repeat (first | assumption | exact Hb.newY _ _ | refine Hb.alloc ?_ | refine Hb.drew ?_ | refine Hb.ext (by assumption) ?_ | exact Hb.setSameL (by first | omega | (simp only [size_alloc, size_setB, size_drew]; omega)) | exact Hb.setSame (by assumption) | refine Hb.set (by first | omega | (simp only [size_alloc, size_setB, size_drew]; omega)) ?_ ))) (by first | omega | assumption | rfl | decide | exact Nat.le_refl _ | (simp only [size_ic, Value.cells]; omega) | simp) (by first | omega | assumption | rfl | decide | exact Nat.le_refl _ | (simp only [size_ic, Value.cells]; omega) | simp) (by first | exact oneCell_ic | assumption) (fun h => by cases h) ?_
        refine WH_nil ?_
        refine F_end ?_
        refine thn_normal ?_
        refine W_seq ?_
        refine W_drawE [false, true, false, false, false, false, false, false, false, false, false] hmix (by kernel_rfl) rfl ?_
        refine WH_loadA _ Hvad.isAgg59 Hvad.sizeOf59 rfl (Hb.h (by repeat (first | assumption | exact Hb.newY _ _ | refine Hb.alloc ?_ | refine Hb.drew ?_ | refine Hb.ext (by assumption) ?_ | exact Hb.setSameL (by first | omega | (simp only [size_alloc, size_setB, size_drew]; omega)) | exact Hb.setSame (by assumption) | refine Hb.set (by first | omega | (simp only [size_alloc, size_setB, size_drew]; omega)) ?_ ))) (by first | omega | assumption | rfl | decide | exact Nat.le_refl _ | (simp only [size_ic, Value.cells]; omega) | simp) (Xt.h (by first | assumption | exact Xt.whole rfl rfl | exact Xt.whole rfl (by simp only [size_ic, Value.cells]; omega) | exact ⟨rfl⟩)) ?_
        refine WH_call Hvad.call131 (by rfl) (Ret.mono (isz_spec _ _ (by first | assumption | exact argW_wd hM.ty _ _ | exact Wd0)) ?_)
        rintro _ w131_7 ⟨rfl, hE131_7⟩
        refine ⟨fun _ => (by repeat (first | assumption | exact Ext.refl _ | refine Ext.alloc ?_ _ | refine Ext.drew ?_ | refine Ext.setB ?_ (by first | omega | (simp only [size_alloc, size_setB, size_drew]; omega)) _ | exact Ext.trans (by assumption) (by assumption) | refine Ext.trans ?_ (by assumption))), ?_⟩
        have hz131_7 := hE131_7.1
        try simp only [size_alloc, size_setB, size_drew] at hz131_7
        refine WH_p (PS_not rfl) rfl ?_
        refine WH_p (PS_move_bool rfl) rfl ?_
        refine WH_if (t := 31) rfl (fun hb11 => ?_) (fun hb11 => ?_)
        · have hb11p := hb11.h; try simp only [al_ete, al_dfn, Bool.not_eq_true', Bool.not_eq_false', al_ne, Bool.not_not, al_nn] at hb11p
          refine WH_guardT rfl rfl hb11.h ?_
          refine WH_p (PS_move_ptr rfl) rfl ?_
          refine WH_guardT rfl rfl hb11.h ?_
          refine WH_p (PS_nilCheck rfl) rfl ?_
          refine WH_guardT rfl rfl hb11.h ?_
          refine WH_p (PS_fieldAddr 0 Hvad.runUnderlying69 rfl Hvad.sizeOf53 rfl rfl) rfl ?_
          refine WH_guardT rfl rfl hb11.h ?_
          refine WH_load (.pointer _) Hvad.isAgg53 rfl (Hb.h (by repeat (first | assumption | exact Hb.newY _ _ | refine Hb.alloc ?_ | refine Hb.drew ?_ | refine Hb.ext (by assumption) ?_ | exact Hb.setSameL (by first | omega | (simp only [size_alloc, size_setB, size_drew]; omega)) | exact Hb.setSame (by assumption) | refine Hb.set (by first | omega | (simp only [size_alloc, size_setB, size_drew]; omega)) ?_ ))) (Ce.h (by first | assumption | exact ⟨rfl⟩)) ?_
          refine WH_guardT rfl rfl hb11.h ?_
          refine WH_loadA _ Hvad.isAgg25 Hvad.sizeOf25 rfl (Hb.h (by repeat (first | assumption | exact Hb.newY _ _ | refine Hb.alloc ?_ | refine Hb.drew ?_ | refine Hb.ext (by assumption) ?_ | exact Hb.setSameL (by first | omega | (simp only [size_alloc, size_setB, size_drew]; omega)) | exact Hb.setSame (by assumption) | refine Hb.set (by first | omega | (simp only [size_alloc, size_setB, size_drew]; omega)) ?_ ))) (by first | omega | assumption | rfl | decide | exact Nat.le_refl _ | (simp only [size_ic, Value.cells]; omega) | simp) (Xt.h (by first | assumption | exact Xt.whole rfl rfl | exact Xt.whole rfl (by simp only [size_ic, Value.cells]; omega) | exact ⟨rfl⟩)) ?_
          refine WH_guardT rfl rfl hb11.h ?_
          refine WH_call Hvad.call191 (by rfl) (Ret.mono (isEmpty_spec C c v B (bb m) _ _ (VS.ext hM.vs (by repeat (first | assumption | exact Ext.refl _ | refine Ext.alloc ?_ _ | refine Ext.drew ?_ | refine Ext.setB ?_ (by first | omega | (simp only [size_alloc, size_setB, size_drew]; omega)) _ | exact Ext.trans (by assumption) (by assumption) | refine Ext.trans ?_ (by assumption)))) (by first | assumption | exact addrW_by _)) ?_)
          rintro _ w191_11 ⟨hE191_11, q191_11, rfl⟩
          refine ⟨(fun h => by cases h), ?_⟩
          have hz191_11 := hE191_11.1
          try simp only [size_alloc, size_setB, size_drew] at hz191_11
          refine WH_p (PS_pickT rfl hb11.h rfl) rfl ?_
          refine WH_nil ?_
          refine thn_normal ?_
          refine W_if rfl (fun hb13 => ?_) (fun hb13 => ?_)
          · have hb13p := hb13.h; try simp only [al_ete, al_dfn, Bool.not_eq_true', Bool.not_eq_false', al_ne, Bool.not_not, al_nn] at hb13p
            refine W_region rfl ?_
            refine WO_p (PS_move_int rfl) ?_
            refine WO_p (PS_add_u64n rfl rfl (by omega) (by omega)) ?_
            refine WO_p (PS_assign_int rfl) ?_
            refine WO_nil ?_
            refine thn_normal ?_
            refine W_seq ?_
            refine W_region rfl ?_
            refine WO_p (PS_move_int rfl) ?_
            refine WO_p (PS_assign_int rfl) ?_
            refine WO_nil ?_
            refine thn_normal ?_
            refine W_ret ?_
            refine bodyQ_ret1 Hvad.results248 rfl (.int _ _) rfl ?_
            first
            | exact ⟨(by repeat (first | assumption | exact Ext.refl _ | refine Ext.alloc ?_ _ | refine Ext.drew ?_ | refine Ext.setB ?_ (by first | omega | (simp only [size_alloc, size_setB, size_drew]; omega)) _ | refine Ext.trans ?_ (by assumption))), _, rfl, by omega, fun _ => by omega⟩
            | exact ⟨(by repeat (first | assumption | exact Ext.refl _ | refine Ext.alloc ?_ _ | refine Ext.drew ?_ | refine Ext.setB ?_ (by first | omega | (simp only [size_alloc, size_setB, size_drew]; omega)) _ | refine Ext.trans ?_ (by assumption))), _, rfl, by omega, fun h => by simp_all⟩
          · have hb13p := hb13.h; try simp only [al_ete, al_dfn, Bool.not_eq_true', Bool.not_eq_false', al_ne, Bool.not_not, al_nn] at hb13p
            refine W_skip ?_
            refine thn_normal ?_
            refine W_seq ?_
            refine W_region rfl ?_
            refine WO_p (PS_move_int rfl) ?_
            refine WO_p (PS_assign_int rfl) ?_
            refine WO_nil ?_
            refine thn_normal ?_
            refine W_ret ?_
            refine bodyQ_ret1 Hvad.results248 rfl (.int _ _) rfl ?_
            first
            | exact ⟨(by repeat (first | assumption | exact Ext.refl _ | refine Ext.alloc ?_ _ | refine Ext.drew ?_ | refine Ext.setB ?_ (by first | omega | (simp only [size_alloc, size_setB, size_drew]; omega)) _ | refine Ext.trans ?_ (by assumption))), _, rfl, by omega, fun _ => by omega⟩
            | exact ⟨(by repeat (first | assumption | exact Ext.refl _ | refine Ext.alloc ?_ _ | refine Ext.drew ?_ | refine Ext.setB ?_ (by first | omega | (simp only [size_alloc, size_setB, size_drew]; omega)) _ | refine Ext.trans ?_ (by assumption))), _, rfl, by omega, fun h => by simp_all⟩
        · have hb11p := hb11.h; try simp only [al_ete, al_dfn, Bool.not_eq_true', Bool.not_eq_false', al_ne, Bool.not_not, al_nn] at hb11p
          refine WH_guardF rfl rfl hb11.h ?_
          refine WH_guardF rfl rfl hb11.h ?_
          refine WH_guardF rfl rfl hb11.h ?_
          refine WH_guardF rfl rfl hb11.h ?_
          refine WH_guardF rfl rfl hb11.h ?_
          refine WH_guardF rfl rfl hb11.h ?_
          refine WH_p (PS_pickF rfl hb11.h rfl) rfl ?_
          refine WH_nil ?_
          refine thn_normal ?_
          refine W_condF rfl rfl ?_
          refine W_skip ?_
          refine thn_normal ?_
          refine W_seq ?_
          refine W_region rfl ?_
          refine WO_p (PS_move_int rfl) ?_
          refine WO_p (PS_assign_int rfl) ?_
          refine WO_nil ?_
          refine thn_normal ?_
          refine W_ret ?_
          refine bodyQ_ret1 Hvad.results248 rfl (.int _ _) rfl ?_
          first
          | exact ⟨(by repeat (first | assumption | exact Ext.refl _ | refine Ext.alloc ?_ _ | refine Ext.drew ?_ | refine Ext.setB ?_ (by first | omega | (simp only [size_alloc, size_setB, size_drew]; omega)) _ | refine Ext.trans ?_ (by assumption))), _, rfl, by omega, fun _ => by omega⟩
          | exact ⟨(by repeat (first | assumption | exact Ext.refl _ | refine Ext.alloc ?_ _ | refine Ext.drew ?_ | refine Ext.setB ?_ (by first | omega | (simp only [size_alloc, size_setB, size_drew]; omega)) _ | refine Ext.trans ?_ (by assumption))), _, rfl, by omega, fun h => by simp_all⟩
    · refine WH_allocG Hvad.zeroValue59 ?_
      intro b7 v7 hg7 hE7 hH7 hl7
      try simp only [size_alloc, size_setB, size_drew] at hg7
      have hzz7 := hE7.1
      try simp only [size_alloc, size_setB, size_drew] at hzz7
      replace hH7 : Hb v7 b7 (.cells (ic .u64 [0, 0, 0, 0]) 59 (0, 0)) := hH7
      refine ⟨fun _ => (by repeat (first | assumption | exact Ext.refl _ | refine Ext.alloc ?_ _ | refine Ext.drew ?_ | refine Ext.setB ?_ (by first | omega | (simp only [size_alloc, size_setB, size_drew]; omega)) _ | exact Ext.trans (by assumption) (by assumption) | refine Ext.trans ?_ (by assumption))), ?_⟩
      refine WH_nil ?_
      refine F_q (i := 8) rfl (by kernel_rfl) ?_
      refine WH_call Hvad.call36 (by rfl) (Ret.mono (balance_spec C c v B (bb m) _ _ (VS.ext hM.vs (by repeat (first | assumption | exact Ext.refl _ | refine Ext.alloc ?_ _ | refine Ext.drew ?_ | refine Ext.setB ?_ (by first | omega | (simp only [size_alloc, size_setB, size_drew]; omega)) _ | exact Ext.trans (by assumption) (by assumption) | refine Ext.trans ?_ (by assumption)))) (by first | assumption | exact addrW_by _)) ?_)
      rintro _ w36_13 ⟨rfl, hE36_13⟩
      refine ⟨(fun h => by cases h), ?_⟩
      have hz36_13 := hE36_13.1
      try simp only [size_alloc, size_setB, size_drew] at hz36_13
      refine WH_nil ?_
      refine F_q (i := 10) rfl (by kernel_rfl) ?_
      first | refine WH_storeW Hvad.sizeOf59 rfl (v := .agg _) rfl (Hb.h (by repeat (first | assumption | exact Hb.newY _ _ | refine Hb.alloc ?_ | refine Hb.drew ?_ | refine Hb.ext (by assumption) ?_ | exact Hb.setSameL (by first | omega | (simp only [size_alloc, size_setB, size_drew]; omega)) | exact Hb.setSame (by assumption) | refine Hb.set (by first | omega | (simp only [size_alloc, size_setB, size_drew]; omega)) ?_ ))) rfl (by first | omega | assumption | rfl | decide | exact Nat.le_refl _ | (simp only [size_ic, Value.cells]; omega) | simp) (by first | omega | assumption | rfl | decide | exact Nat.le_refl _ | (simp only [size_ic, Value.cells]; omega) | simp) (by first | exact oneCell_ic | assumption) (fun h => by cases h) ?_ | refine WH_store Hvad.sizeOf59 rfl (v := .agg _) rfl (Hb.h (by repeat (first | assumption | exact Hb.newY _ _ | refine Hb.alloc ?_ | refine Hb.drew ?_ | refine Hb.ext (by assumption) ?_ | exact Hb.setSameL (by first | omega | (simp only [size_alloc, size_setB, size_drew]; omega)) | exact Hb.setSame (by assumption) | refine Hb.set (by first | omega | (simp only [size_alloc, size_setB, size_drew]; omega)) ?_ ))) (by first | omega | assumption | rfl | decide | exact Nat.le_refl _ | (simp only [size_ic, Value.cells]; omega) | simp) (by first | omega | assumption | rfl | decide | exact Nat.le_refl _ | (simp only [size_ic, Value.cells]; omega) | simp) (by first | exact oneCell_ic | assumption) (fun h => by cases h) ?_
      refine WH_nil ?_
      refine F_end ?_
      refine thn_normal ?_
      refine W_seq ?_
      refine W_drawE [false, true, false, false, false, false, false, false, false, false, false] hmix (by kernel_rfl) rfl ?_
      refine WH_loadA _ Hvad.isAgg59 Hvad.sizeOf59 rfl (Hb.h (by repeat (first | assumption | exact Hb.newY _ _ | refine Hb.alloc ?_ | refine Hb.drew ?_ | refine Hb.ext (by assumption) ?_ | exact Hb.setSameL (by first | omega | (simp only [size_alloc, size_setB, size_drew]; omega)) | exact Hb.setSame (by assumption) | refine Hb.set (by first | omega | (simp only [size_alloc, size_setB, size_drew]; omega)) ?_ ))) (by first | omega | assumption | rfl | decide | exact Nat.le_refl _ | (simp only [size_ic, Value.cells]; omega) | simp) (Xt.h (by first | assumption | exact Xt.whole rfl rfl | exact Xt.whole rfl (by simp only [size_ic, Value.cells]; omega) | exact ⟨rfl⟩)) ?_
      refine WH_call Hvad.call131 (by rfl) (Ret.mono (isz_spec _ _ (by first | assumption | exact argW_wd hM.ty _ _ | exact Wd0)) ?_)
      rintro _ w131_14 ⟨rfl, hE131_14⟩
      refine ⟨fun _ => (by repeat (first | assumption | exact Ext.refl _ | refine Ext.alloc ?_ _ | refine Ext.drew ?_ | refine Ext.setB ?_ (by first | omega | (simp only [size_alloc, size_setB, size_drew]; omega)) _ | exact Ext.trans (by assumption) (by assumption) | refine Ext.trans ?_ (by assumption))), ?_⟩
      have hz131_14 := hE131_14.1
      try simp only [size_alloc, size_setB, size_drew] at hz131_14
      refine WH_p (PS_not rfl) rfl ?_
      refine WH_p (PS_move_bool rfl) rfl ?_
      refine WH_if (t := 31) rfl (fun hb18 => ?_) (fun hb18 => ?_)
      · have hb18p := hb18.h; try simp only [al_ete, al_dfn, Bool.not_eq_true', Bool.not_eq_false', al_ne, Bool.not_not, al_nn] at hb18p
        refine WH_guardT rfl rfl hb18.h ?_
        refine WH_p (PS_move_ptr rfl) rfl ?_
        refine WH_guardT rfl rfl hb18.h ?_
        refine WH_p (PS_nilCheck rfl) rfl ?_
        refine WH_guardT rfl rfl hb18.h ?_
        refine WH_p (PS_fieldAddr 0 Hvad.runUnderlying69 rfl Hvad.sizeOf53 rfl rfl) rfl ?_
        refine WH_guardT rfl rfl hb18.h ?_
        refine WH_load (.pointer _) Hvad.isAgg53 rfl (Hb.h (by repeat (first | assumption | exact Hb.newY _ _ | refine Hb.alloc ?_ | refine Hb.drew ?_ | refine Hb.ext (by assumption) ?_ | exact Hb.setSameL (by first | omega | (simp only [size_alloc, size_setB, size_drew]; omega)) | exact Hb.setSame (by assumption) | refine Hb.set (by first | omega | (simp only [size_alloc, size_setB, size_drew]; omega)) ?_ ))) (Ce.h (by first | assumption | exact ⟨rfl⟩)) ?_
        refine WH_guardT rfl rfl hb18.h ?_
        refine WH_loadA _ Hvad.isAgg25 Hvad.sizeOf25 rfl (Hb.h (by repeat (first | assumption | exact Hb.newY _ _ | refine Hb.alloc ?_ | refine Hb.drew ?_ | refine Hb.ext (by assumption) ?_ | exact Hb.setSameL (by first | omega | (simp only [size_alloc, size_setB, size_drew]; omega)) | exact Hb.setSame (by assumption) | refine Hb.set (by first | omega | (simp only [size_alloc, size_setB, size_drew]; omega)) ?_ ))) (by first | omega | assumption | rfl | decide | exact Nat.le_refl _ | (simp only [size_ic, Value.cells]; omega) | simp) (Xt.h (by first | assumption | exact Xt.whole rfl rfl | exact Xt.whole rfl (by simp only [size_ic, Value.cells]; omega) | exact ⟨rfl⟩)) ?_
        refine WH_guardT rfl rfl hb18.h ?_
        refine WH_call Hvad.call191 (by rfl) (Ret.mono (isEmpty_spec C c v B (bb m) _ _ (VS.ext hM.vs (by repeat (first | assumption | exact Ext.refl _ | refine Ext.alloc ?_ _ | refine Ext.drew ?_ | refine Ext.setB ?_ (by first | omega | (simp only [size_alloc, size_setB, size_drew]; omega)) _ | exact Ext.trans (by assumption) (by assumption) | refine Ext.trans ?_ (by assumption)))) (by first | assumption | exact addrW_by _)) ?_)
        rintro _ w191_18 ⟨hE191_18, q191_18, rfl⟩
        refine ⟨(fun h => by cases h), ?_⟩
        have hz191_18 := hE191_18.1
        try simp only [size_alloc, size_setB, size_drew] at hz191_18
        refine WH_p (PS_pickT rfl hb18.h rfl) rfl ?_
        refine WH_nil ?_
        refine thn_normal ?_
        refine W_if rfl (fun hb20 => ?_) (fun hb20 => ?_)
        · have hb20p := hb20.h; try simp only [al_ete, al_dfn, Bool.not_eq_true', Bool.not_eq_false', al_ne, Bool.not_not, al_nn] at hb20p
          refine W_region rfl ?_
          refine WO_p (PS_move_int rfl) ?_
          refine WO_p (PS_add_u64n rfl rfl (by omega) (by omega)) ?_
          refine WO_p (PS_assign_int rfl) ?_
          refine WO_nil ?_
          refine thn_normal ?_
          refine W_seq ?_
          refine W_region rfl ?_
          refine WO_p (PS_move_int rfl) ?_
          refine WO_p (PS_assign_int rfl) ?_
          refine WO_nil ?_
          refine thn_normal ?_
          refine W_ret ?_
          refine bodyQ_ret1 Hvad.results248 rfl (.int _ _) rfl ?_
          first
          | exact ⟨(by repeat (first | assumption | exact Ext.refl _ | refine Ext.alloc ?_ _ | refine Ext.drew ?_ | refine Ext.setB ?_ (by first | omega | (simp only [size_alloc, size_setB, size_drew]; omega)) _ | refine Ext.trans ?_ (by assumption))), _, rfl, by omega, fun _ => by omega⟩
          | exact ⟨(by repeat (first | assumption | exact Ext.refl _ | refine Ext.alloc ?_ _ | refine Ext.drew ?_ | refine Ext.setB ?_ (by first | omega | (simp only [size_alloc, size_setB, size_drew]; omega)) _ | refine Ext.trans ?_ (by assumption))), _, rfl, by omega, fun h => by simp_all⟩
        · have hb20p := hb20.h; try simp only [al_ete, al_dfn, Bool.not_eq_true', Bool.not_eq_false', al_ne, Bool.not_not, al_nn] at hb20p
          refine W_skip ?_
          refine thn_normal ?_
          refine W_seq ?_
          refine W_region rfl ?_
          refine WO_p (PS_move_int rfl) ?_
          refine WO_p (PS_assign_int rfl) ?_
          refine WO_nil ?_
          refine thn_normal ?_
          refine W_ret ?_
          refine bodyQ_ret1 Hvad.results248 rfl (.int _ _) rfl ?_
          first
          | exact ⟨(by repeat (first | assumption | exact Ext.refl _ | refine Ext.alloc ?_ _ | refine Ext.drew ?_ | refine Ext.setB ?_ (by first | omega | (simp only [size_alloc, size_setB, size_drew]; omega)) _ | refine Ext.trans ?_ (by assumption))), _, rfl, by omega, fun _ => by omega⟩
          | exact ⟨(by repeat (first | assumption | exact Ext.refl _ | refine Ext.alloc ?_ _ | refine Ext.drew ?_ | refine Ext.setB ?_ (by first | omega | (simp only [size_alloc, size_setB, size_drew]; omega)) _ | refine Ext.trans ?_ (by assumption))), _, rfl, by omega, fun h => by simp_all⟩
      · have hb18p := hb18.h; try simp only [al_ete, al_dfn, Bool.not_eq_true', Bool.not_eq_false', al_ne, Bool.not_not, al_nn] at hb18p
        refine WH_guardF rfl rfl hb18.h ?_
        refine WH_guardF rfl rfl hb18.h ?_
        refine WH_guardF rfl rfl hb18.h ?_
        refine WH_guardF rfl rfl hb18.h ?_
        refine WH_guardF rfl rfl hb18.h ?_
        refine WH_guardF rfl rfl hb18.h ?_
        refine WH_p (PS_pickF rfl hb18.h rfl) rfl ?_
        refine WH_nil ?_
        refine thn_normal ?_
        refine W_condF rfl rfl ?_
        refine W_skip ?_
        refine thn_normal ?_
        refine W_seq ?_
        refine W_region rfl ?_
        refine WO_p (PS_move_int rfl) ?_
        refine WO_p (PS_assign_int rfl) ?_
        refine WO_nil ?_
        refine thn_normal ?_
        refine W_ret ?_
        refine bodyQ_ret1 Hvad.results248 rfl (.int _ _) rfl ?_
        first
        | exact ⟨(by repeat (first | assumption | exact Ext.refl _ | refine Ext.alloc ?_ _ | refine Ext.drew ?_ | refine Ext.setB ?_ (by first | omega | (simp only [size_alloc, size_setB, size_drew]; omega)) _ | refine Ext.trans ?_ (by assumption))), _, rfl, by omega, fun _ => by omega⟩
        | exact ⟨(by repeat (first | assumption | exact Ext.refl _ | refine Ext.alloc ?_ _ | refine Ext.drew ?_ | refine Ext.setB ?_ (by first | omega | (simp only [size_alloc, size_setB, size_drew]; omega)) _ | refine Ext.trans ?_ (by assumption))), _, rfl, by omega, fun h => by simp_all⟩
  · have hb6p := hb6.h; try simp only [al_ete, al_dfn, Bool.not_eq_true', Bool.not_eq_false', al_ne, Bool.not_not, al_nn] at hb6p
    refine W_skip ?_
    refine thn_normal ?_
    refine W_seq ?_
    refine W_seq ?_
    refine W_drawF [false, false, false, false, false, false, false, false, false, true, false] [9] [0, 1, 2, 3, 4, 5, 6, 7, 8, 10] hmix (by kernel_rfl) rfl rfl rfl ?_
    refine F_q (i := 0) rfl (by kernel_rfl) ?_
    refine WH_p (PS_move_ptr rfl) rfl ?_
    refine WH_nil ?_
    refine F_q (i := 1) rfl (by kernel_rfl) ?_
    refine WH_p (PS_nilCheck rfl) rfl ?_
    refine WH_nil ?_
    refine F_q (i := 2) rfl (by kernel_rfl) ?_
    refine WH_p (PS_fieldAddr 0 Hvad.runUnderlying69 rfl Hvad.sizeOf53 rfl rfl) rfl ?_
    refine WH_nil ?_
    refine F_q (i := 3) rfl (by kernel_rfl) ?_
    refine WH_load (.pointer _) Hvad.isAgg53 rfl (Hb.h (by repeat (first | assumption | exact Hb.newY _ _ | refine Hb.alloc ?_ | refine Hb.drew ?_ | refine Hb.ext (by assumption) ?_ | exact Hb.setSameL (by first | omega | (simp only [size_alloc, size_setB, size_drew]; omega)) | exact Hb.setSame (by assumption) | refine Hb.set (by first | omega | (simp only [size_alloc, size_setB, size_drew]; omega)) ?_ ))) (Ce.h (by first | assumption | exact ⟨rfl⟩)) ?_
    refine WH_nil ?_
    refine F_q (i := 4) rfl (by kernel_rfl) ?_
    refine WH_p (PS_move_ptr rfl) rfl ?_
    refine WH_nil ?_
    refine F_q (i := 5) rfl (by kernel_rfl) ?_
    refine WH_p (PS_nilCheck rfl) rfl ?_
    refine WH_nil ?_
    refine F_q (i := 6) rfl (by kernel_rfl) ?_
    refine WH_p (PS_fieldAddr 9 Hvad.runUnderlying65 rfl Hvad.sizeOf25 rfl rfl) rfl ?_
    refine WH_nil ?_
    refine F_q (i := 7) rfl (by kernel_rfl) ?_
    refine WH_loadA _ Hvad.isAgg25 Hvad.sizeOf25 rfl (Hb.h (by repeat (first | assumption | exact Hb.newY _ _ | refine Hb.alloc ?_ | refine Hb.drew ?_ | refine Hb.ext (by assumption) ?_ | exact Hb.setSameL (by first | omega | (simp only [size_alloc, size_setB, size_drew]; omega)) | exact Hb.setSame (by assumption) | refine Hb.set (by first | omega | (simp only [size_alloc, size_setB, size_drew]; omega)) ?_ ))) (by first | omega | assumption | rfl | decide | exact Nat.le_refl _ | (simp only [size_ic, Value.cells]; omega) | simp) (Xt.h (by first | assumption | exact Xt.whole rfl rfl | exact Xt.whole rfl (by simp only [size_ic, Value.cells]; omega) | exact ⟨rfl⟩)) ?_
    refine WH_nil ?_
    refine F_fork1 (i := 8) rfl rfl ?_ ?_
    · refine WH_call Hvad.call36 (by rfl) (Ret.mono (balance_spec C c v B (bb m) _ _ (VS.ext hM.vs (by repeat (first | assumption | exact Ext.refl _ | refine Ext.alloc ?_ _ | refine Ext.drew ?_ | refine Ext.setB ?_ (by first | omega | (simp only [size_alloc, size_setB, size_drew]; omega)) _ | exact Ext.trans (by assumption) (by assumption) | refine Ext.trans ?_ (by assumption)))) (by first | assumption | exact addrW_by _)) ?_)
      rintro _ w36_20 ⟨rfl, hE36_20⟩
      refine ⟨(fun h => by cases h), ?_⟩
      have hz36_20 := hE36_20.1
      try simp only [size_alloc, size_setB, size_drew] at hz36_20
      refine WH_nil ?_
      refine F_fork1B (i := 10) (by kernel_rfl) rfl ?_
      · refine WH_allocG Hvad.zeroValue59 ?_
        intro b7 v7 hg7 hE7 hH7 hl7
        try simp only [size_alloc, size_setB, size_drew] at hg7
        have hzz7 := hE7.1
        try simp only [size_alloc, size_setB, size_drew] at hzz7
        replace hH7 : Hb v7 b7 (.cells (ic .u64 [0, 0, 0, 0]) 59 (0, 0)) := hH7
        refine ⟨fun _ => (by repeat (first | assumption | exact Ext.refl _ | refine Ext.alloc ?_ _ | refine Ext.drew ?_ | refine Ext.setB ?_ (by first | omega | (simp only [size_alloc, size_setB, size_drew]; omega)) _ | exact Ext.trans (by assumption) (by assumption) | refine Ext.trans ?_ (by assumption))), ?_⟩
        refine WH_nil ?_
        refine F_q (i := 10) rfl (by kernel_rfl) ?_
        first | refine WH_storeW Hvad.sizeOf59 rfl (v := .agg _) rfl (Hb.h (by repeat (first | assumption | exact Hb.newY _ _ | refine Hb.alloc ?_ | refine Hb.drew ?_ | refine Hb.ext (by assumption) ?_ | exact Hb.setSameL (by first | omega | (simp only [size_alloc, size_setB, size_drew]; omega)) | exact Hb.setSame (by assumption) | refine Hb.set (by first | omega | (simp only [size_alloc, size_setB, size_drew]; omega)) ?_ ))) rfl (by first | omega | assumption | rfl | decide | exact Nat.le_refl _ | (simp only [size_ic, Value.cells]; omega) | simp) (by first | omega | assumption | rfl | decide | exact Nat.le_refl _ | (simp only [size_ic, Value.cells]; omega) | simp) (by first | exact oneCell_ic | assumption) (fun h => by cases h) ?_ | refine WH_store Hvad.sizeOf59 rfl (v := .agg _) rfl (Hb.h (by repeat (first | assumption | exact Hb.newY _ _ | refine Hb.alloc ?_ | refine Hb.drew ?_ | refine Hb.ext (by assumption) ?_ | exact Hb.setSameL (by first | omega | (simp only [size_alloc, size_setB, size_drew]; omega)) | exact Hb.setSame (by assumption) | refine Hb.set (by first | omega | (simp only [size_alloc, size_setB, size_drew]; omega)) ?_ ))) (by first | omega | assumption | rfl | decide | exact Nat.le_refl _ | (simp only [size_ic, Value.cells]; omega) | simp) (by first | omega | assumption | rfl | decide | exact Nat.le_refl _ | (simp only [size_ic, Value.cells]; omega) | simp) (by first | exact oneCell_ic | assumption) (fun h => by cases h) ?_
        refine WH_nil ?_
        refine F_end ?_
        refine thn_normal ?_
        refine W_seq ?_
        refine W_drawE [false, true, false, false, false, false, false, false, false, false, false] hmix (by kernel_rfl) rfl ?_
        refine WH_loadA _ Hvad.isAgg59 Hvad.sizeOf59 rfl (Hb.h (by repeat (first | assumption | exact Hb.newY _ _ | refine Hb.alloc ?_ | refine Hb.drew ?_ | refine Hb.ext (by assumption) ?_ | exact Hb.setSameL (by first | omega | (simp only [size_alloc, size_setB, size_drew]; omega)) | exact Hb.setSame (by assumption) | refine Hb.set (by first | omega | (simp only [size_alloc, size_setB, size_drew]; omega)) ?_ ))) (by first | omega | assumption | rfl | decide | exact Nat.le_refl _ | (simp only [size_ic, Value.cells]; omega) | simp) (Xt.h (by first | assumption | exact Xt.whole rfl rfl | exact Xt.whole rfl (by simp only [size_ic, Value.cells]; omega) | exact ⟨rfl⟩)) ?_
        refine WH_call Hvad.call131 (by rfl) (Ret.mono (isz_spec _ _ (by first | assumption | exact argW_wd hM.ty _ _ | exact Wd0)) ?_)
        rintro _ w131_21 ⟨rfl, hE131_21⟩
        refine ⟨fun _ => (by repeat (first | assumption | exact Ext.refl _ | refine Ext.alloc ?_ _ | refine Ext.drew ?_ | refine Ext.setB ?_ (by first | omega | (simp only [size_alloc, size_setB, size_drew]; omega)) _ | exact Ext.trans (by assumption) (by assumption) | refine Ext.trans ?_ (by assumption))), ?_⟩
        have hz131_21 := hE131_21.1
        try simp only [size_alloc, size_setB, size_drew] at hz131_21
        refine WH_p (PS_not rfl) rfl ?_
        refine WH_p (PS_move_bool rfl) rfl ?_
        refine WH_if (t := 31) rfl (fun hb25 => ?_) (fun hb25 => ?_)
        · have hb25p := hb25.h; try simp only [al_ete, al_dfn, Bool.not_eq_true', Bool.not_eq_false', al_ne, Bool.not_not, al_nn] at hb25p
          refine WH_guardT rfl rfl hb25.h ?_
          refine WH_p (PS_move_ptr rfl) rfl ?_
          refine WH_guardT rfl rfl hb25.h ?_
          refine WH_p (PS_nilCheck rfl) rfl ?_
          refine WH_guardT rfl rfl hb25.h ?_
          refine WH_p (PS_fieldAddr 0 Hvad.runUnderlying69 rfl Hvad.sizeOf53 rfl rfl) rfl ?_
          refine WH_guardT rfl rfl hb25.h ?_
          refine WH_load (.pointer _) Hvad.isAgg53 rfl (Hb.h (by repeat (first | assumption | exact Hb.newY _ _ | refine Hb.alloc ?_ | refine Hb.drew ?_ | refine Hb.ext (by assumption) ?_ | exact Hb.setSameL (by first | omega | (simp only [size_alloc, size_setB, size_drew]; omega)) | exact Hb.setSame (by assumption) | refine Hb.set (by first | omega | (simp only [size_alloc, size_setB, size_drew]; omega)) ?_ ))) (Ce.h (by first | assumption | exact ⟨rfl⟩)) ?_
          refine WH_guardT rfl rfl hb25.h ?_
          refine WH_loadA _ Hvad.isAgg25 Hvad.sizeOf25 rfl (Hb.h (by repeat (first | assumption | exact Hb.newY _ _ | refine Hb.alloc ?_ | refine Hb.drew ?_ | refine Hb.ext (by assumption) ?_ | exact Hb.setSameL (by first | omega | (simp only [size_alloc, size_setB, size_drew]; omega)) | exact Hb.setSame (by assumption) | refine Hb.set (by first | omega | (simp only [size_alloc, size_setB, size_drew]; omega)) ?_ ))) (by first | omega | assumption | rfl | decide | exact Nat.le_refl _ | (simp only [size_ic, Value.cells]; omega) | simp) (Xt.h (by first | assumption | exact Xt.whole rfl rfl | exact Xt.whole rfl (by simp only [size_ic, Value.cells]; omega) | exact ⟨rfl⟩)) ?_
          refine WH_guardT rfl rfl hb25.h ?_
          refine WH_call Hvad.call191 (by rfl) (Ret.mono (isEmpty_spec C c v B (bb m) _ _ (VS.ext hM.vs (by repeat (first | assumption | exact Ext.refl _ | refine Ext.alloc ?_ _ | refine Ext.drew ?_ | refine Ext.setB ?_ (by first | omega | (simp only [size_alloc, size_setB, size_drew]; omega)) _ | exact Ext.trans (by assumption) (by assumption) | refine Ext.trans ?_ (by assumption)))) (by first | assumption | exact addrW_by _)) ?_)
          rintro _ w191_25 ⟨hE191_25, q191_25, rfl⟩
          refine ⟨(fun h => by cases h), ?_⟩
          have hz191_25 := hE191_25.1
          try simp only [size_alloc, size_setB, size_drew] at hz191_25
          refine WH_p (PS_pickT rfl hb25.h rfl) rfl ?_
          refine WH_nil ?_
          refine thn_normal ?_
          refine W_if rfl (fun hb27 => ?_) (fun hb27 => ?_)
          · have hb27p := hb27.h; try simp only [al_ete, al_dfn, Bool.not_eq_true', Bool.not_eq_false', al_ne, Bool.not_not, al_nn] at hb27p
            refine W_region rfl ?_
            refine WO_p (PS_move_int rfl) ?_
            refine WO_p (PS_add_u64n rfl rfl (by omega) (by omega)) ?_
            refine WO_p (PS_assign_int rfl) ?_
            refine WO_nil ?_
            refine thn_normal ?_
            refine W_seq ?_
            refine W_region rfl ?_
            refine WO_p (PS_move_int rfl) ?_
            refine WO_p (PS_assign_int rfl) ?_
            refine WO_nil ?_
            refine thn_normal ?_
            refine W_ret ?_
            refine bodyQ_ret1 Hvad.results248 rfl (.int _ _) rfl ?_
            first
            | exact ⟨(by repeat (first | assumption | exact Ext.refl _ | refine Ext.alloc ?_ _ | refine Ext.drew ?_ | refine Ext.setB ?_ (by first | omega | (simp only [size_alloc, size_setB, size_drew]; omega)) _ | refine Ext.trans ?_ (by assumption))), _, rfl, by omega, fun _ => by omega⟩
            | exact ⟨(by repeat (first | assumption | exact Ext.refl _ | refine Ext.alloc ?_ _ | refine Ext.drew ?_ | refine Ext.setB ?_ (by first | omega | (simp only [size_alloc, size_setB, size_drew]; omega)) _ | refine Ext.trans ?_ (by assumption))), _, rfl, by omega, fun h => by simp_all⟩
          · have hb27p := hb27.h; try simp only [al_ete, al_dfn, Bool.not_eq_true', Bool.not_eq_false', al_ne, Bool.not_not, al_nn] at hb27p
            refine W_skip ?_
            refine thn_normal ?_
            refine W_seq ?_
            refine W_region rfl ?_
            refine WO_p (PS_move_int rfl) ?_
            refine WO_p (PS_assign_int rfl) ?_
            refine WO_nil ?_
            refine thn_normal ?_
            refine W_ret ?_
            refine bodyQ_ret1 Hvad.results248 rfl (.int _ _) rfl ?_
            first
            | exact ⟨(by repeat (first | assumption | exact Ext.refl _ | refine Ext.alloc ?_ _ | refine Ext.drew ?_ | refine Ext.setB ?_ (by first | omega | (simp only [size_alloc, size_setB, size_drew]; omega)) _ | refine Ext.trans ?_ (by assumption))), _, rfl, by omega, fun _ => by omega⟩
            | exact ⟨(by repeat (first | assumption | exact Ext.refl _ | refine Ext.alloc ?_ _ | refine Ext.drew ?_ | refine Ext.setB ?_ (by first | omega | (simp only [size_alloc, size_setB, size_drew]; omega)) _ | refine Ext.trans ?_ (by assumption))), _, rfl, by omega, fun h => by simp_all⟩
        · have hb25p := hb25.h; try simp only [al_ete, al_dfn, Bool.not_eq_true', Bool.not_eq_false', al_ne, Bool.not_not, al_nn] at hb25p
          refine WH_guardF rfl rfl hb25.h ?_
          refine WH_guardF rfl rfl hb25.h ?_
          refine WH_guardF rfl rfl hb25.h ?_
          refine WH_guardF rfl rfl hb25.h ?_
          refine WH_guardF rfl rfl hb25.h ?_
          refine WH_guardF rfl rfl hb25.h ?_
          refine WH_p (PS_pickF rfl hb25.h rfl) rfl ?_
          refine WH_nil ?_
          refine thn_normal ?_
          refine W_condF rfl rfl ?_
          refine W_skip ?_
          refine thn_normal ?_
          refine W_seq ?_
          refine W_region rfl ?_
          refine WO_p (PS_move_int rfl) ?_
          refine WO_p (PS_assign_int rfl) ?_
          refine WO_nil ?_
          refine thn_normal ?_
          refine W_ret ?_
          refine bodyQ_ret1 Hvad.results248 rfl (.int _ _) rfl ?_
          first
          | exact ⟨(by repeat (first | assumption | exact Ext.refl _ | refine Ext.alloc ?_ _ | refine Ext.drew ?_ | refine Ext.setB ?_ (by first | omega | (simp only [size_alloc, size_setB, size_drew]; omega)) _ | refine Ext.trans ?_ (by assumption))), _, rfl, by omega, fun _ => by omega⟩
          | exact ⟨(by repeat (first | assumption | exact Ext.refl _ | refine Ext.alloc ?_ _ | refine Ext.drew ?_ | refine Ext.setB ?_ (by first | omega | (simp only [size_alloc, size_setB, size_drew]; omega)) _ | refine Ext.trans ?_ (by assumption))), _, rfl, by omega, fun h => by simp_all⟩
    · refine WH_allocG Hvad.zeroValue59 ?_
      intro b7 v7 hg7 hE7 hH7 hl7
      try simp only [size_alloc, size_setB, size_drew] at hg7
      have hzz7 := hE7.1
      try simp only [size_alloc, size_setB, size_drew] at hzz7
      replace hH7 : Hb v7 b7 (.cells (ic .u64 [0, 0, 0, 0]) 59 (0, 0)) := hH7
      refine ⟨fun _ => (by repeat (first | assumption | exact Ext.refl _ | refine Ext.alloc ?_ _ | refine Ext.drew ?_ | refine Ext.setB ?_ (by first | omega | (simp only [size_alloc, size_setB, size_drew]; omega)) _ | exact Ext.trans (by assumption) (by assumption) | refine Ext.trans ?_ (by assumption))), ?_⟩
      refine WH_nil ?_
      refine F_q (i := 8) rfl (by kernel_rfl) ?_
      refine WH_call Hvad.call36 (by rfl) (Ret.mono (balance_spec C c v B (bb m) _ _ (VS.ext hM.vs (by repeat (first | assumption | exact Ext.refl _ | refine Ext.alloc ?_ _ | refine Ext.drew ?_ | refine Ext.setB ?_ (by first | omega | (simp only [size_alloc, size_setB, size_drew]; omega)) _ | exact Ext.trans (by assumption) (by assumption) | refine Ext.trans ?_ (by assumption)))) (by first | assumption | exact addrW_by _)) ?_)
      rintro _ w36_27 ⟨rfl, hE36_27⟩
      refine ⟨(fun h => by cases h), ?_⟩
      have hz36_27 := hE36_27.1
      try simp only [size_alloc, size_setB, size_drew] at hz36_27
      refine WH_nil ?_
      refine F_q (i := 10) rfl (by kernel_rfl) ?_
      first | refine WH_storeW Hvad.sizeOf59 rfl (v := .agg _) rfl (Hb.h (by repeat (first | assumption | exact Hb.newY _ _ | refine Hb.alloc ?_ | refine Hb.drew ?_ | refine Hb.ext (by assumption) ?_ | exact Hb.setSameL (by first | omega | (simp only [size_alloc, size_setB, size_drew]; omega)) | exact Hb.setSame (by assumption) | refine Hb.set (by first | omega | (simp only [size_alloc, size_setB, size_drew]; omega)) ?_ ))) rfl (by first | omega | assumption | rfl | decide | exact Nat.le_refl _ | (simp only [size_ic, Value.cells]; omega) | simp) (by first | omega | assumption | rfl | decide | exact Nat.le_refl _ | (simp only [size_ic, Value.cells]; omega) | simp) (by first | exact oneCell_ic | assumption) (fun h => by cases h) ?_ | refine WH_store Hvad.sizeOf59 rfl (v := .agg _) rfl (Hb.h (by repeat (first | assumption | exact Hb.newY _ _ | refine Hb.alloc ?_ | refine Hb.drew ?_ | refine Hb.ext (by assumption) ?_ | exact Hb.setSameL (by first | omega | (simp only [size_alloc, size_setB, size_drew]; omega)) | exact Hb.setSame (by assumption) | refine Hb.set (by first | omega | (simp only [size_alloc, size_setB, size_drew]; omega)) ?_ ))) (by first | omega | assumption | rfl | decide | exact Nat.le_refl _ | (simp only [size_ic, Value.cells]; omega) | simp) (by first | omega | assumption | rfl | decide | exact Nat.le_refl _ | (simp only [size_ic, Value.cells]; omega) | simp) (by first | exact oneCell_ic | assumption) (fun h => by cases h) ?_
      refine WH_nil ?_
      refine F_end ?_
      refine thn_normal ?_
      refine W_seq ?_
      refine W_drawE [false, true, false, false, false, false, false, false, false, false, false] hmix (by kernel_rfl) rfl ?_
      refine WH_loadA _ Hvad.isAgg59 Hvad.sizeOf59 rfl (Hb.h (by repeat (first | assumption | exact Hb.newY _ _ | refine Hb.alloc ?_ | refine Hb.drew ?_ | refine Hb.ext (by assumption) ?_ | exact Hb.setSameL (by first | omega | (simp only [size_alloc, size_setB, size_drew]; omega)) | exact Hb.setSame (by assumption) | refine Hb.set (by first | omega | (simp only [size_alloc, size_setB, size_drew]; omega)) ?_ ))) (by first | omega | assumption | rfl | decide | exact Nat.le_refl _ | (simp only [size_ic, Value.cells]; omega) | simp) (Xt.h (by first | assumption | exact Xt.whole rfl rfl | exact Xt.whole rfl (by simp only [size_ic, Value.cells]; omega) | exact ⟨rfl⟩)) ?_
      refine WH_call Hvad.call131 (by rfl) (Ret.mono (isz_spec _ _ (by first | assumption | exact argW_wd hM.ty _ _ | exact Wd0)) ?_)
      rintro _ w131_28 ⟨rfl, hE131_28⟩
      refine ⟨fun _ => (by repeat (first | assumption | exact Ext.refl _ | refine Ext.alloc ?_ _ | refine Ext.drew ?_ | refine Ext.setB ?_ (by first | omega | (simp only [size_alloc, size_setB, size_drew]; omega)) _ | exact Ext.trans (by assumption) (by assumption) | refine Ext.trans ?_ (by assumption))), ?_⟩
      have hz131_28 := hE131_28.1
      try simp only [size_alloc, size_setB, size_drew] at hz131_28
      refine WH_p (PS_not rfl) rfl ?_
      refine WH_p (PS_move_bool rfl) rfl ?_
      refine WH_if (t := 31) rfl (fun hb32 => ?_) (fun hb32 => ?_)
      · have hb32p := hb32.h; try simp only [al_ete, al_dfn, Bool.not_eq_true', Bool.not_eq_false', al_ne, Bool.not_not, al_nn] at hb32p
        refine WH_guardT rfl rfl hb32.h ?_
        refine WH_p (PS_move_ptr rfl) rfl ?_
        refine WH_guardT rfl rfl hb32.h ?_
        refine WH_p (PS_nilCheck rfl) rfl ?_
        refine WH_guardT rfl rfl hb32.h ?_
        refine WH_p (PS_fieldAddr 0 Hvad.runUnderlying69 rfl Hvad.sizeOf53 rfl rfl) rfl ?_
        refine WH_guardT rfl rfl hb32.h ?_
        refine WH_load (.pointer _) Hvad.isAgg53 rfl (Hb.h (by repeat (first | assumption | exact Hb.newY _ _ | refine Hb.alloc ?_ | refine Hb.drew ?_ | refine Hb.ext (by assumption) ?_ | exact Hb.setSameL (by first | omega | (simp only [size_alloc, size_setB, size_drew]; omega)) | exact Hb.setSame (by assumption) | refine Hb.set (by first | omega | (simp only [size_alloc, size_setB, size_drew]; omega)) ?_ ))) (Ce.h (by first | assumption | exact ⟨rfl⟩)) ?_
        refine WH_guardT rfl rfl hb32.h ?_
        refine WH_loadA _ Hvad.isAgg25 Hvad.sizeOf25 rfl (Hb.h (by repeat (first | assumption | exact Hb.newY _ _ | refine Hb.alloc ?_ | refine Hb.drew ?_ | refine Hb.ext (by assumption) ?_ | exact Hb.setSameL (by first | omega | (simp only [size_alloc, size_setB, size_drew]; omega)) | exact Hb.setSame (by assumption) | refine Hb.set (by first | omega | (simp only [size_alloc, size_setB, size_drew]; omega)) ?_ ))) (by first | omega | assumption | rfl | decide | exact Nat.le_refl _ | (simp only [size_ic, Value.cells]; omega) | simp) (Xt.h (by first | assumption | exact Xt.whole rfl rfl | exact Xt.whole rfl (by simp only [size_ic, Value.cells]; omega) | exact ⟨rfl⟩)) ?_
        refine WH_guardT rfl rfl hb32.h ?_
        refine WH_call Hvad.call191 (by rfl) (Ret.mono (isEmpty_spec C c v B (bb m) _ _ (VS.ext hM.vs (by repeat (first | assumption | exact Ext.refl _ | refine Ext.alloc ?_ _ | refine Ext.drew ?_ | refine Ext.setB ?_ (by first | omega | (simp only [size_alloc, size_setB, size_drew]; omega)) _ | exact Ext.trans (by assumption) (by assumption) | refine Ext.trans ?_ (by assumption)))) (by first | assumption | exact addrW_by _)) ?_)
        rintro _ w191_32 ⟨hE191_32, q191_32, rfl⟩
        refine ⟨(fun h => by cases h), ?_⟩
        have hz191_32 := hE191_32.1
        try simp only [size_alloc, size_setB, size_drew] at hz191_32
        refine WH_p (PS_pickT rfl hb32.h rfl) rfl ?_
        refine WH_nil ?_
        refine thn_normal ?_
        refine W_if rfl (fun hb34 => ?_) (fun hb34 => ?_)
        · have hb34p := hb34.h; try simp only [al_ete, al_dfn, Bool.not_eq_true', Bool.not_eq_false', al_ne, Bool.not_not, al_nn] at hb34p
          refine W_region rfl ?_
          refine WO_p (PS_move_int rfl) ?_
          refine WO_p (PS_add_u64n rfl rfl (by omega) (by omega)) ?_
          refine WO_p (PS_assign_int rfl) ?_
          refine WO_nil ?_
          refine thn_normal ?_
          refine W_seq ?_
          refine W_region rfl ?_
          refine WO_p (PS_move_int rfl) ?_
          refine WO_p (PS_assign_int rfl) ?_
          refine WO_nil ?_
          refine thn_normal ?_
          refine W_ret ?_
          refine bodyQ_ret1 Hvad.results248 rfl (.int _ _) rfl ?_
          first
          | exact ⟨(by repeat (first | assumption | exact Ext.refl _ | refine Ext.alloc ?_ _ | refine Ext.drew ?_ | refine Ext.setB ?_ (by first | omega | (simp only [size_alloc, size_setB, size_drew]; omega)) _ | refine Ext.trans ?_ (by assumption))), _, rfl, by omega, fun _ => by omega⟩
          | exact ⟨(by repeat (first | assumption | exact Ext.refl _ | refine Ext.alloc ?_ _ | refine Ext.drew ?_ | refine Ext.setB ?_ (by first | omega | (simp only [size_alloc, size_setB, size_drew]; omega)) _ | refine Ext.trans ?_ (by assumption))), _, rfl, by omega, fun h => by simp_all⟩
        · have hb34p := hb34.h; try simp only [al_ete, al_dfn, Bool.not_eq_true', Bool.not_eq_false', al_ne, Bool.not_not, al_nn] at hb34p
          refine W_skip ?_
          refine thn_normal ?_
          refine W_seq ?_
          refine W_region rfl ?_
          refine WO_p (PS_move_int rfl) ?_
          refine WO_p (PS_assign_int rfl) ?_
          refine WO_nil ?_
          refine thn_normal ?_
          refine W_ret ?_
          refine bodyQ_ret1 Hvad.results248 rfl (.int _ _) rfl ?_
          first
          | exact ⟨(by repeat (first | assumption | exact Ext.refl _ | refine Ext.alloc ?_ _ | refine Ext.drew ?_ | refine Ext.setB ?_ (by first | omega | (simp only [size_alloc, size_setB, size_drew]; omega)) _ | refine Ext.trans ?_ (by assumption))), _, rfl, by omega, fun _ => by omega⟩
          | exact ⟨(by repeat (first | assumption | exact Ext.refl _ | refine Ext.alloc ?_ _ | refine Ext.drew ?_ | refine Ext.setB ?_ (by first | omega | (simp only [size_alloc, size_setB, size_drew]; omega)) _ | refine Ext.trans ?_ (by assumption))), _, rfl, by omega, fun h => by simp_all⟩
      · have hb32p := hb32.h; try simp only [al_ete, al_dfn, Bool.not_eq_true', Bool.not_eq_false', al_ne, Bool.not_not, al_nn] at hb32p
        refine WH_guardF rfl rfl hb32.h ?_
        refine WH_guardF rfl rfl hb32.h ?_
        refine WH_guardF rfl rfl hb32.h ?_
        refine WH_guardF rfl rfl hb32.h ?_
        refine WH_guardF rfl rfl hb32.h ?_
        refine WH_guardF rfl rfl hb32.h ?_
        refine WH_p (PS_pickF rfl hb32.h rfl) rfl ?_
        refine WH_nil ?_
        refine thn_normal ?_
        refine W_condF rfl rfl ?_
        refine W_skip ?_
        refine thn_normal ?_
        refine W_seq ?_
        refine W_region rfl ?_
        refine WO_p (PS_move_int rfl) ?_
        refine WO_p (PS_assign_int rfl) ?_
        refine WO_nil ?_
        refine thn_normal ?_
        refine W_ret ?_
        refine bodyQ_ret1 Hvad.results248 rfl (.int _ _) rfl ?_
        first
        | exact ⟨(by repeat (first | assumption | exact Ext.refl _ | refine Ext.alloc ?_ _ | refine Ext.drew ?_ | refine Ext.setB ?_ (by first | omega | (simp only [size_alloc, size_setB, size_drew]; omega)) _ | refine Ext.trans ?_ (by assumption))), _, rfl, by omega, fun _ => by omega⟩
        | exact ⟨(by repeat (first | assumption | exact Ext.refl _ | refine Ext.alloc ?_ _ | refine Ext.drew ?_ | refine Ext.setB ?_ (by first | omega | (simp only [size_alloc, size_setB, size_drew]; omega)) _ | refine Ext.trans ?_ (by assumption))), _, rfl, by omega, fun h => by simp_all⟩

set_option maxRecDepth 10000 in
theorem isDest_spec (b o : Nat) (r : Array Value) (L : List Int) (p : Int) (T : TypeId) (w : World) (hb : Hb w b (.cells r T (0, 0))) (hx : Xt r o (o + 8) (ic .u64 L)) (hL : L.length = 8 ∧ ∀ x ∈ L, 0 ≤ x ∧ x ≤ 18446744073709551615) (hbd : o + 8 ≤ r.size) (hp : 0 ≤ p ∧ p ≤ 65535) : Ret Hvad.prog 252 #[.pointer (some ⟨b, o, none⟩), .int .u16 p] w fun u w' => Ext w w' ∧ ∃ q, u = .bool q := by
  obtain ⟨hl, hty⟩ := hL
  refine Ret_of_W Hvad.func252 rfl rfl ?_
  refine W_seq ?_
  refine W_region rfl ?_
  refine WO_p (PS_assign_bool rfl) ?_
  refine WO_nil ?_
  refine thn_normal ?_
  refine W_seq ?_
  refine W_region rfl ?_
  refine WO_p (PS_move_ptr rfl) ?_
  refine WO_p (PS_neqnil Hvad.underlying319 rfl) ?_
  refine WO_p (PS_move_bool rfl) ?_
  refine WO_if (t := 7) rfl (fun hb2 => ?_) (fun hb2 => ?_)
  · have hb2p := hb2.h; try simp only [al_ete, al_dfn, Bool.not_eq_true', Bool.not_eq_false', al_ne, Bool.not_not, al_nn] at hb2p
    refine WO_guardT rfl rfl hb2.h ?_
    refine WO_p (PS_move_int rfl) ?_
    refine WO_guardT rfl rfl hb2.h ?_
    refine WO_p (PS_lss rfl rfl) ?_
    refine WO_p (PS_pickT rfl hb2.h rfl) ?_
    refine WO_p (PS_move_bool rfl) ?_
    refine WO_if (t := 11) rfl (fun hb4 => ?_) (fun hb4 => ?_)
    · have hb4p := hb4.h; try simp only [al_ete, al_dfn, Bool.not_eq_true', Bool.not_eq_false', al_ne, Bool.not_not, al_nn] at hb4p
      have hlt : (p / 64).toNat < L.length := by omega
      have hcx : Ce r (o + (p / 64).toNat * 1) (.int .u64 L[(p / 64).toNat]) := ⟨by
        have e : (r.extract o (o + 8))[(p / 64).toNat]? = some (.int .u64 L[(p / 64).toNat]) := by rw [hx.h]; simp [ic, hlt]
        rw [Array.getElem?_extract, if_pos (by omega)] at e
        rw [Nat.mul_one]; exact e⟩
      have hlx := hty _ (List.getElem_mem hlt)
      refine WO_guardT rfl rfl hb4.h ?_
      refine WO_p (PS_move_ptr rfl) ?_
      refine WO_guardT rfl rfl hb4.h ?_
      refine WO_p (PS_move_int rfl) ?_
      refine WO_guardT rfl rfl hb4.h ?_
      refine WO_p (PS_quo_u16 rfl rfl (by omega) (by omega) (by omega)) ?_
      refine WO_guardT rfl rfl hb4.h ?_
      refine WO_p (PS_nilCheck rfl) ?_
      refine WO_guardT rfl rfl hb4.h ?_
      refine WO_p (PS_indexA Hvad.runUnderlying63 Hvad.sizeOf26 rfl rfl (by omega) (by omega)) ?_
      refine WO_guardT rfl rfl hb4.h ?_
      refine WO_load (.int _ _) Hvad.isAgg26 rfl (Hb.h (by repeat (first | assumption | exact Hb.newY _ _ | refine Hb.alloc ?_ | refine Hb.drew ?_ | refine Hb.ext (by assumption) ?_ | exact Hb.setSameL (by first | omega | (simp only [size_alloc, size_setB, size_drew]; omega)) | exact Hb.setSame (by assumption) | refine Hb.set (by first | omega | (simp only [size_alloc, size_setB, size_drew]; omega)) ?_ ))) (Ce.h (by first | assumption | exact ⟨rfl⟩)) ?_
      refine WO_guardT rfl rfl hb4.h ?_
      refine WO_p (PS_move_int rfl) ?_
      refine WO_guardT rfl rfl hb4.h ?_
      refine WO_p (PS_rem_u16 rfl rfl (by omega) (by omega)) ?_
      refine WO_guardT rfl rfl hb4.h ?_
      refine WO_p (PS_shr_u64 _ rfl rfl (by omega) rfl) ?_
      refine WO_guardT rfl rfl hb4.h ?_
      refine WO_p (PS_and_u64 rfl rfl) ?_
      refine WO_guardT rfl rfl hb4.h ?_
      refine WO_p (PS_eql rfl rfl) ?_
      refine WO_p (PS_pickT rfl hb4.h rfl) ?_
      refine WO_p (PS_assign_bool rfl) ?_
      refine WO_nil ?_
      refine thn_normal ?_
      refine W_ret ?_
      refine bodyQ_ret1 Hvad.results252 rfl (.bool _) rfl ?_
      exact ⟨(by repeat (first | assumption | exact Ext.refl _ | refine Ext.alloc ?_ _ | refine Ext.drew ?_ | refine Ext.setB ?_ (by first | omega | (simp only [size_alloc, size_setB, size_drew]; omega)) _ | refine Ext.trans ?_ (by assumption))), _, rfl⟩
    · have hb4p := hb4.h; try simp only [al_ete, al_dfn, Bool.not_eq_true', Bool.not_eq_false', al_ne, Bool.not_not, al_nn] at hb4p
      refine WO_guardF rfl rfl hb4.h ?_
      refine WO_guardF rfl rfl hb4.h ?_
      refine WO_guardF rfl rfl hb4.h ?_
      refine WO_guardF rfl rfl hb4.h ?_
      refine WO_guardF rfl rfl hb4.h ?_
      refine WO_guardF rfl rfl hb4.h ?_
      refine WO_guardF rfl rfl hb4.h ?_
      refine WO_guardF rfl rfl hb4.h ?_
      refine WO_guardF rfl rfl hb4.h ?_
      refine WO_guardF rfl rfl hb4.h ?_
      refine WO_guardF rfl rfl hb4.h ?_
      refine WO_p (PS_pickF rfl hb4.h rfl) ?_
      refine WO_p (PS_assign_bool rfl) ?_
      refine WO_nil ?_
      refine thn_normal ?_
      refine W_ret ?_
      refine bodyQ_ret1 Hvad.results252 rfl (.bool _) rfl ?_
      exact ⟨(by repeat (first | assumption | exact Ext.refl _ | refine Ext.alloc ?_ _ | refine Ext.drew ?_ | refine Ext.setB ?_ (by first | omega | (simp only [size_alloc, size_setB, size_drew]; omega)) _ | refine Ext.trans ?_ (by assumption))), _, rfl⟩
  · have hb2p := hb2.h; try simp only [al_ete, al_dfn, Bool.not_eq_true', Bool.not_eq_false', al_ne, Bool.not_not, al_nn] at hb2p
    refine WO_guardF rfl rfl hb2.h ?_
    refine WO_guardF rfl rfl hb2.h ?_
    refine WO_p (PS_pickF rfl hb2.h rfl) ?_
    refine WO_p (PS_move_bool rfl) ?_
    refine WO_guardF rfl rfl rfl ?_
    refine WO_guardF rfl rfl rfl ?_
    refine WO_guardF rfl rfl rfl ?_
    refine WO_guardF rfl rfl rfl ?_
    refine WO_guardF rfl rfl rfl ?_
    refine WO_guardF rfl rfl rfl ?_
    refine WO_guardF rfl rfl rfl ?_
    refine WO_guardF rfl rfl rfl ?_
    refine WO_guardF rfl rfl rfl ?_
    refine WO_guardF rfl rfl rfl ?_
    refine WO_guardF rfl rfl rfl ?_
    refine WO_p (PS_pickF rfl rfl rfl) ?_
    refine WO_p (PS_assign_bool rfl) ?_
    refine WO_nil ?_
    refine thn_normal ?_
    refine W_ret ?_
    refine bodyQ_ret1 Hvad.results252 rfl (.bool _) rfl ?_
    exact ⟨(by repeat (first | assumption | exact Ext.refl _ | refine Ext.alloc ?_ _ | refine Ext.drew ?_ | refine Ext.setB ?_ (by first | omega | (simp only [size_alloc, size_setB, size_drew]; omega)) _ | refine Ext.trans ?_ (by assumption))), _, rfl⟩

set_option maxRecDepth 10000 in
theorem good_spec (C : Nat) (c : Array Value) (v : V) (B : VB) (m : Mc) (t : Nat) (f : Fm) (W : List Int) (w : World) (hM : MS w C c v B m) (hA : FrA m t f) (hW : Wd W) (hcl : f.code.2.1 ≤ 100000) : Ret Hvad.prog 167 #[.pointer (some ⟨C, 1803 + t * 65, none⟩), .agg (ic .u64 W)] w fun u w' => Ext w w' ∧ ∃ q, u = .bool q ∧ (q = true → wv W < f.code.2.1 ∧ wv W < 512) := by
  have hA0 := hA
  have hblk := hM.vs.blk
  have hCl := hblk.lt
  have hcs := hM.sz
  have hc_s := hM.rep.s
  obtain ⟨ht6, hf, hsb, hsp⟩ := hA0
  obtain ⟨ht7, hfty, hF⟩ := hM.openF hf
  have hf_code := hF.code
  have hf_d := hF.dests
  have hWl := hW.1
  have hwb := wv_bd hW
  have hfb := hF.bd
  refine Ret_of_W Hvad.func167 rfl rfl ?_
  refine W_seq ?_
  refine W_region rfl ?_
  refine WO_boxG (.agg _) rfl ?_
  intro b3 v3 hg3 hE3 hH3 hl3
  try simp only [size_alloc, size_setB, size_drew] at hg3
  have hzz3 := hE3.1
  try simp only [size_alloc, size_setB, size_drew] at hzz3
  refine WO_p (PS_assign_bool rfl) ?_
  refine WO_nil ?_
  refine thn_normal ?_
  refine W_seq ?_
  refine W_region rfl ?_
  refine WO_loadA _ Hvad.isAgg59 Hvad.sizeOf59 rfl (Hb.h (by repeat (first | assumption | exact Hb.newY _ _ | refine Hb.alloc ?_ | refine Hb.drew ?_ | refine Hb.ext (by assumption) ?_ | exact Hb.setSameL (by first | omega | (simp only [size_alloc, size_setB, size_drew]; omega)) | exact Hb.setSame (by assumption) | refine Hb.set (by first | omega | (simp only [size_alloc, size_setB, size_drew]; omega)) ?_ ))) (by first | omega | assumption | rfl | decide | exact Nat.le_refl _ | (simp only [size_ic, Value.cells]; omega) | simp) (Xt.h (by first | assumption | exact Xt.whole rfl rfl | exact Xt.whole rfl (by simp only [size_ic, Value.cells]; omega) | exact ⟨rfl⟩)) ?_
  refine WO_call Hvad.call196 (by rfl) (Ret.mono (u64x_spec _ _ (by first | assumption | exact argW_wd hM.ty _ _ | exact Wd0)) ?_)
  rintro _ w196_0 ⟨hE196_0, x196_0, rfl, hx196_0, hxb196_0⟩
  have hz196_0 := hE196_0.1
  try simp only [size_alloc, size_setB, size_drew] at hz196_0
  refine WO_p (PS_move_tuple rfl) ?_
  refine WO_p (PS_extract_int rfl rfl) ?_
  refine WO_p (PS_extract_bool rfl rfl) ?_
  refine WO_p (PS_assign_int rfl) ?_
  refine WO_p (PS_assign_bool rfl) ?_
  refine WO_nil ?_
  refine thn_normal ?_
  refine W_seq ?_
  refine W_region rfl ?_
  refine WO_p (PS_move_bool rfl) ?_
  refine WO_p (PS_move_bool rfl) ?_
  refine WO_if (t := 13) rfl (fun hb3 => ?_) (fun hb3 => ?_)
  · have hb3p := hb3.h; try simp only [al_ete, al_dfn, Bool.not_eq_true', Bool.not_eq_false', al_ne, Bool.not_not, al_nn] at hb3p
    refine WO_guardT rfl rfl hb3.h ?_
    refine WO_p (PS_move_int rfl) ?_
    refine WO_guardT rfl rfl hb3.h ?_
    refine WO_p (PS_move_ptr rfl) ?_
    refine WO_guardT rfl rfl hb3.h ?_
    refine WO_p (PS_nilCheck rfl) ?_
    refine WO_guardT rfl rfl hb3.h ?_
    refine WO_p (PS_fieldAddr 53 Hvad.runUnderlying65 rfl Hvad.sizeOf32 rfl rfl) ?_
    refine WO_guardT rfl rfl hb3.h ?_
    refine WO_load (.slice _ _ _) Hvad.isAgg32 rfl (Hb.h (by repeat (first | assumption | exact Hb.newY _ _ | refine Hb.alloc ?_ | refine Hb.drew ?_ | refine Hb.ext (by assumption) ?_ | exact Hb.setSameL (by first | omega | (simp only [size_alloc, size_setB, size_drew]; omega)) | exact Hb.setSame (by assumption) | refine Hb.set (by first | omega | (simp only [size_alloc, size_setB, size_drew]; omega)) ?_ ))) (Ce.h (by first | assumption | exact ⟨rfl⟩)) ?_
    refine WO_guardT rfl rfl hb3.h ?_
    refine WO_p (PS_lenS Hvad.runUnderlying32 rfl) ?_
    refine WO_guardT rfl rfl hb3.h ?_
    refine WO_p (PS_conv_u64n Hvad.runUnderlying3 Hvad.runUnderlying26 rfl (by omega) (by omega)) ?_
    refine WO_guardT rfl rfl hb3.h ?_
    refine WO_p (PS_lss rfl rfl) ?_
    refine WO_p (PS_pickT rfl hb3.h rfl) ?_
    refine WO_p (PS_move_bool rfl) ?_
    refine WO_if (t := 23) rfl (fun hb5 => ?_) (fun hb5 => ?_)
    · have hb5p := hb5.h; try simp only [al_ete, al_dfn, Bool.not_eq_true', Bool.not_eq_false', al_ne, Bool.not_not, al_nn] at hb5p
      refine WO_guardT rfl rfl hb5.h ?_
      refine WO_p (PS_move_int rfl) ?_
      refine WO_guardT rfl rfl hb5.h ?_
      refine WO_p (PS_lss rfl rfl) ?_
      refine WO_p (PS_pickT rfl hb5.h rfl) ?_
      refine WO_p (PS_move_bool rfl) ?_
      refine WO_if (t := 27) rfl (fun hb7 => ?_) (fun hb7 => ?_)
      · have hb7p := hb7.h; try simp only [al_ete, al_dfn, Bool.not_eq_true', Bool.not_eq_false', al_ne, Bool.not_not, al_nn] at hb7p
        refine WO_guardT rfl rfl hb7.h ?_
        refine WO_p (PS_move_ptr rfl) ?_
        refine WO_guardT rfl rfl hb7.h ?_
        refine WO_p (PS_nilCheck rfl) ?_
        refine WO_guardT rfl rfl hb7.h ?_
        refine WO_p (PS_fieldAddr 55 Hvad.runUnderlying65 rfl Hvad.sizeOf63 rfl rfl) ?_
        refine WO_guardT rfl rfl hb7.h ?_
        refine WO_p (PS_move_int rfl) ?_
        refine WO_guardT rfl rfl hb7.h ?_
        refine WO_p (PS_conv_u16n Hvad.runUnderlying26 Hvad.runUnderlying61 rfl (by omega) (by omega)) ?_
        refine WO_guardT rfl rfl hb7.h ?_
        refine WO_call Hvad.call252 (by rfl) (Ret.mono (isDest_spec C (1803 + t * 65 + 55) _ f.dests _ 86 _ (Hb.mk (Hb.h (by repeat (first | assumption | exact Hb.newY _ _ | refine Hb.alloc ?_ | refine Hb.drew ?_ | refine Hb.ext (by assumption) ?_ | exact Hb.setSameL (by first | omega | (simp only [size_alloc, size_setB, size_drew]; omega)) | exact Hb.setSame (by assumption) | refine Hb.set (by first | omega | (simp only [size_alloc, size_setB, size_drew]; omega)) ?_ )))) (by assumption) hfty.dests (by omega) (by omega)) ?_)
        rintro _ w252_7 ⟨hE252_7, q252_7, rfl⟩
        have hz252_7 := hE252_7.1
        try simp only [size_alloc, size_setB, size_drew] at hz252_7
        refine WO_p (PS_pickT rfl hb7.h rfl) ?_
        refine WO_p (PS_assign_bool rfl) ?_
        refine WO_nil ?_
        refine thn_normal ?_
        refine W_ret ?_
        refine bodyQ_ret1 Hvad.results167 rfl (.bool _) rfl ?_
        first
        | exact ⟨(by repeat (first | assumption | exact Ext.refl _ | refine Ext.alloc ?_ _ | refine Ext.drew ?_ | refine Ext.setB ?_ (by first | omega | (simp only [size_alloc, size_setB, size_drew]; omega)) _ | refine Ext.trans ?_ (by assumption))), _, rfl, fun h => absurd h al_bft⟩
        | exact ⟨(by repeat (first | assumption | exact Ext.refl _ | refine Ext.alloc ?_ _ | refine Ext.drew ?_ | refine Ext.setB ?_ (by first | omega | (simp only [size_alloc, size_setB, size_drew]; omega)) _ | refine Ext.trans ?_ (by assumption))), _, rfl, fun h => ⟨by simp_all; omega, by simp_all; omega⟩⟩
        | exact ⟨(by repeat (first | assumption | exact Ext.refl _ | refine Ext.alloc ?_ _ | refine Ext.drew ?_ | refine Ext.setB ?_ (by first | omega | (simp only [size_alloc, size_setB, size_drew]; omega)) _ | refine Ext.trans ?_ (by assumption))), _, rfl, fun h => ⟨by omega, by omega⟩⟩
      · have hb7p := hb7.h; try simp only [al_ete, al_dfn, Bool.not_eq_true', Bool.not_eq_false', al_ne, Bool.not_not, al_nn] at hb7p
        refine WO_guardF rfl rfl hb7.h ?_
        refine WO_guardF rfl rfl hb7.h ?_
        refine WO_guardF rfl rfl hb7.h ?_
        refine WO_guardF rfl rfl hb7.h ?_
        refine WO_guardF rfl rfl hb7.h ?_
        refine WO_guardF rfl rfl hb7.h ?_
        refine WO_p (PS_pickF rfl hb7.h rfl) ?_
        refine WO_p (PS_assign_bool rfl) ?_
        refine WO_nil ?_
        refine thn_normal ?_
        refine W_ret ?_
        refine bodyQ_ret1 Hvad.results167 rfl (.bool _) rfl ?_
        first
        | exact ⟨(by repeat (first | assumption | exact Ext.refl _ | refine Ext.alloc ?_ _ | refine Ext.drew ?_ | refine Ext.setB ?_ (by first | omega | (simp only [size_alloc, size_setB, size_drew]; omega)) _ | refine Ext.trans ?_ (by assumption))), _, rfl, fun h => absurd h al_bft⟩
        | exact ⟨(by repeat (first | assumption | exact Ext.refl _ | refine Ext.alloc ?_ _ | refine Ext.drew ?_ | refine Ext.setB ?_ (by first | omega | (simp only [size_alloc, size_setB, size_drew]; omega)) _ | refine Ext.trans ?_ (by assumption))), _, rfl, fun h => ⟨by simp_all; omega, by simp_all; omega⟩⟩
        | exact ⟨(by repeat (first | assumption | exact Ext.refl _ | refine Ext.alloc ?_ _ | refine Ext.drew ?_ | refine Ext.setB ?_ (by first | omega | (simp only [size_alloc, size_setB, size_drew]; omega)) _ | refine Ext.trans ?_ (by assumption))), _, rfl, fun h => ⟨by omega, by omega⟩⟩
    · have hb5p := hb5.h; try simp only [al_ete, al_dfn, Bool.not_eq_true', Bool.not_eq_false', al_ne, Bool.not_not, al_nn] at hb5p
      refine WO_guardF rfl rfl hb5.h ?_
      refine WO_guardF rfl rfl hb5.h ?_
      refine WO_p (PS_pickF rfl hb5.h rfl) ?_
      refine WO_p (PS_move_bool rfl) ?_
      refine WO_guardF rfl rfl rfl ?_
      refine WO_guardF rfl rfl rfl ?_
      refine WO_guardF rfl rfl rfl ?_
      refine WO_guardF rfl rfl rfl ?_
      refine WO_guardF rfl rfl rfl ?_
      refine WO_guardF rfl rfl rfl ?_
      refine WO_p (PS_pickF rfl rfl rfl) ?_
      refine WO_p (PS_assign_bool rfl) ?_
      refine WO_nil ?_
      refine thn_normal ?_
      refine W_ret ?_
      refine bodyQ_ret1 Hvad.results167 rfl (.bool _) rfl ?_
      first
      | exact ⟨(by repeat (first | assumption | exact Ext.refl _ | refine Ext.alloc ?_ _ | refine Ext.drew ?_ | refine Ext.setB ?_ (by first | omega | (simp only [size_alloc, size_setB, size_drew]; omega)) _ | refine Ext.trans ?_ (by assumption))), _, rfl, fun h => absurd h al_bft⟩
      | exact ⟨(by repeat (first | assumption | exact Ext.refl _ | refine Ext.alloc ?_ _ | refine Ext.drew ?_ | refine Ext.setB ?_ (by first | omega | (simp only [size_alloc, size_setB, size_drew]; omega)) _ | refine Ext.trans ?_ (by assumption))), _, rfl, fun h => ⟨by simp_all; omega, by simp_all; omega⟩⟩
      | exact ⟨(by repeat (first | assumption | exact Ext.refl _ | refine Ext.alloc ?_ _ | refine Ext.drew ?_ | refine Ext.setB ?_ (by first | omega | (simp only [size_alloc, size_setB, size_drew]; omega)) _ | refine Ext.trans ?_ (by assumption))), _, rfl, fun h => ⟨by omega, by omega⟩⟩
  · have hb3p := hb3.h; try simp only [al_ete, al_dfn, Bool.not_eq_true', Bool.not_eq_false', al_ne, Bool.not_not, al_nn] at hb3p
    refine WO_guardF rfl rfl hb3.h ?_
    refine WO_guardF rfl rfl hb3.h ?_
    refine WO_guardF rfl rfl hb3.h ?_
    refine WO_guardF rfl rfl hb3.h ?_
    refine WO_guardF rfl rfl hb3.h ?_
    refine WO_guardF rfl rfl hb3.h ?_
    refine WO_guardF rfl rfl hb3.h ?_
    refine WO_guardF rfl rfl hb3.h ?_
    refine WO_p (PS_pickF rfl hb3.h rfl) ?_
    refine WO_p (PS_move_bool rfl) ?_
    refine WO_guardF rfl rfl rfl ?_
    refine WO_guardF rfl rfl rfl ?_
    refine WO_p (PS_pickF rfl rfl rfl) ?_
    refine WO_p (PS_move_bool rfl) ?_
    refine WO_guardF rfl rfl rfl ?_
    refine WO_guardF rfl rfl rfl ?_
    refine WO_guardF rfl rfl rfl ?_
    refine WO_guardF rfl rfl rfl ?_
    refine WO_guardF rfl rfl rfl ?_
    refine WO_guardF rfl rfl rfl ?_
    refine WO_p (PS_pickF rfl rfl rfl) ?_
    refine WO_p (PS_assign_bool rfl) ?_
    refine WO_nil ?_
    refine thn_normal ?_
    refine W_ret ?_
    refine bodyQ_ret1 Hvad.results167 rfl (.bool _) rfl ?_
    first
    | exact ⟨(by repeat (first | assumption | exact Ext.refl _ | refine Ext.alloc ?_ _ | refine Ext.drew ?_ | refine Ext.setB ?_ (by first | omega | (simp only [size_alloc, size_setB, size_drew]; omega)) _ | refine Ext.trans ?_ (by assumption))), _, rfl, fun h => absurd h al_bft⟩
    | exact ⟨(by repeat (first | assumption | exact Ext.refl _ | refine Ext.alloc ?_ _ | refine Ext.drew ?_ | refine Ext.setB ?_ (by first | omega | (simp only [size_alloc, size_setB, size_drew]; omega)) _ | refine Ext.trans ?_ (by assumption))), _, rfl, fun h => ⟨by simp_all; omega, by simp_all; omega⟩⟩
    | exact ⟨(by repeat (first | assumption | exact Ext.refl _ | refine Ext.alloc ?_ _ | refine Ext.drew ?_ | refine Ext.setB ?_ (by first | omega | (simp only [size_alloc, size_setB, size_drew]; omega)) _ | refine Ext.trans ?_ (by assumption))), _, rfl, fun h => ⟨by omega, by omega⟩⟩

end Go.Proofs.YgvadwGreat
