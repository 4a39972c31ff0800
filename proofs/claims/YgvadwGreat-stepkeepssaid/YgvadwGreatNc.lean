import Derived.Test.YgvadwGreatNb
namespace Go.Proofs.YgvadwGreat
set_option linter.unusedSimpArgs false
set_option linter.unusedVariables false
theorem RI.run {scan : List Int → List Int} {v : V} {m : Mc} {t : Nat} {c S : Int} (h : RI scan v m t c S) {f : Fm} (hf : m.frames[t]? = some f) : Run m t f :=
  ⟨⟨h.t6, hf, (h.fr t f (Nat.le_refl _) hf).sb, (h.fr t f (Nat.le_refl _) hf).sp⟩, h.ph, h.top⟩
theorem bb_lt {w : World} {C : Nat} {c : Array Value} {v : V} {B : VB} {m : Mc} (h : MS w C c v B m) : ∀ b, bb m = some b → b < w.heap.size := by
  intro b hb
  rcases h.buf with h1 | ⟨b', L, h1, h2, _⟩
  · unfold bb at hb; rw [h1] at hb; cases hb
  · unfold bb at hb; rw [h1] at hb; injection hb with hb; rw [← hb]; exact h2.lt
theorem BS.notown {w : World} {C : Nat} {c : Array Value} {v : V} {B : VB} {m : Mc} {s : SV} (hM : MS w C c v B m) (h : BS w (bb m) s) : ∀ b o, s.1 = some ⟨b, o, none⟩ → ¬ VOwn C B b := by
  intro b o e
  rcases h with ⟨h1, _⟩ | ⟨b', r, fz, h1, _, h2, _⟩
  · rw [h1] at e; cases e
  · rw [h1] at e; injection e with e; injection e with e; rw [← e]; exact hM.vs.not_own h2 (by decide)
theorem BS.mstep {w w' : World} {C : Nat} {c : Array Value} {v : V} {B B' : VB} {m m' : Mc} {s : SV} (hM : MS w C c v B m) (hS : MStep w w' C B m B' m') (h : BS w (bb m) s) : BS w' (bb m) s :=
  h.keep fun b r fz hβ hb => hb.keepO hS.keep (by
    rintro (hh | hh)
    · exact hM.vs.not_own hb (by decide) hh
    · exact hβ hh)
theorem MTy.base_nn {m : Mc} (h : MTy m) (i : Nat) : 0 ≤ baseOf m.base i := by
  unfold baseOf
  cases hb : m.base[i]? with
  | none => exact Int.le_refl _
  | some x => exact (h.base.2 x (List.mem_of_getElem? hb)).1
/-- where a live frame's memory lies -/
theorem RI.mem {scan : List Int → List Int} {v : V} {m : Mc} {t : Nat} {c S : Int} (h : RI scan v m t c S) (hty : MTy m) {i : Nat} (hi : i ≤ t) : ∃ lo n : Nat, m.base[i]? = some (lo : Int) ∧ m.base[i + 1]? = some ((lo + n : Nat) : Int) ∧ szOf m.base i = n ∧ lo + n ≤ m.buf.2.1 ∧ n % 32 = 0 := by
  have h6 := h.t6
  obtain ⟨x, hx⟩ := base_some hty (i := i) (by omega)
  obtain ⟨y, hy⟩ := base_some hty (i := i + 1) (by omega)
  have hb := h.bs i hi
  have hx0 := hty.base_nn i
  have ex := baseOf_some hx
  have ey := baseOf_some hy
  have hmono : ∀ k j, j + k = t + 1 → baseOf m.base j ≤ baseOf m.base (t + 1) := by
    intro k
    induction k with
    | zero => intro j hj; rw [show j = t + 1 by omega]; exact Int.le_refl _
    | succ k ih =>
      intro j hj
      have h1 := ih (j + 1) (by omega)
      have h2 := (h.bs j (by omega)).1
      unfold szOf at h2
      omega
  have hm := hmono (t - i) (i + 1) (by omega)
  have hbt := h.bt
  unfold szOf at hb ⊢
  rw [ex] at hx0
  rw [ex, ey] at hb ⊢
  refine ⟨x.toNat, (y - x).toNat, ?_, ?_, ?_, ?_, ?_⟩
  · rw [hx]; congr 1; omega
  · rw [hy]; congr 1; omega
  · omega
  · omega
  · omega
theorem popP_gas {m : Mc} {s : Nat} {p : Fm} {g : Int} {out : SV} {W : List Int} (hp : m.frames[s]? = some p) : gasTo (m.popP s p g out W).frames (s + 1) = gasTo m.frames s + p.gas + g := by
  have hl := lt_of_getElem? hp
  rw [popP_frames]
  simp only [gasTo]
  rw [gasTo_congr s (l := m.frames) (fun i hi => by rw [gasOf_set hl, if_neg (by omega)]), gasOf_set hl, if_pos rfl]
  show _ + (p.gas + g) = _
  omega
theorem Revd.le {v u : V} {id : Int} (h : Revd v u id) : id ≤ u.nmarks := by rw [h.nm]; exact Int.le_refl _
theorem gas_bd {scan : List Int → List Int} {v : V} {m : Mc} {t : Nat} {c S : Int} (h : RI scan v m t c S) (hty : MTy m) : ∀ n, n ≤ t + 1 → 0 ≤ gasTo m.frames n ∧ gasTo m.frames n ≤ 1048576 := by
  have nn : ∀ i, 0 ≤ gasOf m.frames i := by
    intro i
    unfold gasOf
    cases hf : m.frames[i]? with
    | none => exact Int.le_refl _
    | some f => exact (hty.frames.2 f (List.mem_of_getElem? hf)).gas.1
  have h0 : ∀ n, 0 ≤ gasTo m.frames n := by
    intro n
    induction n with
    | zero => exact Int.le_refl _
    | succ n ih => simp only [gasTo]; have := nn n; omega
  have hm : ∀ k n, gasTo m.frames n ≤ gasTo m.frames (n + k) := by
    intro k
    induction k with
    | zero => intro n; exact Int.le_refl _
    | succ k ih => intro n; have := ih n; rw [← Nat.add_assoc]; simp only [gasTo]; have := nn (n + k); omega
  intro n hn
  refine ⟨h0 n, ?_⟩
  have h1 := hm (t + 1 - n) n
  rw [show n + (t + 1 - n) = t + 1 by omega] at h1
  have h2 := h.gs
  have h3 := h.ti.tx
  have h4 := h.ti.lm
  have h5 := h.c0
  omega

set_option maxRecDepth 10000 in
set_option maxHeartbeats 4000000 in
theorem end_spec (scan : List Int → List Int) (C : Nat) (c : Array Value) (v : V) (B : VB) (m : Mc) (t : Nat) (f : Fm) (cr S st : Int) (out : SV) (w : World) (hM : MS w C c v B m) (hf : m.frames[t]? = some f) (hI : RI scan v m t cr S) (hst : 0 ≤ st ∧ st ≤ 11) (ho : BS w (bb m) out) (hol : out.2.1 ≤ 717280 ∧ out.2.1 ≤ out.2.2) : Ret Hvad.prog 94 #[.pointer (some ⟨C, 0, none⟩), .int .u8 st, .slice out.1 out.2.1 out.2.2] w fun _ w' => ∃ v' m', MRet w C B m w' v' m' ∧ ((t = 0 ∧ EI v' m' S ∧ gasOf m'.frames 0 ≤ f.gas) ∨ (∃ s, t = s + 1 ∧ RI scan v' m' s 0 S ∧ gasTo m'.frames (s + 1) ≤ gasTo m.frames (t + 1))) := by
  have hR := hI.run hf
  have hA := hR.fa
  have hblk := hM.vs.blk
  have hCl := hblk.lt
  have hcs := hM.sz
  have hc_s := hM.rep.s
  obtain ⟨ht7, hfty, hF⟩ := hM.openF hf
  have hf_gas := hF.gas
  have hf_kind := hF.kind
  have hf_self := hF.self
  have hgt := hfty.gas
  have hkt := hfty.kind
  have hvi := hI.ti.vi
  have hen := (hI.fr t f (Nat.le_refl _) hf).en
  have hgb := gas_bd hI hM.ty
  have hgf := gasOf_some hf
  have hlj := hI.rw_.j
  have hty := hM.ty
  have htot := hgb (t + 1) (Nat.le_refl _)
  have hpre := hgb t (by omega)
  have hsum : gasTo m.frames (t + 1) = gasTo m.frames t + f.gas := by simp only [gasTo, hgf]
  have hgs := hI.gs
  have hc0 := hI.c0
  have htx := hI.ti.tx
  have hlm := hI.ti.lm
  have hjl : v.journal.length < 65536 := by have := hI.rw_.s0; omega
  refine Ret_of_W Hvad.func94 rfl rfl ?_
  refine W_seq ?_
  refine W_region rfl ?_
  refine WO_p (PS_move_ptr rfl) ?_
  refine WO_call Hvad.call91 (by rfl) (Ret.mono (running_spec C c v B m t f _ hM hR) ?_)
  rintro _ w0 ⟨hE0, rfl⟩
  have hz0 := hE0.1
  try simp only [size_alloc, size_setB, size_drew] at hz0
  have hblk0 := hblk.ext hE0
  refine WO_p (PS_assign_ptr rfl) ?_
  refine WO_nil ?_
  refine thn_normal ?_
  refine W_seq ?_
  refine W_seq ?_
  refine W_region rfl ?_
  refine WO_p (PS_move_ptr rfl) ?_
  refine WO_p (PS_eqlnil Hvad.underlying182 rfl) ?_
  refine WO_nil ?_
  refine thn_normal ?_
  refine W_if rfl (fun hb3 => ?_) (fun hb3 => ?_)
  · have hb3p := hb3.h; try simp only [al_ete, al_dfn, Bool.not_eq_true', Bool.not_eq_false', al_ne, Bool.not_not, al_nn] at hb3p
    simp at hb3p --END
  · have hb3p := hb3.h; try simp only [al_ete, al_dfn, Bool.not_eq_true', Bool.not_eq_false', al_ne, Bool.not_not, al_nn] at hb3p
    refine W_skip ?_
    refine thn_normal ?_
    refine W_seq ?_
    refine W_region rfl ?_
    refine WO_p (PS_move_ptr rfl) ?_
    refine WO_p (PS_nilCheck rfl) ?_
    refine WO_p (PS_fieldAddr 7 Hvad.runUnderlying65 rfl Hvad.sizeOf26 rfl rfl) ?_
    refine WO_load (.int _ _) Hvad.isAgg26 rfl (Hb.h (by repeat (first | assumption | exact Hb.newY _ _ | refine Hb.alloc ?_ | refine Hb.drew ?_ | refine Hb.ext (by assumption) ?_ | exact Hb.setSameL (by first | omega | (simp only [size_alloc, size_setB, size_drew]; omega)) | exact Hb.setSame (by assumption) | refine Hb.set (by first | omega | (simp only [size_alloc, size_setB, size_drew]; omega)) ?_ ))) (Ce.h (by first | assumption | exact ⟨rfl⟩)) ?_
    refine WO_p (PS_assign_int rfl) ?_
    refine WO_nil ?_
    refine thn_normal ?_
    refine W_seq ?_
    refine W_region rfl ?_
    refine WO_p (PS_move_ptr rfl) ?_
    refine WO_p (PS_nilCheck rfl) ?_
    refine WO_p (PS_fieldAddr 0 Hvad.runUnderlying65 rfl Hvad.sizeOf5 rfl rfl) ?_
    refine WO_load (.int _ _) Hvad.isAgg5 rfl (Hb.h (by repeat (first | assumption | exact Hb.newY _ _ | refine Hb.alloc ?_ | refine Hb.drew ?_ | refine Hb.ext (by assumption) ?_ | exact Hb.setSameL (by first | omega | (simp only [size_alloc, size_setB, size_drew]; omega)) | exact Hb.setSame (by assumption) | refine Hb.set (by first | omega | (simp only [size_alloc, size_setB, size_drew]; omega)) ?_ ))) (Ce.h (by first | assumption | exact ⟨rfl⟩)) ?_
    refine WO_call Hvad.call85 (by rfl) (Ret.mono (creates_spec _ _ (by omega)) ?_)
    rintro _ w85_3 ⟨hE85_3, rfl⟩
    have hz85_3 := hE85_3.1
    try simp only [size_alloc, size_setB, size_drew] at hz85_3
    refine WO_p (PS_assign_bool rfl) ?_
    refine WO_nil ?_
    refine thn_normal ?_
    refine W_seqJ (fun ρ w' => ∃ (g2 st2 : Int) (o2 : SV) (v2 : V) (c2 : Array Value) (B2 : VB), Fr [(0, .pointer (some ⟨C, 0, none⟩)), (6, .pointer (some ⟨C, 1803 + t * 65, none⟩)), (7, .int .u64 g2), (1, .int .u8 st2), (2, .slice o2.1 o2.2.1 o2.2.2), (8, .bool (makes f.kind))] ρ ∧ MS w' C c2 v2 B2 m ∧ MStep w w' C B m B2 m ∧ (0 ≤ st2 ∧ st2 ≤ 11) ∧ (0 ≤ g2 ∧ g2 ≤ f.gas) ∧ BS w' (bb m) o2 ∧ (o2.2.1 ≤ 717280 ∧ o2.2.1 ≤ o2.2.2) ∧ ∃ dj : Nat, Calm v v2 dj ∧ 25 * (dj : Int) ≤ f.gas - g2) ?_ ?_
    · skip
      refine W_seq ?_
      refine W_region rfl ?_
      refine WO_p (PS_move_bool rfl) ?_
      refine WO_p (PS_move_bool rfl) ?_
      refine WO_if (t := 28) rfl (fun hb6 => ?_) (fun hb6 => ?_)
      · have hb6p := hb6.h; try simp only [al_ete, al_dfn, Bool.not_eq_true', Bool.not_eq_false', al_ne, Bool.not_not, al_nn] at hb6p
        refine WO_guardT rfl rfl hb6.h ?_
        refine WO_p (PS_move_int rfl) ?_
        refine WO_guardT rfl rfl hb6.h ?_
        refine WO_p (PS_eql rfl rfl) ?_
        refine WO_p (PS_pickT rfl hb6.h rfl) ?_
        refine WO_nil ?_
        refine thn_normal ?_
        refine W_if rfl (fun hb8 => ?_) (fun hb8 => ?_)
        · have hb8p := hb8.h; try simp only [al_ete, al_dfn, Bool.not_eq_true', Bool.not_eq_false', al_ne, Bool.not_not, al_nn] at hb8p
          refine W_seq ?_
          obtain ⟨Lo, hosc, hoL⟩ := ho.sc
          have hLol := hosc.1
          refine W_region rfl ?_
          refine WO_p (PS_move_int rfl) ?_
          refine WO_p (PS_move_slice rfl) ?_
          refine WO_call Hvad.call150 (by rfl) (Ret.mono (deposit_spec _ out _ _ (by omega) (SC.ext hosc (by repeat (first | assumption | exact Ext.refl _ | refine Ext.alloc ?_ _ | refine Ext.drew ?_ | refine Ext.setB ?_ (by first | omega | (simp only [size_alloc, size_setB, size_drew]; omega)) _ | exact Ext.trans (by assumption) (by assumption) | refine Ext.trans ?_ (by assumption)))) hoL (by omega)) ?_)
          rintro _ w1 ⟨hE1, r1, s1, rfl, hdep⟩
          have hz1 := hE1.1
          try simp only [size_alloc, size_setB, size_drew] at hz1
          refine WO_p (PS_move_tuple rfl) ?_
          refine WO_p (PS_extract_int rfl rfl) ?_
          refine WO_p (PS_extract_int rfl rfl) ?_
          refine WO_p (PS_assign_int rfl) ?_
          refine WO_p (PS_assign_int rfl) ?_
          refine WO_nil ?_
          refine thn_normal ?_
          refine W_seq ?_
          refine W_region rfl ?_
          refine WO_p (PS_move_int rfl) ?_
          refine WO_p (PS_eql rfl rfl) ?_
          refine WO_nil ?_
          refine thn_normal ?_
          refine W_if rfl (fun hb11 => ?_) (fun hb11 => ?_)
          · have hb11p := hb11.h; try simp only [al_ete, al_dfn, Bool.not_eq_true', Bool.not_eq_false', al_ne, Bool.not_not, al_nn] at hb11p
            refine W_seq ?_
            refine W_seq ?_
            refine W_drawE [false, false, false, false, false, false, false, false, false, false, false, false, false, false, false, false] hmix (by kernel_rfl) rfl ?_
            refine WH_p (PS_move_slice rfl) rfl ?_
            refine WH_p (PS_lenS Hvad.runUnderlying32 rfl) rfl ?_
            refine WH_p (PS_gtr rfl rfl) rfl ?_
            refine WH_p (PS_move_bool rfl) rfl ?_
            refine WH_if (t := 43) rfl (fun hb13 => ?_) (fun hb13 => ?_)
            · have hb13p := hb13.h; try simp only [al_ete, al_dfn, Bool.not_eq_true', Bool.not_eq_false', al_ne, Bool.not_not, al_nn] at hb13p
              refine WH_guardT rfl rfl hb13.h ?_
              refine WH_p (PS_move_ptr rfl) rfl ?_
              refine WH_guardT rfl rfl hb13.h ?_
              refine WH_p (PS_nilCheck rfl) rfl ?_
              refine WH_guardT rfl rfl hb13.h ?_
              refine WH_p (PS_fieldAddr 0 Hvad.runUnderlying69 rfl Hvad.sizeOf53 rfl rfl) rfl ?_
              refine WH_guardT rfl rfl hb13.h ?_
              refine WH_load (.pointer _) Hvad.isAgg53 rfl (Hb.h (by repeat (first | assumption | exact Hb.newY _ _ | refine Hb.alloc ?_ | refine Hb.drew ?_ | refine Hb.ext (by assumption) ?_ | exact Hb.setSameL (by first | omega | (simp only [size_alloc, size_setB, size_drew]; omega)) | exact Hb.setSame (by assumption) | refine Hb.set (by first | omega | (simp only [size_alloc, size_setB, size_drew]; omega)) ?_ ))) (Ce.h (by first | assumption | exact ⟨rfl⟩)) ?_
              refine WH_guardT rfl rfl hb13.h ?_
              refine WH_p (PS_move_ptr rfl) rfl ?_
              refine WH_guardT rfl rfl hb13.h ?_
              refine WH_p (PS_nilCheck rfl) rfl ?_
              refine WH_guardT rfl rfl hb13.h ?_
              refine WH_p (PS_fieldAddr 9 Hvad.runUnderlying65 rfl Hvad.sizeOf25 rfl rfl) rfl ?_
              refine WH_guardT rfl rfl hb13.h ?_
              refine WH_loadA _ Hvad.isAgg25 Hvad.sizeOf25 rfl (Hb.h (by repeat (first | assumption | exact Hb.newY _ _ | refine Hb.alloc ?_ | refine Hb.drew ?_ | refine Hb.ext (by assumption) ?_ | exact Hb.setSameL (by first | omega | (simp only [size_alloc, size_setB, size_drew]; omega)) | exact Hb.setSame (by assumption) | refine Hb.set (by first | omega | (simp only [size_alloc, size_setB, size_drew]; omega)) ?_ ))) (by first | omega | assumption | rfl | decide | exact Nat.le_refl _ | (simp only [size_ic, Value.cells]; omega) | simp) (Xt.h (by first | assumption | exact Xt.whole rfl rfl | exact Xt.whole rfl (by simp only [size_ic, Value.cells]; omega) | exact ⟨rfl⟩)) ?_
              refine WH_guardT rfl rfl hb13.h ?_
              refine WH_p (PS_move_slice rfl) rfl ?_
              refine WH_guardT rfl rfl hb13.h ?_
              refine WH_call Hvad.call151 (by rfl) (Ret.mono (putCode_spec C c v B (bb m) f.self out Lo _ (VS.ext hM.vs (by repeat (first | assumption | exact Ext.refl _ | refine Ext.alloc ?_ _ | refine Ext.drew ?_ | refine Ext.setB ?_ (by first | omega | (simp only [size_alloc, size_setB, size_drew]; omega)) _ | exact Ext.trans (by assumption) (by assumption) | refine Ext.trans ?_ (by assumption)))) hfty.self (SC.ext hosc (by repeat (first | assumption | exact Ext.refl _ | refine Ext.alloc ?_ _ | refine Ext.drew ?_ | refine Ext.setB ?_ (by first | omega | (simp only [size_alloc, size_setB, size_drew]; omega)) _ | exact Ext.trans (by assumption) (by assumption) | refine Ext.trans ?_ (by assumption)))) hoL (bb_lt (MS.ext hM (by repeat (first | assumption | exact Ext.refl _ | refine Ext.alloc ?_ _ | refine Ext.drew ?_ | refine Ext.setB ?_ (by first | omega | (simp only [size_alloc, size_setB, size_drew]; omega)) _ | exact Ext.trans (by assumption) (by assumption) | refine Ext.trans ?_ (by assumption))))) (BS.notown hM ho)) ?_)
              rintro _ w8 ⟨s8, hl8, hn8, rfl, hR8⟩
              refine ⟨(fun h => by cases h), ?_⟩
              obtain ⟨hok8, a8, hset8⟩ := putCode_go (n := Lo.length) (s := s8) hvi (Or.inl hen) hjl (by omega) ⟨by omega, Or.inl (by omega)⟩
              have hcalm8 := hset8.calm hen rfl
              obtain ⟨c8, B8, hM8, hS8⟩ := MRet.pre (w := w) (by repeat (first | assumption | exact Ext.refl _ | refine Ext.alloc ?_ _ | refine Ext.drew ?_ | refine Ext.setB ?_ (by first | omega | (simp only [size_alloc, size_setB, size_drew]; omega)) _ | exact Ext.trans (by assumption) (by assumption) | refine Ext.trans ?_ (by assumption))) ((MS.ext hM (by repeat (first | assumption | exact Ext.refl _ | refine Ext.alloc ?_ _ | refine Ext.drew ?_ | refine Ext.setB ?_ (by first | omega | (simp only [size_alloc, size_setB, size_drew]; omega)) _ | exact Ext.trans (by assumption) (by assumption) | refine Ext.trans ?_ (by assumption)))).vret hR8)
              refine WH_guardT rfl rfl hb13.h ?_
              refine WH_p (PS_not rfl) rfl ?_
              refine WH_p (PS_pickT rfl hb13.h rfl) rfl ?_
              refine WH_nil ?_
              refine thn_normal ?_
              refine W_if rfl (fun hb17 => ?_) (fun hb17 => ?_)
              · have hb17p := hb17.h; try simp only [al_ete, al_dfn, Bool.not_eq_true', Bool.not_eq_false', al_ne, Bool.not_not, al_nn] at hb17p
                simp_all --END
              · have hb17p := hb17.h; try simp only [al_ete, al_dfn, Bool.not_eq_true', Bool.not_eq_false', al_ne, Bool.not_not, al_nn] at hb17p
                refine W_skip ?_
                refine thn_normal ?_
                refine W_region rfl ?_
                refine WO_p (PS_assign_slice rfl) ?_
                refine WO_nil ?_
                refine thn_normal ?_
                exact ⟨_, _, (none, 0, 0), _, c8, B8, ⟨rfl, rfl, rfl, rfl, rfl, rfl, trivial⟩, hM8, hS8, by omega, by omega, Or.inl ⟨rfl, rfl⟩, by simp, 1, hcalm8, by omega⟩
            · have hb13p := hb13.h; try simp only [al_ete, al_dfn, Bool.not_eq_true', Bool.not_eq_false', al_ne, Bool.not_not, al_nn] at hb13p
              refine WH_guardF rfl rfl hb13.h ?_
              refine WH_guardF rfl rfl hb13.h ?_
              refine WH_guardF rfl rfl hb13.h ?_
              refine WH_guardF rfl rfl hb13.h ?_
              refine WH_guardF rfl rfl hb13.h ?_
              refine WH_guardF rfl rfl hb13.h ?_
              refine WH_guardF rfl rfl hb13.h ?_
              refine WH_guardF rfl rfl hb13.h ?_
              refine WH_guardF rfl rfl hb13.h ?_
              refine WH_guardF rfl rfl hb13.h ?_
              refine WH_guardF rfl rfl hb13.h ?_
              refine WH_p (PS_pickF rfl hb13.h rfl) rfl ?_
              refine WH_nil ?_
              refine thn_normal ?_
              refine W_condF rfl rfl ?_
              refine W_skip ?_
              refine thn_normal ?_
              refine W_region rfl ?_
              refine WO_p (PS_assign_slice rfl) ?_
              refine WO_nil ?_
              refine thn_normal ?_
              exact ⟨_, _, (none, 0, 0), v, c, B, ⟨rfl, rfl, rfl, rfl, rfl, rfl, trivial⟩, hM.ext (by repeat (first | assumption | exact Ext.refl _ | refine Ext.alloc ?_ _ | refine Ext.drew ?_ | refine Ext.setB ?_ (by first | omega | (simp only [size_alloc, size_setB, size_drew]; omega)) _ | exact Ext.trans (by assumption) (by assumption) | refine Ext.trans ?_ (by assumption))), MStep.ext (by repeat (first | assumption | exact Ext.refl _ | refine Ext.alloc ?_ _ | refine Ext.drew ?_ | refine Ext.setB ?_ (by first | omega | (simp only [size_alloc, size_setB, size_drew]; omega)) _ | exact Ext.trans (by assumption) (by assumption) | refine Ext.trans ?_ (by assumption))), by omega, by omega, Or.inl ⟨rfl, rfl⟩, by simp, 0, Calm.refl hvi, by omega⟩
          · have hb11p := hb11.h; try simp only [al_ete, al_dfn, Bool.not_eq_true', Bool.not_eq_false', al_ne, Bool.not_not, al_nn] at hb11p
            refine W_skip ?_
            refine thn_normal ?_
            exact ⟨_, _, out, v, c, B, ⟨rfl, rfl, rfl, rfl, rfl, rfl, trivial⟩, hM.ext (by repeat (first | assumption | exact Ext.refl _ | refine Ext.alloc ?_ _ | refine Ext.drew ?_ | refine Ext.setB ?_ (by first | omega | (simp only [size_alloc, size_setB, size_drew]; omega)) _ | exact Ext.trans (by assumption) (by assumption) | refine Ext.trans ?_ (by assumption))), MStep.ext (by repeat (first | assumption | exact Ext.refl _ | refine Ext.alloc ?_ _ | refine Ext.drew ?_ | refine Ext.setB ?_ (by first | omega | (simp only [size_alloc, size_setB, size_drew]; omega)) _ | exact Ext.trans (by assumption) (by assumption) | refine Ext.trans ?_ (by assumption))), by omega, by omega, ho.ext (by repeat (first | assumption | exact Ext.refl _ | refine Ext.alloc ?_ _ | refine Ext.drew ?_ | refine Ext.setB ?_ (by first | omega | (simp only [size_alloc, size_setB, size_drew]; omega)) _ | exact Ext.trans (by assumption) (by assumption) | refine Ext.trans ?_ (by assumption))), hol, 0, Calm.refl hvi, by omega⟩
        · have hb8p := hb8.h; try simp only [al_ete, al_dfn, Bool.not_eq_true', Bool.not_eq_false', al_ne, Bool.not_not, al_nn] at hb8p
          refine W_skip ?_
          refine thn_normal ?_
          exact ⟨f.gas, st, out, v, c, B, ⟨rfl, rfl, rfl, rfl, rfl, rfl, trivial⟩, hM.ext (by repeat (first | assumption | exact Ext.refl _ | refine Ext.alloc ?_ _ | refine Ext.drew ?_ | refine Ext.setB ?_ (by first | omega | (simp only [size_alloc, size_setB, size_drew]; omega)) _ | exact Ext.trans (by assumption) (by assumption) | refine Ext.trans ?_ (by assumption))), MStep.ext (by repeat (first | assumption | exact Ext.refl _ | refine Ext.alloc ?_ _ | refine Ext.drew ?_ | refine Ext.setB ?_ (by first | omega | (simp only [size_alloc, size_setB, size_drew]; omega)) _ | exact Ext.trans (by assumption) (by assumption) | refine Ext.trans ?_ (by assumption))), hst, by omega, ho.ext (by repeat (first | assumption | exact Ext.refl _ | refine Ext.alloc ?_ _ | refine Ext.drew ?_ | refine Ext.setB ?_ (by first | omega | (simp only [size_alloc, size_setB, size_drew]; omega)) _ | exact Ext.trans (by assumption) (by assumption) | refine Ext.trans ?_ (by assumption))), hol, 0, Calm.refl hvi, by omega⟩
      · have hb6p := hb6.h; try simp only [al_ete, al_dfn, Bool.not_eq_true', Bool.not_eq_false', al_ne, Bool.not_not, al_nn] at hb6p
        refine WO_guardF rfl rfl hb6.h ?_
        refine WO_guardF rfl rfl hb6.h ?_
        refine WO_p (PS_pickF rfl hb6.h rfl) ?_
        refine WO_nil ?_
        refine thn_normal ?_
        refine W_condF rfl rfl ?_
        refine W_skip ?_
        refine thn_normal ?_
        exact ⟨f.gas, st, out, v, c, B, ⟨rfl, rfl, rfl, rfl, rfl, rfl, trivial⟩, hM.ext (by repeat (first | assumption | exact Ext.refl _ | refine Ext.alloc ?_ _ | refine Ext.drew ?_ | refine Ext.setB ?_ (by first | omega | (simp only [size_alloc, size_setB, size_drew]; omega)) _ | exact Ext.trans (by assumption) (by assumption) | refine Ext.trans ?_ (by assumption))), MStep.ext (by repeat (first | assumption | exact Ext.refl _ | refine Ext.alloc ?_ _ | refine Ext.drew ?_ | refine Ext.setB ?_ (by first | omega | (simp only [size_alloc, size_setB, size_drew]; omega)) _ | exact Ext.trans (by assumption) (by assumption) | refine Ext.trans ?_ (by assumption))), hst, by omega, ho.ext (by repeat (first | assumption | exact Ext.refl _ | refine Ext.alloc ?_ _ | refine Ext.drew ?_ | refine Ext.setB ?_ (by first | omega | (simp only [size_alloc, size_setB, size_drew]; omega)) _ | exact Ext.trans (by assumption) (by assumption) | refine Ext.trans ?_ (by assumption))), hol, 0, Calm.refl hvi, by omega⟩
    · rintro ρ wA ⟨g2, st2, o2, v2, c2, B2, hFr, hM2, hS2, hst2, hg2, hob, hol2, dj, hcalm, hdj⟩
      refine W_env _ hFr ?_
      clear hFr
      refine W_seqJ (fun ρ w' => ∃ (g2 st2 : Int) (o2 : SV) (v2 : V) (c2 : Array Value) (B2 : VB), Fr [(0, .pointer (some ⟨C, 0, none⟩)), (6, .pointer (some ⟨C, 1803 + t * 65, none⟩)), (7, .int .u64 g2), (1, .int .u8 st2), (2, .slice o2.1 o2.2.1 o2.2.2), (8, .bool (makes f.kind))] ρ ∧ MS w' C c2 v2 B2 m ∧ MStep w w' C B m B2 m ∧ (0 ≤ st2 ∧ st2 ≤ 11) ∧ (0 ≤ g2 ∧ g2 ≤ f.gas) ∧ BS w' (bb m) o2 ∧ (o2.2.1 ≤ 717280 ∧ o2.2.1 ≤ o2.2.2) ∧ ∃ dj : Nat, Calm v v2 dj ∧ 25 * (dj : Int) ≤ f.gas - g2) ?_ ?_
      · skip
        refine W_seq ?_
        refine W_region rfl ?_
        refine WO_p (PS_move_int rfl) ?_
        refine WO_p (PS_gtr rfl rfl) ?_
        refine WO_nil ?_
        refine thn_normal ?_
        refine W_if rfl (fun hb19 => ?_) (fun hb19 => ?_)
        · have hb19p := hb19.h; try simp only [al_ete, al_dfn, Bool.not_eq_true', Bool.not_eq_false', al_ne, Bool.not_not, al_nn] at hb19p
          refine W_seq ?_
          refine W_region rfl ?_
          refine WO_p (PS_assign_int rfl) ?_
          refine WO_nil ?_
          refine thn_normal ?_
          refine W_region rfl ?_
          refine WO_p (PS_assign_slice rfl) ?_
          refine WO_nil ?_
          refine thn_normal ?_
          first
          | exact ⟨g2, st2, o2, v2, c2, B2, ⟨rfl, rfl, rfl, rfl, rfl, rfl, trivial⟩, hM2, hS2, hst2, hg2, hob, hol2, dj, hcalm, hdj⟩
          | exact ⟨0, st2, (none, 0, 0), v2, c2, B2, ⟨rfl, rfl, rfl, rfl, rfl, rfl, trivial⟩, hM2, hS2, hst2, by omega, Or.inl ⟨rfl, rfl⟩, by simp, dj, hcalm, by omega⟩
        · have hb19p := hb19.h; try simp only [al_ete, al_dfn, Bool.not_eq_true', Bool.not_eq_false', al_ne, Bool.not_not, al_nn] at hb19p
          refine W_skip ?_
          refine thn_normal ?_
          first
          | exact ⟨g2, st2, o2, v2, c2, B2, ⟨rfl, rfl, rfl, rfl, rfl, rfl, trivial⟩, hM2, hS2, hst2, hg2, hob, hol2, dj, hcalm, hdj⟩
          | exact ⟨0, st2, (none, 0, 0), v2, c2, B2, ⟨rfl, rfl, rfl, rfl, rfl, rfl, trivial⟩, hM2, hS2, hst2, by omega, Or.inl ⟨rfl, rfl⟩, by simp, dj, hcalm, by omega⟩
      · rintro ρ wB ⟨g2, st2, o2, v2, c2, B2, hFr, hM2, hS2, hst2, hg2, hob, hol2, dj, hcalm, hdj⟩
        refine W_env _ hFr ?_
        clear hFr
        have hblk2 := hM2.vs.blk
        have hc_s2 := hM2.rep.s
        have hcs2 := hM2.sz
        obtain ⟨_, _, hF2⟩ := hM2.openF hf
        have hf_snap2 := hF2.snap
        have hsn0 := hI.sn t f (Nat.le_refl _) hf
        have hsn9 : 0 ≤ f.snap ∧ f.snap < v2.nmarks := by rw [hcalm.go.nm]; exact hsn0
        have hrw2 : RW v2 m S (m.txgas - gasTo m.frames t - g2) := hI.rw_.calm hcalm (by omega) rfl rfl
        refine W_seqJ (fun ρ w' => ∃ (v3 : V) (c3 : Array Value) (B3 : VB), Fr [(0, .pointer (some ⟨C, 0, none⟩)), (6, .pointer (some ⟨C, 1803 + t * 65, none⟩)), (7, .int .u64 g2), (1, .int .u8 st2), (2, .slice o2.1 o2.2.1 o2.2.2), (8, .bool (makes f.kind))] ρ ∧ MS w' C c3 v3 B3 { m with mtop := (t : Int) } ∧ MStep w w' C B m B3 { m with mtop := (t : Int) } ∧ VInv v3 ∧ (∀ A, v.entered A → v3.entered A) ∧ f.snap ≤ v3.nmarks ∧ RW v3 m S (m.txgas - gasTo m.frames t - g2) ∧ BS w' (bb m) o2) ?_ ?_
        · skip
          refine W_seq ?_
          refine W_drawE [false, false, false, false, false, false, false, false, false, false, false, false, false, false, false, false, false, false, false, false, false] hmix (by kernel_rfl) rfl ?_
          refine WH_p (PS_move_int rfl) rfl ?_
          refine WH_p (PS_neq rfl rfl) rfl ?_
          refine WH_p (PS_move_bool rfl) rfl ?_
          refine WH_if (t := 62) rfl (fun hb21 => ?_) (fun hb21 => ?_)
          · have hb21p := hb21.h; try simp only [al_ete, al_dfn, Bool.not_eq_true', Bool.not_eq_false', al_ne, Bool.not_not, al_nn] at hb21p
            refine WH_guardT rfl rfl hb21.h ?_
            refine WH_p (PS_move_ptr rfl) rfl ?_
            refine WH_guardT rfl rfl hb21.h ?_
            refine WH_p (PS_nilCheck rfl) rfl ?_
            refine WH_guardT rfl rfl hb21.h ?_
            refine WH_p (PS_fieldAddr 0 Hvad.runUnderlying69 rfl Hvad.sizeOf53 rfl rfl) rfl ?_
            refine WH_guardT rfl rfl hb21.h ?_
            refine WH_load (.pointer _) Hvad.isAgg53 rfl (Hb.h (by repeat (first | assumption | exact Hb.newY _ _ | refine Hb.alloc ?_ | refine Hb.drew ?_ | refine Hb.ext (by assumption) ?_ | exact Hb.setSameL (by first | omega | (simp only [size_alloc, size_setB, size_drew]; omega)) | exact Hb.setSame (by assumption) | refine Hb.set (by first | omega | (simp only [size_alloc, size_setB, size_drew]; omega)) ?_ ))) (Ce.h (by first | assumption | exact ⟨rfl⟩)) ?_
            refine WH_guardT rfl rfl hb21.h ?_
            refine WH_p (PS_move_ptr rfl) rfl ?_
            refine WH_guardT rfl rfl hb21.h ?_
            refine WH_p (PS_nilCheck rfl) rfl ?_
            refine WH_guardT rfl rfl hb21.h ?_
            refine WH_p (PS_fieldAddr 8 Hvad.runUnderlying65 rfl Hvad.sizeOf21 rfl rfl) rfl ?_
            refine WH_guardT rfl rfl hb21.h ?_
            refine WH_load (.int _ _) Hvad.isAgg21 rfl (Hb.h (by repeat (first | assumption | exact Hb.newY _ _ | refine Hb.alloc ?_ | refine Hb.drew ?_ | refine Hb.ext (by assumption) ?_ | exact Hb.setSameL (by first | omega | (simp only [size_alloc, size_setB, size_drew]; omega)) | exact Hb.setSame (by assumption) | refine Hb.set (by first | omega | (simp only [size_alloc, size_setB, size_drew]; omega)) ?_ ))) (Ce.h (by first | assumption | exact ⟨rfl⟩)) ?_
            refine WH_guardT rfl rfl hb21.h ?_
            refine WH_call Hvad.call129 (by rfl) (Ret.mono (revertTo_spec C c2 v2 B2 (bb m) f.snap _ (VS.ext hM2.vs (by repeat (first | assumption | exact Ext.refl _ | refine Ext.alloc ?_ _ | refine Ext.drew ?_ | refine Ext.setB ?_ (by first | omega | (simp only [size_alloc, size_setB, size_drew]; omega)) _ | exact Ext.trans (by assumption) (by assumption) | refine Ext.trans ?_ (by assumption)))) hcalm.go.inv.nm) ?_)
            rintro _ w9 ⟨rfl, hR9⟩
            refine ⟨(fun h => by cases h), ?_⟩
            obtain ⟨hok9, hrev9⟩ := revertTo_go hcalm.go.inv hsn9.1 hsn9.2
            obtain ⟨c9, B9, hM9, hS9⟩ := MRet.pre (w := wB) (by repeat (first | assumption | exact Ext.refl _ | refine Ext.alloc ?_ _ | refine Ext.drew ?_ | refine Ext.setB ?_ (by first | omega | (simp only [size_alloc, size_setB, size_drew]; omega)) _ | exact Ext.trans (by assumption) (by assumption) | refine Ext.trans ?_ (by assumption))) ((MS.ext hM2 (by repeat (first | assumption | exact Ext.refl _ | refine Ext.alloc ?_ _ | refine Ext.drew ?_ | refine Ext.setB ?_ (by first | omega | (simp only [size_alloc, size_setB, size_drew]; omega)) _ | exact Ext.trans (by assumption) (by assumption) | refine Ext.trans ?_ (by assumption)))).vret hR9)
            refine WH_guardT rfl rfl hb21.h ?_
            refine WH_p (PS_not rfl) rfl ?_
            refine WH_p (PS_pickT rfl hb21.h rfl) rfl ?_
            refine WH_p (PS_move_bool rfl) rfl ?_
            refine WH_if (t := 74) rfl (fun hb25 => ?_) (fun hb25 => ?_)
            · have hb25p := hb25.h; try simp only [al_ete, al_dfn, Bool.not_eq_true', Bool.not_eq_false', al_ne, Bool.not_not, al_nn] at hb25p
              simp_all --END
            · have hb25p := hb25.h; try simp only [al_ete, al_dfn, Bool.not_eq_true', Bool.not_eq_false', al_ne, Bool.not_not, al_nn] at hb25p
              refine WH_guardT rfl rfl hb25.h ?_
              refine WH_p (PS_move_ptr rfl) rfl ?_
              refine WH_guardT rfl rfl hb25.h ?_
              refine WH_p (PS_nilCheck rfl) rfl ?_
              refine WH_guardT rfl rfl hb25.h ?_
              refine WH_p (PS_fieldAddr 1 Hvad.runUnderlying69 rfl Hvad.sizeOf57 rfl rfl) rfl ?_
              refine WH_guardT rfl rfl hb25.h ?_
              refine WH_call Hvad.call152 (by rfl) (Ret.mono (memLeave_spec C c9 (v2.revertTo f.snap).2 B9 m t _ hM9 hI.mtY) ?_)
              rintro _ w10 ⟨rfl, cL, BL, hML, hSL⟩
              refine ⟨(fun h => by cases h), ?_⟩
              have hSL1 := hSL
              have hSL0 := hS2.trans hS9
              replace hSL := hSL0.trans hSL
              have hviL := hrev9.inv
              have henL := fun A hA => hrev9.ent A (hcalm.go.ent A hA)
              have hsnL := hrev9.le
              have hrwL := hrw2.revd hrev9 (by omega) (Int.le_refl _) rfl rfl
              have hobL := BS.mstep (hM2) (hS9.trans hSL1) hob
              refine WH_guardT rfl rfl hb25.h ?_
              refine WH_p (PS_not rfl) rfl ?_
              refine WH_p (PS_pickF rfl hb25.h rfl) rfl ?_
              refine WH_nil ?_
              refine thn_normal ?_
              refine W_if rfl (fun hb29 => ?_) (fun hb29 => ?_)
              · have hb29p := hb29.h; try simp only [al_ete, al_dfn, Bool.not_eq_true', Bool.not_eq_false', al_ne, Bool.not_not, al_nn] at hb29p
                simp_all --END
              · have hb29p := hb29.h; try simp only [al_ete, al_dfn, Bool.not_eq_true', Bool.not_eq_false', al_ne, Bool.not_not, al_nn] at hb29p
                refine W_skip ?_
                refine thn_normal ?_
                exact ⟨_, _, _, ⟨rfl, rfl, rfl, rfl, rfl, rfl, trivial⟩, hML, hSL, hviL, henL, hsnL, hrwL, hobL⟩
          · have hb21p := hb21.h; try simp only [al_ete, al_dfn, Bool.not_eq_true', Bool.not_eq_false', al_ne, Bool.not_not, al_nn] at hb21p
            refine WH_guardF rfl rfl hb21.h ?_
            refine WH_guardF rfl rfl hb21.h ?_
            refine WH_guardF rfl rfl hb21.h ?_
            refine WH_guardF rfl rfl hb21.h ?_
            refine WH_guardF rfl rfl hb21.h ?_
            refine WH_guardF rfl rfl hb21.h ?_
            refine WH_guardF rfl rfl hb21.h ?_
            refine WH_guardF rfl rfl hb21.h ?_
            refine WH_guardF rfl rfl hb21.h ?_
            refine WH_guardF rfl rfl hb21.h ?_
            refine WH_p (PS_pickF rfl hb21.h rfl) rfl ?_
            refine WH_p (PS_move_bool rfl) rfl ?_
            refine WH_guardT rfl rfl rfl ?_
            refine WH_p (PS_move_ptr rfl) rfl ?_
            refine WH_guardT rfl rfl rfl ?_
            refine WH_p (PS_nilCheck rfl) rfl ?_
            refine WH_guardT rfl rfl rfl ?_
            refine WH_p (PS_fieldAddr 1 Hvad.runUnderlying69 rfl Hvad.sizeOf57 rfl rfl) rfl ?_
            refine WH_guardT rfl rfl rfl ?_
            refine WH_call Hvad.call152 (by rfl) (Ret.mono (memLeave_spec C c2 v2 B2 m t _ (MS.ext hM2 (Ext.drew (Ext.refl wB))) hI.mtY) ?_)
            rintro _ w10 ⟨rfl, cL, BL, hML, hSL⟩
            refine ⟨(fun h => by cases h), ?_⟩
            have hSL1 := hSL
            have hSL0 := hS2.trans (MStep.ext (C := C) (B := B2) (m := m) (Ext.drew (Ext.refl wB)))
            replace hSL := hSL0.trans hSL
            have hviL := hcalm.go.inv
            have henL := hcalm.go.ent
            have hsnL := (by omega : f.snap ≤ v2.nmarks)
            have hrwL := hrw2
            have hobL := BS.mstep (hM2) ((MStep.ext (C := C) (B := B2) (m := m) (Ext.drew (Ext.refl wB))).trans hSL1) hob
            refine WH_guardT rfl rfl rfl ?_
            refine WH_p (PS_not rfl) rfl ?_
            refine WH_p (PS_pickF rfl rfl rfl) rfl ?_
            refine WH_nil ?_
            refine thn_normal ?_
            refine W_if rfl (fun hb33 => ?_) (fun hb33 => ?_)
            · have hb33p := hb33.h; try simp only [al_ete, al_dfn, Bool.not_eq_true', Bool.not_eq_false', al_ne, Bool.not_not, al_nn] at hb33p
              simp_all --END
            · have hb33p := hb33.h; try simp only [al_ete, al_dfn, Bool.not_eq_true', Bool.not_eq_false', al_ne, Bool.not_not, al_nn] at hb33p
              refine W_skip ?_
              refine thn_normal ?_
              exact ⟨_, _, _, ⟨rfl, rfl, rfl, rfl, rfl, rfl, trivial⟩, hML, hSL, hviL, henL, hsnL, hrwL, hobL⟩
        · rintro ρ wC ⟨v3, c3, B3, hFr, hM3, hS3, hvi3, hen3, hsn3, hrw3, hob3⟩
          refine W_env _ hFr ?_
          clear hFr
          have hblk3 := hM3.vs.blk
          have hcs3 := hM3.sz
          have hCl3 := hblk3.lt
          have hz3 := hS3.keep.sz
          refine W_seq ?_
          refine W_region rfl ?_
          refine WO_p (PS_move_ptr rfl) ?_
          refine WO_p (PS_move_slice rfl) ?_
          refine WO_p (PS_nilCheck rfl) ?_
          refine WO_p (PS_fieldAddr 2259 Hvad.runUnderlying69 rfl Hvad.sizeOf32 rfl rfl) ?_
          refine WO_store1 Hvad.sizeOf32 rfl (v := (.slice _ _ _)) rfl (Hb.h (by repeat (first | assumption | exact Hb.newY _ _ | refine Hb.alloc ?_ | refine Hb.drew ?_ | refine Hb.ext (by assumption) ?_ | exact Hb.setSameL (by first | omega | (simp only [size_alloc, size_setB, size_drew]; omega)) | exact Hb.setSame (by assumption) | refine Hb.set (by first | omega | (simp only [size_alloc, size_setB, size_drew]; omega)) ?_ ))) rfl (by first | omega | assumption | rfl | decide | exact Nat.le_refl _ | (simp only [size_ic, Value.cells]; omega) | simp) rfl ?_
          refine WO_nil ?_
          refine thn_normal ?_
          refine W_seq ?_
          obtain ⟨hM4, hS4⟩ := hM3.put_ret o2 hob3
          have hblk4 := hM4.vs.blk
          have hcs4 := hM4.sz
          have hc_top4 := hM4.rep.top
          replace hc_top4 : Ce _ 2258 (.int .i8 m.top) := hc_top4
          rw [hI.top] at hc_top4
          refine W_region rfl ?_
          refine WO_p (PS_move_ptr rfl) ?_
          refine WO_p (PS_nilCheck rfl) ?_
          refine WO_p (PS_fieldAddr 2258 Hvad.runUnderlying69 rfl Hvad.sizeOf67 rfl rfl) ?_
          refine WO_load (.int _ _) Hvad.isAgg67 rfl (Hb.h (by repeat (first | assumption | exact Hb.newY _ _ | refine Hb.alloc ?_ | refine Hb.drew ?_ | refine Hb.ext (by assumption) ?_ | exact Hb.setSameL (by first | omega | (simp only [size_alloc, size_setB, size_drew]; omega)) | exact Hb.setSame (by assumption) | refine Hb.set (by first | omega | (simp only [size_alloc, size_setB, size_drew]; omega)) ?_ ))) (Ce.h (by first | assumption | exact ⟨rfl⟩)) ?_
          refine WO_p (PS_sub_i8n rfl rfl (by omega) (by omega)) ?_
          refine WO_p (PS_nilCheck rfl) ?_
          refine WO_p (PS_fieldAddr 2258 Hvad.runUnderlying69 rfl Hvad.sizeOf67 rfl rfl) ?_
          refine WO_store1 Hvad.sizeOf67 rfl (v := (.int _ _)) rfl (Hb.h (by repeat (first | assumption | exact Hb.newY _ _ | refine Hb.alloc ?_ | refine Hb.drew ?_ | refine Hb.ext (by assumption) ?_ | exact Hb.setSameL (by first | omega | (simp only [size_alloc, size_setB, size_drew]; omega)) | exact Hb.setSame (by assumption) | refine Hb.set (by first | omega | (simp only [size_alloc, size_setB, size_drew]; omega)) ?_ ))) rfl (by first | omega | assumption | rfl | decide | exact Nat.le_refl _ | (simp only [size_ic, Value.cells]; omega) | simp) rfl ?_
          refine WO_nil ?_
          refine thn_normal ?_
          refine W_seq ?_
          refine W_seq ?_
          obtain ⟨hM5, hS5⟩ := hM4.put_top ((t : Int) - 1) (by omega)
          have hblk5 := hM5.vs.blk
          have hcs5 := hM5.sz
          have hc_top5 := hM5.rep.top
          replace hc_top5 : Ce _ 2258 (.int .i8 ((t : Int) - 1)) := hc_top5
          replace hS5 := (hS3.trans hS4).trans hS5
          refine W_region rfl ?_
          refine WO_p (PS_move_ptr rfl) ?_
          refine WO_p (PS_nilCheck rfl) ?_
          refine WO_p (PS_fieldAddr 2258 Hvad.runUnderlying69 rfl Hvad.sizeOf67 rfl rfl) ?_
          refine WO_load (.int _ _) Hvad.isAgg67 rfl (Hb.h (by repeat (first | assumption | exact Hb.newY _ _ | refine Hb.alloc ?_ | refine Hb.drew ?_ | refine Hb.ext (by assumption) ?_ | exact Hb.setSameL (by first | omega | (simp only [size_alloc, size_setB, size_drew]; omega)) | exact Hb.setSame (by assumption) | refine Hb.set (by first | omega | (simp only [size_alloc, size_setB, size_drew]; omega)) ?_ ))) (Ce.h (by first | assumption | exact ⟨rfl⟩)) ?_
          refine WO_p (PS_lss rfl rfl) ?_
          refine WO_nil ?_
          refine thn_normal ?_
          refine W_if rfl (fun hb35 => ?_) (fun hb35 => ?_)
          · have hb35p := hb35.h; try simp only [al_ete, al_dfn, Bool.not_eq_true', Bool.not_eq_false', al_ne, Bool.not_not, al_nn] at hb35p
            obtain rfl : t = 0 := by omega
            refine W_seq ?_
            refine W_region rfl ?_
            refine WO_p (PS_move_ptr rfl) ?_
            refine WO_p (PS_nilCheck rfl) ?_
            refine WO_p (PS_fieldAddr 2404 Hvad.runUnderlying69 rfl Hvad.sizeOf5 rfl rfl) ?_
            refine WO_store1 Hvad.sizeOf5 rfl (v := (.int _ _)) rfl (Hb.h (by repeat (first | assumption | exact Hb.newY _ _ | refine Hb.alloc ?_ | refine Hb.drew ?_ | refine Hb.ext (by assumption) ?_ | exact Hb.setSameL (by first | omega | (simp only [size_alloc, size_setB, size_drew]; omega)) | exact Hb.setSame (by assumption) | refine Hb.set (by first | omega | (simp only [size_alloc, size_setB, size_drew]; omega)) ?_ ))) rfl (by first | omega | assumption | rfl | decide | exact Nat.le_refl _ | (simp only [size_ic, Value.cells]; omega) | simp) rfl ?_
            refine WO_nil ?_
            refine thn_normal ?_
            refine W_seq ?_
            obtain ⟨hMe1, hSe1⟩ := hM5.put_phase 2 (by omega)
            have hblke1 := hMe1.vs.blk
            have hcse1 := hMe1.sz
            refine W_region rfl ?_
            refine WO_p (PS_move_ptr rfl) ?_
            refine WO_p (PS_move_int rfl) ?_
            refine WO_p (PS_nilCheck rfl) ?_
            refine WO_p (PS_fieldAddr 2405 Hvad.runUnderlying69 rfl Hvad.sizeOf5 rfl rfl) ?_
            refine WO_store1 Hvad.sizeOf5 rfl (v := (.int _ _)) rfl (Hb.h (by repeat (first | assumption | exact Hb.newY _ _ | refine Hb.alloc ?_ | refine Hb.drew ?_ | refine Hb.ext (by assumption) ?_ | exact Hb.setSameL (by first | omega | (simp only [size_alloc, size_setB, size_drew]; omega)) | exact Hb.setSame (by assumption) | refine Hb.set (by first | omega | (simp only [size_alloc, size_setB, size_drew]; omega)) ?_ ))) rfl (by first | omega | assumption | rfl | decide | exact Nat.le_refl _ | (simp only [size_ic, Value.cells]; omega) | simp) rfl ?_
            refine WO_nil ?_
            refine thn_normal ?_
            refine W_seq ?_
            obtain ⟨hMe2, hSe2⟩ := hMe1.put_status st2 (by omega)
            have hblke2 := hMe2.vs.blk
            have hcse2 := hMe2.sz
            replace hSe2 := (hS5.trans hSe1).trans hSe2
            refine W_region rfl ?_
            refine WO_p (PS_move_ptr rfl) ?_
            refine WO_p (PS_move_int rfl) ?_
            refine WO_p (PS_nilCheck rfl) ?_
            refine WO_p (PS_fieldAddr 1803 Hvad.runUnderlying69 rfl Hvad.sizeOf66 rfl rfl) ?_
            refine WO_p (PS_indexA Hvad.runUnderlying66 Hvad.sizeOf65 rfl rfl (by omega) (by omega)) ?_
            refine WO_p (PS_fieldAddr 7 Hvad.runUnderlying65 rfl Hvad.sizeOf26 rfl rfl) ?_
            refine WO_store1 Hvad.sizeOf26 rfl (v := (.int _ _)) rfl (Hb.h (by repeat (first | assumption | exact Hb.newY _ _ | refine Hb.alloc ?_ | refine Hb.drew ?_ | refine Hb.ext (by assumption) ?_ | exact Hb.setSameL (by first | omega | (simp only [size_alloc, size_setB, size_drew]; omega)) | exact Hb.setSame (by assumption) | refine Hb.set (by first | omega | (simp only [size_alloc, size_setB, size_drew]; omega)) ?_ ))) rfl (by first | omega | assumption | rfl | decide | exact Nat.le_refl _ | (simp only [size_ic, Value.cells]; omega) | simp) rfl ?_
            refine WO_nil ?_
            refine thn_normal ?_
            refine W_ret ?_
            refine thn_ret ?_
            first | refine bodyQ_ret0 Hvad.results94 ?_ | refine bodyQ_end0 Hvad.results94 ?_
            (obtain ⟨hMe3, hSe3⟩ := hMe2.putF_gas (t := 0) (f := f) hf g2 (by omega)); exact ⟨v3, m.popE f g2 st2 o2, ⟨_, _, hMe3, hSe2.trans hSe3⟩, Or.inl ⟨rfl, popE_inv hI hf hg2 hst2 hol2 hvi3 hen3 (by simpa [gasTo] using hrw3), by show gasOf (m.frames.set 0 { f with gas := g2 }) 0 ≤ f.gas; rw [gasOf_set (lt_of_getElem? hf), if_pos rfl]; exact hg2.2⟩⟩
          · have hb35p := hb35.h; try simp only [al_ete, al_dfn, Bool.not_eq_true', Bool.not_eq_false', al_ne, Bool.not_not, al_nn] at hb35p
            obtain ⟨s, rfl⟩ : ∃ s, t = s + 1 := ⟨t - 1, by omega⟩
            obtain ⟨p, hp⟩ := frames_lt hty (i := s) (by omega)
            have hptk := hI.wt s p f (by omega) hp hf
            have hpfk := hI.fr s p (by omega) hp
            have hpt := hty.frames.2 p (List.mem_of_getElem? hp)
            have hpg := hpt.gas
            have hppc := hpt.pc
            have hpsp := hpt.sp
            have hwsp := hptk.sp
            have hwpc := hptk.pc
            have hpgs := gasOf_some hp
            have hpq := hgb s (by omega)
            have hpre2 : gasTo m.frames (s + 1) = gasTo m.frames s + p.gas := by simp only [gasTo, hpgs]
            obtain ⟨lo, n, hlo, hhi, hszn, hlon, _⟩ := hI.mem hty (i := s) (by omega)
            have hwo := hptk.out
            have hcl5 := hpfk.cl
            refine W_skip ?_
            refine thn_normal ?_
            refine W_seq ?_
            refine W_drawE [false, false, false, false, false, false, false, false, false] hmix (by kernel_rfl) rfl ?_
            refine WH_p (PS_move_ptr rfl) rfl ?_
            refine WH_p (PS_move_ptr rfl) rfl ?_
            refine WH_p (PS_nilCheck rfl) rfl ?_
            refine WH_p (PS_fieldAddr 2258 Hvad.runUnderlying69 rfl Hvad.sizeOf67 rfl rfl) rfl ?_
            refine WH_load (.int _ _) Hvad.isAgg67 rfl (Hb.h (by repeat (first | assumption | exact Hb.newY _ _ | refine Hb.alloc ?_ | refine Hb.drew ?_ | refine Hb.ext (by assumption) ?_ | exact Hb.setSameL (by first | omega | (simp only [size_alloc, size_setB, size_drew]; omega)) | exact Hb.setSame (by assumption) | refine Hb.set (by first | omega | (simp only [size_alloc, size_setB, size_drew]; omega)) ?_ ))) (Ce.h (by first | assumption | exact ⟨rfl⟩)) ?_
            refine WH_p (PS_nilCheck rfl) rfl ?_
            refine WH_p (PS_fieldAddr 1803 Hvad.runUnderlying69 rfl Hvad.sizeOf66 rfl rfl) rfl ?_
            refine WH_p (PS_indexA Hvad.runUnderlying66 Hvad.sizeOf65 rfl rfl (by omega) (by omega)) rfl ?_
            rw [show (((s + 1 : Nat) : Int) - 1).toNat = s by omega]
            refine WH_p (PS_assign_ptr rfl) rfl ?_
            refine WH_nil ?_
            refine thn_normal ?_
            refine W_seq ?_
            have hM5d := hM5.ext (Ext.drew (Ext.refl _))
            have hblk5d := hM5d.vs.blk
            have hp5 : m.frames[s]? = some p := hp
            obtain ⟨_, _, hF5⟩ := hM5d.openF hp5
            have hf_pg := hF5.gas
            refine W_region rfl ?_
            refine WO_p (PS_move_ptr rfl) ?_
            refine WO_p (PS_nilCheck rfl) ?_
            refine WO_p (PS_fieldAddr 7 Hvad.runUnderlying65 rfl Hvad.sizeOf26 rfl rfl) ?_
            refine WO_load (.int _ _) Hvad.isAgg26 rfl (Hb.h (by repeat (first | assumption | exact Hb.newY _ _ | refine Hb.alloc ?_ | refine Hb.drew ?_ | refine Hb.ext (by assumption) ?_ | exact Hb.setSameL (by first | omega | (simp only [size_alloc, size_setB, size_drew]; omega)) | exact Hb.setSame (by assumption) | refine Hb.set (by first | omega | (simp only [size_alloc, size_setB, size_drew]; omega)) ?_ ))) (Ce.h (by first | assumption | exact ⟨rfl⟩)) ?_
            refine WO_p (PS_move_int rfl) ?_
            refine WO_p (PS_add_u64n rfl rfl (by omega) (by omega)) ?_
            refine WO_p (PS_nilCheck rfl) ?_
            refine WO_p (PS_fieldAddr 7 Hvad.runUnderlying65 rfl Hvad.sizeOf26 rfl rfl) ?_
            refine WO_store1 Hvad.sizeOf26 rfl (v := (.int _ _)) rfl (Hb.h (by repeat (first | assumption | exact Hb.newY _ _ | refine Hb.alloc ?_ | refine Hb.drew ?_ | refine Hb.ext (by assumption) ?_ | exact Hb.setSameL (by first | omega | (simp only [size_alloc, size_setB, size_drew]; omega)) | exact Hb.setSame (by assumption) | refine Hb.set (by first | omega | (simp only [size_alloc, size_setB, size_drew]; omega)) ?_ ))) rfl (by first | omega | assumption | rfl | decide | exact Nat.le_refl _ | (simp only [size_ic, Value.cells]; omega) | simp) rfl ?_
            refine WO_nil ?_
            refine thn_normal ?_
            refine W_seq ?_
            obtain ⟨hM6, hS6⟩ := hM5d.putF_gas hp5 (p.gas + g2) (by omega)
            have hblk6 := hM6.vs.blk
            have hCl6 := hblk6.lt
            replace hS6 := (hS5.trans (MStep.ext (Ext.drew (Ext.refl _)))).trans hS6
            have hf6 : (m.frames.set s { p with gas := p.gas + g2 })[s + 1]? = some f := by rw [List.getElem?_set_ne (by omega)]; exact hf
            obtain ⟨_, _, hF6⟩ := hM6.openF hf6
            have hf_self6 := hF6.self
            have hcs6 := hM6.sz
            refine W_region rfl ?_
            refine WO_p (PS_buildI (k := .u64) (zs := [0, 0, 0, 0]) (ps := []) (L := [0, 0, 0, 0]) Hvad.zeroValue59 Hvad.runUnderlying59 Hvad.sizeOf26 rfl rfl rfl rfl) ?_
            refine WO_allocG Hvad.zeroValue59 ?_
            intro b10 v10 hg10 hE10 hH10 hl10
            try simp only [size_alloc, size_setB, size_drew] at hg10
            have hzz10 := hE10.1
            try simp only [size_alloc, size_setB, size_drew] at hzz10
            replace hH10 : Hb v10 b10 (.cells (ic .u64 [0, 0, 0, 0]) 59 (0, 0)) := hH10
            first | refine WO_storeW Hvad.sizeOf59 rfl (v := .agg _) rfl (Hb.h (by repeat (first | assumption | exact Hb.newY _ _ | refine Hb.alloc ?_ | refine Hb.drew ?_ | refine Hb.ext (by assumption) ?_ | exact Hb.setSameL (by first | omega | (simp only [size_alloc, size_setB, size_drew]; omega)) | exact Hb.setSame (by assumption) | refine Hb.set (by first | omega | (simp only [size_alloc, size_setB, size_drew]; omega)) ?_ ))) rfl (by first | omega | assumption | rfl | decide | exact Nat.le_refl _ | (simp only [size_ic, Value.cells]; omega) | simp) (by first | omega | assumption | rfl | decide | exact Nat.le_refl _ | (simp only [size_ic, Value.cells]; omega) | simp) (by first | exact oneCell_ic | assumption) ?_ | refine WO_store Hvad.sizeOf59 rfl (v := .agg _) rfl (Hb.h (by repeat (first | assumption | exact Hb.newY _ _ | refine Hb.alloc ?_ | refine Hb.drew ?_ | refine Hb.ext (by assumption) ?_ | exact Hb.setSameL (by first | omega | (simp only [size_alloc, size_setB, size_drew]; omega)) | exact Hb.setSame (by assumption) | refine Hb.set (by first | omega | (simp only [size_alloc, size_setB, size_drew]; omega)) ?_ ))) (by first | omega | assumption | rfl | decide | exact Nat.le_refl _ | (simp only [size_ic, Value.cells]; omega) | simp) (by first | omega | assumption | rfl | decide | exact Nat.le_refl _ | (simp only [size_ic, Value.cells]; omega) | simp) (by first | exact oneCell_ic | assumption) ?_
            refine WO_nil ?_
            refine thn_normal ?_
            refine W_seqJ (fun ρ w' => ∃ (W : List Int) (c6 : Array Value), Wd W ∧ Fr [(0, .pointer (some ⟨C, 0, none⟩)), (9, .pointer (some ⟨C, 1803 + s * 65, none⟩)), (2, .slice o2.1 o2.2.1 o2.2.2), (10, .pointer (some ⟨b10, 0, none⟩))] ρ ∧ MS w' C c6 v3 B3 ({ m with mtop := ((s + 1 : Nat) : Int), ret := o2, top := ((s + 1 : Nat) : Int) - 1, frames := m.frames.set s { p with gas := p.gas + g2 } } : Mc) ∧ MStep w w' C B m B3 ({ m with mtop := ((s + 1 : Nat) : Int), ret := o2, top := ((s + 1 : Nat) : Int) - 1, frames := m.frames.set s { p with gas := p.gas + g2 } } : Mc) ∧ Hb w' b10 (.cells (ic .u64 W) 59 (0, 0))) ?_ ?_
            · skip
              refine W_seq ?_
              refine W_region rfl ?_
              refine WO_p (PS_move_int rfl) ?_
              refine WO_p (PS_eql rfl rfl) ?_
              refine WO_nil ?_
              refine thn_normal ?_
              refine W_if rfl (fun hb37 => ?_) (fun hb37 => ?_)
              · have hb37p := hb37.h; try simp only [al_ete, al_dfn, Bool.not_eq_true', Bool.not_eq_false', al_ne, Bool.not_not, al_nn] at hb37p
                refine W_seq ?_
                refine W_region rfl ?_
                refine WO_p (PS_indexA Hvad.runUnderlying59 Hvad.sizeOf26 rfl rfl (by omega) (by omega)) ?_
                refine WO_store1 Hvad.sizeOf26 rfl (v := .int _ _) rfl (Hb.h (by repeat (first | assumption | exact Hb.newY _ _ | refine Hb.alloc ?_ | refine Hb.drew ?_ | refine Hb.ext (by assumption) ?_ | exact Hb.setSameL (by first | omega | (simp only [size_alloc, size_setB, size_drew]; omega)) | exact Hb.setSame (by assumption) | refine Hb.set (by first | omega | (simp only [size_alloc, size_setB, size_drew]; omega)) ?_ ))) rfl (by first | omega | assumption | rfl | decide | exact Nat.le_refl _ | (simp only [size_ic, Value.cells]; omega) | simp) rfl ?_
                change WO _ _ _ _ _ (setB (setB v10 b10 (.cells (ic .u64 [0, 0, 0, 0]) 59 (0, 0))) b10 (.cells (ic .u64 [1, 0, 0, 0]) 59 (0, 0)))
                refine WO_nil ?_
                refine thn_normal ?_
                refine W_seq ?_
                refine W_region rfl ?_
                refine WO_p (PS_move_bool rfl) ?_
                refine WO_nil ?_
                refine thn_normal ?_
                refine W_if rfl (fun hb39 => ?_) (fun hb39 => ?_)
                · have hb39p := hb39.h; try simp only [al_ete, al_dfn, Bool.not_eq_true', Bool.not_eq_false', al_ne, Bool.not_not, al_nn] at hb39p
                  refine W_region rfl ?_
                  refine WO_p (PS_move_ptr rfl) ?_
                  refine WO_p (PS_nilCheck rfl) ?_
                  refine WO_p (PS_fieldAddr 9 Hvad.runUnderlying65 rfl Hvad.sizeOf25 rfl rfl) ?_
                  refine WO_loadA _ Hvad.isAgg25 Hvad.sizeOf25 rfl (Hb.h (by repeat (first | assumption | exact Hb.newY _ _ | refine Hb.alloc ?_ | refine Hb.drew ?_ | refine Hb.ext (by assumption) ?_ | exact Hb.setSameL (by first | omega | (simp only [size_alloc, size_setB, size_drew]; omega)) | exact Hb.setSame (by assumption) | refine Hb.set (by first | omega | (simp only [size_alloc, size_setB, size_drew]; omega)) ?_ ))) (by first | omega | assumption | rfl | decide | exact Nat.le_refl _ | (simp only [size_ic, Value.cells]; omega) | simp) (Xt.h (by first | assumption | exact Xt.whole rfl rfl | exact Xt.whole rfl (by simp only [size_ic, Value.cells]; omega) | exact ⟨rfl⟩)) ?_
                  refine WO_call Hvad.call153 (by rfl) (Ret.mono (addrWord_spec f.self _ hfty.self) ?_)
                  rintro _ w11 ⟨hE11, R11, rfl, hfw⟩
                  have hz11 := hE11.1
                  try simp only [size_alloc, size_setB, size_drew] at hz11
                  have hfl := hfw.1
                  have hH11 := Hb.ext hE11 (Hb.mk (Hb.h (by repeat (first | assumption | exact Hb.newY _ _ | refine Hb.alloc ?_ | refine Hb.drew ?_ | refine Hb.ext (by assumption) ?_ | exact Hb.setSameL (by first | omega | (simp only [size_alloc, size_setB, size_drew]; omega)) | exact Hb.setSame (by assumption) | refine Hb.set (by first | omega | (simp only [size_alloc, size_setB, size_drew]; omega)) ?_ ))) : Hb _ b10 _)
                  first | refine WO_storeW Hvad.sizeOf59 rfl (v := .agg _) rfl (Hb.h (by repeat (first | assumption | exact Hb.newY _ _ | refine Hb.alloc ?_ | refine Hb.drew ?_ | refine Hb.ext (by assumption) ?_ | exact Hb.setSameL (by first | omega | (simp only [size_alloc, size_setB, size_drew]; omega)) | exact Hb.setSame (by assumption) | refine Hb.set (by first | omega | (simp only [size_alloc, size_setB, size_drew]; omega)) ?_ ))) rfl (by first | omega | assumption | rfl | decide | exact Nat.le_refl _ | (simp only [size_ic, Value.cells]; omega) | simp) (by first | omega | assumption | rfl | decide | exact Nat.le_refl _ | (simp only [size_ic, Value.cells]; omega) | simp) (by first | exact oneCell_ic | assumption) ?_ | refine WO_store Hvad.sizeOf59 rfl (v := .agg _) rfl (Hb.h (by repeat (first | assumption | exact Hb.newY _ _ | refine Hb.alloc ?_ | refine Hb.drew ?_ | refine Hb.ext (by assumption) ?_ | exact Hb.setSameL (by first | omega | (simp only [size_alloc, size_setB, size_drew]; omega)) | exact Hb.setSame (by assumption) | refine Hb.set (by first | omega | (simp only [size_alloc, size_setB, size_drew]; omega)) ?_ ))) (by first | omega | assumption | rfl | decide | exact Nat.le_refl _ | (simp only [size_ic, Value.cells]; omega) | simp) (by first | omega | assumption | rfl | decide | exact Nat.le_refl _ | (simp only [size_ic, Value.cells]; omega) | simp) (by first | exact oneCell_ic | assumption) ?_
                  refine WO_nil ?_
                  refine thn_normal ?_
                  exact ⟨_, _, hfw, ⟨rfl, rfl, rfl, rfl, trivial⟩, hM6.ext (by repeat (first | assumption | exact Ext.refl _ | refine Ext.alloc ?_ _ | refine Ext.drew ?_ | refine Ext.setB ?_ (by first | omega | (simp only [size_alloc, size_setB, size_drew]; omega)) _ | exact Ext.trans (by assumption) (by assumption) | refine Ext.trans ?_ (by assumption))), hS6.trans (MStep.ext (by repeat (first | assumption | exact Ext.refl _ | refine Ext.alloc ?_ _ | refine Ext.drew ?_ | refine Ext.setB ?_ (by first | omega | (simp only [size_alloc, size_setB, size_drew]; omega)) _ | exact Ext.trans (by assumption) (by assumption) | refine Ext.trans ?_ (by assumption)))), Hb.mk (Hb.h (by repeat (first | assumption | exact Hb.newY _ _ | refine Hb.alloc ?_ | refine Hb.drew ?_ | refine Hb.ext (by assumption) ?_ | exact Hb.setSameL (by first | omega | (simp only [size_alloc, size_setB, size_drew]; omega)) | exact Hb.setSame (by assumption) | refine Hb.set (by first | omega | (simp only [size_alloc, size_setB, size_drew]; omega)) ?_ )))⟩
                · have hb39p := hb39.h; try simp only [al_ete, al_dfn, Bool.not_eq_true', Bool.not_eq_false', al_ne, Bool.not_not, al_nn] at hb39p
                  refine W_skip ?_
                  refine thn_normal ?_
                  exact ⟨[1, 0, 0, 0], _, Wd1, ⟨rfl, rfl, rfl, rfl, trivial⟩, hM6.ext (by repeat (first | assumption | exact Ext.refl _ | refine Ext.alloc ?_ _ | refine Ext.drew ?_ | refine Ext.setB ?_ (by first | omega | (simp only [size_alloc, size_setB, size_drew]; omega)) _ | exact Ext.trans (by assumption) (by assumption) | refine Ext.trans ?_ (by assumption))), hS6.trans (MStep.ext (by repeat (first | assumption | exact Ext.refl _ | refine Ext.alloc ?_ _ | refine Ext.drew ?_ | refine Ext.setB ?_ (by first | omega | (simp only [size_alloc, size_setB, size_drew]; omega)) _ | exact Ext.trans (by assumption) (by assumption) | refine Ext.trans ?_ (by assumption)))), Hb.mk (Hb.h (by repeat (first | assumption | exact Hb.newY _ _ | refine Hb.alloc ?_ | refine Hb.drew ?_ | refine Hb.ext (by assumption) ?_ | exact Hb.setSameL (by first | omega | (simp only [size_alloc, size_setB, size_drew]; omega)) | exact Hb.setSame (by assumption) | refine Hb.set (by first | omega | (simp only [size_alloc, size_setB, size_drew]; omega)) ?_ )))⟩
              · have hb37p := hb37.h; try simp only [al_ete, al_dfn, Bool.not_eq_true', Bool.not_eq_false', al_ne, Bool.not_not, al_nn] at hb37p
                refine W_skip ?_
                refine thn_normal ?_
                exact ⟨[0, 0, 0, 0], _, Wd0, ⟨rfl, rfl, rfl, rfl, trivial⟩, hM6.ext (by repeat (first | assumption | exact Ext.refl _ | refine Ext.alloc ?_ _ | refine Ext.drew ?_ | refine Ext.setB ?_ (by first | omega | (simp only [size_alloc, size_setB, size_drew]; omega)) _ | exact Ext.trans (by assumption) (by assumption) | refine Ext.trans ?_ (by assumption))), hS6.trans (MStep.ext (by repeat (first | assumption | exact Ext.refl _ | refine Ext.alloc ?_ _ | refine Ext.drew ?_ | refine Ext.setB ?_ (by first | omega | (simp only [size_alloc, size_setB, size_drew]; omega)) _ | exact Ext.trans (by assumption) (by assumption) | refine Ext.trans ?_ (by assumption)))), Hb.mk (Hb.h (by repeat (first | assumption | exact Hb.newY _ _ | refine Hb.alloc ?_ | refine Hb.drew ?_ | refine Hb.ext (by assumption) ?_ | exact Hb.setSameL (by first | omega | (simp only [size_alloc, size_setB, size_drew]; omega)) | exact Hb.setSame (by assumption) | refine Hb.set (by first | omega | (simp only [size_alloc, size_setB, size_drew]; omega)) ?_ )))⟩
            · rintro ρ wD ⟨W, c6, hWd, hFr, hMD, hSD, hHD⟩
              refine W_env _ hFr ?_
              clear hFr
              have hblkD := hMD.vs.blk
              have hlb10 := hHD.lt
              have hcsD := hMD.sz
              have hpD : (m.frames.set s { p with gas := p.gas + g2 })[s]? = some { p with gas := p.gas + g2 } := by rw [List.getElem?_set_self (lt_of_getElem? hp)]
              obtain ⟨_, _, hFD⟩ := hMD.openF hpD
              have hf_ol : Ce _ (1803 + s * 65 + 64) (.int .u32 p.outLen) := hFD.outLen
              have hf_oo : Ce _ (1803 + s * 65 + 63) (.int .u32 p.outOff) := hFD.outOff
              have hpol := hpt.outLen
              have hpoo := hpt.outOff
              have hWdl := hWd.1
              refine W_seq ?_
              refine W_region rfl ?_
              refine WO_p (PS_move_ptr rfl) ?_
              refine WO_p (PS_nilCheck rfl) ?_
              refine WO_p (PS_fieldAddr 64 Hvad.runUnderlying65 rfl Hvad.sizeOf54 rfl rfl) ?_
              refine WO_load (.int _ _) Hvad.isAgg54 rfl (Hb.h (by repeat (first | assumption | exact Hb.newY _ _ | refine Hb.alloc ?_ | refine Hb.drew ?_ | refine Hb.ext (by assumption) ?_ | exact Hb.setSameL (by first | omega | (simp only [size_alloc, size_setB, size_drew]; omega)) | exact Hb.setSame (by assumption) | refine Hb.set (by first | omega | (simp only [size_alloc, size_setB, size_drew]; omega)) ?_ ))) (Ce.h (by first | assumption | exact ⟨rfl⟩)) ?_
              refine WO_p (PS_assign_int rfl) ?_
              refine WO_nil ?_
              refine thn_normal ?_
              refine W_seqJ (fun ρ w' => ∃ (nn : Nat), Fr [(0, .pointer (some ⟨C, 0, none⟩)), (9, .pointer (some ⟨C, 1803 + s * 65, none⟩)), (2, .slice o2.1 o2.2.1 o2.2.2), (10, .pointer (some ⟨b10, 0, none⟩)), (11, .int .u32 nn)] ρ ∧ w' = wD ∧ (nn : Int) ≤ p.outLen ∧ nn ≤ o2.2.1) ?_ ?_
              · skip
                refine W_seq ?_
                refine W_region rfl ?_
                refine WO_p (PS_move_int rfl) ?_
                refine WO_p (PS_conv_u64n Hvad.runUnderlying54 Hvad.runUnderlying26 rfl (by omega) (by omega)) ?_
                refine WO_p (PS_move_slice rfl) ?_
                refine WO_p (PS_lenS Hvad.runUnderlying32 rfl) ?_
                refine WO_p (PS_conv_u64n Hvad.runUnderlying3 Hvad.runUnderlying26 rfl (by omega) (by omega)) ?_
                refine WO_p (PS_gtr rfl rfl) ?_
                refine WO_nil ?_
                refine thn_normal ?_
                refine W_if rfl (fun hb42 => ?_) (fun hb42 => ?_)
                · have hb42p := hb42.h; try simp only [al_ete, al_dfn, Bool.not_eq_true', Bool.not_eq_false', al_ne, Bool.not_not, al_nn] at hb42p
                  refine W_region rfl ?_
                  refine WO_p (PS_move_slice rfl) ?_
                  refine WO_p (PS_lenS Hvad.runUnderlying32 rfl) ?_
                  refine WO_p (PS_conv_u32n Hvad.runUnderlying3 Hvad.runUnderlying54 rfl (by omega) (by omega)) ?_
                  refine WO_p (PS_assign_int rfl) ?_
                  refine WO_nil ?_
                  refine thn_normal ?_
                  first
                  | exact ⟨p.outLen.toNat, ⟨rfl, rfl, rfl, rfl, congrArg (Value.int .u32) (by omega), trivial⟩, rfl, by omega, by omega⟩
                  | exact ⟨o2.2.1, ⟨rfl, rfl, rfl, rfl, rfl, trivial⟩, rfl, by omega, by omega⟩
                · have hb42p := hb42.h; try simp only [al_ete, al_dfn, Bool.not_eq_true', Bool.not_eq_false', al_ne, Bool.not_not, al_nn] at hb42p
                  refine W_skip ?_
                  refine thn_normal ?_
                  first
                  | exact ⟨p.outLen.toNat, ⟨rfl, rfl, rfl, rfl, congrArg (Value.int .u32) (by omega), trivial⟩, rfl, by omega, by omega⟩
                  | exact ⟨o2.2.1, ⟨rfl, rfl, rfl, rfl, rfl, trivial⟩, rfl, by omega, by omega⟩
              · rintro ρ wE ⟨nn, hFr, hwE, hnn1, hnn2⟩
                subst hwE
                refine W_env _ hFr ?_
                clear hFr
                refine W_seqJ (fun ρ w' => ∃ (c7 : Array Value) (B7 : VB), Fr [(0, .pointer (some ⟨C, 0, none⟩)), (9, .pointer (some ⟨C, 1803 + s * 65, none⟩)), (2, .slice o2.1 o2.2.1 o2.2.2), (10, .pointer (some ⟨b10, 0, none⟩))] ρ ∧ MS w' C c7 v3 B7 ({ m with mtop := ((s + 1 : Nat) : Int), ret := o2, top := ((s + 1 : Nat) : Int) - 1, frames := m.frames.set s { p with gas := p.gas + g2 } } : Mc) ∧ MStep w w' C B m B7 ({ m with mtop := ((s + 1 : Nat) : Int), ret := o2, top := ((s + 1 : Nat) : Int) - 1, frames := m.frames.set s { p with gas := p.gas + g2 } } : Mc) ∧ Hb w' b10 (.cells (ic .u64 W) 59 (0, 0))) ?_ ?_
                · skip
                  refine W_seq ?_
                  refine W_drawE [false, false, false, false, false, false, false, false, false, false, false, false, false, false, false] hmix (by kernel_rfl) rfl ?_
                  refine WH_p (PS_move_int rfl) rfl ?_
                  refine WH_p (PS_gtr rfl rfl) rfl ?_
                  refine WH_p (PS_move_bool rfl) rfl ?_
                  refine WH_if (t := 153) rfl (fun hb44 => ?_) (fun hb44 => ?_)
                  · have hb44p := hb44.h; try simp only [al_ete, al_dfn, Bool.not_eq_true', Bool.not_eq_false', al_ne, Bool.not_not, al_nn] at hb44p
                    have hT : MemT ({ m with mtop := ((s + 1 : Nat) : Int), ret := o2, top := ((s + 1 : Nat) : Int) - 1, frames := m.frames.set s { p with gas := p.gas + g2 } } : Mc) s lo n := ⟨rfl, by omega, hlo, hhi, hlon, by show m.buf.2.1 ≤ 6000000; have := hI.ti.bl; omega⟩
                    obtain ⟨bq, Lq, hbq, _⟩ := hMD.buf.some (by show 0 < m.buf.2.1; omega)
                    rw [show p.outOff = (p.outOff.toNat : Int) by omega] at hf_oo
                    refine WH_guardT rfl rfl hb44.h ?_
                    refine WH_p (PS_move_ptr rfl) rfl ?_
                    refine WH_guardT rfl rfl hb44.h ?_
                    refine WH_p (PS_nilCheck rfl) rfl ?_
                    refine WH_guardT rfl rfl hb44.h ?_
                    refine WH_p (PS_fieldAddr 1 Hvad.runUnderlying69 rfl Hvad.sizeOf57 rfl rfl) rfl ?_
                    refine WH_guardT rfl rfl hb44.h ?_
                    refine WH_p (PS_move_ptr rfl) rfl ?_
                    refine WH_guardT rfl rfl hb44.h ?_
                    refine WH_p (PS_nilCheck rfl) rfl ?_
                    refine WH_guardT rfl rfl hb44.h ?_
                    refine WH_p (PS_fieldAddr 63 Hvad.runUnderlying65 rfl Hvad.sizeOf54 rfl rfl) rfl ?_
                    refine WH_guardT rfl rfl hb44.h ?_
                    refine WH_load (.int _ _) Hvad.isAgg54 rfl (Hb.h (by repeat (first | assumption | exact Hb.newY _ _ | refine Hb.alloc ?_ | refine Hb.drew ?_ | refine Hb.ext (by assumption) ?_ | exact Hb.setSameL (by first | omega | (simp only [size_alloc, size_setB, size_drew]; omega)) | exact Hb.setSame (by assumption) | refine Hb.set (by first | omega | (simp only [size_alloc, size_setB, size_drew]; omega)) ?_ ))) (Ce.h (by first | assumption | exact ⟨rfl⟩)) ?_
                    refine WH_guardT rfl rfl hb44.h ?_
                    refine WH_p (PS_move_slice rfl) rfl ?_
                    refine WH_guardT rfl rfl hb44.h ?_
                    refine WH_p (PS_move_int rfl) rfl ?_
                    refine WH_guardT rfl rfl hb44.h ?_
                    refine WH_call Hvad.call154 (by rfl) (Ret.mono (memWrite_spec C _ v3 _ ({ m with mtop := ((s + 1 : Nat) : Int), ret := o2, top := ((s + 1 : Nat) : Int) - 1, frames := m.frames.set s { p with gas := p.gas + g2 } } : Mc) s lo n p.outOff.toNat nn bq 0 o2 _ (MS.ext hMD (by repeat (first | assumption | exact Ext.refl _ | refine Ext.alloc ?_ _ | refine Ext.drew ?_ | refine Ext.setB ?_ (by first | omega | (simp only [size_alloc, size_setB, size_drew]; omega)) _ | exact Ext.trans (by assumption) (by assumption) | refine Ext.trans ?_ (by assumption)))) hT hbq (by omega) (by omega) (BS.ext hMD.ret (by repeat (first | assumption | exact Ext.refl _ | refine Ext.alloc ?_ _ | refine Ext.drew ?_ | refine Ext.setB ?_ (by first | omega | (simp only [size_alloc, size_setB, size_drew]; omega)) _ | exact Ext.trans (by assumption) (by assumption) | refine Ext.trans ?_ (by assumption)))) hol2.2 (by omega)) ?_)
                    rintro _ w12 ⟨rfl, c7, B7, hM7, hS7⟩
                    refine ⟨(fun h => by cases h), ?_⟩
                    have hH7 : Hb w12 b10 (.cells (ic .u64 W) 59 (0, 0)) := Hb.keepO hS7.keep (by
                      rintro (hh | hh)
                      · exact hMD.vs.not_own hHD (by decide) hh
                      · exact absurd (bb_lt hM _ hh) (by omega)) (Hb.mk (Hb.h (by repeat (first | assumption | exact Hb.newY _ _ | refine Hb.alloc ?_ | refine Hb.drew ?_ | refine Hb.ext (by assumption) ?_ | exact Hb.setSameL (by first | omega | (simp only [size_alloc, size_setB, size_drew]; omega)) | exact Hb.setSame (by assumption) | refine Hb.set (by first | omega | (simp only [size_alloc, size_setB, size_drew]; omega)) ?_ ))))
                    replace hS7 := (hSD.trans (MStep.ext (Ext.drew (Ext.refl _)))).trans hS7
                    refine WH_guardT rfl rfl hb44.h ?_
                    refine WH_p (PS_not rfl) rfl ?_
                    refine WH_p (PS_pickT rfl hb44.h rfl) rfl ?_
                    refine WH_nil ?_
                    refine thn_normal ?_
                    refine W_if rfl (fun hb48 => ?_) (fun hb48 => ?_)
                    · have hb48p := hb48.h; try simp only [al_ete, al_dfn, Bool.not_eq_true', Bool.not_eq_false', al_ne, Bool.not_not, al_nn] at hb48p
                      simp_all --END
                    · have hb48p := hb48.h; try simp only [al_ete, al_dfn, Bool.not_eq_true', Bool.not_eq_false', al_ne, Bool.not_not, al_nn] at hb48p
                      refine W_skip ?_
                      refine thn_normal ?_
                      exact ⟨_, _, ⟨rfl, rfl, rfl, rfl, trivial⟩, hM7, hS7, hH7⟩
                  · have hb44p := hb44.h; try simp only [al_ete, al_dfn, Bool.not_eq_true', Bool.not_eq_false', al_ne, Bool.not_not, al_nn] at hb44p
                    refine WH_guardF rfl rfl hb44.h ?_
                    refine WH_guardF rfl rfl hb44.h ?_
                    refine WH_guardF rfl rfl hb44.h ?_
                    refine WH_guardF rfl rfl hb44.h ?_
                    refine WH_guardF rfl rfl hb44.h ?_
                    refine WH_guardF rfl rfl hb44.h ?_
                    refine WH_guardF rfl rfl hb44.h ?_
                    refine WH_guardF rfl rfl hb44.h ?_
                    refine WH_guardF rfl rfl hb44.h ?_
                    refine WH_guardF rfl rfl hb44.h ?_
                    refine WH_guardF rfl rfl hb44.h ?_
                    refine WH_p (PS_pickF rfl hb44.h rfl) rfl ?_
                    refine WH_nil ?_
                    refine thn_normal ?_
                    refine W_condF rfl rfl ?_
                    refine W_skip ?_
                    refine thn_normal ?_
                    exact ⟨_, _, ⟨rfl, rfl, rfl, rfl, trivial⟩, hMD.ext (by repeat (first | assumption | exact Ext.refl _ | refine Ext.alloc ?_ _ | refine Ext.drew ?_ | refine Ext.setB ?_ (by first | omega | (simp only [size_alloc, size_setB, size_drew]; omega)) _ | exact Ext.trans (by assumption) (by assumption) | refine Ext.trans ?_ (by assumption))), hSD.trans (MStep.ext (by repeat (first | assumption | exact Ext.refl _ | refine Ext.alloc ?_ _ | refine Ext.drew ?_ | refine Ext.setB ?_ (by first | omega | (simp only [size_alloc, size_setB, size_drew]; omega)) _ | exact Ext.trans (by assumption) (by assumption) | refine Ext.trans ?_ (by assumption)))), Hb.mk (Hb.h (by repeat (first | assumption | exact Hb.newY _ _ | refine Hb.alloc ?_ | refine Hb.drew ?_ | refine Hb.ext (by assumption) ?_ | exact Hb.setSameL (by first | omega | (simp only [size_alloc, size_setB, size_drew]; omega)) | exact Hb.setSame (by assumption) | refine Hb.set (by first | omega | (simp only [size_alloc, size_setB, size_drew]; omega)) ?_ )))⟩
                · rintro ρ wF ⟨c7, B7, hFr, hM7, hS7, hH7⟩
                  refine W_env _ hFr ?_
                  clear hFr
                  have hWdl2 := hWd.1
                  have hA7 : FrA ({ m with mtop := ((s + 1 : Nat) : Int), ret := o2, top := ((s + 1 : Nat) : Int) - 1, frames := m.frames.set s { p with gas := p.gas + g2 } } : Mc) s { p with gas := p.gas + g2 } := ⟨by omega, by show (m.frames.set s { p with gas := p.gas + g2 })[s]? = _; rw [List.getElem?_set_self (lt_of_getElem? hp)], hpfk.sb, by show p.sp ≤ 64; omega⟩
                  refine W_region rfl ?_
                  refine WO_p (PS_move_ptr rfl) ?_
                  refine WO_p (PS_move_ptr rfl) ?_
                  refine WO_loadA _ Hvad.isAgg59 Hvad.sizeOf59 rfl (Hb.h (by repeat (first | assumption | exact Hb.newY _ _ | refine Hb.alloc ?_ | refine Hb.drew ?_ | refine Hb.ext (by assumption) ?_ | exact Hb.setSameL (by first | omega | (simp only [size_alloc, size_setB, size_drew]; omega)) | exact Hb.setSame (by assumption) | refine Hb.set (by first | omega | (simp only [size_alloc, size_setB, size_drew]; omega)) ?_ ))) (by first | omega | assumption | rfl | decide | exact Nat.le_refl _ | (simp only [size_ic, Value.cells]; omega) | simp) (Xt.h (by first | assumption | exact Xt.whole rfl rfl | exact Xt.whole rfl (by simp only [size_ic, Value.cells]; omega) | exact ⟨rfl⟩)) ?_
                  refine WO_call Hvad.call155 (by rfl) (Ret.mono (settle_spec C c7 v3 B7 ({ m with mtop := ((s + 1 : Nat) : Int), ret := o2, top := ((s + 1 : Nat) : Int) - 1, frames := m.frames.set s { p with gas := p.gas + g2 } } : Mc) s { p with gas := p.gas + g2 } 0 1 true W _ hM7 hA7 (by show 0 ≤ (0 : Int) ∧ (0 : Int) ≤ p.sp; omega) (fun _ => by show p.sp - 0 < 64; omega) hWd (by show 0 ≤ (1 : Int) ∧ p.pc + 1 ≤ 65535; omega)) ?_)
                  rintro _ w13 hR13
                  refine WO_nil ?_
                  first | refine bodyQ_ret0 Hvad.results94 ?_ | refine bodyQ_end0 Hvad.results94 ?_
                  (obtain ⟨c13, B13, hM13, hS13⟩ := hR13); (have hX13 := hS7.trans hS13); (rw [show (((s + 1 : Nat) : Int)) - 1 = (s : Int) by omega, show (((s + 1 : Nat) : Int)) = (s : Int) + 1 by omega] at hM13 hX13); (have e13 : m.txgas - (gasTo m.frames s + p.gas + g2) = m.txgas - gasTo m.frames (s + 1) - g2 := by omega); exact ⟨v3, m.popP s p g2 o2 W, ⟨_, _, hM13, hX13⟩, Or.inr ⟨s, rfl, popP_inv hI hty hp hf hg2 hol2 hvi3 hen3 hsn3 (by rw [e13]; exact hrw3), by rw [popP_gas hp]; omega⟩⟩

end Go.Proofs.YgvadwGreat
