import Derived.Test.YgvacwGreatFv
namespace Go.Proofs.YgvacwGreat
set_option linter.unusedSimpArgs false
set_option linter.unusedVariables false
/-! what the engine's bounds say of the other chain -/
theorem lkA_bal {l : List Acct} (h : ∀ x ∈ l, AcctTy x) (A : List Int) : Wd (lkA l A).bal := by
  unfold lkA
  cases hg : lkG (fun x : Acct => x.addr) l A with
  | none => exact Wd0
  | some x => exact (h x (lkG_some hg).1).2.2
theorem sz_of64 {n : Nat} {x : Int} (h : x = (n : Int)) (hx : x ≤ 18446744073709551615) : sz n ≤ 8 := sz_lt64.1 (by omega)
theorem VR.yb {rd : SV → List Int} {v : V} {y : PSt} (h : VR rd v.sx y.now) (hty : VTy v) : YB y := fun A => by
  rw [← h.bal A]; exact wn_sz (lkA_bal hty.accts A)
theorem VR.nl {rd : SV → List Int} {v : V} {y : PSt} (h : VR rd v.sx y.now) (hty : VTy v) : y.now.nlogs ≤ 2800 := by rw [← h.logs]; exact hty.ll
theorem VR.rz {rd : SV → List Int} {v : V} {y : PSt} (h : VR rd v.sx y.now) (hty : VTy v) : sz y.now.ref ≤ 8 := sz_of64 h.ref hty.ref.2
structure YPre (y : PSt) (rest : List PF) (g : PF) : Prop where
  nl : y.now.nlogs ≤ 2800
  rz : sz y.now.ref ≤ 8
  rl : y.ret.length ≤ 717280
  ph : y.phase = 1
  pz : sz y.price ≤ 32
  yb : YB y
  pf : ∀ f ∈ rest ++ [g], PFB f ∧ sz f.gas ≤ 30
  r6 : rest.length ≤ 6
  hl : y.hashes.length ≤ 4
  mg : g.gas + ymem (g.mem.length / 32) ≤ 1048576
  m32 : g.mem.length % 32 = 0
  ml : g.mem.length ≤ 717280
  sl : g.stack.length ≤ 64
  pc : g.pc ≤ 65535
  il : g.inputY.length ≤ 717280
  vz : sz g.value ≤ 32
theorem gasTo_le {m : Mc} (hty : MTy m) : ∀ (n i : Nat), i < n → gasOf m.frames i ≤ gasTo m.frames n ∧ 0 ≤ gasTo m.frames n := by
  have h1 : ∀ n, 0 ≤ gasOf m.frames n := by
    intro n
    unfold gasOf
    cases hf : m.frames[n]? with
    | none => exact Int.le_refl _
    | some f => exact (hty.frames.2 f (List.mem_of_getElem? hf)).gas.1
  have h0 : ∀ n, 0 ≤ gasTo m.frames n := by
    intro n
    induction n with
    | zero => exact Int.le_refl _
    | succ n ih => have := h1 n; simp only [gasTo]; omega
  intro n
  induction n with
  | zero => intro i hi; omega
  | succ n ih =>
    intro i hi
    have := h1 n
    have := h0 n
    simp only [gasTo]
    rcases Nat.lt_or_ge i n with h | h
    · have := (ih i h).1; exact ⟨by omega, by omega⟩
    · rw [show i = n by omega]; exact ⟨by omega, by omega⟩
theorem FrP.pfb [Om] {w : World} {C : Nat} {c : Array Value} {v : V} {B : VB} {m : Mc} {t i : Nat} {S : Int} {L : List Int} {f : Fm} {g : PF} (h : FrP (rdB w) L v m i f g) (hM : MS w C c v B m) (hI : RI scanW v m t 0 S) (hi : i ≤ t) (hf : m.frames[i]? = some f) : PFB g ∧ sz g.gas ≤ 30 ∧ g.inputY.length ≤ 717280 ∧ g.stack.length ≤ 64 ∧ sz g.value ≤ 32 ∧ g.pc ≤ 65535 := by
  have hmf := List.mem_of_getElem? hf
  have hT := hM.ty.frames.2 f hmf
  have hK := hI.fr i f hi hf
  have hgl := (gasTo_le hM.ty (t + 1) i (by omega)).1
  rw [gasOf_some hf] at hgl
  have hgs := hI.gs
  have htx := hI.ti.tx
  have hlm := hI.ti.lm.2
  have hg8 : sz g.gas ≤ 8 := sz_of64 h.gas hT.gas.2
  have hsl : g.stack.length ≤ 64 := by rw [h.stack]; simp; have := hK.sp; omega
  have hv : sz g.value ≤ 32 := by rw [← h.value]; exact wn_sz hT.value
  have hil : g.inputY.length ≤ 717280 := by
    rw [← h.inputY]
    have := (hM.code f hmf).2.rd.len
    have := hK.il.1
    omega
  have hpc : g.pc ≤ 65535 := by have := h.pc; have := hT.pc.2; omega
  have hst : ∀ n ∈ g.stack, sz n ≤ 32 := by
    rw [h.stack]
    intro n hn
    simp only [List.mem_map, List.mem_range] at hn
    obtain ⟨j, _, rfl⟩ := hn
    refine wn_sz ?_
    rw [List.getD_eq_getElem?_getD]
    cases hx : m.stack[64 * i + j]? with
    | none => exact ⟨rfl, by decide⟩
    | some W => exact hM.ty.stack.2 W (List.mem_of_getElem? hx)
  have hml : g.mem.length ≤ 717280 := by
    rw [h.mem]
    have := (hI.bs i hi).2.2
    rw [List.length_take]
    omega
  refine ⟨⟨?_, ?_, ?_, ?_, ?_, ?_, ?_, hst, by omega, by omega, ?_, by omega⟩, by omega, hil, hsl, hv, hpc⟩
  · have := h.kind; have := hT.kind.2; omega
  · have := h.nat; have := hT.ntv.2; omega
  · exact Nat.le_trans (sz_lt64.1 (by omega)) (by omega)
  · omega
  · omega
  · exact Nat.le_trans (sz_of64 h.oo (by have := hT.outOff.2; omega)) (by omega)
  · exact Nat.le_trans (sz_of64 h.ol (by have := hT.outLen.2; omega)) (by omega)
  · rw [← h.code]; have := hK.cl; omega
theorem Rel.ypre [Om] {w : World} {C : Nat} {c : Array Value} {v : V} {B : VB} {m : Mc} {t : Nat} {S : Int} {y : PSt} {rest : List PF} {g : PF} (h : Rel w v m (y, rest ++ [g])) (hM : MS w C c v B m) (hI : RI scanW v m t 0 S) : YPre y rest g ∧ t = rest.length := by
  obtain ⟨L, hL, hP⟩ := h.ex
  have htl := h.len hI.mi
  have hvt := hM.vs.ty
  have hfl := hM.ty.frames.1
  have ht6 := hI.t6
  have hfr : ∀ (i : Nat) (x : PF), (rest ++ [g])[i]? = some x → ∃ f, i ≤ t ∧ m.frames[i]? = some f ∧ FrP (rdB w) L v m i f x := by
    intro i x hx
    have hl := lt_of_getElem? hx
    simp at hl
    obtain ⟨f, hf⟩ : ∃ f, m.frames[i]? = some f := ⟨_, List.getElem?_eq_getElem (by omega)⟩
    exact ⟨f, by omega, hf, hP.fr i f x hf hx⟩
  obtain ⟨f, _, hf, hF⟩ := hfr t g (last_get htl)
  obtain ⟨_, _, hil, hsl, hvz, hpc⟩ := hF.pfb hM hI (Nat.le_refl _) hf
  obtain ⟨lo, n, hlo, hhi, hszn, hlon, hn32⟩ := hI.mem hM.ty (i := t) (Nat.le_refl _)
  have hnM : g.mem.length = n := mem_len hF.mem (baseOf_some hlo) hszn (by have := hL.le; omega)
  have hnb := (hI.bs t (Nat.le_refl _)).2.2
  have hgm := hI.gasmem hM.ty hf hszn (by omega)
  refine ⟨⟨hP.vr.nl hvt, hP.vr.rz hvt, ?_, ?_, ?_, hP.vr.yb hvt, ?_, by omega, ?_, ?_, by omega, by omega, hsl, hpc, hil, hvz⟩, htl⟩
  · rw [← hP.ret]; have := hM.ret.rd.len; have := hI.ti.rt.1; show (rdB w m.ret).length ≤ _; omega
  · have := hP.ph; have := hI.ph; show y.phase = 1; simp only at *; omega
  · rw [← hP.pr]; exact wn_sz hM.ty.price
  · intro x hx
    obtain ⟨i, hi, e⟩ := List.getElem_of_mem hx
    obtain ⟨f, hit, hf, hF⟩ := hfr i x (by rw [List.getElem?_eq_getElem hi, e])
    obtain ⟨h1, h2, _⟩ := hF.pfb hM hI hit hf
    exact ⟨h1, h2⟩
  · rw [← hP.hs, rdH_len]; exact hI.ti.eh
  · rw [hF.gas] at hgm
    have e : ((n / 32 : Nat) : Int) = (n : Int) / 32 := by omega
    rw [← e, ← ymem_int] at hgm
    rw [hnM]; omega
end Go.Proofs.YgvacwGreat
