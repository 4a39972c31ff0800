import Derived.Test.YgvadwGreatRows
import Derived.Test.YgvadwGreatZg
import Derived.Test.YgvadwGreatZh
import Derived.ProofKit
import Derived.OpenShut
import Derived.Below
import Derived.Carry
namespace Go.Proofs.YgvadwGreat
set_option linter.unusedSimpArgs false
set_option linter.unusedVariables false
open Go.ChangeShapes Go.WideShapes Go.ChangeAt Go.RowKit
/-! the row -/
theorem kOwn : ownKnob Hvad.prog.godebug = none := by kernel_rfl
theorem kLaid : laidOutB Hvad.prog = true := by kernel_rfl
theorem kRec23 : Hvad.prog.readableRec 23 = true := by kernel_rfl
theorem kRec31 : Hvad.prog.readableRec 31 = true := by kernel_rfl
theorem kRec35 : Hvad.prog.readableRec 35 = true := by kernel_rfl
theorem Ext.below {w w' : World} (h : Ext w w') : Below w.heap.size w w' := ⟨h.3.1, h.3.2.2, h.3.2.1, h.1, fun k hk => h.2 k hk⟩
set_option linter.all false in
set_option maxRecDepth 100000 in
theorem slice_cells {W : World} {t e base : Nat} {v : Value} {s : SV} (ht : Hvad.prog.underlying t = some (.slice e)) (hv : Value.okWide Hvad.prog W .any base t v) (h : v.cells.toList = [sv s]) : v = sv s := by
  unfold Value.okWide at hv
  rw [ht] at hv
  dsimp only at hv
  unfold Cell.okWide at hv
  rw [ht] at hv
  cases v <;> simp_all [Value.cells, Cell.ok]
set_option linter.all false in
set_option maxRecDepth 100000 in
theorem agg_cells {W : World} {t base : Nat} {fs : Array Field} {v : Value} {cs : List Value} (ht : Hvad.prog.underlying t = some (.struct fs)) (hv : Value.okWide Hvad.prog W .any base t v) (h : v.cells.toList = cs) : v = .agg cs.toArray := by
  unfold Value.okWide at hv
  rw [ht] at hv
  dsimp only at hv
  obtain ⟨r, rfl, _, _⟩ := hv
  rw [← h]
  simp [Value.cells]
set_option maxRecDepth 100000 in
theorem lifted (os : Os) (started : os.Started) (H : Type) (enc : TypeId × Value → H) :
    ReturnsInHanded {} Hvad.checked os 3 .any (Rows.stepKeepsSpec.pre6 enc Hvad.prog Hvad.f3 Rows.stepKeepsRow.domain false) (Rows.stepKeepsSpec.post enc Hvad.prog Hvad.f3 false true false false) := by
  refine returnsInHanded_of_change (C := Hvad.checked) kOwn started (by kernel_rfl) Hvad.func3
    (ChangeSpec.witness6 (enc := enc) (C := Hvad.checked) false ⟨#[], #[.slice none 0 0, .agg (encEv ⟨List.replicate 20 0, 0, 0, 0, List.replicate 32 0, List.replicate 32 0, List.replicate 32 0, (none, 0, 0), []⟩).toArray, .agg (encTx ⟨List.replicate 20 0, List.replicate 20 0, false, 0, 0, List.replicate 32 0, List.replicate 32 0, (none, 0, 0), false, List.replicate 32 0, List.replicate 32 0, (none, 0, 0), [], []⟩).toArray], []⟩ 8 (by kernel_rfl) (by kernel_rfl) (by kernel_rfl) (by kernel_rfl)) ?_
  intro W base args ds gs before hval0 hW hcnd _
  have hval : ∀ (j : Nat) t v, Hvad.f3.params[j]? = some t → args[j]? = some v → Value.okWide Hvad.prog W .any base t v := hval0
  have hW' := hW
  obtain ⟨p, q, hA0, hV, rfl, hfz, hnd⟩ := hW
  have hA : DataW.TrodAll enc Hvad.prog W 0 (fun _ => true) true Hvad.f3.params.toList args.toList ds p := hA0
  rw [Hvad.params3] at hA hval
  obtain ⟨v0, v1, v2, d0, d1, d2, p0, p1, p2, rfl, rfl, rfl, h0, h1, h2⟩ := trodAll_three hA
  obtain ⟨rfl, rfl⟩ := trodVars_none hV
  have hlt0 : ∀ x ∈ p0, x.block < W.heap.size := by obtain ⟨n, hn⟩ := h0; exact DataW.trod_lt n _ _ _ hn
  have hlt1 : ∀ x ∈ p1, x.block < W.heap.size := by obtain ⟨n, hn⟩ := h1; exact DataW.trod_lt n _ _ _ hn
  have hlt2 : ∀ x ∈ p2, x.block < W.heap.size := by obtain ⟨n, hn⟩ := h2; exact DataW.trod_lt n _ _ _ hn
  have k0 := h0
  have k1 := h1
  have k2 := h2
  obtain ⟨n0, g0⟩ := k0
  obtain ⟨n1, g1⟩ := k1
  obtain ⟨n2, g2⟩ := k2
  obtain ⟨s, l, e0, hin⟩ := rd_world g0
  obtain ⟨e, hev, e1⟩ := rd_env g1
  obtain ⟨t, htx, e2⟩ := rd_tx g2
  have z0 := slice_cells Hvad.underlying23 (hval 0 23 v0 rfl rfl) e0
  have z1 := agg_cells Hvad.underlying31 (hval 1 31 v1 rfl rfl) e1
  have z2 := agg_cells Hvad.underlying35 (hval 2 35 v2 rfl rfl) e2
  clear hA0 hval0
  have walk := (stepKeeps_spec s l e t W hin hev htx).run
  have hargs : (#[v0, v1, v2] : Array Value) = #[.slice s.1 s.2.1 s.2.2, .agg (encEv e).toArray, .agg (encTx t).toArray] := by rw [z0, z1, z2]; rfl
  show Calls Hvad.prog 3 #[v0, v1, v2] W _
  rw [hargs] at hW' ⊢
  refine walk.mono fun x W' ⟨u, hx, hu, hE⟩ => ?_
  subst hx; subst hu
  have hB := hE.below
  rw [z0] at h0; rw [z1] at h1; rw [z2] at h2
  refine ⟨_, rfl, [d0, d1, d2], [], _, [], p0 ++ (p1 ++ p2), [], hW', ?_, ?_, ?_, hB.frame _, fun h => by cases h⟩
  · exact trodAll_mk1 (shut_bool Hvad.underlying4 _)
  · exact trodAll_mk3 (Below.trod kLaid kRec23 (of_decide_eq_true (by kernel_rfl)) h0 hB hlt0) (Below.trod kLaid kRec31 (of_decide_eq_true (by kernel_rfl)) h1 hB hlt1) (Below.trod kLaid kRec35 (of_decide_eq_true (by kernel_rfl)) h2 hB hlt2)
  · rfl
end Go.Proofs.YgvadwGreat
