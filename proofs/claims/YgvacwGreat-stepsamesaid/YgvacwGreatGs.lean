import Derived.Test.YgvacwGreatGr
namespace Go.Proofs.YgvacwGreat
set_option linter.unusedSimpArgs false
set_option linter.unusedVariables false
theorem FrR.keep [Om] {w w' : World} {x : YFr} {f : PF} (h : FrR w x f) (he : KeepO Om.p w w') (hk : KT 5 w w') : FrR w' x f :=
  { h with pc := h.pc.keep he, gas := h.gas.keep he, value := h.value.keep he, outOff := h.outOff.keep he, outLen := h.outLen.keep he, stack := h.stack.keep he, mem := h.mem.kt hk, code := h.code.keep he, inputY := h.inputY.keep he, saved := h.saved.keep he }
/-- a frame that may be turned -/
structure FrM [Om] (w : World) (F fo : Nat) (r : Array Value) (x : YFr) (f : PF) : Prop where
  blk : Hb w F (.cells r 121 (0, 0))
  fc : FC r fo x
  rel : FrR w x f
  om : Om.p F
theorem FrM.ext [Om] {w w' : World} {F fo : Nat} {r : Array Value} {x : YFr} {f : PF} (h : FrM w F fo r x f) (he : Ext w w') : FrM w' F fo r x f := ⟨h.blk.ext he, h.fc, h.rel.ext he, h.om⟩
theorem FrM.s [Om] {w : World} {F fo : Nat} {r : Array Value} {x : YFr} {f : PF} (h : FrM w F fo r x f) : FrS w F fo x f := ⟨⟨r, 121, (0, 0), h.blk, h.fc⟩, h.rel⟩
theorem FrR.setF [Om] {w : World} {F : Nat} {r r' : Array Value} {x : YFr} {f : PF} (h : FrR w x f) (hb : Hb w F (.cells r 121 (0, 0))) (ho : Om.p F) : FrR (setB w F (.cells r' 121 (0, 0))) x f :=
  h.keep (keepSO (Ext.refl _) ho _) (KT.setB hb (by decide))

end Go.Proofs.YgvacwGreat
