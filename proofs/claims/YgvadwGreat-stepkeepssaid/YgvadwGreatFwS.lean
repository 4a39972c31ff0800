import Derived.Test.YgvadwGreatFwR
namespace Go.Proofs.YgvadwGreat
set_option linter.unusedSimpArgs false
set_option linter.unusedVariables false
/-! strings of bytes, compared -/
def strB (L : List Int) : ByteArray := L.foldl (fun s n => s.push (UInt8.ofNat n.toNat)) .empty
def strGe (L M : List Int) : Bool := !Op.bytesLess (strB L).toList (strB M).toList
theorem str_loop {P : Program} (f : Value → ByteArray → Sem _) (hf : ∀ n r w, (f (.int .u8 n) r).run P w = .ok (.yield (r.push (UInt8.ofNat n.toNat))) w) : ∀ (L : List Int) (s : ByteArray) (w : World),
    (forIn (m := Sem) (L.map (Value.int .u8)) s f).run P w = .ok (L.foldl (fun s n => s.push (UInt8.ofNat n.toNat)) s) w := by
  intro L
  induction L with
  | nil => intro s w; simp
  | cons x L ih =>
    intro s w
    simp only [List.map_cons, List.forIn_cons, List.foldl_cons]
    simp only [Sem.run_bind, hf, Result.andThen_ok]
    exact ih _ w
theorem run_bytesToString {P : Program} {w : World} {a : Addr} {n c : Nat} {L : List Int} (h : (loadCells a n).run P w = .ok (ic .u8 L) w) :
    (Conv.bytesToString (.slice (some a) n c)).run P w = .ok (.string (strB L)) w := by
  unfold Conv.bytesToString
  simp only [Sem.run_bind, h, Result.andThen_ok, ic, List.forIn_toArray]
  rw [str_loop _ ?_ L .empty w]
  · rfl
  · intro n r w; rfl
section
variable {P : Program} {ops : Array Oper} {S : World → Prop} {Q : Post} {d : Nat} {t yt ty : TypeId} {pos : String} {af : Array Edge} {os : List TOp} {ρ : Nat → Value} {w : World} {x y : Operand} {bb : Bool}
theorem PS_geqstr {a b : ByteArray} (hx : ev ρ x = .string a) (hy : ev ρ y = .string b) : PS P (.binOp .geq t x y yt) ρ (.bool (!Op.bytesLess a.toList b.toList)) :=
  PS_binG hx hy (fun _ => rfl) (fun w => rfl)
theorem WH_tostr {w0 : World} {s e el : TypeId} {b o n c' : Nat} {c : Array Value} {T : TypeId} {fz : Nat × Nat} {L : List Int} (hs : ∀ w, (underlying s).run P w = .ok (.slice el) w) (he : ∀ w, (underlying e).run P w = .ok .string w) (hel : ∀ w, (underlying el).run P w = .ok (.int .u8) w)
    (hx : ev ρ x = .slice (some ⟨b, o, none⟩) n c') (hb : hp w0 b = some (.cells c T fz)) (hk : o + n ≤ c.size) (hc : c.extract o (o + n) = ic .u8 L) (h : WH P ops (Ext w0) Q os (upd ρ d (.string (strB L))) w) :
    WH P ops (Ext w0) Q ((⟨some d, .convert s e x, ty, pos, af, none⟩, bb) :: os) ρ w := by
  refine ⟨?_⟩
  simp only [WH0, wanted, if_true, loudOp, Bool.false_eq_true, al_i0]
  refine ⟨.string (strB L), fun w' hS' => ?_, h.run⟩
  have hb1 := keep_ext (hS' rfl) hb
  have hl : (loadCells ⟨b, o, none⟩ n).run P w' = .ok (ic .u8 L) w' := by rw [run_loadCells_hp hb1 hk, hc]
  simp only [execOp, convert, hs, he, hel, hx, Sem.run_bind, Sem.run_pure, Result.andThen_ok, run_bytesToString hl]
end
end Go.Proofs.YgvadwGreat
