
import Derived.Test.YgvacwGreatVq
namespace Go.Proofs.YgvacwGreat
set_option linter.unusedSimpArgs false
set_option linter.unusedVariables false
theorem Wd0 : Wd [0, 0, 0, 0] := ⟨rfl, by decide⟩
theorem newA_ty {A : List Int} (h : By A 20) : AcctTy ⟨A, 0, [0, 0, 0, 0], (none, 0, 0), false, false, false⟩ := ⟨h, ⟨Int.le_refl _, by show (0:Int) ≤ _; decide⟩, Wd0⟩
theorem newS_ty {a : Int} {K : List Int} (h : I32 a) (hK : Wd K) : SlotTy ⟨a, K, [0, 0, 0, 0], [0, 0, 0, 0], false⟩ := ⟨h, hK, Wd0, Wd0⟩
theorem newT_ty {a : Int} {K : List Int} (h : I32 a) (hK : Wd K) : TempTy ⟨a, K, [0, 0, 0, 0]⟩ := ⟨h, hK, Wd0⟩
theorem put_mid {P M M' S l l' : List Value} {k : Nat} (hl' : l' = P ++ (M' ++ S)) (hl : l = P ++ (M ++ S)) (hk : P.length = k) (hM : M.length = M'.length) (n : Nat) : ∀ j, j < n → l'[j]? = if k ≤ j ∧ j < k + M'.length then M'[j - k]? else l[j]? := by
  intro j _
  subst hl; subst hl'
  by_cases h1 : j < k
  · rw [if_neg (by omega), List.getElem?_append_left (by omega), List.getElem?_append_left (by omega)]
  · by_cases h2 : j < k + M'.length
    · rw [if_pos ⟨by omega, h2⟩, List.getElem?_append_right (by omega), List.getElem?_append_left (by omega), hk]
    · rw [if_neg (by omega), List.getElem?_append_right (by omega), List.getElem?_append_right (by omega), List.getElem?_append_right (by omega), List.getElem?_append_right (by omega), hM]
/-- A step of the vault keeps the blocks of other types. -/
theorem VStep.hb [Om] {w w' : World} {C : Nat} {c c' : Array Value} {v : V} {B B' : VB} {β : Option Nat} (h : VStep w w' C c c' B B') (hv : VS w C c v B β) {b : Nat} {r : Array Value} {T : TypeId} {fz : Nat × Nat} (hb : Hb w b (.cells r T fz)) (hT : T ∉ [87, 221, 224, 241, 277, 392, 21]) : Hb w' b (.cells r T fz) :=
  hb.keepO h.keep (hv.not_own hb hT)
theorem VStep.bs [Om] {w w' : World} {C : Nat} {c c' : Array Value} {v : V} {B B' : VB} {β : Option Nat} (h : VStep w w' C c c' B B') (hv : VS w C c v B β) {s : SV} (hb : BS w β s) : BS w' β s := hb.keep fun b r fz _ hh => h.hb hv hh (by decide)

theorem VS.wA_nonce [Om] {w : World} {C : Nat} {c : Array Value} {v : V} {B : VB} {β : Option Nat} (hv : VS w C c v B β) {b cap i : Nat} {r : Array Value} {x : Acct} (hx : v.accts[i]? = some x) (hab : B.a = some (b, cap)) (hcap : v.accts.length ≤ cap) (hr : Hb w b (.cells r 221 (0, 0))) (hrs : r.size = 29 * cap) (hrow : RowL encA 29 0 r v.accts) (y : Int) (hy : (0 ≤ y ∧ y ≤ 18446744073709551615)) :
    VS (setB w b (.cells (r.setIfInBounds (0 + i * 29 + 20) (.int .u64 y)) 221 (0, 0))) C c { v with accts := v.accts.set i { x with nonce := y } } B β ∧ VStep w (setB w b (.cells (r.setIfInBounds (0 + i * 29 + 20) (.int .u64 y)) 221 (0, 0))) C c c B B := by
  have hty := hv.ty.accts x (List.mem_of_getElem? hx)
  exact hv.elt_accts hab hcap hr hrs hrow hx (k := 20) (vs := [.int .u64 y]) (by simp) (put_mid (P := x.addr.map (Value.int .u8)) (M := [.int .u64 x.nonce]) (M' := [.int .u64 y]) (S := x.bal.map (Value.int .u64) ++ [sv x.code, .bool x.warm, .bool x.made, .bool x.gone]) (by simp [encA]) (by simp [encA]) (by simp [hty.1.1, hty.2.2.1]) rfl _) ⟨hty.1, hy, hty.2.2⟩ (hv.codes x (List.mem_of_getElem? hx))

theorem VS.wA_bal [Om] {w : World} {C : Nat} {c : Array Value} {v : V} {B : VB} {β : Option Nat} (hv : VS w C c v B β) {b cap i : Nat} {r : Array Value} {x : Acct} (hx : v.accts[i]? = some x) (hab : B.a = some (b, cap)) (hcap : v.accts.length ≤ cap) (hr : Hb w b (.cells r 221 (0, 0))) (hrs : r.size = 29 * cap) (hrow : RowL encA 29 0 r v.accts) (y : List Int) (hy : Wd y) :
    VS (setB w b (.cells (splice r (0 + i * 29 + 21) (y.map (Value.int .u64))) 221 (0, 0))) C c { v with accts := v.accts.set i { x with bal := y } } B β ∧ VStep w (setB w b (.cells (splice r (0 + i * 29 + 21) (y.map (Value.int .u64))) 221 (0, 0))) C c c B B := by
  have hty := hv.ty.accts x (List.mem_of_getElem? hx)
  exact hv.elt_accts hab hcap hr hrs hrow hx (k := 21) (vs := y.map (Value.int .u64)) (by simp only [List.length_map]; rw [hy.1]; decide) (put_mid (P := x.addr.map (Value.int .u8) ++ [.int .u64 x.nonce]) (M := x.bal.map (Value.int .u64)) (M' := y.map (Value.int .u64)) (S := [sv x.code, .bool x.warm, .bool x.made, .bool x.gone]) (by simp [encA]) (by simp [encA]) (by simp [hty.1.1, hty.2.2.1]) (by simp only [List.length_map]; rw [hy.1]; exact hty.2.2.1) _) ⟨hty.1, hty.2.1, hy⟩ (hv.codes x (List.mem_of_getElem? hx))

theorem VS.wA_code [Om] {w : World} {C : Nat} {c : Array Value} {v : V} {B : VB} {β : Option Nat} (hv : VS w C c v B β) {b cap i : Nat} {r : Array Value} {x : Acct} (hx : v.accts[i]? = some x) (hab : B.a = some (b, cap)) (hcap : v.accts.length ≤ cap) (hr : Hb w b (.cells r 221 (0, 0))) (hrs : r.size = 29 * cap) (hrow : RowL encA 29 0 r v.accts) (y : SV) (hy : BS w β y) :
    VS (setB w b (.cells (r.setIfInBounds (0 + i * 29 + 25) (sv y)) 221 (0, 0))) C c { v with accts := v.accts.set i { x with code := y } } B β ∧ VStep w (setB w b (.cells (r.setIfInBounds (0 + i * 29 + 25) (sv y)) 221 (0, 0))) C c c B B := by
  have hty := hv.ty.accts x (List.mem_of_getElem? hx)
  exact hv.elt_accts hab hcap hr hrs hrow hx (k := 25) (vs := [sv y]) (by simp) (put_mid (P := x.addr.map (Value.int .u8) ++ .int .u64 x.nonce :: x.bal.map (Value.int .u64)) (M := [sv x.code]) (M' := [sv y]) (S := [.bool x.warm, .bool x.made, .bool x.gone]) (by simp [encA]) (by simp [encA]) (by simp [hty.1.1, hty.2.2.1]) rfl _) ⟨hty.1, hty.2.1, hty.2.2⟩ hy

theorem VS.wA_warm [Om] {w : World} {C : Nat} {c : Array Value} {v : V} {B : VB} {β : Option Nat} (hv : VS w C c v B β) {b cap i : Nat} {r : Array Value} {x : Acct} (hx : v.accts[i]? = some x) (hab : B.a = some (b, cap)) (hcap : v.accts.length ≤ cap) (hr : Hb w b (.cells r 221 (0, 0))) (hrs : r.size = 29 * cap) (hrow : RowL encA 29 0 r v.accts) (y : Bool) (hy : True) :
    VS (setB w b (.cells (r.setIfInBounds (0 + i * 29 + 26) (.bool y)) 221 (0, 0))) C c { v with accts := v.accts.set i { x with warm := y } } B β ∧ VStep w (setB w b (.cells (r.setIfInBounds (0 + i * 29 + 26) (.bool y)) 221 (0, 0))) C c c B B := by
  have hty := hv.ty.accts x (List.mem_of_getElem? hx)
  exact hv.elt_accts hab hcap hr hrs hrow hx (k := 26) (vs := [.bool y]) (by simp) (put_mid (P := x.addr.map (Value.int .u8) ++ .int .u64 x.nonce :: (x.bal.map (Value.int .u64) ++ [sv x.code])) (M := [.bool x.warm]) (M' := [.bool y]) (S := [.bool x.made, .bool x.gone]) (by simp [encA]) (by simp [encA]) (by simp [hty.1.1, hty.2.2.1]) rfl _) ⟨hty.1, hty.2.1, hty.2.2⟩ (hv.codes x (List.mem_of_getElem? hx))

theorem VS.wA_made [Om] {w : World} {C : Nat} {c : Array Value} {v : V} {B : VB} {β : Option Nat} (hv : VS w C c v B β) {b cap i : Nat} {r : Array Value} {x : Acct} (hx : v.accts[i]? = some x) (hab : B.a = some (b, cap)) (hcap : v.accts.length ≤ cap) (hr : Hb w b (.cells r 221 (0, 0))) (hrs : r.size = 29 * cap) (hrow : RowL encA 29 0 r v.accts) (y : Bool) (hy : True) :
    VS (setB w b (.cells (r.setIfInBounds (0 + i * 29 + 27) (.bool y)) 221 (0, 0))) C c { v with accts := v.accts.set i { x with made := y } } B β ∧ VStep w (setB w b (.cells (r.setIfInBounds (0 + i * 29 + 27) (.bool y)) 221 (0, 0))) C c c B B := by
  have hty := hv.ty.accts x (List.mem_of_getElem? hx)
  exact hv.elt_accts hab hcap hr hrs hrow hx (k := 27) (vs := [.bool y]) (by simp) (put_mid (P := x.addr.map (Value.int .u8) ++ .int .u64 x.nonce :: (x.bal.map (Value.int .u64) ++ [sv x.code, .bool x.warm])) (M := [.bool x.made]) (M' := [.bool y]) (S := [.bool x.gone]) (by simp [encA]) (by simp [encA]) (by simp [hty.1.1, hty.2.2.1]) rfl _) ⟨hty.1, hty.2.1, hty.2.2⟩ (hv.codes x (List.mem_of_getElem? hx))

theorem VS.wA_gone [Om] {w : World} {C : Nat} {c : Array Value} {v : V} {B : VB} {β : Option Nat} (hv : VS w C c v B β) {b cap i : Nat} {r : Array Value} {x : Acct} (hx : v.accts[i]? = some x) (hab : B.a = some (b, cap)) (hcap : v.accts.length ≤ cap) (hr : Hb w b (.cells r 221 (0, 0))) (hrs : r.size = 29 * cap) (hrow : RowL encA 29 0 r v.accts) (y : Bool) (hy : True) :
    VS (setB w b (.cells (r.setIfInBounds (0 + i * 29 + 28) (.bool y)) 221 (0, 0))) C c { v with accts := v.accts.set i { x with gone := y } } B β ∧ VStep w (setB w b (.cells (r.setIfInBounds (0 + i * 29 + 28) (.bool y)) 221 (0, 0))) C c c B B := by
  have hty := hv.ty.accts x (List.mem_of_getElem? hx)
  exact hv.elt_accts hab hcap hr hrs hrow hx (k := 28) (vs := [.bool y]) (by simp) (put_mid (P := x.addr.map (Value.int .u8) ++ .int .u64 x.nonce :: (x.bal.map (Value.int .u64) ++ [sv x.code, .bool x.warm, .bool x.made])) (M := [.bool x.gone]) (M' := [.bool y]) (S := []) (by simp [encA]) (by simp [encA]) (by simp [hty.1.1, hty.2.2.1]) rfl _) ⟨hty.1, hty.2.1, hty.2.2⟩ (hv.codes x (List.mem_of_getElem? hx))

theorem VS.wS_val [Om] {w : World} {C : Nat} {c : Array Value} {v : V} {B : VB} {β : Option Nat} (hv : VS w C c v B β) {b cap i : Nat} {r : Array Value} {x : Slot} (hx : v.slots[i]? = some x) (hab : B.s = some (b, cap)) (hcap : v.slots.length ≤ cap) (hr : Hb w b (.cells r 224 (0, 0))) (hrs : r.size = 14 * cap) (hrow : RowL encS 14 0 r v.slots) (y : List Int) (hy : Wd y) :
    VS (setB w b (.cells (splice r (0 + i * 14 + 5) (y.map (Value.int .u64))) 224 (0, 0))) C c { v with slots := v.slots.set i { x with val := y } } B β ∧ VStep w (setB w b (.cells (splice r (0 + i * 14 + 5) (y.map (Value.int .u64))) 224 (0, 0))) C c c B B := by
  have hty := hv.ty.slots x (List.mem_of_getElem? hx)
  exact hv.elt_slots hab hcap hr hrs hrow hx (k := 5) (vs := y.map (Value.int .u64)) (by simp only [List.length_map]; rw [hy.1]; decide) (put_mid (P := .int .i32 x.acct :: x.key.map (Value.int .u64)) (M := x.val.map (Value.int .u64)) (M' := y.map (Value.int .u64)) (S := x.orig.map (Value.int .u64) ++ [.bool x.warm]) (by simp [encS]) (by simp [encS]) (by simp [hty.2.1.1, hty.2.2.1.1, hty.2.2.2.1]) (by simp only [List.length_map]; rw [hy.1]; exact hty.2.2.1.1) _) ⟨hty.1, hty.2.1, hy, hty.2.2.2⟩

theorem VS.wS_orig [Om] {w : World} {C : Nat} {c : Array Value} {v : V} {B : VB} {β : Option Nat} (hv : VS w C c v B β) {b cap i : Nat} {r : Array Value} {x : Slot} (hx : v.slots[i]? = some x) (hab : B.s = some (b, cap)) (hcap : v.slots.length ≤ cap) (hr : Hb w b (.cells r 224 (0, 0))) (hrs : r.size = 14 * cap) (hrow : RowL encS 14 0 r v.slots) (y : List Int) (hy : Wd y) :
    VS (setB w b (.cells (splice r (0 + i * 14 + 9) (y.map (Value.int .u64))) 224 (0, 0))) C c { v with slots := v.slots.set i { x with orig := y } } B β ∧ VStep w (setB w b (.cells (splice r (0 + i * 14 + 9) (y.map (Value.int .u64))) 224 (0, 0))) C c c B B := by
  have hty := hv.ty.slots x (List.mem_of_getElem? hx)
  exact hv.elt_slots hab hcap hr hrs hrow hx (k := 9) (vs := y.map (Value.int .u64)) (by simp only [List.length_map]; rw [hy.1]; decide) (put_mid (P := .int .i32 x.acct :: (x.key.map (Value.int .u64) ++ x.val.map (Value.int .u64))) (M := x.orig.map (Value.int .u64)) (M' := y.map (Value.int .u64)) (S := [.bool x.warm]) (by simp [encS]) (by simp [encS]) (by simp [hty.2.1.1, hty.2.2.1.1, hty.2.2.2.1]) (by simp only [List.length_map]; rw [hy.1]; exact hty.2.2.2.1) _) ⟨hty.1, hty.2.1, hty.2.2.1, hy⟩

theorem VS.wS_warm [Om] {w : World} {C : Nat} {c : Array Value} {v : V} {B : VB} {β : Option Nat} (hv : VS w C c v B β) {b cap i : Nat} {r : Array Value} {x : Slot} (hx : v.slots[i]? = some x) (hab : B.s = some (b, cap)) (hcap : v.slots.length ≤ cap) (hr : Hb w b (.cells r 224 (0, 0))) (hrs : r.size = 14 * cap) (hrow : RowL encS 14 0 r v.slots) (y : Bool) (hy : True) :
    VS (setB w b (.cells (r.setIfInBounds (0 + i * 14 + 13) (.bool y)) 224 (0, 0))) C c { v with slots := v.slots.set i { x with warm := y } } B β ∧ VStep w (setB w b (.cells (r.setIfInBounds (0 + i * 14 + 13) (.bool y)) 224 (0, 0))) C c c B B := by
  have hty := hv.ty.slots x (List.mem_of_getElem? hx)
  exact hv.elt_slots hab hcap hr hrs hrow hx (k := 13) (vs := [.bool y]) (by simp) (put_mid (P := .int .i32 x.acct :: (x.key.map (Value.int .u64) ++ (x.val.map (Value.int .u64) ++ x.orig.map (Value.int .u64)))) (M := [.bool x.warm]) (M' := [.bool y]) (S := []) (by simp [encS]) (by simp [encS]) (by simp [hty.2.1.1, hty.2.2.1.1, hty.2.2.2.1]) rfl _) hty

theorem VS.wT_val [Om] {w : World} {C : Nat} {c : Array Value} {v : V} {B : VB} {β : Option Nat} (hv : VS w C c v B β) {b cap i : Nat} {r : Array Value} {x : Temp} (hx : v.temps[i]? = some x) (hab : B.t = some (b, cap)) (hcap : v.temps.length ≤ cap) (hr : Hb w b (.cells r 392 (0, 0))) (hrs : r.size = 9 * cap) (hrow : RowL encT 9 0 r v.temps) (y : List Int) (hy : Wd y) :
    VS (setB w b (.cells (splice r (0 + i * 9 + 5) (y.map (Value.int .u64))) 392 (0, 0))) C c { v with temps := v.temps.set i { x with val := y } } B β ∧ VStep w (setB w b (.cells (splice r (0 + i * 9 + 5) (y.map (Value.int .u64))) 392 (0, 0))) C c c B B := by
  have hty := hv.ty.temps x (List.mem_of_getElem? hx)
  exact hv.elt_temps hab hcap hr hrs hrow hx (k := 5) (vs := y.map (Value.int .u64)) (by simp only [List.length_map]; rw [hy.1]; decide) (put_mid (P := .int .i32 x.acct :: x.key.map (Value.int .u64)) (M := x.val.map (Value.int .u64)) (M' := y.map (Value.int .u64)) (S := []) (by simp [encT]) (by simp [encT]) (by simp [hty.2.1.1, hty.2.2.1]) (by simp only [List.length_map]; rw [hy.1]; exact hty.2.2.1) _) ⟨hty.1, hty.2.1, hy⟩

end Go.Proofs.YgvacwGreat
