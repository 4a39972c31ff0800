
import Derived.Test.YgvacwGreatVa
import Derived.Test.YgvacwGreatVs
import Derived.Test.YgvacwGreatFwL
namespace Go.Proofs.YgvacwGreat
set_option linter.unusedSimpArgs false
set_option linter.unusedVariables false

theorem encE_len (x : Entry) (h : x.w.length = 4) : (encE x).length = 9 := by simp [encE, h]
theorem encT_len (x : Temp) (h : x.key.length = 4) (h2 : x.val.length = 4) : (encT x).length = 9 := by simp [encT, h, h2]
theorem encL_len (x : LogR) (h : x.addr.length = 20) : (encL x).length = 22 := by simp [encL, h]
/-- One record of the row, opened: where it lies, and each of its parts. -/
theorem VS.openA [Om] {w : World} {C : Nat} {c : Array Value} {v : V} {B : VB} {β : Option Nat} (hv : VS w C c v B β) {i : Nat} {x : Acct} (hx : v.accts[i]? = some x) :
    ∃ b cap r, B.a = some (b, cap) ∧ v.accts.length ≤ cap ∧ Hb w b (.cells r 221 (0, 0)) ∧ r.size = 29 * cap ∧ RowL encA 29 0 r v.accts ∧ Ce c 2435 (.slice (some ⟨b, 0, none⟩) v.accts.length cap) ∧ 0 + i * 29 + 29 ≤ r.size ∧ i < v.accts.length ∧ AcctTy x ∧ Xt r (0 + i * 29 + 0) (0 + i * 29 + 0 + 20) (ic .u8 x.addr) ∧ Ce r (0 + i * 29 + 20) (.int .u64 x.nonce) ∧ Xt r (0 + i * 29 + 21) (0 + i * 29 + 21 + 4) (ic .u64 x.bal) ∧ Ce r (0 + i * 29 + 25) (.slice x.code.1 x.code.2.1 x.code.2.2) ∧ Ce r (0 + i * 29 + 26) (.bool x.warm) ∧ Ce r (0 + i * 29 + 27) (.bool x.made) ∧ Ce r (0 + i * 29 + 28) (.bool x.gone) := by
  obtain ⟨b, cap, r, hab, hcap, hr, hrs, hrow⟩ := hv.rows.accts.some hx
  have hty := hv.ty.accts x (List.mem_of_getElem? hx)
  have hhd : Ce c 2435 (.slice (some ⟨b, 0, none⟩) v.accts.length cap) := by have := hv.rep.accts; rw [hab] at this; exact this
  have hbd := hrow.bd hx
  have hlen := encA_len x hty.1.1 hty.2.2.1
  have h0 := hty.1.1
  have h1 := hty.2.2.1
  refine ⟨b, cap, r, hab, hcap, hr, hrs, hrow, hhd, hbd, lt_of_getElem? hx, hty, ?_⟩
  exact ⟨(hrow.ext hx (k := 0) (n := 20) (by decide) (vs := x.addr.map (Value.int .u8)) (by simp [encA, h0, h1, List.drop_append, List.take_append, List.drop_eq_nil_of_le, List.take_of_length_le]) hlen), (hrow.get hx (k := 20) (by decide) (by simp [encA, h0, h1, List.getElem?_append, sv])), (hrow.ext hx (k := 21) (n := 4) (by decide) (vs := x.bal.map (Value.int .u64)) (by simp [encA, h0, h1, List.drop_append, List.take_append, List.drop_eq_nil_of_le, List.take_of_length_le]) hlen), (hrow.get hx (k := 25) (by decide) (by simp [encA, h0, h1, List.getElem?_append, sv])), (hrow.get hx (k := 26) (by decide) (by simp [encA, h0, h1, List.getElem?_append, sv])), (hrow.get hx (k := 27) (by decide) (by simp [encA, h0, h1, List.getElem?_append, sv])), (hrow.get hx (k := 28) (by decide) (by simp [encA, h0, h1, List.getElem?_append, sv]))⟩
/-- One record of the row, opened: where it lies, and each of its parts. -/
theorem VS.openS [Om] {w : World} {C : Nat} {c : Array Value} {v : V} {B : VB} {β : Option Nat} (hv : VS w C c v B β) {i : Nat} {x : Slot} (hx : v.slots[i]? = some x) :
    ∃ b cap r, B.s = some (b, cap) ∧ v.slots.length ≤ cap ∧ Hb w b (.cells r 224 (0, 0)) ∧ r.size = 14 * cap ∧ RowL encS 14 0 r v.slots ∧ Ce c 2436 (.slice (some ⟨b, 0, none⟩) v.slots.length cap) ∧ 0 + i * 14 + 14 ≤ r.size ∧ i < v.slots.length ∧ SlotTy x ∧ Ce r (0 + i * 14 + 0) (.int .i32 x.acct) ∧ Xt r (0 + i * 14 + 1) (0 + i * 14 + 1 + 4) (ic .u64 x.key) ∧ Xt r (0 + i * 14 + 5) (0 + i * 14 + 5 + 4) (ic .u64 x.val) ∧ Xt r (0 + i * 14 + 9) (0 + i * 14 + 9 + 4) (ic .u64 x.orig) ∧ Ce r (0 + i * 14 + 13) (.bool x.warm) := by
  obtain ⟨b, cap, r, hab, hcap, hr, hrs, hrow⟩ := hv.rows.slots.some hx
  have hty := hv.ty.slots x (List.mem_of_getElem? hx)
  have hhd : Ce c 2436 (.slice (some ⟨b, 0, none⟩) v.slots.length cap) := by have := hv.rep.slots; rw [hab] at this; exact this
  have hbd := hrow.bd hx
  have hlen := encS_len x hty.2.1.1 hty.2.2.1.1 hty.2.2.2.1
  have h0 := hty.2.1.1
  have h1 := hty.2.2.1.1
  have h2 := hty.2.2.2.1
  refine ⟨b, cap, r, hab, hcap, hr, hrs, hrow, hhd, hbd, lt_of_getElem? hx, hty, ?_⟩
  exact ⟨(hrow.get hx (k := 0) (by decide) (by simp [encS, h0, h1, h2, List.getElem?_append, sv])), (hrow.ext hx (k := 1) (n := 4) (by decide) (vs := x.key.map (Value.int .u64)) (by simp [encS, h0, h1, h2, List.drop_append, List.take_append, List.drop_eq_nil_of_le, List.take_of_length_le]) hlen), (hrow.ext hx (k := 5) (n := 4) (by decide) (vs := x.val.map (Value.int .u64)) (by simp [encS, h0, h1, h2, List.drop_append, List.take_append, List.drop_eq_nil_of_le, List.take_of_length_le]) hlen), (hrow.ext hx (k := 9) (n := 4) (by decide) (vs := x.orig.map (Value.int .u64)) (by simp [encS, h0, h1, h2, List.drop_append, List.take_append, List.drop_eq_nil_of_le, List.take_of_length_le]) hlen), (hrow.get hx (k := 13) (by decide) (by simp [encS, h0, h1, h2, List.getElem?_append, sv]))⟩
/-- One record of the row, opened: where it lies, and each of its parts. -/
theorem VS.openJ [Om] {w : World} {C : Nat} {c : Array Value} {v : V} {B : VB} {β : Option Nat} (hv : VS w C c v B β) {i : Nat} {x : Entry} (hx : v.journal[i]? = some x) :
    ∃ b cap r, B.j = some (b, cap) ∧ v.journal.length ≤ cap ∧ Hb w b (.cells r 241 (0, 0)) ∧ r.size = 9 * cap ∧ RowL encE 9 0 r v.journal ∧ Ce c 10629 (.slice (some ⟨b, 0, none⟩) v.journal.length cap) ∧ 0 + i * 9 + 9 ≤ r.size ∧ i < v.journal.length ∧ EntryTy x ∧ Ce r (0 + i * 9 + 0) (.int .u8 x.kind) ∧ Ce r (0 + i * 9 + 1) (.int .i32 x.at_) ∧ Ce r (0 + i * 9 + 2) (.int .u64 x.n) ∧ Xt r (0 + i * 9 + 3) (0 + i * 9 + 3 + 4) (ic .u64 x.w) ∧ Ce r (0 + i * 9 + 7) (.slice x.b.1 x.b.2.1 x.b.2.2) ∧ Ce r (0 + i * 9 + 8) (.bool x.flag) := by
  obtain ⟨b, cap, r, hab, hcap, hr, hrs, hrow⟩ := hv.rows.journal.some hx
  have hty := hv.ty.journal x (List.mem_of_getElem? hx)
  have hhd : Ce c 10629 (.slice (some ⟨b, 0, none⟩) v.journal.length cap) := by have := hv.rep.journal; rw [hab] at this; exact this
  have hbd := hrow.bd hx
  have hlen := encE_len x hty.2.2.2.1
  have h0 := hty.2.2.2.1
  refine ⟨b, cap, r, hab, hcap, hr, hrs, hrow, hhd, hbd, lt_of_getElem? hx, hty, ?_⟩
  exact ⟨(hrow.get hx (k := 0) (by decide) (by simp [encE, h0, List.getElem?_append, sv])), (hrow.get hx (k := 1) (by decide) (by simp [encE, h0, List.getElem?_append, sv])), (hrow.get hx (k := 2) (by decide) (by simp [encE, h0, List.getElem?_append, sv])), (hrow.ext hx (k := 3) (n := 4) (by decide) (vs := x.w.map (Value.int .u64)) (by simp [encE, h0, List.drop_append, List.take_append, List.drop_eq_nil_of_le, List.take_of_length_le]) hlen), (hrow.get hx (k := 7) (by decide) (by simp [encE, h0, List.getElem?_append, sv])), (hrow.get hx (k := 8) (by decide) (by simp [encE, h0, List.getElem?_append, sv]))⟩
/-- One record of the row, opened: where it lies, and each of its parts. -/
theorem VS.openT [Om] {w : World} {C : Nat} {c : Array Value} {v : V} {B : VB} {β : Option Nat} (hv : VS w C c v B β) {i : Nat} {x : Temp} (hx : v.temps[i]? = some x) :
    ∃ b cap r, B.t = some (b, cap) ∧ v.temps.length ≤ cap ∧ Hb w b (.cells r 392 (0, 0)) ∧ r.size = 9 * cap ∧ RowL encT 9 0 r v.temps ∧ Ce c 27017 (.slice (some ⟨b, 0, none⟩) v.temps.length cap) ∧ 0 + i * 9 + 9 ≤ r.size ∧ i < v.temps.length ∧ TempTy x ∧ Ce r (0 + i * 9 + 0) (.int .i32 x.acct) ∧ Xt r (0 + i * 9 + 1) (0 + i * 9 + 1 + 4) (ic .u64 x.key) ∧ Xt r (0 + i * 9 + 5) (0 + i * 9 + 5 + 4) (ic .u64 x.val) := by
  obtain ⟨b, cap, r, hab, hcap, hr, hrs, hrow⟩ := hv.rows.temps.some hx
  have hty := hv.ty.temps x (List.mem_of_getElem? hx)
  have hhd : Ce c 27017 (.slice (some ⟨b, 0, none⟩) v.temps.length cap) := by have := hv.rep.temps; rw [hab] at this; exact this
  have hbd := hrow.bd hx
  have hlen := encT_len x hty.2.1.1 hty.2.2.1
  have h0 := hty.2.1.1
  have h1 := hty.2.2.1
  refine ⟨b, cap, r, hab, hcap, hr, hrs, hrow, hhd, hbd, lt_of_getElem? hx, hty, ?_⟩
  exact ⟨(hrow.get hx (k := 0) (by decide) (by simp [encT, h0, h1, List.getElem?_append, sv])), (hrow.ext hx (k := 1) (n := 4) (by decide) (vs := x.key.map (Value.int .u64)) (by simp [encT, h0, h1, List.drop_append, List.take_append, List.drop_eq_nil_of_le, List.take_of_length_le]) hlen), (hrow.ext hx (k := 5) (n := 4) (by decide) (vs := x.val.map (Value.int .u64)) (by simp [encT, h0, h1, List.drop_append, List.take_append, List.drop_eq_nil_of_le, List.take_of_length_le]) hlen)⟩
end Go.Proofs.YgvacwGreat
