import Derived.Test.YgvadwGreatOj
namespace Go.Proofs.YgvadwGreat
set_option linter.unusedSimpArgs false
set_option linter.unusedVariables false
theorem len8 {l : List Int} (h : l.length = 8) : ∃ a b c d e f g i, l = [a, b, c, d, e, f, g, i] := by
  match l, h with
  | [a, b, c, d, e, f, g, i], _ => exact ⟨a, b, c, d, e, f, g, i, rfl⟩
set_option maxRecDepth 10000 in
theorem openFB {g : Fm} (h : FmTy g) : OpenF (encF g).toArray 0 g := by
  obtain ⟨kind, depth, ntv, static, pc, sbase, sp, gas, snap, self, caller, value, code, inputY, dests, outOff, outLen, cb⟩ := g
  have h1 : self.length = 20 := h.self.1
  have h2 : caller.length = 20 := h.caller.1
  have h3 : value.length = 4 := h.value.1
  have h4 : dests.length = 8 := h.dests.1
  clear h
  obtain ⟨s0, s1, s2, s3, s4, s5, s6, s7, s8, s9, s10, s11, s12, s13, s14, s15, s16, s17, s18, s19, rfl⟩ := len20 h1
  obtain ⟨k0, k1, k2, k3, k4, k5, k6, k7, k8, k9, k10, k11, k12, k13, k14, k15, k16, k17, k18, k19, rfl⟩ := len20 h2
  obtain ⟨v0, v1, v2, v3, rfl⟩ := len4 h3
  obtain ⟨d0, d1, d2, d3, d4, d5, d6, d7, rfl⟩ := len8 h4
  exact ⟨⟨rfl⟩, ⟨rfl⟩, ⟨rfl⟩, ⟨rfl⟩, ⟨rfl⟩, ⟨rfl⟩, ⟨rfl⟩, ⟨rfl⟩, ⟨rfl⟩, ⟨by kernel_rfl⟩, ⟨by kernel_rfl⟩, ⟨by kernel_rfl⟩, ⟨rfl⟩, ⟨rfl⟩, ⟨by kernel_rfl⟩, ⟨rfl⟩, ⟨rfl⟩, by simp [encF]⟩
theorem fb_kind (g : Fm) (x : Int) : (encF g).toArray.setIfInBounds (0 + 0) (.int .u8 x) = (encF { g with kind := x }).toArray := rfl
theorem fb_depth (g : Fm) (x : Int) : (encF g).toArray.setIfInBounds (0 + 1) (.int .u8 x) = (encF { g with depth := x }).toArray := rfl
theorem fb_ntv (g : Fm) (x : Int) : (encF g).toArray.setIfInBounds (0 + 2) (.int .u8 x) = (encF { g with ntv := x }).toArray := rfl
theorem fb_static (g : Fm) (x : Bool) : (encF g).toArray.setIfInBounds (0 + 3) (.bool x) = (encF { g with static := x }).toArray := rfl
theorem fb_pc (g : Fm) (x : Int) : (encF g).toArray.setIfInBounds (0 + 4) (.int .u16 x) = (encF { g with pc := x }).toArray := rfl
theorem fb_sbase (g : Fm) (x : Int) : (encF g).toArray.setIfInBounds (0 + 5) (.int .u16 x) = (encF { g with sbase := x }).toArray := rfl
theorem fb_sp (g : Fm) (x : Int) : (encF g).toArray.setIfInBounds (0 + 6) (.int .u16 x) = (encF { g with sp := x }).toArray := rfl
theorem fb_gas (g : Fm) (x : Int) : (encF g).toArray.setIfInBounds (0 + 7) (.int .u64 x) = (encF { g with gas := x }).toArray := rfl
theorem fb_snap (g : Fm) (x : Int) : (encF g).toArray.setIfInBounds (0 + 8) (.int .i32 x) = (encF { g with snap := x }).toArray := rfl
set_option maxRecDepth 10000 in
theorem fb_code {g : Fm} (h : FmTy g) (x : SV) : (encF g).toArray.setIfInBounds (0 + 53) (.slice x.1 x.2.1 x.2.2) = (encF { g with code := x }).toArray := by
  obtain ⟨kind, depth, ntv, static, pc, sbase, sp, gas, snap, self, caller, value, code, inputY, dests, outOff, outLen, cb⟩ := g
  have h1 : self.length = 20 := h.self.1
  have h2 : caller.length = 20 := h.caller.1
  have h3 : value.length = 4 := h.value.1
  have h4 : dests.length = 8 := h.dests.1
  clear h
  obtain ⟨s0, s1, s2, s3, s4, s5, s6, s7, s8, s9, s10, s11, s12, s13, s14, s15, s16, s17, s18, s19, rfl⟩ := len20 h1
  obtain ⟨k0, k1, k2, k3, k4, k5, k6, k7, k8, k9, k10, k11, k12, k13, k14, k15, k16, k17, k18, k19, rfl⟩ := len20 h2
  obtain ⟨v0, v1, v2, v3, rfl⟩ := len4 h3
  obtain ⟨d0, d1, d2, d3, d4, d5, d6, d7, rfl⟩ := len8 h4
  rfl
set_option maxRecDepth 10000 in
theorem fb_input {g : Fm} (h : FmTy g) (x : SV) : (encF g).toArray.setIfInBounds (0 + 54) (.slice x.1 x.2.1 x.2.2) = (encF { g with inputY := x }).toArray := by
  obtain ⟨kind, depth, ntv, static, pc, sbase, sp, gas, snap, self, caller, value, code, inputY, dests, outOff, outLen, cb⟩ := g
  have h1 : self.length = 20 := h.self.1
  have h2 : caller.length = 20 := h.caller.1
  have h3 : value.length = 4 := h.value.1
  have h4 : dests.length = 8 := h.dests.1
  clear h
  obtain ⟨s0, s1, s2, s3, s4, s5, s6, s7, s8, s9, s10, s11, s12, s13, s14, s15, s16, s17, s18, s19, rfl⟩ := len20 h1
  obtain ⟨k0, k1, k2, k3, k4, k5, k6, k7, k8, k9, k10, k11, k12, k13, k14, k15, k16, k17, k18, k19, rfl⟩ := len20 h2
  obtain ⟨v0, v1, v2, v3, rfl⟩ := len4 h3
  obtain ⟨d0, d1, d2, d3, d4, d5, d6, d7, rfl⟩ := len8 h4
  rfl
theorem splice_mid : ∀ (M' P M S : List Value), M.length = M'.length → splice (P ++ (M ++ S)).toArray P.length M' = (P ++ (M' ++ S)).toArray
  | [], P, [], S, _ => rfl
  | [], P, _ :: _, S, h => by simp at h
  | v :: M', P, [], S, h => by simp at h
  | v :: M', P, a :: M, S, h => by
    have e : (P ++ (a :: M ++ S)).toArray.setIfInBounds P.length v = ((P ++ [v]) ++ (M ++ S)).toArray := by simp [List.set_append]
    show splice ((P ++ (a :: M ++ S)).toArray.setIfInBounds P.length v) (P.length + 1) M' = _
    rw [e]
    have := splice_mid M' (P ++ [v]) M S (by simpa using h)
    rw [List.length_append, List.length_singleton] at this
    rw [this]; simp
theorem splice_at {c : Array Value} {P M M' S : List Value} {r : Array Value} {o : Nat} (hc : c = (P ++ (M ++ S)).toArray) (ho : o = P.length) (h : M.length = M'.length) (hr : r = (P ++ (M' ++ S)).toArray) : splice c o M' = r := by
  subst hc; subst ho; subst hr; exact splice_mid M' P M S h
theorem fb_self {g : Fm} (h : FmTy g) {x : List Int} (hx : x.length = 20) : splice (encF g).toArray (0 + 9) (Value.agg (ic .u8 x)).cells.toList = (encF { g with self := x }).toArray := by
  have h1 := h.self.1
  have h2 := h.caller.1
  have h3 := h.value.1
  have h4 := h.dests.1
  exact splice_at (M' := x.map (Value.int .u8)) (P := [.int .u8 g.kind, .int .u8 g.depth, .int .u8 g.ntv, .bool g.static, .int .u16 g.pc, .int .u16 g.sbase, .int .u16 g.sp, .int .u64 g.gas, .int .i32 g.snap]) (M := g.self.map (Value.int .u8)) (S := g.caller.map (Value.int .u8) ++ (g.value.map (Value.int .u64) ++ (sv g.code :: sv g.inputY :: (g.dests.map (Value.int .u64) ++ [.int .u32 g.outOff, .int .u32 g.outLen])))) (by simp [encF]) (by simp [h1, h2, h3]) (by simp [h1, h2, h3, h4, hx]) (by simp [encF])
theorem fb_caller {g : Fm} (h : FmTy g) {x : List Int} (hx : x.length = 20) : splice (encF g).toArray (0 + 29) (Value.agg (ic .u8 x)).cells.toList = (encF { g with caller := x }).toArray := by
  have h1 := h.self.1
  have h2 := h.caller.1
  have h3 := h.value.1
  have h4 := h.dests.1
  exact splice_at (M' := x.map (Value.int .u8)) (P := [.int .u8 g.kind, .int .u8 g.depth, .int .u8 g.ntv, .bool g.static, .int .u16 g.pc, .int .u16 g.sbase, .int .u16 g.sp, .int .u64 g.gas, .int .i32 g.snap] ++ g.self.map (Value.int .u8)) (M := g.caller.map (Value.int .u8)) (S := g.value.map (Value.int .u64) ++ (sv g.code :: sv g.inputY :: (g.dests.map (Value.int .u64) ++ [.int .u32 g.outOff, .int .u32 g.outLen]))) (by simp [encF]) (by simp [h1, h2, h3]) (by simp [h1, h2, h3, h4, hx]) (by simp [encF])
theorem fb_value {g : Fm} (h : FmTy g) {x : List Int} (hx : x.length = 4) : splice (encF g).toArray (0 + 49) (Value.agg (ic .u64 x)).cells.toList = (encF { g with value := x }).toArray := by
  have h1 := h.self.1
  have h2 := h.caller.1
  have h3 := h.value.1
  have h4 := h.dests.1
  exact splice_at (M' := x.map (Value.int .u64)) (P := [.int .u8 g.kind, .int .u8 g.depth, .int .u8 g.ntv, .bool g.static, .int .u16 g.pc, .int .u16 g.sbase, .int .u16 g.sp, .int .u64 g.gas, .int .i32 g.snap] ++ g.self.map (Value.int .u8) ++ g.caller.map (Value.int .u8)) (M := g.value.map (Value.int .u64)) (S := sv g.code :: sv g.inputY :: (g.dests.map (Value.int .u64) ++ [.int .u32 g.outOff, .int .u32 g.outLen])) (by simp [encF]) (by simp [h1, h2, h3]) (by simp [h1, h2, h3, h4, hx]) (by simp [encF])
theorem fb_dests {g : Fm} (h : FmTy g) {x : List Int} (hx : x.length = 8) : splice (encF g).toArray (0 + 55) (Value.agg (ic .u64 x)).cells.toList = (encF { g with dests := x }).toArray := by
  have h1 := h.self.1
  have h2 := h.caller.1
  have h3 := h.value.1
  have h4 := h.dests.1
  exact splice_at (M' := x.map (Value.int .u64)) (P := [.int .u8 g.kind, .int .u8 g.depth, .int .u8 g.ntv, .bool g.static, .int .u16 g.pc, .int .u16 g.sbase, .int .u16 g.sp, .int .u64 g.gas, .int .i32 g.snap] ++ g.self.map (Value.int .u8) ++ g.caller.map (Value.int .u8) ++ g.value.map (Value.int .u64) ++ [sv g.code, sv g.inputY]) (M := g.dests.map (Value.int .u64)) (S := [.int .u32 g.outOff, .int .u32 g.outLen]) (by simp [encF]) (by simp [h1, h2, h3]) (by simp [h1, h2, h3, h4, hx]) (by simp [encF])
theorem one_encF {g : Fm} : ∀ u ∈ (Value.agg (encF g).toArray).cells.toList, u.oneCell' = true := by
  intro u hu
  have hu : u ∈ encF g := hu
  simp only [encF, List.mem_cons, List.mem_append, List.mem_map, List.not_mem_nil, al_of] at hu
  rcases hu with h | h | h | h | h | h | h | h | h | ⟨_, _, h⟩ | ⟨_, _, h⟩ | ⟨_, _, h⟩ | h | h | ⟨_, _, h⟩ | h | h <;> (subst h; rfl)
theorem encF_cb (g : Fm) (x : List Int) : encF { g with cb := x } = encF g := rfl
def kF (k g : Int) (s : Bool) (a b x : List Int) (cd : SV) : Fm := ⟨k, 0, 0, s, 0, 0, 0, g, 0, a, b, x, cd, (none, 0, 0), List.replicate 8 0, 0, 0, []⟩
theorem kF_ty {k g : Int} {s : Bool} {a b x : List Int} {cd : SV} (hk : 0 ≤ k ∧ k ≤ 255) (hg : 0 ≤ g ∧ g ≤ 18446744073709551615) (ha : By a 20) (hb : By b 20) (hx : Wd x) : FmTy (kF k g s a b x cd) := by
  exact ⟨hk, (by decide : (0:Int) ≤ 0 ∧ (0:Int) ≤ 255), (by decide : (0:Int) ≤ 0 ∧ (0:Int) ≤ 255), (by decide : (0:Int) ≤ 0 ∧ (0:Int) ≤ 65535), (by decide : (0:Int) ≤ 0 ∧ (0:Int) ≤ 65535), (by decide : (0:Int) ≤ 0 ∧ (0:Int) ≤ 65535), hg, (by unfold I32; decide : I32 0), ha, hb, hx, (⟨rfl, by decide⟩ : (List.replicate 8 (0:Int)).length = 8 ∧ ∀ x ∈ List.replicate 8 (0:Int), 0 ≤ x ∧ x ≤ 18446744073709551615), (by decide : (0:Int) ≤ 0 ∧ (0:Int) ≤ 4294967295), (by decide : (0:Int) ≤ 0 ∧ (0:Int) ≤ 4294967295)⟩
def zF : Fm := ⟨0, 0, 0, false, 0, 0, 0, 0, 0, List.replicate 20 0, List.replicate 20 0, [0, 0, 0, 0], (none, 0, 0), (none, 0, 0), List.replicate 8 0, 0, 0, []⟩
def Fm.sKind (g : Fm) (x : Int) : Fm := { g with kind := x }
theorem fs_kind (g : Fm) (x : Int) : (encF g).toArray.setIfInBounds (0 + 0) (.int .u8 x) = (encF (g.sKind x)).toArray := rfl
theorem FmTy.sKind {g : Fm} (h : FmTy g) {x : Int} (hx : 0 ≤ x ∧ x ≤ 255) : FmTy (g.sKind x) := { h with kind := hx }
def Fm.sDepth (g : Fm) (x : Int) : Fm := { g with depth := x }
theorem fs_depth (g : Fm) (x : Int) : (encF g).toArray.setIfInBounds (0 + 1) (.int .u8 x) = (encF (g.sDepth x)).toArray := rfl
theorem FmTy.sDepth {g : Fm} (h : FmTy g) {x : Int} (hx : 0 ≤ x ∧ x ≤ 255) : FmTy (g.sDepth x) := { h with depth := hx }
def Fm.sNative (g : Fm) (x : Int) : Fm := { g with ntv := x }
theorem fs_ntv (g : Fm) (x : Int) : (encF g).toArray.setIfInBounds (0 + 2) (.int .u8 x) = (encF (g.sNative x)).toArray := rfl
theorem FmTy.sNative {g : Fm} (h : FmTy g) {x : Int} (hx : 0 ≤ x ∧ x ≤ 255) : FmTy (g.sNative x) := { h with ntv := hx }
def Fm.sStatic (g : Fm) (x : Bool) : Fm := { g with static := x }
theorem fs_static (g : Fm) (x : Bool) : (encF g).toArray.setIfInBounds (0 + 3) (.bool x) = (encF (g.sStatic x)).toArray := rfl
theorem FmTy.sStatic {g : Fm} (h : FmTy g) {x : Bool} : FmTy (g.sStatic x) := { h with }
def Fm.sGas (g : Fm) (x : Int) : Fm := { g with gas := x }
theorem fs_gas (g : Fm) (x : Int) : (encF g).toArray.setIfInBounds (0 + 7) (.int .u64 x) = (encF (g.sGas x)).toArray := rfl
theorem FmTy.sGas {g : Fm} (h : FmTy g) {x : Int} (hx : 0 ≤ x ∧ x ≤ 18446744073709551615) : FmTy (g.sGas x) := { h with gas := hx }
def Fm.sSnap (g : Fm) (x : Int) : Fm := { g with snap := x }
theorem fs_snap (g : Fm) (x : Int) : (encF g).toArray.setIfInBounds (0 + 8) (.int .i32 x) = (encF (g.sSnap x)).toArray := rfl
theorem FmTy.sSnap {g : Fm} (h : FmTy g) {x : Int} (hx : I32 x) : FmTy (g.sSnap x) := { h with snap := hx }
def Fm.sCode (g : Fm) (x : SV) : Fm := { g with code := x }
theorem fs_code {g : Fm} (h : FmTy g) (x : SV) : (encF g).toArray.setIfInBounds (0 + 53) (.slice x.1 x.2.1 x.2.2) = (encF (g.sCode x)).toArray := fb_code h x
theorem FmTy.sCode {g : Fm} (h : FmTy g) {x : SV} : FmTy (g.sCode x) := { h with }
def Fm.sInput (g : Fm) (x : SV) : Fm := { g with inputY := x }
theorem fs_input {g : Fm} (h : FmTy g) (x : SV) : (encF g).toArray.setIfInBounds (0 + 54) (.slice x.1 x.2.1 x.2.2) = (encF (g.sInput x)).toArray := fb_input h x
theorem FmTy.sInput {g : Fm} (h : FmTy g) {x : SV} : FmTy (g.sInput x) := { h with }
def Fm.sSelf (g : Fm) (x : List Int) : Fm := { g with self := x }
theorem fs_self {g : Fm} (h : FmTy g) {x : List Int} (hx : x.length = 20) : splice (encF g).toArray (0 + 9) (Value.agg (ic .u8 x)).cells.toList = (encF (g.sSelf x)).toArray := fb_self h hx
theorem FmTy.sSelf {g : Fm} (h : FmTy g) {x : List Int} (hx : By x 20) : FmTy (g.sSelf x) := { h with self := hx }
def Fm.sCaller (g : Fm) (x : List Int) : Fm := { g with caller := x }
theorem fs_caller {g : Fm} (h : FmTy g) {x : List Int} (hx : x.length = 20) : splice (encF g).toArray (0 + 29) (Value.agg (ic .u8 x)).cells.toList = (encF (g.sCaller x)).toArray := fb_caller h hx
theorem FmTy.sCaller {g : Fm} (h : FmTy g) {x : List Int} (hx : By x 20) : FmTy (g.sCaller x) := { h with caller := hx }
def Fm.sValue (g : Fm) (x : List Int) : Fm := { g with value := x }
theorem fs_value {g : Fm} (h : FmTy g) {x : List Int} (hx : x.length = 4) : splice (encF g).toArray (0 + 49) (Value.agg (ic .u64 x)).cells.toList = (encF (g.sValue x)).toArray := fb_value h hx
theorem FmTy.sValue {g : Fm} (h : FmTy g) {x : List Int} (hx : Wd x) : FmTy (g.sValue x) := { h with value := hx }
def Fm.sCb (g : Fm) (x : List Int) : Fm := { g with cb := x }
theorem FmTy.sCb {g : Fm} (h : FmTy g) {x : List Int} : FmTy (g.sCb x) := { h with }
set_option maxRecDepth 10000 in
theorem PS_b64_0_3_9_10 {ρ : Nat → Value} {x0 x3 x9 x10 : Operand} {y0 : Int} (h0 : ev ρ x0 = .int .u8 y0) {y3 : Bool} (h3 : ev ρ x3 = .bool y3) {y9 : List Int} (h9 : ev ρ x9 = .agg (ic .u8 y9)) (l9 : y9.length = 20) {y10 : List Int} (h10 : ev ρ x10 = .agg (ic .u8 y10)) (l10 : y10.length = 20) : PS Hvad.prog (.build 64 #[(0, x0), (3, x3), (9, x9), (10, x10)]) ρ (.agg (encF (kF y0 0 y3 y9 y10 [0, 0, 0, 0] (none, 0, 0))).toArray) := by
  obtain ⟨a9_0, a9_1, a9_2, a9_3, a9_4, a9_5, a9_6, a9_7, a9_8, a9_9, a9_10, a9_11, a9_12, a9_13, a9_14, a9_15, a9_16, a9_17, a9_18, a9_19, rfl⟩ := len20 l9
  obtain ⟨a10_0, a10_1, a10_2, a10_3, a10_4, a10_5, a10_6, a10_7, a10_8, a10_9, a10_10, a10_11, a10_12, a10_13, a10_14, a10_15, a10_16, a10_17, a10_18, a10_19, rfl⟩ := len20 l10
  exact PS_buildS Hvad.zeroValue64 Hvad.runUnderlying64 (places_run (pl := [(0, 1), (1, 1), (2, 1), (3, 1), (4, 1), (5, 1), (6, 1), (7, 1), (8, 1), (9, 20), (29, 20), (49, 4), (53, 1), (54, 1), (55, 8), (63, 1), (64, 1)]) ⟨rfl, Hvad.sizeOf5, rfl, Hvad.sizeOf5, rfl, Hvad.sizeOf5, rfl, Hvad.sizeOf4, rfl, Hvad.sizeOf61, rfl, Hvad.sizeOf61, rfl, Hvad.sizeOf61, rfl, Hvad.sizeOf26, rfl, Hvad.sizeOf21, rfl, Hvad.sizeOf25, rfl, Hvad.sizeOf25, rfl, Hvad.sizeOf59, rfl, Hvad.sizeOf32, rfl, Hvad.sizeOf32, rfl, Hvad.sizeOf63, rfl, Hvad.sizeOf54, rfl, Hvad.sizeOf54, trivial⟩) (ps := [(0, .int .u8 y0), (3, .bool y3), (9, .agg (ic .u8 [a9_0, a9_1, a9_2, a9_3, a9_4, a9_5, a9_6, a9_7, a9_8, a9_9, a9_10, a9_11, a9_12, a9_13, a9_14, a9_15, a9_16, a9_17, a9_18, a9_19])), (10, .agg (ic .u8 [a10_0, a10_1, a10_2, a10_3, a10_4, a10_5, a10_6, a10_7, a10_8, a10_9, a10_10, a10_11, a10_12, a10_13, a10_14, a10_15, a10_16, a10_17, a10_18, a10_19]))]) (by simp only [List.map, h0, h3, h9, h10]) (by kernel_rfl)
set_option maxRecDepth 10000 in
theorem PS_b64_0_10_11_12_9 {ρ : Nat → Value} {x0 x10 x11 x12 x9 : Operand} {y0 : Int} (h0 : ev ρ x0 = .int .u8 y0) {y10 : List Int} (h10 : ev ρ x10 = .agg (ic .u8 y10)) (l10 : y10.length = 20) {y11 : List Int} (h11 : ev ρ x11 = .agg (ic .u64 y11)) (l11 : y11.length = 4) {p12 : Option Addr} {m12 c12 : Nat} (h12 : ev ρ x12 = .slice p12 m12 c12) {y9 : List Int} (h9 : ev ρ x9 = .agg (ic .u8 y9)) (l9 : y9.length = 20) : PS Hvad.prog (.build 64 #[(0, x0), (10, x10), (11, x11), (12, x12), (9, x9)]) ρ (.agg (encF (kF y0 0 false y9 y10 y11 (p12, m12, c12))).toArray) := by
  obtain ⟨a10_0, a10_1, a10_2, a10_3, a10_4, a10_5, a10_6, a10_7, a10_8, a10_9, a10_10, a10_11, a10_12, a10_13, a10_14, a10_15, a10_16, a10_17, a10_18, a10_19, rfl⟩ := len20 l10
  obtain ⟨w0, w1, w2, w3, rfl⟩ := len4 l11
  obtain ⟨a9_0, a9_1, a9_2, a9_3, a9_4, a9_5, a9_6, a9_7, a9_8, a9_9, a9_10, a9_11, a9_12, a9_13, a9_14, a9_15, a9_16, a9_17, a9_18, a9_19, rfl⟩ := len20 l9
  exact PS_buildS Hvad.zeroValue64 Hvad.runUnderlying64 (places_run (pl := [(0, 1), (1, 1), (2, 1), (3, 1), (4, 1), (5, 1), (6, 1), (7, 1), (8, 1), (9, 20), (29, 20), (49, 4), (53, 1), (54, 1), (55, 8), (63, 1), (64, 1)]) ⟨rfl, Hvad.sizeOf5, rfl, Hvad.sizeOf5, rfl, Hvad.sizeOf5, rfl, Hvad.sizeOf4, rfl, Hvad.sizeOf61, rfl, Hvad.sizeOf61, rfl, Hvad.sizeOf61, rfl, Hvad.sizeOf26, rfl, Hvad.sizeOf21, rfl, Hvad.sizeOf25, rfl, Hvad.sizeOf25, rfl, Hvad.sizeOf59, rfl, Hvad.sizeOf32, rfl, Hvad.sizeOf32, rfl, Hvad.sizeOf63, rfl, Hvad.sizeOf54, rfl, Hvad.sizeOf54, trivial⟩) (ps := [(0, .int .u8 y0), (10, .agg (ic .u8 [a10_0, a10_1, a10_2, a10_3, a10_4, a10_5, a10_6, a10_7, a10_8, a10_9, a10_10, a10_11, a10_12, a10_13, a10_14, a10_15, a10_16, a10_17, a10_18, a10_19])), (11, .agg (ic .u64 [w0, w1, w2, w3])), (12, .slice p12 m12 c12), (9, .agg (ic .u8 [a9_0, a9_1, a9_2, a9_3, a9_4, a9_5, a9_6, a9_7, a9_8, a9_9, a9_10, a9_11, a9_12, a9_13, a9_14, a9_15, a9_16, a9_17, a9_18, a9_19]))]) (by simp only [List.map, h0, h10, h11, h12, h9]) (by kernel_rfl)
set_option maxRecDepth 10000 in
theorem PS_b64_0_9_10_11_12 {ρ : Nat → Value} {x0 x9 x10 x11 x12 : Operand} {y0 : Int} (h0 : ev ρ x0 = .int .u8 y0) {y9 : List Int} (h9 : ev ρ x9 = .agg (ic .u8 y9)) (l9 : y9.length = 20) {y10 : List Int} (h10 : ev ρ x10 = .agg (ic .u8 y10)) (l10 : y10.length = 20) {y11 : List Int} (h11 : ev ρ x11 = .agg (ic .u64 y11)) (l11 : y11.length = 4) {p12 : Option Addr} {m12 c12 : Nat} (h12 : ev ρ x12 = .slice p12 m12 c12) : PS Hvad.prog (.build 64 #[(0, x0), (9, x9), (10, x10), (11, x11), (12, x12)]) ρ (.agg (encF (kF y0 0 false y9 y10 y11 (p12, m12, c12))).toArray) := by
  obtain ⟨a9_0, a9_1, a9_2, a9_3, a9_4, a9_5, a9_6, a9_7, a9_8, a9_9, a9_10, a9_11, a9_12, a9_13, a9_14, a9_15, a9_16, a9_17, a9_18, a9_19, rfl⟩ := len20 l9
  obtain ⟨a10_0, a10_1, a10_2, a10_3, a10_4, a10_5, a10_6, a10_7, a10_8, a10_9, a10_10, a10_11, a10_12, a10_13, a10_14, a10_15, a10_16, a10_17, a10_18, a10_19, rfl⟩ := len20 l10
  obtain ⟨w0, w1, w2, w3, rfl⟩ := len4 l11
  exact PS_buildS Hvad.zeroValue64 Hvad.runUnderlying64 (places_run (pl := [(0, 1), (1, 1), (2, 1), (3, 1), (4, 1), (5, 1), (6, 1), (7, 1), (8, 1), (9, 20), (29, 20), (49, 4), (53, 1), (54, 1), (55, 8), (63, 1), (64, 1)]) ⟨rfl, Hvad.sizeOf5, rfl, Hvad.sizeOf5, rfl, Hvad.sizeOf5, rfl, Hvad.sizeOf4, rfl, Hvad.sizeOf61, rfl, Hvad.sizeOf61, rfl, Hvad.sizeOf61, rfl, Hvad.sizeOf26, rfl, Hvad.sizeOf21, rfl, Hvad.sizeOf25, rfl, Hvad.sizeOf25, rfl, Hvad.sizeOf59, rfl, Hvad.sizeOf32, rfl, Hvad.sizeOf32, rfl, Hvad.sizeOf63, rfl, Hvad.sizeOf54, rfl, Hvad.sizeOf54, trivial⟩) (ps := [(0, .int .u8 y0), (9, .agg (ic .u8 [a9_0, a9_1, a9_2, a9_3, a9_4, a9_5, a9_6, a9_7, a9_8, a9_9, a9_10, a9_11, a9_12, a9_13, a9_14, a9_15, a9_16, a9_17, a9_18, a9_19])), (10, .agg (ic .u8 [a10_0, a10_1, a10_2, a10_3, a10_4, a10_5, a10_6, a10_7, a10_8, a10_9, a10_10, a10_11, a10_12, a10_13, a10_14, a10_15, a10_16, a10_17, a10_18, a10_19])), (11, .agg (ic .u64 [w0, w1, w2, w3])), (12, .slice p12 m12 c12)]) (by simp only [List.map, h0, h9, h10, h11, h12]) (by kernel_rfl)
set_option maxRecDepth 10000 in
theorem PS_b64_0_7_9_10_11 {ρ : Nat → Value} {x0 x7 x9 x10 x11 : Operand} {y0 : Int} (h0 : ev ρ x0 = .int .u8 y0) {y7 : Int} (h7 : ev ρ x7 = .int .u64 y7) {y9 : List Int} (h9 : ev ρ x9 = .agg (ic .u8 y9)) (l9 : y9.length = 20) {y10 : List Int} (h10 : ev ρ x10 = .agg (ic .u8 y10)) (l10 : y10.length = 20) {y11 : List Int} (h11 : ev ρ x11 = .agg (ic .u64 y11)) (l11 : y11.length = 4) : PS Hvad.prog (.build 64 #[(0, x0), (7, x7), (9, x9), (10, x10), (11, x11)]) ρ (.agg (encF (kF y0 y7 false y9 y10 y11 (none, 0, 0))).toArray) := by
  obtain ⟨a9_0, a9_1, a9_2, a9_3, a9_4, a9_5, a9_6, a9_7, a9_8, a9_9, a9_10, a9_11, a9_12, a9_13, a9_14, a9_15, a9_16, a9_17, a9_18, a9_19, rfl⟩ := len20 l9
  obtain ⟨a10_0, a10_1, a10_2, a10_3, a10_4, a10_5, a10_6, a10_7, a10_8, a10_9, a10_10, a10_11, a10_12, a10_13, a10_14, a10_15, a10_16, a10_17, a10_18, a10_19, rfl⟩ := len20 l10
  obtain ⟨w0, w1, w2, w3, rfl⟩ := len4 l11
  exact PS_buildS Hvad.zeroValue64 Hvad.runUnderlying64 (places_run (pl := [(0, 1), (1, 1), (2, 1), (3, 1), (4, 1), (5, 1), (6, 1), (7, 1), (8, 1), (9, 20), (29, 20), (49, 4), (53, 1), (54, 1), (55, 8), (63, 1), (64, 1)]) ⟨rfl, Hvad.sizeOf5, rfl, Hvad.sizeOf5, rfl, Hvad.sizeOf5, rfl, Hvad.sizeOf4, rfl, Hvad.sizeOf61, rfl, Hvad.sizeOf61, rfl, Hvad.sizeOf61, rfl, Hvad.sizeOf26, rfl, Hvad.sizeOf21, rfl, Hvad.sizeOf25, rfl, Hvad.sizeOf25, rfl, Hvad.sizeOf59, rfl, Hvad.sizeOf32, rfl, Hvad.sizeOf32, rfl, Hvad.sizeOf63, rfl, Hvad.sizeOf54, rfl, Hvad.sizeOf54, trivial⟩) (ps := [(0, .int .u8 y0), (7, .int .u64 y7), (9, .agg (ic .u8 [a9_0, a9_1, a9_2, a9_3, a9_4, a9_5, a9_6, a9_7, a9_8, a9_9, a9_10, a9_11, a9_12, a9_13, a9_14, a9_15, a9_16, a9_17, a9_18, a9_19])), (10, .agg (ic .u8 [a10_0, a10_1, a10_2, a10_3, a10_4, a10_5, a10_6, a10_7, a10_8, a10_9, a10_10, a10_11, a10_12, a10_13, a10_14, a10_15, a10_16, a10_17, a10_18, a10_19])), (11, .agg (ic .u64 [w0, w1, w2, w3]))]) (by simp only [List.map, h0, h7, h9, h10, h11]) (by kernel_rfl)
set_option maxRecDepth 10000 in
theorem PS_b65_0_3_9_10 {ρ : Nat → Value} {x0 x3 x9 x10 : Operand} {y0 : Int} (h0 : ev ρ x0 = .int .u8 y0) {y3 : Bool} (h3 : ev ρ x3 = .bool y3) {y9 : List Int} (h9 : ev ρ x9 = .agg (ic .u8 y9)) (l9 : y9.length = 20) {y10 : List Int} (h10 : ev ρ x10 = .agg (ic .u8 y10)) (l10 : y10.length = 20) : PS Hvad.prog (.build 65 #[(0, x0), (3, x3), (9, x9), (10, x10)]) ρ (.agg (encF (kF y0 0 y3 y9 y10 [0, 0, 0, 0] (none, 0, 0))).toArray) := by
  obtain ⟨a9_0, a9_1, a9_2, a9_3, a9_4, a9_5, a9_6, a9_7, a9_8, a9_9, a9_10, a9_11, a9_12, a9_13, a9_14, a9_15, a9_16, a9_17, a9_18, a9_19, rfl⟩ := len20 l9
  obtain ⟨a10_0, a10_1, a10_2, a10_3, a10_4, a10_5, a10_6, a10_7, a10_8, a10_9, a10_10, a10_11, a10_12, a10_13, a10_14, a10_15, a10_16, a10_17, a10_18, a10_19, rfl⟩ := len20 l10
  exact PS_buildS Hvad.zeroValue65 Hvad.runUnderlying65 (places_run (pl := [(0, 1), (1, 1), (2, 1), (3, 1), (4, 1), (5, 1), (6, 1), (7, 1), (8, 1), (9, 20), (29, 20), (49, 4), (53, 1), (54, 1), (55, 8), (63, 1), (64, 1)]) ⟨rfl, Hvad.sizeOf5, rfl, Hvad.sizeOf5, rfl, Hvad.sizeOf5, rfl, Hvad.sizeOf4, rfl, Hvad.sizeOf61, rfl, Hvad.sizeOf61, rfl, Hvad.sizeOf61, rfl, Hvad.sizeOf26, rfl, Hvad.sizeOf21, rfl, Hvad.sizeOf25, rfl, Hvad.sizeOf25, rfl, Hvad.sizeOf59, rfl, Hvad.sizeOf32, rfl, Hvad.sizeOf32, rfl, Hvad.sizeOf63, rfl, Hvad.sizeOf54, rfl, Hvad.sizeOf54, trivial⟩) (ps := [(0, .int .u8 y0), (3, .bool y3), (9, .agg (ic .u8 [a9_0, a9_1, a9_2, a9_3, a9_4, a9_5, a9_6, a9_7, a9_8, a9_9, a9_10, a9_11, a9_12, a9_13, a9_14, a9_15, a9_16, a9_17, a9_18, a9_19])), (10, .agg (ic .u8 [a10_0, a10_1, a10_2, a10_3, a10_4, a10_5, a10_6, a10_7, a10_8, a10_9, a10_10, a10_11, a10_12, a10_13, a10_14, a10_15, a10_16, a10_17, a10_18, a10_19]))]) (by simp only [List.map, h0, h3, h9, h10]) (by kernel_rfl)
set_option maxRecDepth 10000 in
theorem PS_b65_0_10_11_12_9 {ρ : Nat → Value} {x0 x10 x11 x12 x9 : Operand} {y0 : Int} (h0 : ev ρ x0 = .int .u8 y0) {y10 : List Int} (h10 : ev ρ x10 = .agg (ic .u8 y10)) (l10 : y10.length = 20) {y11 : List Int} (h11 : ev ρ x11 = .agg (ic .u64 y11)) (l11 : y11.length = 4) {p12 : Option Addr} {m12 c12 : Nat} (h12 : ev ρ x12 = .slice p12 m12 c12) {y9 : List Int} (h9 : ev ρ x9 = .agg (ic .u8 y9)) (l9 : y9.length = 20) : PS Hvad.prog (.build 65 #[(0, x0), (10, x10), (11, x11), (12, x12), (9, x9)]) ρ (.agg (encF (kF y0 0 false y9 y10 y11 (p12, m12, c12))).toArray) := by
  obtain ⟨a10_0, a10_1, a10_2, a10_3, a10_4, a10_5, a10_6, a10_7, a10_8, a10_9, a10_10, a10_11, a10_12, a10_13, a10_14, a10_15, a10_16, a10_17, a10_18, a10_19, rfl⟩ := len20 l10
  obtain ⟨w0, w1, w2, w3, rfl⟩ := len4 l11
  obtain ⟨a9_0, a9_1, a9_2, a9_3, a9_4, a9_5, a9_6, a9_7, a9_8, a9_9, a9_10, a9_11, a9_12, a9_13, a9_14, a9_15, a9_16, a9_17, a9_18, a9_19, rfl⟩ := len20 l9
  exact PS_buildS Hvad.zeroValue65 Hvad.runUnderlying65 (places_run (pl := [(0, 1), (1, 1), (2, 1), (3, 1), (4, 1), (5, 1), (6, 1), (7, 1), (8, 1), (9, 20), (29, 20), (49, 4), (53, 1), (54, 1), (55, 8), (63, 1), (64, 1)]) ⟨rfl, Hvad.sizeOf5, rfl, Hvad.sizeOf5, rfl, Hvad.sizeOf5, rfl, Hvad.sizeOf4, rfl, Hvad.sizeOf61, rfl, Hvad.sizeOf61, rfl, Hvad.sizeOf61, rfl, Hvad.sizeOf26, rfl, Hvad.sizeOf21, rfl, Hvad.sizeOf25, rfl, Hvad.sizeOf25, rfl, Hvad.sizeOf59, rfl, Hvad.sizeOf32, rfl, Hvad.sizeOf32, rfl, Hvad.sizeOf63, rfl, Hvad.sizeOf54, rfl, Hvad.sizeOf54, trivial⟩) (ps := [(0, .int .u8 y0), (10, .agg (ic .u8 [a10_0, a10_1, a10_2, a10_3, a10_4, a10_5, a10_6, a10_7, a10_8, a10_9, a10_10, a10_11, a10_12, a10_13, a10_14, a10_15, a10_16, a10_17, a10_18, a10_19])), (11, .agg (ic .u64 [w0, w1, w2, w3])), (12, .slice p12 m12 c12), (9, .agg (ic .u8 [a9_0, a9_1, a9_2, a9_3, a9_4, a9_5, a9_6, a9_7, a9_8, a9_9, a9_10, a9_11, a9_12, a9_13, a9_14, a9_15, a9_16, a9_17, a9_18, a9_19]))]) (by simp only [List.map, h0, h10, h11, h12, h9]) (by kernel_rfl)
set_option maxRecDepth 10000 in
theorem PS_b65_0_9_10_11_12 {ρ : Nat → Value} {x0 x9 x10 x11 x12 : Operand} {y0 : Int} (h0 : ev ρ x0 = .int .u8 y0) {y9 : List Int} (h9 : ev ρ x9 = .agg (ic .u8 y9)) (l9 : y9.length = 20) {y10 : List Int} (h10 : ev ρ x10 = .agg (ic .u8 y10)) (l10 : y10.length = 20) {y11 : List Int} (h11 : ev ρ x11 = .agg (ic .u64 y11)) (l11 : y11.length = 4) {p12 : Option Addr} {m12 c12 : Nat} (h12 : ev ρ x12 = .slice p12 m12 c12) : PS Hvad.prog (.build 65 #[(0, x0), (9, x9), (10, x10), (11, x11), (12, x12)]) ρ (.agg (encF (kF y0 0 false y9 y10 y11 (p12, m12, c12))).toArray) := by
  obtain ⟨a9_0, a9_1, a9_2, a9_3, a9_4, a9_5, a9_6, a9_7, a9_8, a9_9, a9_10, a9_11, a9_12, a9_13, a9_14, a9_15, a9_16, a9_17, a9_18, a9_19, rfl⟩ := len20 l9
  obtain ⟨a10_0, a10_1, a10_2, a10_3, a10_4, a10_5, a10_6, a10_7, a10_8, a10_9, a10_10, a10_11, a10_12, a10_13, a10_14, a10_15, a10_16, a10_17, a10_18, a10_19, rfl⟩ := len20 l10
  obtain ⟨w0, w1, w2, w3, rfl⟩ := len4 l11
  exact PS_buildS Hvad.zeroValue65 Hvad.runUnderlying65 (places_run (pl := [(0, 1), (1, 1), (2, 1), (3, 1), (4, 1), (5, 1), (6, 1), (7, 1), (8, 1), (9, 20), (29, 20), (49, 4), (53, 1), (54, 1), (55, 8), (63, 1), (64, 1)]) ⟨rfl, Hvad.sizeOf5, rfl, Hvad.sizeOf5, rfl, Hvad.sizeOf5, rfl, Hvad.sizeOf4, rfl, Hvad.sizeOf61, rfl, Hvad.sizeOf61, rfl, Hvad.sizeOf61, rfl, Hvad.sizeOf26, rfl, Hvad.sizeOf21, rfl, Hvad.sizeOf25, rfl, Hvad.sizeOf25, rfl, Hvad.sizeOf59, rfl, Hvad.sizeOf32, rfl, Hvad.sizeOf32, rfl, Hvad.sizeOf63, rfl, Hvad.sizeOf54, rfl, Hvad.sizeOf54, trivial⟩) (ps := [(0, .int .u8 y0), (9, .agg (ic .u8 [a9_0, a9_1, a9_2, a9_3, a9_4, a9_5, a9_6, a9_7, a9_8, a9_9, a9_10, a9_11, a9_12, a9_13, a9_14, a9_15, a9_16, a9_17, a9_18, a9_19])), (10, .agg (ic .u8 [a10_0, a10_1, a10_2, a10_3, a10_4, a10_5, a10_6, a10_7, a10_8, a10_9, a10_10, a10_11, a10_12, a10_13, a10_14, a10_15, a10_16, a10_17, a10_18, a10_19])), (11, .agg (ic .u64 [w0, w1, w2, w3])), (12, .slice p12 m12 c12)]) (by simp only [List.map, h0, h9, h10, h11, h12]) (by kernel_rfl)
set_option maxRecDepth 10000 in
theorem PS_b65_0_7_9_10_11 {ρ : Nat → Value} {x0 x7 x9 x10 x11 : Operand} {y0 : Int} (h0 : ev ρ x0 = .int .u8 y0) {y7 : Int} (h7 : ev ρ x7 = .int .u64 y7) {y9 : List Int} (h9 : ev ρ x9 = .agg (ic .u8 y9)) (l9 : y9.length = 20) {y10 : List Int} (h10 : ev ρ x10 = .agg (ic .u8 y10)) (l10 : y10.length = 20) {y11 : List Int} (h11 : ev ρ x11 = .agg (ic .u64 y11)) (l11 : y11.length = 4) : PS Hvad.prog (.build 65 #[(0, x0), (7, x7), (9, x9), (10, x10), (11, x11)]) ρ (.agg (encF (kF y0 y7 false y9 y10 y11 (none, 0, 0))).toArray) := by
  obtain ⟨a9_0, a9_1, a9_2, a9_3, a9_4, a9_5, a9_6, a9_7, a9_8, a9_9, a9_10, a9_11, a9_12, a9_13, a9_14, a9_15, a9_16, a9_17, a9_18, a9_19, rfl⟩ := len20 l9
  obtain ⟨a10_0, a10_1, a10_2, a10_3, a10_4, a10_5, a10_6, a10_7, a10_8, a10_9, a10_10, a10_11, a10_12, a10_13, a10_14, a10_15, a10_16, a10_17, a10_18, a10_19, rfl⟩ := len20 l10
  obtain ⟨w0, w1, w2, w3, rfl⟩ := len4 l11
  exact PS_buildS Hvad.zeroValue65 Hvad.runUnderlying65 (places_run (pl := [(0, 1), (1, 1), (2, 1), (3, 1), (4, 1), (5, 1), (6, 1), (7, 1), (8, 1), (9, 20), (29, 20), (49, 4), (53, 1), (54, 1), (55, 8), (63, 1), (64, 1)]) ⟨rfl, Hvad.sizeOf5, rfl, Hvad.sizeOf5, rfl, Hvad.sizeOf5, rfl, Hvad.sizeOf4, rfl, Hvad.sizeOf61, rfl, Hvad.sizeOf61, rfl, Hvad.sizeOf61, rfl, Hvad.sizeOf26, rfl, Hvad.sizeOf21, rfl, Hvad.sizeOf25, rfl, Hvad.sizeOf25, rfl, Hvad.sizeOf59, rfl, Hvad.sizeOf32, rfl, Hvad.sizeOf32, rfl, Hvad.sizeOf63, rfl, Hvad.sizeOf54, rfl, Hvad.sizeOf54, trivial⟩) (ps := [(0, .int .u8 y0), (7, .int .u64 y7), (9, .agg (ic .u8 [a9_0, a9_1, a9_2, a9_3, a9_4, a9_5, a9_6, a9_7, a9_8, a9_9, a9_10, a9_11, a9_12, a9_13, a9_14, a9_15, a9_16, a9_17, a9_18, a9_19])), (10, .agg (ic .u8 [a10_0, a10_1, a10_2, a10_3, a10_4, a10_5, a10_6, a10_7, a10_8, a10_9, a10_10, a10_11, a10_12, a10_13, a10_14, a10_15, a10_16, a10_17, a10_18, a10_19])), (11, .agg (ic .u64 [w0, w1, w2, w3]))]) (by simp only [List.map, h0, h7, h9, h10, h11]) (by kernel_rfl)
end Go.Proofs.YgvadwGreat
