import Derived.Test.YgvacwGreatGd
namespace Go.Proofs.YgvacwGreat
set_option linter.unusedSimpArgs false
set_option linter.unusedVariables false
/-! frames -/
structure YFr where
  kind : Nat
  nat : Nat
  statY : Bool
  pc : SV
  gas : SV
  value : SV
  outOff : SV
  outLen : SV
  stack : SV
  mem : SV
  code : SV
  inputY : SV
  self : List Int
  caller : List Int
  saved : YWs
def encYF (x : YFr) : List Value := .int .u8 x.kind :: .int .u8 x.nat :: .bool x.statY :: sv x.pc :: sv x.gas :: sv x.value :: sv x.outOff :: sv x.outLen :: sv x.stack :: sv x.mem :: sv x.code :: sv x.inputY :: (x.self.map (Value.int .u8) ++ (x.caller.map (Value.int .u8) ++ encWs x.saved))
structure PF where
  kind : Nat
  nat : Nat
  statY : Bool
  pc : Nat
  gas : Nat
  value : Nat
  outOff : Nat
  outLen : Nat
  stack : List Nat
  mem : List Int
  code : List Int
  inputY : List Int
  self : List Int
  caller : List Int
  saved : PW
theorem Xt.ce {r e : Array Value} {a u k : Nat} {v : Value} (h : Xt r a (a + u) e) (hs : a + u ≤ r.size) (hv : Ce e k v) (hk : k < u) : Ce r (a + k) v := ⟨by
  have h1 := hv.h
  rw [← h.h, Array.getElem?_extract, if_pos (by omega)] at h1
  exact h1⟩
theorem Xt.sub {r e e' : Array Value} {a u k m : Nat} (h : Xt r a (a + u) e) (h2 : Xt e k (k + m) e') (hk : k + m ≤ u) : Xt r (a + k) (a + k + m) e' := ⟨by
  rw [← h2.h, ← h.h, Array.extract_extract]
  congr 1
  omega⟩
theorem xt_mid (p q : List Value) (A : List Int) {n m : Nat} (hp : p.length = n) (hA : A.length = m) : Xt (p ++ (A.map (Value.int .u8) ++ q)).toArray n (n + m) (ic .u8 A) := ⟨by
  subst hp; subst hA
  simp [ic, List.extract_toArray, List.extract_eq_take_drop, List.drop_append, List.take_append]⟩
structure FC (r : Array Value) (o : Nat) (x : YFr) : Prop where
  size : o + 60 ≤ r.size
  kind : Ce r (o + 0) (.int .u8 x.kind)
  nat : Ce r (o + 1) (.int .u8 x.nat)
  statY : Ce r (o + 2) (.bool x.statY)
  pc : Ce r (o + 3) (.slice x.pc.1 x.pc.2.1 x.pc.2.2)
  gas : Ce r (o + 4) (.slice x.gas.1 x.gas.2.1 x.gas.2.2)
  value : Ce r (o + 5) (.slice x.value.1 x.value.2.1 x.value.2.2)
  outOff : Ce r (o + 6) (.slice x.outOff.1 x.outOff.2.1 x.outOff.2.2)
  outLen : Ce r (o + 7) (.slice x.outLen.1 x.outLen.2.1 x.outLen.2.2)
  stack : Ce r (o + 8) (.slice x.stack.1 x.stack.2.1 x.stack.2.2)
  mem : Ce r (o + 9) (.slice x.mem.1 x.mem.2.1 x.mem.2.2)
  code : Ce r (o + 10) (.slice x.code.1 x.code.2.1 x.code.2.2)
  inputY : Ce r (o + 11) (.slice x.inputY.1 x.inputY.2.1 x.inputY.2.2)
  self : Xt r (o + 12) (o + 12 + 20) (ic .u8 x.self)
  caller : Xt r (o + 32) (o + 32 + 20) (ic .u8 x.caller)
  saved : Xt r (o + 52) (o + 52 + 8) (encWs x.saved).toArray
theorem encYF_len {x : YFr} (h1 : x.self.length = 20) (h2 : x.caller.length = 20) : (encYF x).length = 60 := by simp [encYF, encWs, h1, h2]
theorem encYF_sz {x : YFr} (h1 : x.self.length = 20) (h2 : x.caller.length = 20) : (encYF x).toArray.size = 60 := by simpa using encYF_len h1 h2
theorem FC.of_xt {r : Array Value} {o : Nat} {x : YFr} (h : Xt r o (o + 60) (encYF x).toArray) (hs : o + 60 ≤ r.size) (h1 : x.self.length = 20) (h2 : x.caller.length = 20) : FC r o x := by
  have hc : ∀ k v, (encYF x)[k]? = some v → k < 60 → Ce r (o + k) v := fun k v hv hk => h.ce hs ⟨by simpa using hv⟩ hk
  refine ⟨hs, hc 0 _ rfl (by decide), hc 1 _ rfl (by decide), hc 2 _ rfl (by decide), hc 3 _ rfl (by decide), hc 4 _ rfl (by decide), hc 5 _ rfl (by decide), hc 6 _ rfl (by decide), hc 7 _ rfl (by decide), hc 8 _ rfl (by decide), hc 9 _ rfl (by decide), hc 10 _ rfl (by decide), hc 11 _ rfl (by decide), ?_, ?_, ?_⟩
  · exact h.sub (xt_mid [.int .u8 x.kind, .int .u8 x.nat, .bool x.statY, sv x.pc, sv x.gas, sv x.value, sv x.outOff, sv x.outLen, sv x.stack, sv x.mem, sv x.code, sv x.inputY] _ _ rfl h1) (by decide)
  · refine h.sub (k := 32) (m := 20) ?_ (by decide)
    have := xt_mid ([.int .u8 x.kind, .int .u8 x.nat, .bool x.statY, sv x.pc, sv x.gas, sv x.value, sv x.outOff, sv x.outLen, sv x.stack, sv x.mem, sv x.code, sv x.inputY] ++ x.self.map (Value.int .u8)) (encWs x.saved) x.caller (n := 32) (m := 20) (by simp [h1]) h2
    rw [List.append_assoc] at this
    exact this
  · refine h.sub (k := 52) (m := 8) ⟨?_⟩ (by decide)
    have e : encYF x = ([.int .u8 x.kind, .int .u8 x.nat, .bool x.statY, sv x.pc, sv x.gas, sv x.value, sv x.outOff, sv x.outLen, sv x.stack, sv x.mem, sv x.code, sv x.inputY] ++ x.self.map (Value.int .u8) ++ x.caller.map (Value.int .u8)) ++ encWs x.saved := by simp [encYF]
    rw [e]
    have e1 : ([.int .u8 x.kind, .int .u8 x.nat, .bool x.statY, sv x.pc, sv x.gas, sv x.value, sv x.outOff, sv x.outLen, sv x.stack, sv x.mem, sv x.code, sv x.inputY] ++ x.self.map (Value.int .u8) ++ x.caller.map (Value.int .u8) : List Value).length = 52 := by simp [h1, h2]
    have e2 : (encWs x.saved).length = 8 := rfl
    simp only [List.extract_toArray, List.extract_eq_take_drop]
    rw [show (52 : Nat) + 8 - 52 = 8 from rfl, ← e1, List.drop_left, ← e2, List.take_length]
/-- bytes that may turn -/
structure MB (w : World) (s : SV) (L : List Int) : Prop where
  len : L.length = s.2.1
  cap : s.2.1 ≤ s.2.2
  by_ : ∀ x ∈ L, 0 ≤ x ∧ x ≤ 255
  row : 0 < s.2.1 → ∃ b r fz, s.1 = some ⟨b, 0, none⟩ ∧ Hb w b (.cells r 5 fz) ∧ 0 + s.2.1 ≤ r.size ∧ Xt r 0 (0 + s.2.1) (ic .u8 L)
theorem MB.ab {w : World} {s : SV} {L : List Int} (h : MB w s L) : AB w s L := ⟨h.len, h.cap, h.by_, fun h0 => by obtain ⟨b, r, fz, h1, h2, h3, h4⟩ := h.row h0; exact ⟨b, 0, r, 5, fz, h1, h2, h3, h4⟩⟩
theorem MB.kt {w w' : World} {s : SV} {L : List Int} (h : MB w s L) (hk : KT 5 w w') : MB w' s L := { h with row := fun h0 => by obtain ⟨b, r, fz, h1, h2, h3⟩ := h.row h0; exact ⟨b, r, fz, h1, hk _ _ _ h2, h3⟩ }
theorem MB.ext {w w' : World} {s : SV} {L : List Int} (h : MB w s L) (he : Ext w w') : MB w' s L := h.kt (KT.ext he)
theorem MB.nil (w : World) : MB w (none, 0, 0) [] := ⟨rfl, Nat.le_refl _, (by intro x hx; cases hx), fun h => absurd h (Nat.lt_irrefl 0)⟩
/-- a stack -/
def StR [Om] (w : World) (s : SV) (l : List Nat) : Prop := ∃ L, PL encYN 1 92 w s L ∧ R2 (fun a n => NN w a n) L l
structure FrR [Om] (w : World) (x : YFr) (f : PF) : Prop where
  kind : x.kind = f.kind
  nat : x.nat = f.nat
  statY : x.statY = f.statY
  pc : NN w x.pc f.pc
  gas : NN w x.gas f.gas
  value : NN w x.value f.value
  outOff : NN w x.outOff f.outOff
  outLen : NN w x.outLen f.outLen
  stack : StR w x.stack f.stack
  mem : MB w x.mem f.mem
  code : PB w x.code f.code
  inputY : PB w x.inputY f.inputY
  self : x.self = f.self
  caller : x.caller = f.caller
  sb : By f.self 20
  cb : By f.caller 20
  saved : PWR w x.saved f.saved
theorem StR.ext [Om] {w w' : World} {s : SV} {l : List Nat} (h : StR w s l) (he : Ext w w') : StR w' s l := by obtain ⟨L, h1, h2⟩ := h; exact ⟨L, h1.ext he, h2.mono fun _ _ h => h.ext he⟩
theorem StR.keep [Om] {w w' : World} {s : SV} {l : List Nat} (h : StR w s l) (he : KeepO Om.p w w') : StR w' s l := by obtain ⟨L, h1, h2⟩ := h; exact ⟨L, h1.keep he, h2.mono fun _ _ h => h.keep he⟩
theorem StR.len [Om] {w : World} {s : SV} {l : List Nat} (h : StR w s l) : s.2.1 = l.length := by obtain ⟨L, h1, h2⟩ := h; rw [← h1.len, h2.1]
theorem FrR.ext [Om] {w w' : World} {x : YFr} {f : PF} (h : FrR w x f) (he : Ext w w') : FrR w' x f :=
  { h with pc := h.pc.ext he, gas := h.gas.ext he, value := h.value.ext he, outOff := h.outOff.ext he, outLen := h.outLen.ext he, stack := h.stack.ext he, mem := h.mem.ext he, code := h.code.ext he, inputY := h.inputY.ext he, saved := h.saved.ext he }
/-- the frame's numbers -/
structure PFB (f : PF) : Prop where
  kd : f.kind ≤ 255
  nt : f.nat ≤ 255
  pc : sz f.pc ≤ 40
  gas : sz f.gas ≤ 40
  value : sz f.value ≤ 40
  oo : sz f.outOff ≤ 40
  ol : sz f.outLen ≤ 40
  st : ∀ n ∈ f.stack, sz n ≤ 32
  sl : f.stack.length ≤ 100000
  ml : f.mem.length ≤ 10000000
  cl : f.code.length ≤ 1000000
  il : f.inputY.length ≤ 10000000
/-- a frame at an address -/
structure FrS [Om] (w : World) (F o : Nat) (x : YFr) (f : PF) : Prop where
  blk : ∃ r T fz, Hb w F (.cells r T fz) ∧ FC r o x
  rel : FrR w x f
theorem FrS.ext [Om] {w w' : World} {F o : Nat} {x : YFr} {f : PF} (h : FrS w F o x f) (he : Ext w w') : FrS w' F o x f := ⟨by obtain ⟨r, T, fz, h1, h2⟩ := h.blk; exact ⟨r, T, fz, h1.ext he, h2⟩, h.rel.ext he⟩
def yarg (f : PF) (i : Nat) : Nat := if i < f.stack.length then f.stack.getD (f.stack.length - 1 - i) 0 else 0
theorem getD_ge {α : Type} {l : List α} {d : α} {i : Nat} (h : i < l.length) : l.getD i d = l[i] := by rw [List.getD_eq_getElem?_getD, List.getElem?_eq_getElem h]; rfl
theorem sz_yarg {f : PF} (h : PFB f) (i : Nat) : sz (yarg f i) ≤ 32 := by
  unfold yarg
  split
  · rw [getD_ge (by omega)]; exact h.st _ (List.getElem_mem _)
  · rw [sz_zero]; omega
def yopcode (f : PF) : Int := if f.pc < f.code.length then f.code.getD f.pc 0 else 0

set_option maxRecDepth 10000 in
set_option maxHeartbeats 4000000 in
theorem yArg_spec [Om] (w : World) (hO : OmB w) (F fo : Nat) (x : YFr) (f : PF) (hF : FrS w F fo x f) (hP : PFB f) (i : Nat) (hi : i ≤ 1000000) : Ret Hvac.prog 47 #[.pointer (some ⟨F, fo, none⟩), .int .i64 i] w fun u w' => Ext w w' ∧ ∃ s' : SV, u = .slice s'.1 s'.2.1 s'.2.2 ∧ NN w' s' (yarg f i) ∧ sz (yarg f i) ≤ 32 := by
  have hFR := hF.rel
  obtain ⟨r, TF, fzF, hFb, hFC⟩ := hF.blk
  have hFl := hFb.lt
  have hFsz := hFC.size
  have hk8 := hFC.stack
  have hsl := hP.sl
  have hz := sz_yarg hP i
  obtain ⟨L, hPL, hRL⟩ := hFR.stack
  obtain ⟨xs, hxs⟩ : ∃ xs, xs = x.stack := ⟨_, rfl⟩
  rw [← hxs] at hPL hk8
  obtain ⟨p, n, cp⟩ := xs
  have hn := hPL.len
  have hRL1 := hRL.1
  dsimp only at hn hk8
  refine Ret_of_W Hvac.func47 rfl rfl ?_
  refine W_seq ?_
  refine W_region rfl ?_
  refine WO_p (PS_assign_slice rfl) ?_
  refine WO_nil ?_
  refine thn_normal ?_
  refine W_seq ?_
  refine W_seq ?_
  refine W_region rfl ?_
  refine WO_p (PS_move_int rfl) ?_
  refine WO_p (PS_move_ptr rfl) ?_
  refine WO_p (PS_nilCheck rfl) ?_
  refine WO_p (PS_fieldAddr 8 Hvac.runUnderlying121 rfl Hvac.sizeOf119 rfl rfl) ?_
  refine WO_load (.slice _ _ _) Hvac.isAgg119 rfl (Hb.h (by repeat (first | assumption | exact Hb.newY _ _ | refine Hb.alloc ?_ | refine Hb.drew ?_ | refine Hb.ext (by assumption) ?_ | exact Hb.setSameL (by first | omega | (simp only [size_alloc, size_setB, size_drew]; omega)) | exact Hb.setSame (by assumption) | refine Hb.set (by first | omega | (simp only [size_alloc, size_setB, size_drew]; omega)) ?_ ))) (Ce.h (by first | assumption | exact ⟨rfl⟩)) ?_
  refine WO_p (PS_lenS Hvac.runUnderlying119 rfl) ?_
  refine WO_p (PS_geq rfl rfl) ?_
  refine WO_nil ?_
  refine thn_normal ?_
  refine W_if rfl (fun hb2 => ?_) (fun hb2 => ?_)
  · have hb2p := hb2.h; try simp only [al_ete, al_dfn, Bool.not_eq_true', Bool.not_eq_false', al_ne, Bool.not_not, al_nn] at hb2p
    refine W_seq ?_
    refine W_region rfl ?_
    refine WO_p (PS_assign_slice rfl) ?_
    refine WO_nil ?_
    refine thn_normal ?_
    refine W_ret ?_
    refine thn_ret ?_
    refine bodyQ_ret1 Hvac.results47 rfl (.slice _ _ _) rfl ?_
    first
    | (refine ⟨(by repeat (first | assumption | exact Ext.refl _ | refine Ext.alloc ?_ _ | refine Ext.drew ?_ | refine Ext.setB ?_ (by first | omega | (simp only [size_alloc, size_setB, size_drew]; omega)) _ | refine Ext.trans ?_ (by assumption))), a, rfl, ?_, hz⟩
       have e : yarg f i = y := by
         unfold yarg
         rw [if_pos (by omega), show f.stack.length - 1 - i = n - 1 - i by omega, List.getD_eq_getElem?_getD, hy]; rfl
       rw [e]; exact NN.ext hay (by repeat (first | assumption | exact Ext.refl _ | refine Ext.alloc ?_ _ | refine Ext.drew ?_ | refine Ext.setB ?_ (by first | omega | (simp only [size_alloc, size_setB, size_drew]; omega)) _ | refine Ext.trans ?_ (by assumption))))
    | (refine ⟨(by repeat (first | assumption | exact Ext.refl _ | refine Ext.alloc ?_ _ | refine Ext.drew ?_ | refine Ext.setB ?_ (by first | omega | (simp only [size_alloc, size_setB, size_drew]; omega)) _ | refine Ext.trans ?_ (by assumption))), (none, 0, 0), rfl, ?_, hz⟩
       have e : yarg f i = 0 := by unfold yarg; rw [if_neg (by omega)]
       rw [e]; exact NN.nil _)
  · have hb2p := hb2.h; try simp only [al_ete, al_dfn, Bool.not_eq_true', Bool.not_eq_false', al_ne, Bool.not_not, al_nn] at hb2p
    obtain ⟨a, y, ha, hy, hay⟩ := hRL.get (i := n - 1 - i) (by omega)
    obtain ⟨b, rb, fzb, hp, hb, hrs, hXi⟩ := pl_at hPL ha rfl
    subst hp
    have hidx : ((n : Int) - 1 - (i : Int)).toNat = n - 1 - i := by omega
    have hce : Ce rb (0 + ((n : Int) - 1 - (i : Int)).toNat * 1) (.slice a.1 a.2.1 a.2.2) := by
      rw [hidx]; exact hXi.ce hrs (k := 0) ⟨rfl⟩ (by decide)
    refine W_skip ?_
    refine thn_normal ?_
    refine W_seq ?_
    refine W_drawE [false, false, false, false, false, false, false, false, false, false, false, false, false, false, false] hmix (by kernel_rfl) rfl ?_
    refine WH_p (PS_move_ptr rfl) rfl ?_
    refine WH_p (PS_nilCheck rfl) rfl ?_
    refine WH_p (PS_fieldAddr 8 Hvac.runUnderlying121 rfl Hvac.sizeOf119 rfl rfl) rfl ?_
    refine WH_load (.slice _ _ _) Hvac.isAgg119 rfl (Hb.h (by repeat (first | assumption | exact Hb.newY _ _ | refine Hb.alloc ?_ | refine Hb.drew ?_ | refine Hb.ext (by assumption) ?_ | exact Hb.setSameL (by first | omega | (simp only [size_alloc, size_setB, size_drew]; omega)) | exact Hb.setSame (by assumption) | refine Hb.set (by first | omega | (simp only [size_alloc, size_setB, size_drew]; omega)) ?_ ))) (Ce.h (by first | assumption | exact ⟨rfl⟩)) ?_
    refine WH_p (PS_move_ptr rfl) rfl ?_
    refine WH_p (PS_nilCheck rfl) rfl ?_
    refine WH_p (PS_fieldAddr 8 Hvac.runUnderlying121 rfl Hvac.sizeOf119 rfl rfl) rfl ?_
    refine WH_load (.slice _ _ _) Hvac.isAgg119 rfl (Hb.h (by repeat (first | assumption | exact Hb.newY _ _ | refine Hb.alloc ?_ | refine Hb.drew ?_ | refine Hb.ext (by assumption) ?_ | exact Hb.setSameL (by first | omega | (simp only [size_alloc, size_setB, size_drew]; omega)) | exact Hb.setSame (by assumption) | refine Hb.set (by first | omega | (simp only [size_alloc, size_setB, size_drew]; omega)) ?_ ))) (Ce.h (by first | assumption | exact ⟨rfl⟩)) ?_
    refine WH_p (PS_lenS Hvac.runUnderlying119 rfl) rfl ?_
    refine WH_p (PS_sub_i64n rfl rfl (by omega) (by omega)) rfl ?_
    refine WH_p (PS_move_int rfl) rfl ?_
    refine WH_p (PS_sub_i64n rfl rfl (by omega) (by omega)) rfl ?_
    refine WH_p (PS_indexS Hvac.runUnderlying119 Hvac.sizeOf92 rfl rfl (by omega) (by omega)) rfl ?_
    refine WH_load (.slice _ _ _) Hvac.isAgg92 rfl (Hb.h (by repeat (first | assumption | exact Hb.newY _ _ | refine Hb.alloc ?_ | refine Hb.drew ?_ | refine Hb.ext (by assumption) ?_ | exact Hb.setSameL (by first | omega | (simp only [size_alloc, size_setB, size_drew]; omega)) | exact Hb.setSame (by assumption) | refine Hb.set (by first | omega | (simp only [size_alloc, size_setB, size_drew]; omega)) ?_ ))) (Ce.h (by first | assumption | exact ⟨rfl⟩)) ?_
    refine WH_p (PS_assign_slice rfl) rfl ?_
    refine WH_nil ?_
    refine thn_normal ?_
    refine W_ret ?_
    refine bodyQ_ret1 Hvac.results47 rfl (.slice _ _ _) rfl ?_
    first
    | (refine ⟨(by repeat (first | assumption | exact Ext.refl _ | refine Ext.alloc ?_ _ | refine Ext.drew ?_ | refine Ext.setB ?_ (by first | omega | (simp only [size_alloc, size_setB, size_drew]; omega)) _ | refine Ext.trans ?_ (by assumption))), a, rfl, ?_, hz⟩
       have e : yarg f i = y := by
         unfold yarg
         rw [if_pos (by omega), show f.stack.length - 1 - i = n - 1 - i by omega, List.getD_eq_getElem?_getD, hy]; rfl
       rw [e]; exact NN.ext hay (by repeat (first | assumption | exact Ext.refl _ | refine Ext.alloc ?_ _ | refine Ext.drew ?_ | refine Ext.setB ?_ (by first | omega | (simp only [size_alloc, size_setB, size_drew]; omega)) _ | refine Ext.trans ?_ (by assumption))))
    | (refine ⟨(by repeat (first | assumption | exact Ext.refl _ | refine Ext.alloc ?_ _ | refine Ext.drew ?_ | refine Ext.setB ?_ (by first | omega | (simp only [size_alloc, size_setB, size_drew]; omega)) _ | refine Ext.trans ?_ (by assumption))), (none, 0, 0), rfl, ?_, hz⟩
       have e : yarg f i = 0 := by unfold yarg; rw [if_neg (by omega)]
       rw [e]; exact NN.nil _)

set_option maxRecDepth 10000 in
set_option maxHeartbeats 4000000 in
theorem yOpcode_spec [Om] (w : World) (hO : OmB w) (F fo : Nat) (x : YFr) (f : PF) (hF : FrS w F fo x f) (hP : PFB f) : Ret Hvac.prog 41 #[.pointer (some ⟨F, fo, none⟩)] w fun u w' => Ext w w' ∧ u = .int .u8 (yopcode f) ∧ 0 ≤ yopcode f ∧ yopcode f ≤ 255 := by
  have hFR := hF.rel
  obtain ⟨r, TF, fzF, hFb, hFC⟩ := hF.blk
  have hFl := hFb.lt
  have hFsz := hFC.size
  have hk3 := hFC.pc
  have hk10 := hFC.code
  have hcl := hP.cl
  have hpz := hP.pc
  have hN3 := hFR.pc
  have hcode := hFR.code
  obtain ⟨xs, hxs⟩ : ∃ xs, xs = x.code := ⟨_, rfl⟩
  rw [← hxs] at hcode hk10
  obtain ⟨p, n, cp⟩ := xs
  have hn := hcode.len
  dsimp only at hn hk10
  have hob : 0 ≤ yopcode f ∧ yopcode f ≤ 255 := by
    unfold yopcode
    split
    · rw [getD_ge (by omega)]; exact hcode.by_ _ (List.getElem_mem _)
    · omega
  refine Ret_of_W Hvac.func41 rfl rfl ?_
  refine W_seq ?_
  refine W_region rfl ?_
  refine WO_p (PS_assign_int rfl) ?_
  refine WO_nil ?_
  refine thn_normal ?_
  refine W_seq ?_
  refine W_seq ?_
  refine W_drawE [false, false, false, false, false, false, false, false, false, false, false, false, false, false, false] hmix (by kernel_rfl) rfl ?_
  refine WH_p (PS_move_ptr rfl) rfl ?_
  refine WH_p (PS_nilCheck rfl) rfl ?_
  refine WH_p (PS_fieldAddr 3 Hvac.runUnderlying121 rfl Hvac.sizeOf92 rfl rfl) rfl ?_
  refine WH_load (.slice _ _ _) Hvac.isAgg92 rfl (Hb.h (by repeat (first | assumption | exact Hb.newY _ _ | refine Hb.alloc ?_ | refine Hb.drew ?_ | refine Hb.ext (by assumption) ?_ | exact Hb.setSameL (by first | omega | (simp only [size_alloc, size_setB, size_drew]; omega)) | exact Hb.setSame (by assumption) | refine Hb.set (by first | omega | (simp only [size_alloc, size_setB, size_drew]; omega)) ?_ ))) (Ce.h (by first | assumption | exact ⟨rfl⟩)) ?_
  refine WH_p (PS_move_ptr rfl) rfl ?_
  refine WH_p (PS_nilCheck rfl) rfl ?_
  refine WH_p (PS_fieldAddr 10 Hvac.runUnderlying121 rfl Hvac.sizeOf32 rfl rfl) rfl ?_
  refine WH_load (.slice _ _ _) Hvac.isAgg32 rfl (Hb.h (by repeat (first | assumption | exact Hb.newY _ _ | refine Hb.alloc ?_ | refine Hb.drew ?_ | refine Hb.ext (by assumption) ?_ | exact Hb.setSameL (by first | omega | (simp only [size_alloc, size_setB, size_drew]; omega)) | exact Hb.setSame (by assumption) | refine Hb.set (by first | omega | (simp only [size_alloc, size_setB, size_drew]; omega)) ?_ ))) (Ce.h (by first | assumption | exact ⟨rfl⟩)) ?_
  refine WH_p (PS_lenS Hvac.runUnderlying32 rfl) rfl ?_
  refine WH_call Hvac.call110 (by rfl) (Ret.mono (place_spec _ (OmB.ext hO (by repeat (first | assumption | exact Ext.refl _ | refine Ext.alloc ?_ _ | refine Ext.drew ?_ | refine Ext.setB ?_ (by first | omega | (simp only [size_alloc, size_setB, size_drew]; omega)) _ | exact Ext.trans (by assumption) (by assumption) | refine Ext.trans ?_ (by assumption)))) _ _ _ _ (by first | exact NN.nil _ | assumption | exact NN.ext (by assumption) (by repeat (first | assumption | exact Ext.refl _ | refine Ext.alloc ?_ _ | refine Ext.drew ?_ | refine Ext.setB ?_ (by first | omega | (simp only [size_alloc, size_setB, size_drew]; omega)) _ | exact Ext.trans (by assumption) (by assumption) | refine Ext.trans ?_ (by assumption)))) (by first | assumption | omega | (rw [sz_zero]; omega)) _ (by omega)) ?_)
  rintro _ w110_0 ⟨hE110_0, rfl⟩
  refine ⟨(fun h => by cases h), ?_⟩
  have hz110_0 := hE110_0.1
  try simp only [size_alloc, size_setB, size_drew] at hz110_0
  refine WH_p (PS_move_tuple rfl) rfl ?_
  refine WH_p (PS_extract_int rfl rfl) rfl ?_
  refine WH_p (PS_extract_bool rfl rfl) rfl ?_
  refine WH_p (PS_assign_int rfl) rfl ?_
  refine WH_p (PS_assign_bool rfl) rfl ?_
  refine WH_nil ?_
  refine thn_normal ?_
  refine W_seq ?_
  refine W_region rfl ?_
  refine WO_p (PS_move_bool rfl) ?_
  refine WO_nil ?_
  refine thn_normal ?_
  refine W_if rfl (fun hb3 => ?_) (fun hb3 => ?_)
  · have hb3p := hb3.h; try simp only [al_ete, al_dfn, Bool.not_eq_true', Bool.not_eq_false', al_ne, Bool.not_not, al_nn] at hb3p
    have hpl : f.pc < n := by simpa using hb3p
    obtain ⟨b, ob, rb, Tb, fzb, hp, hb, hrs, hXi⟩ := AB.at_ hcode.ab (by omega)
    subst hp
    have hif : (if f.pc < n then (f.pc : Int) else 0) = f.pc := if_pos hpl
    have hce : Ce rb (ob + (if f.pc < n then (f.pc : Int) else 0).toNat * 1) (.int .u8 (f.code.getD f.pc 0)) := by rw [hif, Int.toNat_natCast]; exact hXi f.pc hpl
    refine W_seq ?_
    refine W_region rfl ?_
    refine WO_p (PS_move_ptr rfl) ?_
    refine WO_p (PS_nilCheck rfl) ?_
    refine WO_p (PS_fieldAddr 10 Hvac.runUnderlying121 rfl Hvac.sizeOf32 rfl rfl) ?_
    refine WO_load (.slice _ _ _) Hvac.isAgg32 rfl (Hb.h (by repeat (first | assumption | exact Hb.newY _ _ | refine Hb.alloc ?_ | refine Hb.drew ?_ | refine Hb.ext (by assumption) ?_ | exact Hb.setSameL (by first | omega | (simp only [size_alloc, size_setB, size_drew]; omega)) | exact Hb.setSame (by assumption) | refine Hb.set (by first | omega | (simp only [size_alloc, size_setB, size_drew]; omega)) ?_ ))) (Ce.h (by first | assumption | exact ⟨rfl⟩)) ?_
    refine WO_p (PS_move_int rfl) ?_
    refine WO_p (PS_indexS Hvac.runUnderlying32 Hvac.sizeOf5 rfl rfl (by omega) (by omega)) ?_
    refine WO_load (.int _ _) Hvac.isAgg5 rfl (Hb.h (by repeat (first | assumption | exact Hb.newY _ _ | refine Hb.alloc ?_ | refine Hb.drew ?_ | refine Hb.ext (by assumption) ?_ | exact Hb.setSameL (by first | omega | (simp only [size_alloc, size_setB, size_drew]; omega)) | exact Hb.setSame (by assumption) | refine Hb.set (by first | omega | (simp only [size_alloc, size_setB, size_drew]; omega)) ?_ ))) (Ce.h (by first | assumption | exact ⟨rfl⟩)) ?_
    refine WO_p (PS_assign_int rfl) ?_
    refine WO_nil ?_
    refine thn_normal ?_
    refine W_ret ?_
    refine thn_ret ?_
    refine bodyQ_ret1 Hvac.results41 rfl (.int _ _) rfl ?_
    refine ⟨(by repeat (first | assumption | exact Ext.refl _ | refine Ext.alloc ?_ _ | refine Ext.drew ?_ | refine Ext.setB ?_ (by first | omega | (simp only [size_alloc, size_setB, size_drew]; omega)) _ | refine Ext.trans ?_ (by assumption))), ?_, hob⟩
    unfold yopcode
    first | (rw [if_pos (by omega)]; done) | (rw [if_neg (by omega)]; done)
  · have hb3p := hb3.h; try simp only [al_ete, al_dfn, Bool.not_eq_true', Bool.not_eq_false', al_ne, Bool.not_not, al_nn] at hb3p
    have hpl : ¬ f.pc < n := by simpa using hb3p
    refine W_skip ?_
    refine thn_normal ?_
    refine W_seq ?_
    refine W_region rfl ?_
    refine WO_p (PS_assign_int rfl) ?_
    refine WO_nil ?_
    refine thn_normal ?_
    refine W_ret ?_
    refine bodyQ_ret1 Hvac.results41 rfl (.int _ _) rfl ?_
    refine ⟨(by repeat (first | assumption | exact Ext.refl _ | refine Ext.alloc ?_ _ | refine Ext.drew ?_ | refine Ext.setB ?_ (by first | omega | (simp only [size_alloc, size_setB, size_drew]; omega)) _ | refine Ext.trans ?_ (by assumption))), ?_, hob⟩
    unfold yopcode
    first | (rw [if_pos (by omega)]; done) | (rw [if_neg (by omega)]; done)

end Go.Proofs.YgvacwGreat
