import Derived.Test.YgvadwGreatTi
namespace Go.Proofs.YgvadwGreat
set_option linter.unusedSimpArgs false
set_option linter.unusedVariables false

set_option maxRecDepth 10000 in
set_option maxHeartbeats 4000000 in
theorem vCheck1_spec (C : Nat) (c : Array Value) (v : V) (B : VB) (β : Option Nat) (w : World) (hv : VS w C c v B β) (hi : VInv v) (hl : v.logs.length ≤ 2800) : Ret Hvad.prog 307 #[.pointer (some ⟨C, 2435, none⟩)] w fun u w' => u = .bool true ∧ Ext w w' := by
  have hblk := hv.blk
  have hcs := hv.rep.size
  have hc_journal : Ce c (2435 + 8194) (.slice (slp B.j) v.journal.length (slc B.j)) := hv.rep.journal
  have hc_logs : Ce c (2435 + 24581) (.slice (slp B.l) v.logs.length (slc B.l)) := hv.rep.logs
  have hc_temps : Ce c (2435 + 24582) (.slice (slp B.t) v.temps.length (slc B.t)) := hv.rep.temps
  have hc_accts : Ce c (2435 + 0) (.slice (slp B.a) v.accts.length (slc B.a)) := hv.rep.accts
  have hc_slots : Ce c (2435 + 1) (.slice (slp B.s) v.slots.length (slc B.s)) := hv.rep.slots
  have hc_nm : Ce c (2435 + 24579) (.int .i32 v.nmarks) := hv.rep.nmarks
  have hc_ref : Ce c (2435 + 24580) (.int .u64 v.ref) := hv.rep.ref
  have h_nm := hi.nm
  have h_rf := hi.rf
  have h_la := hi.la
  have h_ls := hi.ls
  have h_lj := hi.lj
  have h_lt := hi.lt
  
  refine Ret_of_W Hvad.func307 rfl rfl ?_
  refine W_seq ?_
  refine W_region rfl ?_
  refine WO_p (PS_assign_bool rfl) ?_
  refine WO_nil ?_
  refine thn_normal ?_
  refine W_seq ?_
  refine W_region rfl ?_
  refine WO_p (PS_move_ptr rfl) ?_
  refine WO_p (PS_nilCheck rfl) ?_
  refine WO_p (PS_fieldAddr 0 Hvad.runUnderlying79 rfl Hvad.sizeOf70 rfl rfl) ?_
  refine WO_load (.slice _ _ _) Hvad.isAgg70 rfl (Hb.h (by repeat (first | assumption | exact Hb.newY _ _ | refine Hb.alloc ?_ | refine Hb.drew ?_ | refine Hb.ext (by assumption) ?_ | exact Hb.setSameL (by first | omega | (simp only [size_alloc, size_setB, size_drew]; omega)) | exact Hb.setSame (by assumption) | refine Hb.set (by first | omega | (simp only [size_alloc, size_setB, size_drew]; omega)) ?_ ))) (Ce.h (by first | assumption | exact ⟨rfl⟩)) ?_
  refine WO_p (PS_lenS Hvad.runUnderlying70 rfl) ?_
  refine WO_p (PS_leq rfl rfl) ?_
  refine WO_p (PS_move_bool rfl) ?_
  refine WO_if (t := 9) rfl (fun hb2 => ?_) (fun hb2 => ?_)
  · have hb2p := hb2.h; try simp only [al_ete, al_dfn, Bool.not_eq_true', Bool.not_eq_false', al_ne, Bool.not_not, al_nn] at hb2p
    refine WO_guardT rfl rfl hb2.h ?_
    refine WO_p (PS_move_ptr rfl) ?_
    refine WO_guardT rfl rfl hb2.h ?_
    refine WO_p (PS_nilCheck rfl) ?_
    refine WO_guardT rfl rfl hb2.h ?_
    refine WO_p (PS_fieldAddr 1 Hvad.runUnderlying79 rfl Hvad.sizeOf71 rfl rfl) ?_
    refine WO_guardT rfl rfl hb2.h ?_
    refine WO_load (.slice _ _ _) Hvad.isAgg71 rfl (Hb.h (by repeat (first | assumption | exact Hb.newY _ _ | refine Hb.alloc ?_ | refine Hb.drew ?_ | refine Hb.ext (by assumption) ?_ | exact Hb.setSameL (by first | omega | (simp only [size_alloc, size_setB, size_drew]; omega)) | exact Hb.setSame (by assumption) | refine Hb.set (by first | omega | (simp only [size_alloc, size_setB, size_drew]; omega)) ?_ ))) (Ce.h (by first | assumption | exact ⟨rfl⟩)) ?_
    refine WO_guardT rfl rfl hb2.h ?_
    refine WO_p (PS_lenS Hvad.runUnderlying71 rfl) ?_
    refine WO_guardT rfl rfl hb2.h ?_
    refine WO_p (PS_leq rfl rfl) ?_
    refine WO_p (PS_pickT rfl hb2.h rfl) ?_
    refine WO_p (PS_move_bool rfl) ?_
    refine WO_if (t := 17) rfl (fun hb4 => ?_) (fun hb4 => ?_)
    · have hb4p := hb4.h; try simp only [al_ete, al_dfn, Bool.not_eq_true', Bool.not_eq_false', al_ne, Bool.not_not, al_nn] at hb4p
      refine WO_guardT rfl rfl hb4.h ?_
      refine WO_p (PS_move_ptr rfl) ?_
      refine WO_guardT rfl rfl hb4.h ?_
      refine WO_p (PS_nilCheck rfl) ?_
      refine WO_guardT rfl rfl hb4.h ?_
      refine WO_p (PS_fieldAddr 8194 Hvad.runUnderlying79 rfl Hvad.sizeOf73 rfl rfl) ?_
      refine WO_guardT rfl rfl hb4.h ?_
      refine WO_load (.slice _ _ _) Hvad.isAgg73 rfl (Hb.h (by repeat (first | assumption | exact Hb.newY _ _ | refine Hb.alloc ?_ | refine Hb.drew ?_ | refine Hb.ext (by assumption) ?_ | exact Hb.setSameL (by first | omega | (simp only [size_alloc, size_setB, size_drew]; omega)) | exact Hb.setSame (by assumption) | refine Hb.set (by first | omega | (simp only [size_alloc, size_setB, size_drew]; omega)) ?_ ))) (Ce.h (by first | assumption | exact ⟨rfl⟩)) ?_
      refine WO_guardT rfl rfl hb4.h ?_
      refine WO_p (PS_lenS Hvad.runUnderlying73 rfl) ?_
      refine WO_guardT rfl rfl hb4.h ?_
      refine WO_p (PS_leq rfl rfl) ?_
      refine WO_p (PS_pickT rfl hb4.h rfl) ?_
      refine WO_p (PS_move_bool rfl) ?_
      refine WO_if (t := 25) rfl (fun hb6 => ?_) (fun hb6 => ?_)
      · have hb6p := hb6.h; try simp only [al_ete, al_dfn, Bool.not_eq_true', Bool.not_eq_false', al_ne, Bool.not_not, al_nn] at hb6p
        refine WO_guardT rfl rfl hb6.h ?_
        refine WO_p (PS_move_ptr rfl) ?_
        refine WO_guardT rfl rfl hb6.h ?_
        refine WO_p (PS_nilCheck rfl) ?_
        refine WO_guardT rfl rfl hb6.h ?_
        refine WO_p (PS_fieldAddr 24581 Hvad.runUnderlying79 rfl Hvad.sizeOf75 rfl rfl) ?_
        refine WO_guardT rfl rfl hb6.h ?_
        refine WO_load (.slice _ _ _) Hvad.isAgg75 rfl (Hb.h (by repeat (first | assumption | exact Hb.newY _ _ | refine Hb.alloc ?_ | refine Hb.drew ?_ | refine Hb.ext (by assumption) ?_ | exact Hb.setSameL (by first | omega | (simp only [size_alloc, size_setB, size_drew]; omega)) | exact Hb.setSame (by assumption) | refine Hb.set (by first | omega | (simp only [size_alloc, size_setB, size_drew]; omega)) ?_ ))) (Ce.h (by first | assumption | exact ⟨rfl⟩)) ?_
        refine WO_guardT rfl rfl hb6.h ?_
        refine WO_p (PS_lenS Hvad.runUnderlying75 rfl) ?_
        refine WO_guardT rfl rfl hb6.h ?_
        refine WO_p (PS_leq rfl rfl) ?_
        refine WO_p (PS_pickT rfl hb6.h rfl) ?_
        refine WO_p (PS_move_bool rfl) ?_
        refine WO_if (t := 33) rfl (fun hb8 => ?_) (fun hb8 => ?_)
        · have hb8p := hb8.h; try simp only [al_ete, al_dfn, Bool.not_eq_true', Bool.not_eq_false', al_ne, Bool.not_not, al_nn] at hb8p
          refine WO_guardT rfl rfl hb8.h ?_
          refine WO_p (PS_move_ptr rfl) ?_
          refine WO_guardT rfl rfl hb8.h ?_
          refine WO_p (PS_nilCheck rfl) ?_
          refine WO_guardT rfl rfl hb8.h ?_
          refine WO_p (PS_fieldAddr 24582 Hvad.runUnderlying79 rfl Hvad.sizeOf76 rfl rfl) ?_
          refine WO_guardT rfl rfl hb8.h ?_
          refine WO_load (.slice _ _ _) Hvad.isAgg76 rfl (Hb.h (by repeat (first | assumption | exact Hb.newY _ _ | refine Hb.alloc ?_ | refine Hb.drew ?_ | refine Hb.ext (by assumption) ?_ | exact Hb.setSameL (by first | omega | (simp only [size_alloc, size_setB, size_drew]; omega)) | exact Hb.setSame (by assumption) | refine Hb.set (by first | omega | (simp only [size_alloc, size_setB, size_drew]; omega)) ?_ ))) (Ce.h (by first | assumption | exact ⟨rfl⟩)) ?_
          refine WO_guardT rfl rfl hb8.h ?_
          refine WO_p (PS_lenS Hvad.runUnderlying76 rfl) ?_
          refine WO_guardT rfl rfl hb8.h ?_
          refine WO_p (PS_leq rfl rfl) ?_
          refine WO_p (PS_pickT rfl hb8.h rfl) ?_
          refine WO_p (PS_move_bool rfl) ?_
          refine WO_if (t := 41) rfl (fun hb10 => ?_) (fun hb10 => ?_)
          · have hb10p := hb10.h; try simp only [al_ete, al_dfn, Bool.not_eq_true', Bool.not_eq_false', al_ne, Bool.not_not, al_nn] at hb10p
            refine WO_guardT rfl rfl hb10.h ?_
            refine WO_p (PS_move_ptr rfl) ?_
            refine WO_guardT rfl rfl hb10.h ?_
            refine WO_p (PS_nilCheck rfl) ?_
            refine WO_guardT rfl rfl hb10.h ?_
            refine WO_p (PS_fieldAddr 24579 Hvad.runUnderlying79 rfl Hvad.sizeOf21 rfl rfl) ?_
            refine WO_guardT rfl rfl hb10.h ?_
            refine WO_load (.int _ _) Hvad.isAgg21 rfl (Hb.h (by repeat (first | assumption | exact Hb.newY _ _ | refine Hb.alloc ?_ | refine Hb.drew ?_ | refine Hb.ext (by assumption) ?_ | exact Hb.setSameL (by first | omega | (simp only [size_alloc, size_setB, size_drew]; omega)) | exact Hb.setSame (by assumption) | refine Hb.set (by first | omega | (simp only [size_alloc, size_setB, size_drew]; omega)) ?_ ))) (Ce.h (by first | assumption | exact ⟨rfl⟩)) ?_
            refine WO_guardT rfl rfl hb10.h ?_
            refine WO_p (PS_geq rfl rfl) ?_
            refine WO_p (PS_pickT rfl hb10.h rfl) ?_
            refine WO_p (PS_move_bool rfl) ?_
            refine WO_if (t := 48) rfl (fun hb12 => ?_) (fun hb12 => ?_)
            · have hb12p := hb12.h; try simp only [al_ete, al_dfn, Bool.not_eq_true', Bool.not_eq_false', al_ne, Bool.not_not, al_nn] at hb12p
              refine WO_guardT rfl rfl hb12.h ?_
              refine WO_p (PS_move_ptr rfl) ?_
              refine WO_guardT rfl rfl hb12.h ?_
              refine WO_p (PS_nilCheck rfl) ?_
              refine WO_guardT rfl rfl hb12.h ?_
              refine WO_p (PS_fieldAddr 24579 Hvad.runUnderlying79 rfl Hvad.sizeOf21 rfl rfl) ?_
              refine WO_guardT rfl rfl hb12.h ?_
              refine WO_load (.int _ _) Hvad.isAgg21 rfl (Hb.h (by repeat (first | assumption | exact Hb.newY _ _ | refine Hb.alloc ?_ | refine Hb.drew ?_ | refine Hb.ext (by assumption) ?_ | exact Hb.setSameL (by first | omega | (simp only [size_alloc, size_setB, size_drew]; omega)) | exact Hb.setSame (by assumption) | refine Hb.set (by first | omega | (simp only [size_alloc, size_setB, size_drew]; omega)) ?_ ))) (Ce.h (by first | assumption | exact ⟨rfl⟩)) ?_
              refine WO_guardT rfl rfl hb12.h ?_
              refine WO_p (PS_leq rfl rfl) ?_
              refine WO_p (PS_pickT rfl hb12.h rfl) ?_
              refine WO_p (PS_move_bool rfl) ?_
              refine WO_if (t := 55) rfl (fun hb14 => ?_) (fun hb14 => ?_)
              · have hb14p := hb14.h; try simp only [al_ete, al_dfn, Bool.not_eq_true', Bool.not_eq_false', al_ne, Bool.not_not, al_nn] at hb14p
                refine WO_guardT rfl rfl hb14.h ?_
                refine WO_p (PS_move_ptr rfl) ?_
                refine WO_guardT rfl rfl hb14.h ?_
                refine WO_p (PS_nilCheck rfl) ?_
                refine WO_guardT rfl rfl hb14.h ?_
                refine WO_p (PS_fieldAddr 24580 Hvad.runUnderlying79 rfl Hvad.sizeOf26 rfl rfl) ?_
                refine WO_guardT rfl rfl hb14.h ?_
                refine WO_load (.int _ _) Hvad.isAgg26 rfl (Hb.h (by repeat (first | assumption | exact Hb.newY _ _ | refine Hb.alloc ?_ | refine Hb.drew ?_ | refine Hb.ext (by assumption) ?_ | exact Hb.setSameL (by first | omega | (simp only [size_alloc, size_setB, size_drew]; omega)) | exact Hb.setSame (by assumption) | refine Hb.set (by first | omega | (simp only [size_alloc, size_setB, size_drew]; omega)) ?_ ))) (Ce.h (by first | assumption | exact ⟨rfl⟩)) ?_
                refine WO_guardT rfl rfl hb14.h ?_
                refine WO_p (PS_leq rfl rfl) ?_
                refine WO_p (PS_pickT rfl hb14.h rfl) ?_
                refine WO_p (PS_assign_bool rfl) ?_
                refine WO_nil ?_
                refine thn_normal ?_
                refine W_ret ?_
                refine bodyQ_ret1 Hvad.results307 rfl (.bool _) rfl ?_
                exact ⟨congrArg Value.bool (by simp <;> omega), (by repeat (first | assumption | exact Ext.refl _ | refine Ext.alloc ?_ _ | refine Ext.drew ?_ | refine Ext.setB ?_ (by first | omega | (simp only [size_alloc, size_setB, size_drew]; omega)) _ | refine Ext.trans ?_ (by assumption)))⟩
              · have hb14p := hb14.h; try simp only [al_ete, al_dfn, Bool.not_eq_true', Bool.not_eq_false', al_ne, Bool.not_not, al_nn] at hb14p
                (exfalso; omega) --END
            · have hb12p := hb12.h; try simp only [al_ete, al_dfn, Bool.not_eq_true', Bool.not_eq_false', al_ne, Bool.not_not, al_nn] at hb12p
              (exfalso; omega) --END
          · have hb10p := hb10.h; try simp only [al_ete, al_dfn, Bool.not_eq_true', Bool.not_eq_false', al_ne, Bool.not_not, al_nn] at hb10p
            (exfalso; omega) --END
        · have hb8p := hb8.h; try simp only [al_ete, al_dfn, Bool.not_eq_true', Bool.not_eq_false', al_ne, Bool.not_not, al_nn] at hb8p
          (exfalso; omega) --END
      · have hb6p := hb6.h; try simp only [al_ete, al_dfn, Bool.not_eq_true', Bool.not_eq_false', al_ne, Bool.not_not, al_nn] at hb6p
        (exfalso; omega) --END
    · have hb4p := hb4.h; try simp only [al_ete, al_dfn, Bool.not_eq_true', Bool.not_eq_false', al_ne, Bool.not_not, al_nn] at hb4p
      (exfalso; omega) --END
  · have hb2p := hb2.h; try simp only [al_ete, al_dfn, Bool.not_eq_true', Bool.not_eq_false', al_ne, Bool.not_not, al_nn] at hb2p
    (exfalso; omega) --END

set_option maxRecDepth 10000 in
set_option maxHeartbeats 4000000 in
theorem codeOK_spec (s : SV) (w : World) (hs : CodeOK s) : Ret Hvad.prog 297 #[.slice s.1 s.2.1 s.2.2] w fun u w' => u = .bool true ∧ Ext w w' := by
  obtain ⟨h1, h2⟩ := hs
  refine Ret_of_W Hvad.func297 rfl rfl ?_
  refine W_seq ?_
  refine W_region rfl ?_
  refine WO_p (PS_assign_bool rfl) ?_
  refine WO_nil ?_
  refine thn_normal ?_
  refine W_seq ?_
  refine W_region rfl ?_
  refine WO_p (PS_move_slice rfl) ?_
  refine WO_p (PS_lenS Hvad.runUnderlying32 rfl) ?_
  refine WO_p (PS_leq rfl rfl) ?_
  refine WO_p (PS_move_bool rfl) ?_
  refine WO_if (t := 6) rfl (fun hb2 => ?_) (fun hb2 => ?_)
  · have hb2p := hb2.h; try simp only [al_ete, al_dfn, Bool.not_eq_true', Bool.not_eq_false', al_ne, Bool.not_not, al_nn] at hb2p
    refine WO_guardT rfl rfl hb2.h ?_
    refine WO_p (PS_move_slice rfl) ?_
    refine WO_guardT rfl rfl hb2.h ?_
    refine WO_p (PS_lenS Hvad.runUnderlying32 rfl) ?_
    refine WO_guardT rfl rfl hb2.h ?_
    refine WO_p (PS_gtr rfl rfl) ?_
    refine WO_guardT rfl rfl hb2.h ?_
    refine WO_p (PS_move_bool rfl) ?_
    refine WO_if (t := 10) rfl (fun hb4 => ?_) (fun hb4 => ?_)
    · have hb4p := hb4.h; try simp only [al_ete, al_dfn, Bool.not_eq_true', Bool.not_eq_false', al_ne, Bool.not_not, al_nn] at hb4p
      refine WO_guardF rfl rfl hb4.h ?_
      refine WO_guardF rfl rfl hb4.h ?_
      refine WO_guardT rfl rfl hb2.h ?_
      refine WO_p (PS_pickT rfl hb4.h rfl) ?_
      refine WO_p (PS_pickT rfl hb2.h rfl) ?_
      refine WO_p (PS_assign_bool rfl) ?_
      refine WO_nil ?_
      refine thn_normal ?_
      refine W_ret ?_
      refine bodyQ_ret1 Hvad.results297 rfl (.bool _) rfl ?_
      exact ⟨congrArg Value.bool (by simp_all), (by repeat (first | assumption | exact Ext.refl _ | refine Ext.alloc ?_ _ | refine Ext.drew ?_ | refine Ext.setB ?_ (by first | omega | (simp only [size_alloc, size_setB, size_drew]; omega)) _ | refine Ext.trans ?_ (by assumption)))⟩
    · have hb4p := hb4.h; try simp only [al_ete, al_dfn, Bool.not_eq_true', Bool.not_eq_false', al_ne, Bool.not_not, al_nn] at hb4p
      refine WO_guardT rfl rfl hb4.h ?_
      refine WO_p (PS_move_slice rfl) ?_
      refine WO_guardT rfl rfl hb4.h ?_
      refine WO_p (PS_eqlslnil Hvad.underlying32 rfl) ?_
      refine WO_guardT rfl rfl hb2.h ?_
      refine WO_p (PS_pickF rfl hb4.h rfl) ?_
      refine WO_p (PS_pickT rfl hb2.h rfl) ?_
      refine WO_p (PS_assign_bool rfl) ?_
      refine WO_nil ?_
      refine thn_normal ?_
      refine W_ret ?_
      refine bodyQ_ret1 Hvad.results297 rfl (.bool _) rfl ?_
      exact ⟨congrArg Value.bool (by simp_all), (by repeat (first | assumption | exact Ext.refl _ | refine Ext.alloc ?_ _ | refine Ext.drew ?_ | refine Ext.setB ?_ (by first | omega | (simp only [size_alloc, size_setB, size_drew]; omega)) _ | refine Ext.trans ?_ (by assumption)))⟩
  · have hb2p := hb2.h; try simp only [al_ete, al_dfn, Bool.not_eq_true', Bool.not_eq_false', al_ne, Bool.not_not, al_nn] at hb2p
    (exfalso; omega) --END

set_option maxRecDepth 10000 in
set_option maxHeartbeats 4000000 in
theorem vCheck2_spec (C : Nat) (c : Array Value) (v : V) (B : VB) (β : Option Nat) (w : World) (hv : VS w C c v B β) (hi : VInv v) (hl : v.logs.length ≤ 2800) : Ret Hvad.prog 304 #[.pointer (some ⟨C, 2435, none⟩)] w fun u w' => u = .bool true ∧ Ext w w' := by
  have hblk := hv.blk
  have hcs := hv.rep.size
  have hc_journal : Ce c (2435 + 8194) (.slice (slp B.j) v.journal.length (slc B.j)) := hv.rep.journal
  have hc_logs : Ce c (2435 + 24581) (.slice (slp B.l) v.logs.length (slc B.l)) := hv.rep.logs
  have hc_temps : Ce c (2435 + 24582) (.slice (slp B.t) v.temps.length (slc B.t)) := hv.rep.temps
  have hc_accts : Ce c (2435 + 0) (.slice (slp B.a) v.accts.length (slc B.a)) := hv.rep.accts
  have hc_slots : Ce c (2435 + 1) (.slice (slp B.s) v.slots.length (slc B.s)) := hv.rep.slots
  have hc_nm : Ce c (2435 + 24579) (.int .i32 v.nmarks) := hv.rep.nmarks
  have hc_ref : Ce c (2435 + 24580) (.int .u64 v.ref) := hv.rep.ref
  have h_nm := hi.nm
  have h_rf := hi.rf
  have h_la := hi.la
  have h_ls := hi.ls
  have h_lj := hi.lj
  have h_lt := hi.lt
  
  refine Ret_of_W Hvad.func304 rfl rfl ?_
  refine W_seq ?_
  refine W_region rfl ?_
  refine WO_p (PS_assign_bool rfl) ?_
  refine WO_nil ?_
  refine thn_normal ?_
  refine W_seq ?_
  refine W_seq ?_
  refine W_region rfl ?_
  refine WO_p (PS_move_ptr rfl) ?_
  refine WO_call Hvad.call307 (by rfl) (Ret.mono (vCheck1_spec C c v B β _ (VS.ext hv (by repeat (first | assumption | exact Ext.refl _ | refine Ext.alloc ?_ _ | refine Ext.drew ?_ | refine Ext.setB ?_ (by first | omega | (simp only [size_alloc, size_setB, size_drew]; omega)) _ | exact Ext.trans (by assumption) (by assumption) | refine Ext.trans ?_ (by assumption)))) hi hl) ?_)
  rintro _ w307_0 ⟨rfl, hE307_0⟩
  have hz307_0 := hE307_0.1
  try simp only [size_alloc, size_setB, size_drew] at hz307_0
  refine WO_p (PS_not rfl) ?_
  refine WO_nil ?_
  refine thn_normal ?_
  refine W_if rfl (fun hb4 => ?_) (fun hb4 => ?_)
  · have hb4p := hb4.h; try simp only [al_ete, al_dfn, Bool.not_eq_true', Bool.not_eq_false', al_ne, Bool.not_not, al_nn] at hb4p
    simp at hb4p --END
  · have hb4p := hb4.h; try simp only [al_ete, al_dfn, Bool.not_eq_true', Bool.not_eq_false', al_ne, Bool.not_not, al_nn] at hb4p
    refine W_skip ?_
    refine thn_normal ?_
    refine W_seq ?_
    refine W_seq ?_
    refine W_region rfl ?_
    refine WO_p (PS_move_ptr rfl) ?_
    refine WO_p (PS_nilCheck rfl) ?_
    refine WO_p (PS_fieldAddr 1 Hvad.runUnderlying79 rfl Hvad.sizeOf71 rfl rfl) ?_
    refine WO_load (.slice _ _ _) Hvad.isAgg71 rfl (Hb.h (by repeat (first | assumption | exact Hb.newY _ _ | refine Hb.alloc ?_ | refine Hb.drew ?_ | refine Hb.ext (by assumption) ?_ | exact Hb.setSameL (by first | omega | (simp only [size_alloc, size_setB, size_drew]; omega)) | exact Hb.setSame (by assumption) | refine Hb.set (by first | omega | (simp only [size_alloc, size_setB, size_drew]; omega)) ?_ ))) (Ce.h (by first | assumption | exact ⟨rfl⟩)) ?_
    refine WO_p (PS_lenS Hvad.runUnderlying71 rfl) ?_
    refine WO_p (PS_move_int rfl) ?_
    refine WO_nil ?_
    refine thn_normal ?_
    refine W_block ?_
    refine W_loopN (fun k ρ w' => ∃ i : Nat, i + k = v.slots.length ∧ Fr [(0, .pointer (some ⟨C, 2435, none⟩)), (13, .int .i64 v.slots.length), (14, .int .i64 i)] ρ ∧ Ext w w') v.slots.length ?_ ?_
    · exact ⟨0, by omega, ⟨rfl, rfl, rfl, trivial⟩, (by repeat (first | assumption | exact Ext.refl _ | refine Ext.alloc ?_ _ | refine Ext.drew ?_ | refine Ext.setB ?_ (by first | omega | (simp only [size_alloc, size_setB, size_drew]; omega)) _ | refine Ext.trans ?_ (by assumption)))⟩
    intro k ρ w2 hI
    obtain ⟨i, hik, hFr2, hE2⟩ := hI
    refine W_env _ hFr2 ?_
    have hz2 := hE2.1
    refine W_seq ?_
    refine W_region rfl ?_
    refine WO_p (PS_lss rfl rfl) ?_
    refine WO_nil ?_
    refine thn_normal ?_
    refine W_seq ?_
    refine W_if rfl (fun hb6 => ?_) (fun hb6 => ?_)
    · have hb6p := hb6.h; try simp only [al_ete, al_dfn, Bool.not_eq_true', Bool.not_eq_false', al_ne, Bool.not_not, al_nn] at hb6p
      obtain ⟨xi, hxi⟩ : ∃ xi, v.slots[i]? = some xi := ⟨_, List.getElem?_eq_getElem (by omega)⟩
      obtain ⟨b, cap, r, hab, hcap, hr, hrs, hrow, hda, hbd, hil, hty, f0, f1, f2, f3, f4⟩ := (hv.ext hE2).openS hxi
      replace hc_slots : Ce c (2435 + 1) (.slice (some ⟨b, 0, none⟩) v.slots.length cap) := hda
      have hax := hi.sl xi (List.mem_of_getElem? hxi)
      refine W_skip ?_
      refine thn_normal ?_
      refine W_seq ?_
      refine W_block ?_
      refine W_seq ?_
      refine W_region rfl ?_
      refine WO_p (PS_move_int rfl) ?_
      refine WO_p (PS_assign_int rfl) ?_
      refine WO_nil ?_
      refine thn_normal ?_
      refine W_seq ?_
      refine W_drawE [false, false, false, false, false, false, false, false, false, false, false, false, false, false, false, false, false, false, false, false, false, false, false, false, false, false] hmix (by kernel_rfl) rfl ?_
      refine WH_p (PS_move_ptr rfl) rfl ?_
      refine WH_p (PS_nilCheck rfl) rfl ?_
      refine WH_p (PS_fieldAddr 1 Hvad.runUnderlying79 rfl Hvad.sizeOf71 rfl rfl) rfl ?_
      refine WH_load (.slice _ _ _) Hvad.isAgg71 rfl (Hb.h (by repeat (first | assumption | exact Hb.newY _ _ | refine Hb.alloc ?_ | refine Hb.drew ?_ | refine Hb.ext (by assumption) ?_ | exact Hb.setSameL (by first | omega | (simp only [size_alloc, size_setB, size_drew]; omega)) | exact Hb.setSame (by assumption) | refine Hb.set (by first | omega | (simp only [size_alloc, size_setB, size_drew]; omega)) ?_ ))) (Ce.h (by first | assumption | exact ⟨rfl⟩)) ?_
      refine WH_p (PS_move_int rfl) rfl ?_
      refine WH_p (PS_indexS Hvad.runUnderlying71 Hvad.sizeOf152 rfl rfl (by omega) (by omega)) rfl ?_
      refine WH_p (PS_fieldAddr 0 Hvad.runUnderlying152 rfl Hvad.sizeOf21 rfl rfl) rfl ?_
      refine WH_load (.int _ _) Hvad.isAgg21 rfl (Hb.h (by repeat (first | assumption | exact Hb.newY _ _ | refine Hb.alloc ?_ | refine Hb.drew ?_ | refine Hb.ext (by assumption) ?_ | exact Hb.setSameL (by first | omega | (simp only [size_alloc, size_setB, size_drew]; omega)) | exact Hb.setSame (by assumption) | refine Hb.set (by first | omega | (simp only [size_alloc, size_setB, size_drew]; omega)) ?_ ))) (Ce.h (by first | assumption | exact ⟨rfl⟩)) ?_
      refine WH_p (PS_lss rfl rfl) rfl ?_
      refine WH_p (PS_move_bool rfl) rfl ?_
      refine WH_if (t := 26) rfl (fun hb8 => ?_) (fun hb8 => ?_)
      · have hb8p := hb8.h; try simp only [al_ete, al_dfn, Bool.not_eq_true', Bool.not_eq_false', al_ne, Bool.not_not, al_nn] at hb8p
        (exfalso; omega) --END
      · have hb8p := hb8.h; try simp only [al_ete, al_dfn, Bool.not_eq_true', Bool.not_eq_false', al_ne, Bool.not_not, al_nn] at hb8p
        refine WH_guardT rfl rfl hb8.h ?_
        refine WH_p (PS_move_ptr rfl) rfl ?_
        refine WH_guardT rfl rfl hb8.h ?_
        refine WH_p (PS_nilCheck rfl) rfl ?_
        refine WH_guardT rfl rfl hb8.h ?_
        refine WH_p (PS_fieldAddr 1 Hvad.runUnderlying79 rfl Hvad.sizeOf71 rfl rfl) rfl ?_
        refine WH_guardT rfl rfl hb8.h ?_
        refine WH_load (.slice _ _ _) Hvad.isAgg71 rfl (Hb.h (by repeat (first | assumption | exact Hb.newY _ _ | refine Hb.alloc ?_ | refine Hb.drew ?_ | refine Hb.ext (by assumption) ?_ | exact Hb.setSameL (by first | omega | (simp only [size_alloc, size_setB, size_drew]; omega)) | exact Hb.setSame (by assumption) | refine Hb.set (by first | omega | (simp only [size_alloc, size_setB, size_drew]; omega)) ?_ ))) (Ce.h (by first | assumption | exact ⟨rfl⟩)) ?_
        refine WH_guardT rfl rfl hb8.h ?_
        refine WH_p (PS_move_int rfl) rfl ?_
        refine WH_guardT rfl rfl hb8.h ?_
        refine WH_p (PS_indexS Hvad.runUnderlying71 Hvad.sizeOf152 rfl rfl (by omega) (by omega)) rfl ?_
        refine WH_guardT rfl rfl hb8.h ?_
        refine WH_p (PS_fieldAddr 0 Hvad.runUnderlying152 rfl Hvad.sizeOf21 rfl rfl) rfl ?_
        refine WH_guardT rfl rfl hb8.h ?_
        refine WH_load (.int _ _) Hvad.isAgg21 rfl (Hb.h (by repeat (first | assumption | exact Hb.newY _ _ | refine Hb.alloc ?_ | refine Hb.drew ?_ | refine Hb.ext (by assumption) ?_ | exact Hb.setSameL (by first | omega | (simp only [size_alloc, size_setB, size_drew]; omega)) | exact Hb.setSame (by assumption) | refine Hb.set (by first | omega | (simp only [size_alloc, size_setB, size_drew]; omega)) ?_ ))) (Ce.h (by first | assumption | exact ⟨rfl⟩)) ?_
        refine WH_guardT rfl rfl hb8.h ?_
        refine WH_p (PS_conv_i64n Hvad.runUnderlying21 Hvad.runUnderlying3 rfl (by omega) (by omega)) rfl ?_
        refine WH_guardT rfl rfl hb8.h ?_
        refine WH_p (PS_move_ptr rfl) rfl ?_
        refine WH_guardT rfl rfl hb8.h ?_
        refine WH_p (PS_nilCheck rfl) rfl ?_
        refine WH_guardT rfl rfl hb8.h ?_
        refine WH_p (PS_fieldAddr 0 Hvad.runUnderlying79 rfl Hvad.sizeOf70 rfl rfl) rfl ?_
        refine WH_guardT rfl rfl hb8.h ?_
        refine WH_load (.slice _ _ _) Hvad.isAgg70 rfl (Hb.h (by repeat (first | assumption | exact Hb.newY _ _ | refine Hb.alloc ?_ | refine Hb.drew ?_ | refine Hb.ext (by assumption) ?_ | exact Hb.setSameL (by first | omega | (simp only [size_alloc, size_setB, size_drew]; omega)) | exact Hb.setSame (by assumption) | refine Hb.set (by first | omega | (simp only [size_alloc, size_setB, size_drew]; omega)) ?_ ))) (Ce.h (by first | assumption | exact ⟨rfl⟩)) ?_
        refine WH_guardT rfl rfl hb8.h ?_
        refine WH_p (PS_lenS Hvad.runUnderlying70 rfl) rfl ?_
        refine WH_guardT rfl rfl hb8.h ?_
        refine WH_p (PS_geq rfl rfl) rfl ?_
        refine WH_p (PS_pickF rfl hb8.h rfl) rfl ?_
        refine WH_nil ?_
        refine thn_normal ?_
        refine W_if rfl (fun hb10 => ?_) (fun hb10 => ?_)
        · have hb10p := hb10.h; try simp only [al_ete, al_dfn, Bool.not_eq_true', Bool.not_eq_false', al_ne, Bool.not_not, al_nn] at hb10p
          (exfalso; omega) --END
        · have hb10p := hb10.h; try simp only [al_ete, al_dfn, Bool.not_eq_true', Bool.not_eq_false', al_ne, Bool.not_not, al_nn] at hb10p
          refine W_skip ?_
          refine inBlk_normal ?_
          refine thn_normal ?_
          refine W_region rfl ?_
          refine WO_p (PS_add_i64n rfl rfl (by omega) (by omega)) ?_
          refine WO_p (PS_move_int rfl) ?_
          refine WO_nil ?_
          refine thn_normal ?_
          exact ⟨k - 1, by omega, i + 1, by omega, ⟨rfl, rfl, congrArg (Value.int .i64) (by omega), trivial⟩, (by repeat (first | assumption | exact Ext.refl _ | refine Ext.alloc ?_ _ | refine Ext.drew ?_ | refine Ext.setB ?_ (by first | omega | (simp only [size_alloc, size_setB, size_drew]; omega)) _ | exact Ext.trans (by assumption) (by assumption) | refine Ext.trans ?_ (by assumption)))⟩
    · have hb6p := hb6.h; try simp only [al_ete, al_dfn, Bool.not_eq_true', Bool.not_eq_false', al_ne, Bool.not_not, al_nn] at hb6p
      refine W_exit ?_
      refine thn_exit ?_
      refine thn_exit ?_
      refine inBlk_exit ?_
      refine thn_normal ?_
      refine W_seq ?_
      refine W_seq ?_
      refine W_region rfl ?_
      refine WO_p (PS_move_ptr rfl) ?_
      refine WO_p (PS_nilCheck rfl) ?_
      refine WO_p (PS_fieldAddr 24582 Hvad.runUnderlying79 rfl Hvad.sizeOf76 rfl rfl) ?_
      refine WO_load (.slice _ _ _) Hvad.isAgg76 rfl (Hb.h (by repeat (first | assumption | exact Hb.newY _ _ | refine Hb.alloc ?_ | refine Hb.drew ?_ | refine Hb.ext (by assumption) ?_ | exact Hb.setSameL (by first | omega | (simp only [size_alloc, size_setB, size_drew]; omega)) | exact Hb.setSame (by assumption) | refine Hb.set (by first | omega | (simp only [size_alloc, size_setB, size_drew]; omega)) ?_ ))) (Ce.h (by first | assumption | exact ⟨rfl⟩)) ?_
      refine WO_p (PS_lenS Hvad.runUnderlying76 rfl) ?_
      refine WO_p (PS_move_int rfl) ?_
      refine WO_nil ?_
      refine thn_normal ?_
      refine W_block ?_
      refine W_loopN (fun k ρ w' => ∃ i : Nat, i + k = v.temps.length ∧ Fr [(0, .pointer (some ⟨C, 2435, none⟩)), (48, .int .i64 v.temps.length), (49, .int .i64 i)] ρ ∧ Ext w w') v.temps.length ?_ ?_
      · exact ⟨0, by omega, ⟨rfl, rfl, rfl, trivial⟩, (by repeat (first | assumption | exact Ext.refl _ | refine Ext.alloc ?_ _ | refine Ext.drew ?_ | refine Ext.setB ?_ (by first | omega | (simp only [size_alloc, size_setB, size_drew]; omega)) _ | refine Ext.trans ?_ (by assumption)))⟩
      intro k ρ w2 hI
      obtain ⟨i, hik, hFr2, hE2⟩ := hI
      refine W_env _ hFr2 ?_
      have hz2 := hE2.1
      refine W_seq ?_
      refine W_region rfl ?_
      refine WO_p (PS_lss rfl rfl) ?_
      refine WO_nil ?_
      refine thn_normal ?_
      refine W_seq ?_
      refine W_if rfl (fun hb12 => ?_) (fun hb12 => ?_)
      · have hb12p := hb12.h; try simp only [al_ete, al_dfn, Bool.not_eq_true', Bool.not_eq_false', al_ne, Bool.not_not, al_nn] at hb12p
        obtain ⟨xi, hxi⟩ : ∃ xi, v.temps[i]? = some xi := ⟨_, List.getElem?_eq_getElem (by omega)⟩
        obtain ⟨b, cap, r, hab, hcap, hr, hrs, hrow, hda, hbd, hil, hty, f0, f1, f2⟩ := (hv.ext hE2).openT hxi
        replace hc_temps : Ce c (2435 + 24582) (.slice (some ⟨b, 0, none⟩) v.temps.length cap) := hda
        have hax := hi.tl xi (List.mem_of_getElem? hxi)
        refine W_skip ?_
        refine thn_normal ?_
        refine W_seq ?_
        refine W_block ?_
        refine W_seq ?_
        refine W_region rfl ?_
        refine WO_p (PS_move_int rfl) ?_
        refine WO_p (PS_assign_int rfl) ?_
        refine WO_nil ?_
        refine thn_normal ?_
        refine W_seq ?_
        refine W_drawE [false, false, false, false, false, false, false, false, false, false, false, false, false, false, false, false, false, false, false, false, false, false, false, false, false, false] hmix (by kernel_rfl) rfl ?_
        refine WH_p (PS_move_ptr rfl) rfl ?_
        refine WH_p (PS_nilCheck rfl) rfl ?_
        refine WH_p (PS_fieldAddr 24582 Hvad.runUnderlying79 rfl Hvad.sizeOf76 rfl rfl) rfl ?_
        refine WH_load (.slice _ _ _) Hvad.isAgg76 rfl (Hb.h (by repeat (first | assumption | exact Hb.newY _ _ | refine Hb.alloc ?_ | refine Hb.drew ?_ | refine Hb.ext (by assumption) ?_ | exact Hb.setSameL (by first | omega | (simp only [size_alloc, size_setB, size_drew]; omega)) | exact Hb.setSame (by assumption) | refine Hb.set (by first | omega | (simp only [size_alloc, size_setB, size_drew]; omega)) ?_ ))) (Ce.h (by first | assumption | exact ⟨rfl⟩)) ?_
        refine WH_p (PS_move_int rfl) rfl ?_
        refine WH_p (PS_indexS Hvad.runUnderlying76 Hvad.sizeOf305 rfl rfl (by omega) (by omega)) rfl ?_
        refine WH_p (PS_fieldAddr 0 Hvad.runUnderlying305 rfl Hvad.sizeOf21 rfl rfl) rfl ?_
        refine WH_load (.int _ _) Hvad.isAgg21 rfl (Hb.h (by repeat (first | assumption | exact Hb.newY _ _ | refine Hb.alloc ?_ | refine Hb.drew ?_ | refine Hb.ext (by assumption) ?_ | exact Hb.setSameL (by first | omega | (simp only [size_alloc, size_setB, size_drew]; omega)) | exact Hb.setSame (by assumption) | refine Hb.set (by first | omega | (simp only [size_alloc, size_setB, size_drew]; omega)) ?_ ))) (Ce.h (by first | assumption | exact ⟨rfl⟩)) ?_
        refine WH_p (PS_lss rfl rfl) rfl ?_
        refine WH_p (PS_move_bool rfl) rfl ?_
        refine WH_if (t := 61) rfl (fun hb14 => ?_) (fun hb14 => ?_)
        · have hb14p := hb14.h; try simp only [al_ete, al_dfn, Bool.not_eq_true', Bool.not_eq_false', al_ne, Bool.not_not, al_nn] at hb14p
          (exfalso; omega) --END
        · have hb14p := hb14.h; try simp only [al_ete, al_dfn, Bool.not_eq_true', Bool.not_eq_false', al_ne, Bool.not_not, al_nn] at hb14p
          refine WH_guardT rfl rfl hb14.h ?_
          refine WH_p (PS_move_ptr rfl) rfl ?_
          refine WH_guardT rfl rfl hb14.h ?_
          refine WH_p (PS_nilCheck rfl) rfl ?_
          refine WH_guardT rfl rfl hb14.h ?_
          refine WH_p (PS_fieldAddr 24582 Hvad.runUnderlying79 rfl Hvad.sizeOf76 rfl rfl) rfl ?_
          refine WH_guardT rfl rfl hb14.h ?_
          refine WH_load (.slice _ _ _) Hvad.isAgg76 rfl (Hb.h (by repeat (first | assumption | exact Hb.newY _ _ | refine Hb.alloc ?_ | refine Hb.drew ?_ | refine Hb.ext (by assumption) ?_ | exact Hb.setSameL (by first | omega | (simp only [size_alloc, size_setB, size_drew]; omega)) | exact Hb.setSame (by assumption) | refine Hb.set (by first | omega | (simp only [size_alloc, size_setB, size_drew]; omega)) ?_ ))) (Ce.h (by first | assumption | exact ⟨rfl⟩)) ?_
          refine WH_guardT rfl rfl hb14.h ?_
          refine WH_p (PS_move_int rfl) rfl ?_
          refine WH_guardT rfl rfl hb14.h ?_
          refine WH_p (PS_indexS Hvad.runUnderlying76 Hvad.sizeOf305 rfl rfl (by omega) (by omega)) rfl ?_
          refine WH_guardT rfl rfl hb14.h ?_
          refine WH_p (PS_fieldAddr 0 Hvad.runUnderlying305 rfl Hvad.sizeOf21 rfl rfl) rfl ?_
          refine WH_guardT rfl rfl hb14.h ?_
          refine WH_load (.int _ _) Hvad.isAgg21 rfl (Hb.h (by repeat (first | assumption | exact Hb.newY _ _ | refine Hb.alloc ?_ | refine Hb.drew ?_ | refine Hb.ext (by assumption) ?_ | exact Hb.setSameL (by first | omega | (simp only [size_alloc, size_setB, size_drew]; omega)) | exact Hb.setSame (by assumption) | refine Hb.set (by first | omega | (simp only [size_alloc, size_setB, size_drew]; omega)) ?_ ))) (Ce.h (by first | assumption | exact ⟨rfl⟩)) ?_
          refine WH_guardT rfl rfl hb14.h ?_
          refine WH_p (PS_conv_i64n Hvad.runUnderlying21 Hvad.runUnderlying3 rfl (by omega) (by omega)) rfl ?_
          refine WH_guardT rfl rfl hb14.h ?_
          refine WH_p (PS_move_ptr rfl) rfl ?_
          refine WH_guardT rfl rfl hb14.h ?_
          refine WH_p (PS_nilCheck rfl) rfl ?_
          refine WH_guardT rfl rfl hb14.h ?_
          refine WH_p (PS_fieldAddr 0 Hvad.runUnderlying79 rfl Hvad.sizeOf70 rfl rfl) rfl ?_
          refine WH_guardT rfl rfl hb14.h ?_
          refine WH_load (.slice _ _ _) Hvad.isAgg70 rfl (Hb.h (by repeat (first | assumption | exact Hb.newY _ _ | refine Hb.alloc ?_ | refine Hb.drew ?_ | refine Hb.ext (by assumption) ?_ | exact Hb.setSameL (by first | omega | (simp only [size_alloc, size_setB, size_drew]; omega)) | exact Hb.setSame (by assumption) | refine Hb.set (by first | omega | (simp only [size_alloc, size_setB, size_drew]; omega)) ?_ ))) (Ce.h (by first | assumption | exact ⟨rfl⟩)) ?_
          refine WH_guardT rfl rfl hb14.h ?_
          refine WH_p (PS_lenS Hvad.runUnderlying70 rfl) rfl ?_
          refine WH_guardT rfl rfl hb14.h ?_
          refine WH_p (PS_geq rfl rfl) rfl ?_
          refine WH_p (PS_pickF rfl hb14.h rfl) rfl ?_
          refine WH_nil ?_
          refine thn_normal ?_
          refine W_if rfl (fun hb16 => ?_) (fun hb16 => ?_)
          · have hb16p := hb16.h; try simp only [al_ete, al_dfn, Bool.not_eq_true', Bool.not_eq_false', al_ne, Bool.not_not, al_nn] at hb16p
            (exfalso; omega) --END
          · have hb16p := hb16.h; try simp only [al_ete, al_dfn, Bool.not_eq_true', Bool.not_eq_false', al_ne, Bool.not_not, al_nn] at hb16p
            refine W_skip ?_
            refine inBlk_normal ?_
            refine thn_normal ?_
            refine W_region rfl ?_
            refine WO_p (PS_add_i64n rfl rfl (by omega) (by omega)) ?_
            refine WO_p (PS_move_int rfl) ?_
            refine WO_nil ?_
            refine thn_normal ?_
            exact ⟨k - 1, by omega, i + 1, by omega, ⟨rfl, rfl, congrArg (Value.int .i64) (by omega), trivial⟩, (by repeat (first | assumption | exact Ext.refl _ | refine Ext.alloc ?_ _ | refine Ext.drew ?_ | refine Ext.setB ?_ (by first | omega | (simp only [size_alloc, size_setB, size_drew]; omega)) _ | exact Ext.trans (by assumption) (by assumption) | refine Ext.trans ?_ (by assumption)))⟩
      · have hb12p := hb12.h; try simp only [al_ete, al_dfn, Bool.not_eq_true', Bool.not_eq_false', al_ne, Bool.not_not, al_nn] at hb12p
        refine W_exit ?_
        refine thn_exit ?_
        refine thn_exit ?_
        refine inBlk_exit ?_
        refine thn_normal ?_
        refine W_seq ?_
        refine W_seq ?_
        refine W_region rfl ?_
        refine WO_p (PS_move_ptr rfl) ?_
        refine WO_p (PS_nilCheck rfl) ?_
        refine WO_p (PS_fieldAddr 0 Hvad.runUnderlying79 rfl Hvad.sizeOf70 rfl rfl) ?_
        refine WO_load (.slice _ _ _) Hvad.isAgg70 rfl (Hb.h (by repeat (first | assumption | exact Hb.newY _ _ | refine Hb.alloc ?_ | refine Hb.drew ?_ | refine Hb.ext (by assumption) ?_ | exact Hb.setSameL (by first | omega | (simp only [size_alloc, size_setB, size_drew]; omega)) | exact Hb.setSame (by assumption) | refine Hb.set (by first | omega | (simp only [size_alloc, size_setB, size_drew]; omega)) ?_ ))) (Ce.h (by first | assumption | exact ⟨rfl⟩)) ?_
        refine WO_p (PS_lenS Hvad.runUnderlying70 rfl) ?_
        refine WO_p (PS_move_int rfl) ?_
        refine WO_nil ?_
        refine thn_normal ?_
        refine W_block ?_
        refine W_loopN (fun k ρ w' => ∃ i : Nat, i + k = v.accts.length ∧ Fr [(0, .pointer (some ⟨C, 2435, none⟩)), (83, .int .i64 v.accts.length), (84, .int .i64 i)] ρ ∧ Ext w w') v.accts.length ?_ ?_
        · exact ⟨0, by omega, ⟨rfl, rfl, rfl, trivial⟩, (by repeat (first | assumption | exact Ext.refl _ | refine Ext.alloc ?_ _ | refine Ext.drew ?_ | refine Ext.setB ?_ (by first | omega | (simp only [size_alloc, size_setB, size_drew]; omega)) _ | refine Ext.trans ?_ (by assumption)))⟩
        intro k ρ w2 hI
        obtain ⟨i, hik, hFr2, hE2⟩ := hI
        refine W_env _ hFr2 ?_
        have hz2 := hE2.1
        refine W_seq ?_
        refine W_region rfl ?_
        refine WO_p (PS_lss rfl rfl) ?_
        refine WO_nil ?_
        refine thn_normal ?_
        refine W_seq ?_
        refine W_if rfl (fun hb18 => ?_) (fun hb18 => ?_)
        · have hb18p := hb18.h; try simp only [al_ete, al_dfn, Bool.not_eq_true', Bool.not_eq_false', al_ne, Bool.not_not, al_nn] at hb18p
          obtain ⟨xi, hxi⟩ : ∃ xi, v.accts[i]? = some xi := ⟨_, List.getElem?_eq_getElem (by omega)⟩
          obtain ⟨b, cap, r, hab, hcap, hr, hrs, hrow, hda, hbd, hil, hty, f0, f1, f2, f3, f4, f5, f6⟩ := (hv.ext hE2).openA hxi
          replace hc_accts : Ce c (2435 + 0) (.slice (some ⟨b, 0, none⟩) v.accts.length cap) := hda
          refine W_skip ?_
          refine thn_normal ?_
          refine W_seq ?_
          refine W_block ?_
          refine W_seq ?_
          refine W_region rfl ?_
          refine WO_p (PS_move_int rfl) ?_
          refine WO_p (PS_assign_int rfl) ?_
          refine WO_nil ?_
          refine thn_normal ?_
          refine W_seq ?_
          refine W_region rfl ?_
          refine WO_p (PS_move_ptr rfl) ?_
          refine WO_p (PS_nilCheck rfl) ?_
          refine WO_p (PS_fieldAddr 0 Hvad.runUnderlying79 rfl Hvad.sizeOf70 rfl rfl) ?_
          refine WO_load (.slice _ _ _) Hvad.isAgg70 rfl (Hb.h (by repeat (first | assumption | exact Hb.newY _ _ | refine Hb.alloc ?_ | refine Hb.drew ?_ | refine Hb.ext (by assumption) ?_ | exact Hb.setSameL (by first | omega | (simp only [size_alloc, size_setB, size_drew]; omega)) | exact Hb.setSame (by assumption) | refine Hb.set (by first | omega | (simp only [size_alloc, size_setB, size_drew]; omega)) ?_ ))) (Ce.h (by first | assumption | exact ⟨rfl⟩)) ?_
          refine WO_p (PS_move_int rfl) ?_
          refine WO_p (PS_indexS Hvad.runUnderlying70 Hvad.sizeOf149 rfl rfl (by omega) (by omega)) ?_
          refine WO_p (PS_fieldAddr 25 Hvad.runUnderlying149 rfl Hvad.sizeOf32 rfl rfl) ?_
          refine WO_load (.slice _ _ _) Hvad.isAgg32 rfl (Hb.h (by repeat (first | assumption | exact Hb.newY _ _ | refine Hb.alloc ?_ | refine Hb.drew ?_ | refine Hb.ext (by assumption) ?_ | exact Hb.setSameL (by first | omega | (simp only [size_alloc, size_setB, size_drew]; omega)) | exact Hb.setSame (by assumption) | refine Hb.set (by first | omega | (simp only [size_alloc, size_setB, size_drew]; omega)) ?_ ))) (Ce.h (by first | assumption | exact ⟨rfl⟩)) ?_
          refine WO_call Hvad.call297 (by rfl) (Ret.mono (codeOK_spec _ _ (hi.cd xi (List.mem_of_getElem? hxi))) ?_)
          rintro _ w297_18 ⟨rfl, hE297_18⟩
          have hz297_18 := hE297_18.1
          try simp only [size_alloc, size_setB, size_drew] at hz297_18
          refine WO_p (PS_not rfl) ?_
          refine WO_nil ?_
          refine thn_normal ?_
          refine W_if rfl (fun hb22 => ?_) (fun hb22 => ?_)
          · have hb22p := hb22.h; try simp only [al_ete, al_dfn, Bool.not_eq_true', Bool.not_eq_false', al_ne, Bool.not_not, al_nn] at hb22p
            simp at hb22p --END
          · have hb22p := hb22.h; try simp only [al_ete, al_dfn, Bool.not_eq_true', Bool.not_eq_false', al_ne, Bool.not_not, al_nn] at hb22p
            refine W_skip ?_
            refine inBlk_normal ?_
            refine thn_normal ?_
            refine W_region rfl ?_
            refine WO_p (PS_add_i64n rfl rfl (by omega) (by omega)) ?_
            refine WO_p (PS_move_int rfl) ?_
            refine WO_nil ?_
            refine thn_normal ?_
            exact ⟨k - 1, by omega, i + 1, by omega, ⟨rfl, rfl, congrArg (Value.int .i64) (by omega), trivial⟩, (by repeat (first | assumption | exact Ext.refl _ | refine Ext.alloc ?_ _ | refine Ext.drew ?_ | refine Ext.setB ?_ (by first | omega | (simp only [size_alloc, size_setB, size_drew]; omega)) _ | exact Ext.trans (by assumption) (by assumption) | refine Ext.trans ?_ (by assumption)))⟩
        · have hb18p := hb18.h; try simp only [al_ete, al_dfn, Bool.not_eq_true', Bool.not_eq_false', al_ne, Bool.not_not, al_nn] at hb18p
          refine W_exit ?_
          refine thn_exit ?_
          refine thn_exit ?_
          refine inBlk_exit ?_
          refine thn_normal ?_
          refine W_seq ?_
          refine W_region rfl ?_
          refine WO_p (PS_assign_bool rfl) ?_
          refine WO_nil ?_
          refine thn_normal ?_
          refine W_ret ?_
          refine bodyQ_ret1 Hvad.results304 rfl (.bool _) rfl ?_
          exact ⟨rfl, (by repeat (first | assumption | exact Ext.refl _ | refine Ext.alloc ?_ _ | refine Ext.drew ?_ | refine Ext.setB ?_ (by first | omega | (simp only [size_alloc, size_setB, size_drew]; omega)) _ | refine Ext.trans ?_ (by assumption)))⟩

end Go.Proofs.YgvadwGreat
