
import Derived.Test.YgvacwGreatXd
import Derived.Test.YgvacwGreatMb
import Derived.KernelRfl
namespace Go.Proofs.YgvacwGreat
set_option linter.unusedSimpArgs false
set_option linter.unusedVariables false
theorem rep_get {L : List Value} {o n : Nat} {x : Value} (h : (L.drop o).take n = List.replicate n x) {k : Nat} (hk : k < n) : L[o + k]? = some x := by
  have h1 : ((L.drop o).take n)[k]? = some x := by rw [h, List.getElem?_replicate, if_pos hk]
  rw [List.getElem?_take, if_pos hk, List.getElem?_drop] at h1
  exact h1
theorem part_get {L M : List Value} {o n : Nat} (h : (L.drop o).take n = M) {k : Nat} (hk : k < n) : L[o + k]? = M[k]? := by
  rw [← h, List.getElem?_take, if_pos hk, List.getElem?_drop]
def ZF65 : Fm := ⟨0, 0, 0, false, 0, 0, 0, 0, 0, List.replicate 20 0, List.replicate 20 0, [0, 0, 0, 0], (none, 0, 0), (none, 0, 0), [0, 0, 0, 0, 0, 0, 0, 0], 0, 0, []⟩
set_option maxRecDepth 100000 in
theorem z86_size : Hvac.zeroCells87.size = 27024 := by kernel_rfl
set_option maxRecDepth 100000 in
theorem z86_atab : (Hvac.zeroCells87.toList.drop 2437).take 4096 = List.replicate 4096 (.int .i32 0) := by kernel_rfl
set_option maxRecDepth 100000 in
theorem z86_stab : (Hvac.zeroCells87.toList.drop 6533).take 4096 = List.replicate 4096 (.int .i32 0) := by kernel_rfl
set_option maxRecDepth 100000 in
theorem z86_marks : (Hvac.zeroCells87.toList.drop 10630).take 16384 = List.replicate 16384 (.int .i32 0) := by kernel_rfl
set_option maxRecDepth 100000 in
theorem z86_head : (Hvac.zeroCells87.toList.drop 2435).take 2 = [.slice none 0 0, .slice none 0 0] := by kernel_rfl
theorem z86_j : (Hvac.zeroCells87.toList.drop 10629).take 1 = [.slice none 0 0] := by kernel_rfl
theorem z86_tail : (Hvac.zeroCells87.toList.drop 27014).take 10 = [.int .i32 0, .int .u64 0, .slice none 0 0, .slice none 0 0, .slice none 0 0] ++ treeZero := by kernel_rfl
theorem z69_size : Hvac.zeroCells70.size = 2435 := by kernel_rfl
theorem z69_head : (Hvac.zeroCells70.toList.drop 1).take 10 = .slice none 0 0 :: (List.replicate 8 (.int .u32 0) ++ [.int .u8 0]) := by kernel_rfl
theorem z69_stack : (Hvac.zeroCells70.toList.drop 11).take 1792 = List.replicate 1792 (.int .u64 0) := by kernel_rfl
theorem z69_frames : (Hvac.zeroCells70.toList.drop 1803).take 455 = encF ZF65 ++ (encF ZF65 ++ (encF ZF65 ++ (encF ZF65 ++ (encF ZF65 ++ (encF ZF65 ++ encF ZF65))))) := by kernel_rfl
theorem z69_ret : (Hvac.zeroCells70.toList.drop 2259).take 1 = [.slice none 0 0] := by kernel_rfl
theorem z69_tail : (Hvac.zeroCells70.toList.drop 2380).take 55 = List.replicate 20 (.int .u8 0) ++ (List.replicate 4 (.int .u64 0) ++ ([.int .u8 0, .int .u8 0, .int .u8 0, .int .u64 0, .int .u64 0] ++ (List.replicate 4 (.int .u64 0) ++ ([.int .i32 0, .int .i32 0] ++ List.replicate 20 (.int .u8 0))))) := by kernel_rfl
end Go.Proofs.YgvacwGreat
