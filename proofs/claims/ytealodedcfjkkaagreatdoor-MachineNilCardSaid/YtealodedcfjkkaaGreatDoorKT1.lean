/- Calls of the program of which the evaluator, run by the kernel, finds the result; no conditions. -/
import Derived.Test.YtealodedcfjkkaaGreatDoorKT0
/- Calls of the program whose results are known: each is found by the evaluator, in the kernel. -/
namespace Go.Proofs
open Go.Sw Go
def arg1 : List AV := [.str [120, 32, 43, 32, 49], .str [120]]
def res1 : Slot := .own 4 [.agg [.int .i64 1, .int .i64 0, .int .i64 0, .str []], .agg [.int .i64 1, .int .i64 0, .int .i64 0, .str []], .agg [.int .i64 5, .int .i64 0, .int .i64 0, .str []], .agg [.int .i64 1, .int .i64 0, .int .i64 0, .str []], .agg [.int .i64 2, .int .i64 1, .int .i64 0, .str []], .agg [.int .i64 10, .int .i64 15, .int .i64 0, .str []]]
theorem known1 : PureOK Tryz.prog 22 arg1 res1 := known_of cfgOK tabOK1 (k := 1000) (by kernel_rfl) (by kernel_rfl) (by kernel_rfl)
def tab2 : List (Nat × List AV × Slot) := (22, arg1, res1) :: tab1
theorem tabOK2 : ∀ e ∈ tab2, PureOK Tryz.prog e.1 e.2.1 e.2.2 := fun e he => by
  rcases List.mem_cons.mp he with h | h
  · rw [h]; exact known1
  · exact tabOK1 e h
def arg2 : List AV := [.list [.agg [.int .i64 1, .int .i64 0, .int .i64 0, .str []], .agg [.int .i64 1, .int .i64 0, .int .i64 0, .str []], .agg [.int .i64 5, .int .i64 0, .int .i64 0, .str []], .agg [.int .i64 1, .int .i64 0, .int .i64 0, .str []], .agg [.int .i64 2, .int .i64 1, .int .i64 0, .str []], .agg [.int .i64 10, .int .i64 15, .int .i64 0, .str []]], .int .i64 1]
def res2 : Slot := .tup [.v (.list [.agg [.bool true, .int .i64 0, .int .i64 1, .int .i64 0, .int .i64 0, .int .i64 0], .agg [.bool true, .int .i64 0, .int .i64 1, .int .i64 0, .int .i64 0, .int .i64 0], .agg [.bool true, .int .i64 0, .int .i64 1, .int .i64 0, .int .i64 0, .int .i64 0], .agg [.bool true, .int .i64 1, .int .i64 1, .int .i64 0, .int .i64 0, .int .i64 0], .agg [.bool true, .int .i64 1, .int .i64 1, .int .i64 0, .int .i64 0, .int .i64 0], .agg [.bool true, .int .i64 2, .int .i64 1, .int .i64 0, .int .i64 0, .int .i64 0], .agg [.bool true, .int .i64 1, .int .i64 1, .int .i64 0, .int .i64 0, .int .i64 0]]), .v (.int .i64 0)]
theorem known2 : PureOK Tryz.prog 32 arg2 res2 := known_of cfgOK tabOK2 (k := 1000) (by kernel_rfl) (by kernel_rfl) (by kernel_rfl)
def tab3 : List (Nat × List AV × Slot) := (32, arg2, res2) :: tab2
theorem tabOK3 : ∀ e ∈ tab3, PureOK Tryz.prog e.1 e.2.1 e.2.2 := fun e he => by
  rcases List.mem_cons.mp he with h | h
  · rw [h]; exact known2
  · exact tabOK2 e h
def arg3 : List AV := [.list [.agg [.int .i64 26, .int .i64 0, .int .i64 0, .str []]], .int .i64 0]
def res3 : Slot := .tup [.nil0, .v (.int .i64 7)]
theorem known3 : PureOK Tryz.prog 32 arg3 res3 := known_of cfgOK tabOK3 (k := 1000) (by kernel_rfl) (by kernel_rfl) (by kernel_rfl)
def tab4 : List (Nat × List AV × Slot) := (32, arg3, res3) :: tab3
theorem tabOK4 : ∀ e ∈ tab4, PureOK Tryz.prog e.1 e.2.1 e.2.2 := fun e he => by
  rcases List.mem_cons.mp he with h | h
  · rw [h]; exact known3
  · exact tabOK3 e h
end Go.Proofs
