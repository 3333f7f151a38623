/- Calls of the program of which the evaluator, run by the kernel, finds the result; no conditions. -/
import Derived.Test.YtealodedcfjkkaaGreatDoorKT4
/- Calls of the program whose results are known: each is found by the evaluator, in the kernel. -/
namespace Go.Proofs
open Go.Sw Go
def arg8 : List AV := [.agg [.int .i64 5, .int .i64 0, .str [], .list [.agg [.int .i64 1, .int .i64 1, .str [], .list []]]], .agg [.int .i64 5, .int .i64 0, .str [], .list [.agg [.int .i64 1, .int .i64 1, .str [], .list []], .agg [.int .i64 1, .int .i64 2, .str [], .list []], .agg [.int .i64 1, .int .i64 3, .str [], .list []]]]]
def res8 : Slot := .tup [.v (.agg [.int .i64 5, .int .i64 0, .str [], .list [.agg [.int .i64 1, .int .i64 1, .str [], .list []]]]), .v (.int .i64 0)]
theorem known8 : PureOK Tryz.prog 165 arg8 res8 := known_of cfgOK tabOK8 (k := 1000) (by kernel_rfl) (by kernel_rfl) (by kernel_rfl)
def tab9 : List (Nat × List AV × Slot) := (165, arg8, res8) :: tab8
theorem tabOK9 : ∀ e ∈ tab9, PureOK Tryz.prog e.1 e.2.1 e.2.2 := fun e he => by
  rcases List.mem_cons.mp he with h | h
  · rw [h]; exact known8
  · exact tabOK8 e h
def arg9 : List AV := [.agg [.int .i64 5, .int .i64 0, .str [], .list [.agg [.int .i64 1, .int .i64 2, .str [], .list []]]], .agg [.int .i64 5, .int .i64 0, .str [], .list [.agg [.int .i64 1, .int .i64 1, .str [], .list []], .agg [.int .i64 1, .int .i64 2, .str [], .list []], .agg [.int .i64 1, .int .i64 3, .str [], .list []]]]]
def res9 : Slot := .tup [.v (.agg [.int .i64 5, .int .i64 0, .str [], .list [.agg [.int .i64 1, .int .i64 2, .str [], .list []]]]), .v (.int .i64 0)]
theorem known9 : PureOK Tryz.prog 165 arg9 res9 := known_of cfgOK tabOK9 (k := 1000) (by kernel_rfl) (by kernel_rfl) (by kernel_rfl)
def tab10 : List (Nat × List AV × Slot) := (165, arg9, res9) :: tab9
theorem tabOK10 : ∀ e ∈ tab10, PureOK Tryz.prog e.1 e.2.1 e.2.2 := fun e he => by
  rcases List.mem_cons.mp he with h | h
  · rw [h]; exact known9
  · exact tabOK9 e h
def arg10 : List AV := [.agg [.int .i64 5, .int .i64 0, .str [], .list [.agg [.int .i64 1, .int .i64 2, .str [], .list []], .agg [.int .i64 1, .int .i64 3, .str [], .list []]]], .agg [.int .i64 5, .int .i64 0, .str [], .list [.agg [.int .i64 1, .int .i64 1, .str [], .list []], .agg [.int .i64 1, .int .i64 2, .str [], .list []], .agg [.int .i64 1, .int .i64 3, .str [], .list []]]]]
def res10 : Slot := .tup [.v (.agg [.int .i64 5, .int .i64 0, .str [], .list [.agg [.int .i64 1, .int .i64 2, .str [], .list []], .agg [.int .i64 1, .int .i64 3, .str [], .list []]]]), .v (.int .i64 0)]
theorem known10 : PureOK Tryz.prog 165 arg10 res10 := known_of cfgOK tabOK10 (k := 1000) (by kernel_rfl) (by kernel_rfl) (by kernel_rfl)
def tab11 : List (Nat × List AV × Slot) := (165, arg10, res10) :: tab10
theorem tabOK11 : ∀ e ∈ tab11, PureOK Tryz.prog e.1 e.2.1 e.2.2 := fun e he => by
  rcases List.mem_cons.mp he with h | h
  · rw [h]; exact known10
  · exact tabOK10 e h
def arg11 : List AV := [.agg [.int .i64 5, .int .i64 0, .str [], .list [.agg [.int .i64 1, .int .i64 2, .str [], .list []], .agg [.int .i64 1, .int .i64 3, .str [], .list []], .agg [.int .i64 1, .int .i64 4, .str [], .list []]]], .agg [.int .i64 5, .int .i64 0, .str [], .list [.agg [.int .i64 1, .int .i64 1, .str [], .list []], .agg [.int .i64 1, .int .i64 2, .str [], .list []], .agg [.int .i64 1, .int .i64 3, .str [], .list []]]]]
def res11 : Slot := .tup [.v (.agg [.int .i64 5, .int .i64 0, .str [], .list [.agg [.int .i64 1, .int .i64 2, .str [], .list []], .agg [.int .i64 1, .int .i64 3, .str [], .list []]]]), .v (.int .i64 0)]
theorem known11 : PureOK Tryz.prog 165 arg11 res11 := known_of cfgOK tabOK11 (k := 1000) (by kernel_rfl) (by kernel_rfl) (by kernel_rfl)
def tab12 : List (Nat × List AV × Slot) := (165, arg11, res11) :: tab11
theorem tabOK12 : ∀ e ∈ tab12, PureOK Tryz.prog e.1 e.2.1 e.2.2 := fun e he => by
  rcases List.mem_cons.mp he with h | h
  · rw [h]; exact known11
  · exact tabOK11 e h
end Go.Proofs
