/- Calls of the program of which the evaluator, run by the kernel, finds the result; no conditions. -/
import Derived.Test.YtealodedcfjkkaaGreatDoorKT6
/- Calls of the program whose results are known: each is found by the evaluator, in the kernel. -/
namespace Go.Proofs
open Go.Sw Go
def arg15 : List AV := [.agg [.int .i64 5, .int .i64 0, .str [], .list [.agg [.int .i64 1, .int .i64 1, .str [], .list []], .agg [.int .i64 1, .int .i64 2, .str [], .list []]]], .agg [.int .i64 5, .int .i64 0, .str [], .list [.agg [.int .i64 1, .int .i64 2, .str [], .list []], .agg [.int .i64 1, .int .i64 3, .str [], .list []]]]]
def res15 : Slot := .tup [.v (.agg [.int .i64 5, .int .i64 0, .str [], .list [.agg [.int .i64 1, .int .i64 1, .str [], .list []], .agg [.int .i64 1, .int .i64 2, .str [], .list []], .agg [.int .i64 1, .int .i64 3, .str [], .list []]]]), .v (.int .i64 0)]
theorem known15 : PureOK Tryz.prog 166 arg15 res15 := known_of cfgOK tabOK15 (k := 1000) (by kernel_rfl) (by kernel_rfl) (by kernel_rfl)
def tab16 : List (Nat × List AV × Slot) := (166, arg15, res15) :: tab15
theorem tabOK16 : ∀ e ∈ tab16, PureOK Tryz.prog e.1 e.2.1 e.2.2 := fun e he => by
  rcases List.mem_cons.mp he with h | h
  · rw [h]; exact known15
  · exact tabOK15 e h
def arg16 : List AV := [.agg [.int .i64 5, .int .i64 0, .str [], .list [.agg [.int .i64 1, .int .i64 2, .str [], .list []], .agg [.int .i64 1, .int .i64 3, .str [], .list []]]], .agg [.int .i64 5, .int .i64 0, .str [], .list [.agg [.int .i64 1, .int .i64 4, .str [], .list []]]]]
def res16 : Slot := .tup [.v (.agg [.int .i64 5, .int .i64 0, .str [], .list [.agg [.int .i64 1, .int .i64 2, .str [], .list []], .agg [.int .i64 1, .int .i64 3, .str [], .list []], .agg [.int .i64 1, .int .i64 4, .str [], .list []]]]), .v (.int .i64 0)]
theorem known16 : PureOK Tryz.prog 166 arg16 res16 := known_of cfgOK tabOK16 (k := 1000) (by kernel_rfl) (by kernel_rfl) (by kernel_rfl)
def tab17 : List (Nat × List AV × Slot) := (166, arg16, res16) :: tab16
theorem tabOK17 : ∀ e ∈ tab17, PureOK Tryz.prog e.1 e.2.1 e.2.2 := fun e he => by
  rcases List.mem_cons.mp he with h | h
  · rw [h]; exact known16
  · exact tabOK16 e h
def arg17 : List AV := [.agg [.int .i64 5, .int .i64 0, .str [], .list [.agg [.int .i64 1, .int .i64 1, .str [], .list []], .agg [.int .i64 1, .int .i64 2, .str [], .list []], .agg [.int .i64 1, .int .i64 3, .str [], .list []]]], .agg [.int .i64 5, .int .i64 0, .str [], .list [.agg [.int .i64 1, .int .i64 2, .str [], .list []], .agg [.int .i64 1, .int .i64 3, .str [], .list []]]]]
def res17 : Slot := .tup [.v (.agg [.int .i64 5, .int .i64 0, .str [], .list [.agg [.int .i64 1, .int .i64 1, .str [], .list []], .agg [.int .i64 1, .int .i64 2, .str [], .list []], .agg [.int .i64 1, .int .i64 3, .str [], .list []]]]), .v (.int .i64 0)]
theorem known17 : PureOK Tryz.prog 166 arg17 res17 := known_of cfgOK tabOK17 (k := 1000) (by kernel_rfl) (by kernel_rfl) (by kernel_rfl)
def tab18 : List (Nat × List AV × Slot) := (166, arg17, res17) :: tab17
theorem tabOK18 : ∀ e ∈ tab18, PureOK Tryz.prog e.1 e.2.1 e.2.2 := fun e he => by
  rcases List.mem_cons.mp he with h | h
  · rw [h]; exact known17
  · exact tabOK17 e h
end Go.Proofs
