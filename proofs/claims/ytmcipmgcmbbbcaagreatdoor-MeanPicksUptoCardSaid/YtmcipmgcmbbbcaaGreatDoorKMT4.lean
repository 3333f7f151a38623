/- Calls of the program of which the evaluator, run by the kernel, finds the result; no conditions. -/
import Derived.Test.YtmcipmgcmbbbcaaGreatDoorKMT3
/-! Calls of the program whose results are known: each is found by the evaluator, in the kernel. -/
namespace Go.Proofs
open Go.Sw Go
def arg15 : List AV := [.agg [.int .i64 22, .int .i64 0, .str [], .list [.str [120]], .list [.agg [.int .i64 17, .int .i64 0, .str [], .list [], .list [.agg [.int .i64 4, .int .i64 0, .str [120], .list [], .list []], .agg [.int .i64 4, .int .i64 0, .str [120], .list [], .list []]]], .agg [.int .i64 14, .int .i64 0, .str [], .list [], .list [.agg [.int .i64 1, .int .i64 1, .str [], .list [], .list []], .agg [.int .i64 4, .int .i64 0, .str [120], .list [], .list []]]], .agg [.int .i64 7, .int .i64 0, .str [], .list [], .list [.agg [.int .i64 1, .int .i64 1, .str [], .list [], .list []], .agg [.int .i64 1, .int .i64 2, .str [], .list [], .list []], .agg [.int .i64 1, .int .i64 3, .str [], .list [], .list []]]]]]]
def res15 : Slot := .v (.bool true)
theorem known15 : PureOK Tryz.prog 122 arg15 res15 := known_of cfgOK tabOK15 (k := 1000) (by kernel_rfl) (by kernel_rfl) (by kernel_rfl)
def tab16 : List (Nat × List AV × Slot) := (122, arg15, res15) :: tab15
theorem tabOK16 : ∀ e ∈ tab16, PureOK Tryz.prog e.1 e.2.1 e.2.2 := fun e he => by
  rcases List.mem_cons.mp he with h | h
  · rw [h]; exact known15
  · exact tabOK15 e h
def arg16 : List AV := [.agg [.int .i64 22, .int .i64 0, .str [], .list [.str [120]], .list [.agg [.int .i64 17, .int .i64 0, .str [], .list [], .list [.agg [.int .i64 4, .int .i64 0, .str [120], .list [], .list []], .agg [.int .i64 4, .int .i64 0, .str [120], .list [], .list []]]], .agg [.int .i64 14, .int .i64 0, .str [], .list [], .list [.agg [.int .i64 1, .int .i64 1, .str [], .list [], .list []], .agg [.int .i64 4, .int .i64 0, .str [120], .list [], .list []]]], .agg [.int .i64 7, .int .i64 0, .str [], .list [], .list [.agg [.int .i64 1, .int .i64 1, .str [], .list [], .list []], .agg [.int .i64 1, .int .i64 2, .str [], .list [], .list []], .agg [.int .i64 1, .int .i64 3, .str [], .list [], .list []]]]]], .nils, .int .i64 100]
def res16 : Slot := .tup [.v (.agg [.int .i64 5, .int .i64 0, .str [], .list [.agg [.int .i64 1, .int .i64 4, .str [], .list []], .agg [.int .i64 1, .int .i64 9, .str [], .list []]]]), .v (.int .i64 80), .v (.int .i64 0)]
theorem known16 : PureOK Tryz.prog 71 arg16 res16 := known_of cfgOK tabOK16 (k := 1000) (by kernel_rfl) (by kernel_rfl) (by kernel_rfl)
def tab17 : List (Nat × List AV × Slot) := (71, arg16, res16) :: tab16
theorem tabOK17 : ∀ e ∈ tab17, PureOK Tryz.prog e.1 e.2.1 e.2.2 := fun e he => by
  rcases List.mem_cons.mp he with h | h
  · rw [h]; exact known16
  · exact tabOK16 e h
end Go.Proofs
