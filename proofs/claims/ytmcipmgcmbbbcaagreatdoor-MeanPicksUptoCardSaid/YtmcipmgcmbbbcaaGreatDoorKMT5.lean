/- Calls of the program of which the evaluator, run by the kernel, finds the result; no conditions. -/
import Derived.Test.YtmcipmgcmbbbcaaGreatDoorKMT4
/-! Calls of the program whose results are known: each is found by the evaluator, in the kernel. -/
namespace Go.Proofs
open Go.Sw Go
def arg17 : List AV := [.agg [.int .i64 29, .int .i64 0, .str [114], .list [], .list [.agg [.int .i64 7, .int .i64 0, .str [], .list [], .list [.agg [.int .i64 1, .int .i64 1, .str [], .list [], .list []]]], .agg [.int .i64 22, .int .i64 0, .str [], .list [.str [120]], .list [.agg [.int .i64 15, .int .i64 0, .str [], .list [], .list [.agg [.int .i64 4, .int .i64 0, .str [120], .list [], .list []], .agg [.int .i64 1, .int .i64 1, .str [], .list [], .list []]]], .agg [.int .i64 2, .int .i64 1, .str [], .list [], .list []], .agg [.int .i64 4, .int .i64 0, .str [114], .list [], .list []]]], .agg [.int .i64 7, .int .i64 0, .str [], .list [], .list [.agg [.int .i64 1, .int .i64 1, .str [], .list [], .list []], .agg [.int .i64 1, .int .i64 2, .str [], .list [], .list []], .agg [.int .i64 1, .int .i64 3, .str [], .list [], .list []]]]]]]
def res17 : Slot := .v (.bool true)
theorem known17 : PureOK Tryz.prog 122 arg17 res17 := known_of cfgOK tabOK17 (k := 1000) (by kernel_rfl) (by kernel_rfl) (by kernel_rfl)
def tab18 : List (Nat × List AV × Slot) := (122, arg17, res17) :: tab17
theorem tabOK18 : ∀ e ∈ tab18, PureOK Tryz.prog e.1 e.2.1 e.2.2 := fun e he => by
  rcases List.mem_cons.mp he with h | h
  · rw [h]; exact known17
  · exact tabOK17 e h
end Go.Proofs
