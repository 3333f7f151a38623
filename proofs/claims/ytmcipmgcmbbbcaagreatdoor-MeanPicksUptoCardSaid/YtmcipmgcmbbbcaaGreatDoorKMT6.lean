/- Calls of the program of which the evaluator, run by the kernel, finds the result; no conditions. -/
import Derived.Test.YtmcipmgcmbbbcaaGreatDoorKMT5
/-! Calls of the program whose results are known: each is found by the evaluator, in the kernel. -/
namespace Go.Proofs
open Go.Sw Go
def arg18 : List AV := [.agg [.int .i64 29, .int .i64 0, .str [114], .list [], .list [.agg [.int .i64 7, .int .i64 0, .str [], .list [], .list [.agg [.int .i64 1, .int .i64 1, .str [], .list [], .list []]]], .agg [.int .i64 22, .int .i64 0, .str [], .list [.str [120]], .list [.agg [.int .i64 15, .int .i64 0, .str [], .list [], .list [.agg [.int .i64 4, .int .i64 0, .str [120], .list [], .list []], .agg [.int .i64 1, .int .i64 1, .str [], .list [], .list []]]], .agg [.int .i64 2, .int .i64 1, .str [], .list [], .list []], .agg [.int .i64 4, .int .i64 0, .str [114], .list [], .list []]]], .agg [.int .i64 7, .int .i64 0, .str [], .list [], .list [.agg [.int .i64 1, .int .i64 1, .str [], .list [], .list []], .agg [.int .i64 1, .int .i64 2, .str [], .list [], .list []], .agg [.int .i64 1, .int .i64 3, .str [], .list [], .list []]]]]], .nils, .int .i64 100]
def res18 : Slot := .tup [.v (.agg [.int .i64 5, .int .i64 0, .str [], .list [.agg [.int .i64 1, .int .i64 1, .str [], .list []], .agg [.int .i64 1, .int .i64 2, .str [], .list []], .agg [.int .i64 1, .int .i64 3, .str [], .list []]]]), .v (.int .i64 63), .v (.int .i64 0)]
theorem known18 : PureOK Tryz.prog 71 arg18 res18 := known_of cfgOK tabOK18 (k := 1000) (by kernel_rfl) (by kernel_rfl) (by kernel_rfl)
def tab19 : List (Nat × List AV × Slot) := (71, arg18, res18) :: tab18
theorem tabOK19 : ∀ e ∈ tab19, PureOK Tryz.prog e.1 e.2.1 e.2.2 := fun e he => by
  rcases List.mem_cons.mp he with h | h
  · rw [h]; exact known18
  · exact tabOK18 e h
end Go.Proofs
