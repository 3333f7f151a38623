/- Calls of the program of which the evaluator, run by the kernel, finds the result; no conditions. -/
import Derived.Test.YtealodedcfjkkaaGreatDoorKT2
/- Calls of the program whose results are known: each is found by the evaluator, in the kernel. -/
namespace Go.Proofs
open Go.Sw Go
def arg5 : List AV := [.str [102, 105, 120, 32, 114, 32, 102, 114, 111, 109, 32, 123, 49, 125, 32, 98, 121, 32, 123, 120, 32, 43, 32, 49, 32, 58, 32, 120, 32, 105, 110, 32, 114, 125, 32, 119, 105, 116, 104, 105, 110, 32, 123, 49, 44, 32, 50, 44, 32, 51, 125]]
def res5 : Slot := .tup [.v (.agg [.int .i64 29, .int .i64 0, .str [114], .list [], .list [.agg [.int .i64 7, .int .i64 0, .str [], .list [], .list [.agg [.int .i64 1, .int .i64 1, .str [], .list [], .list []]]], .agg [.int .i64 22, .int .i64 0, .str [], .list [.str [120]], .list [.agg [.int .i64 15, .int .i64 0, .str [], .list [], .list [.agg [.int .i64 4, .int .i64 0, .str [120], .list [], .list []], .agg [.int .i64 1, .int .i64 1, .str [], .list [], .list []]]], .agg [.int .i64 2, .int .i64 1, .str [], .list [], .list []], .agg [.int .i64 4, .int .i64 0, .str [114], .list [], .list []]]], .agg [.int .i64 7, .int .i64 0, .str [], .list [], .list [.agg [.int .i64 1, .int .i64 1, .str [], .list [], .list []], .agg [.int .i64 1, .int .i64 2, .str [], .list [], .list []], .agg [.int .i64 1, .int .i64 3, .str [], .list [], .list []]]]]]), .v (.bool true)]
theorem known5 : PureOK Tryz.prog 24 arg5 res5 := known_of cfgOK tabOK5 (k := 1000) (by kernel_rfl) (by kernel_rfl) (by kernel_rfl)
def tab6 : List (Nat × List AV × Slot) := (24, arg5, res5) :: tab5
theorem tabOK6 : ∀ e ∈ tab6, PureOK Tryz.prog e.1 e.2.1 e.2.2 := fun e he => by
  rcases List.mem_cons.mp he with h | h
  · rw [h]; exact known5
  · exact tabOK5 e h
end Go.Proofs
