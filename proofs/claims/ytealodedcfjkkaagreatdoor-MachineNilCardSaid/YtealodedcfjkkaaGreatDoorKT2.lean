/- Calls of the program of which the evaluator, run by the kernel, finds the result; no conditions. -/
import Derived.Test.YtealodedcfjkkaaGreatDoorKT1
/- Calls of the program whose results are known: each is found by the evaluator, in the kernel. -/
namespace Go.Proofs
open Go.Sw Go
def arg4 : List AV := [.str [102, 105, 120, 32, 114, 32, 102, 114, 111, 109, 32, 123, 49, 125, 32, 98, 121, 32, 123, 120, 32, 43, 32, 49, 32, 58, 32, 120, 32, 105, 110, 32, 114, 125, 32, 119, 105, 116, 104, 105, 110, 32, 123, 49, 44, 32, 50, 44, 32, 51, 125]]
def res4 : Slot := .tup [.v (.list [.agg [.int .i64 2, .str [102, 105, 120], .int .i64 0, .int .i64 0], .agg [.int .i64 1, .str [114], .int .i64 0, .int .i64 4], .agg [.int .i64 2, .str [102, 114, 111, 109], .int .i64 0, .int .i64 6], .agg [.int .i64 5, .str [123], .int .i64 0, .int .i64 11], .agg [.int .i64 3, .str [], .int .i64 1, .int .i64 12], .agg [.int .i64 5, .str [125], .int .i64 0, .int .i64 13], .agg [.int .i64 2, .str [98, 121], .int .i64 0, .int .i64 15], .agg [.int .i64 5, .str [123], .int .i64 0, .int .i64 18], .agg [.int .i64 1, .str [120], .int .i64 0, .int .i64 19], .agg [.int .i64 5, .str [43], .int .i64 0, .int .i64 21], .agg [.int .i64 3, .str [], .int .i64 1, .int .i64 23], .agg [.int .i64 5, .str [58], .int .i64 0, .int .i64 25], .agg [.int .i64 1, .str [120], .int .i64 0, .int .i64 27], .agg [.int .i64 2, .str [105, 110], .int .i64 0, .int .i64 29], .agg [.int .i64 1, .str [114], .int .i64 0, .int .i64 32], .agg [.int .i64 5, .str [125], .int .i64 0, .int .i64 33], .agg [.int .i64 2, .str [119, 105, 116, 104, 105, 110], .int .i64 0, .int .i64 35], .agg [.int .i64 5, .str [123], .int .i64 0, .int .i64 42], .agg [.int .i64 3, .str [], .int .i64 1, .int .i64 43], .agg [.int .i64 5, .str [44], .int .i64 0, .int .i64 44], .agg [.int .i64 3, .str [], .int .i64 2, .int .i64 46], .agg [.int .i64 5, .str [44], .int .i64 0, .int .i64 47], .agg [.int .i64 3, .str [], .int .i64 3, .int .i64 49], .agg [.int .i64 5, .str [125], .int .i64 0, .int .i64 50]]), .v (.int .i64 0), .v (.int .i64 0)]
theorem known4 : PureOK Tryz.prog 35 arg4 res4 := known_of cfgOK tabOK4 (k := 1000) (by kernel_rfl) (by kernel_rfl) (by kernel_rfl)
def tab5 : List (Nat × List AV × Slot) := (35, arg4, res4) :: tab4
theorem tabOK5 : ∀ e ∈ tab5, PureOK Tryz.prog e.1 e.2.1 e.2.2 := fun e he => by
  rcases List.mem_cons.mp he with h | h
  · rw [h]; exact known4
  · exact tabOK4 e h
end Go.Proofs
