/- Calls of the program of which the evaluator, run by the kernel, finds the result; no conditions. -/
import Derived.Test.YtmcipmgcmbbbcaaGreatDoorW09
import Derived.Test.YtmcipmgcmbbbcaaGreatDoorC02
/-! Calls of the program whose results are known: each is found by the evaluator, in the kernel. -/
namespace Go.Proofs
open Go.Sw Go
def tab0 : List (Nat × List AV × Slot) := []
theorem tabOK0 : ∀ e ∈ tab0, PureOK Tryz.prog e.1 e.2.1 e.2.2 := fun _ h => by cases h
def arg0 : List AV := [.str [123, 120, 32, 42, 32, 120, 32, 58, 32, 120, 32, 105, 110, 32, 123, 49, 44, 32, 50, 44, 32, 51, 125, 32, 105, 102, 32, 49, 32, 60, 32, 120, 125]]
def res0 : Slot := .tup [.v (.list [.agg [.int .i64 5, .str [123], .int .i64 0, .int .i64 0], .agg [.int .i64 1, .str [120], .int .i64 0, .int .i64 1], .agg [.int .i64 5, .str [42], .int .i64 0, .int .i64 3], .agg [.int .i64 1, .str [120], .int .i64 0, .int .i64 5], .agg [.int .i64 5, .str [58], .int .i64 0, .int .i64 7], .agg [.int .i64 1, .str [120], .int .i64 0, .int .i64 9], .agg [.int .i64 2, .str [105, 110], .int .i64 0, .int .i64 11], .agg [.int .i64 5, .str [123], .int .i64 0, .int .i64 14], .agg [.int .i64 3, .str [], .int .i64 1, .int .i64 15], .agg [.int .i64 5, .str [44], .int .i64 0, .int .i64 16], .agg [.int .i64 3, .str [], .int .i64 2, .int .i64 18], .agg [.int .i64 5, .str [44], .int .i64 0, .int .i64 19], .agg [.int .i64 3, .str [], .int .i64 3, .int .i64 21], .agg [.int .i64 5, .str [125], .int .i64 0, .int .i64 22], .agg [.int .i64 2, .str [105, 102], .int .i64 0, .int .i64 24], .agg [.int .i64 3, .str [], .int .i64 1, .int .i64 27], .agg [.int .i64 5, .str [60], .int .i64 0, .int .i64 29], .agg [.int .i64 1, .str [120], .int .i64 0, .int .i64 31], .agg [.int .i64 5, .str [125], .int .i64 0, .int .i64 32]]), .v (.int .i64 0), .v (.int .i64 0)]
theorem known0 : PureOK Tryz.prog 118 arg0 res0 := known_of cfgOK tabOK0 (k := 1000) (by kernel_rfl) (by kernel_rfl) (by kernel_rfl)
def tab1 : List (Nat × List AV × Slot) := (118, arg0, res0) :: tab0
theorem tabOK1 : ∀ e ∈ tab1, PureOK Tryz.prog e.1 e.2.1 e.2.2 := fun e he => by
  rcases List.mem_cons.mp he with h | h
  · rw [h]; exact known0
  · exact tabOK0 e h
def arg1 : List AV := [.list [.agg [.int .i64 5, .str [123], .int .i64 0, .int .i64 0], .agg [.int .i64 1, .str [120], .int .i64 0, .int .i64 1], .agg [.int .i64 5, .str [42], .int .i64 0, .int .i64 3], .agg [.int .i64 1, .str [120], .int .i64 0, .int .i64 5], .agg [.int .i64 5, .str [58], .int .i64 0, .int .i64 7], .agg [.int .i64 1, .str [120], .int .i64 0, .int .i64 9], .agg [.int .i64 2, .str [105, 110], .int .i64 0, .int .i64 11], .agg [.int .i64 5, .str [123], .int .i64 0, .int .i64 14], .agg [.int .i64 3, .str [], .int .i64 1, .int .i64 15], .agg [.int .i64 5, .str [44], .int .i64 0, .int .i64 16], .agg [.int .i64 3, .str [], .int .i64 2, .int .i64 18], .agg [.int .i64 5, .str [44], .int .i64 0, .int .i64 19], .agg [.int .i64 3, .str [], .int .i64 3, .int .i64 21], .agg [.int .i64 5, .str [125], .int .i64 0, .int .i64 22], .agg [.int .i64 2, .str [105, 102], .int .i64 0, .int .i64 24], .agg [.int .i64 3, .str [], .int .i64 1, .int .i64 27], .agg [.int .i64 5, .str [60], .int .i64 0, .int .i64 29], .agg [.int .i64 1, .str [120], .int .i64 0, .int .i64 31], .agg [.int .i64 5, .str [125], .int .i64 0, .int .i64 32]], .int .i64 1, .int .i64 1]
def res1 : Slot := .tup [.v (.agg [.int .i64 17, .int .i64 0, .str [], .list [], .list [.agg [.int .i64 4, .int .i64 0, .str [120], .list [], .list []], .agg [.int .i64 4, .int .i64 0, .str [120], .list [], .list []]]]), .v (.int .i64 4)]
theorem known1 : PureOK Tryz.prog 119 arg1 res1 := known_of cfgOK tabOK1 (k := 1000) (by kernel_rfl) (by kernel_rfl) (by kernel_rfl)
def tab2 : List (Nat × List AV × Slot) := (119, arg1, res1) :: tab1
theorem tabOK2 : ∀ e ∈ tab2, PureOK Tryz.prog e.1 e.2.1 e.2.2 := fun e he => by
  rcases List.mem_cons.mp he with h | h
  · rw [h]; exact known1
  · exact tabOK1 e h
def arg2 : List AV := [.list [.agg [.int .i64 5, .str [123], .int .i64 0, .int .i64 0], .agg [.int .i64 1, .str [120], .int .i64 0, .int .i64 1], .agg [.int .i64 5, .str [42], .int .i64 0, .int .i64 3], .agg [.int .i64 1, .str [120], .int .i64 0, .int .i64 5], .agg [.int .i64 5, .str [58], .int .i64 0, .int .i64 7], .agg [.int .i64 1, .str [120], .int .i64 0, .int .i64 9], .agg [.int .i64 2, .str [105, 110], .int .i64 0, .int .i64 11], .agg [.int .i64 5, .str [123], .int .i64 0, .int .i64 14], .agg [.int .i64 3, .str [], .int .i64 1, .int .i64 15], .agg [.int .i64 5, .str [44], .int .i64 0, .int .i64 16], .agg [.int .i64 3, .str [], .int .i64 2, .int .i64 18], .agg [.int .i64 5, .str [44], .int .i64 0, .int .i64 19], .agg [.int .i64 3, .str [], .int .i64 3, .int .i64 21], .agg [.int .i64 5, .str [125], .int .i64 0, .int .i64 22], .agg [.int .i64 2, .str [105, 102], .int .i64 0, .int .i64 24], .agg [.int .i64 3, .str [], .int .i64 1, .int .i64 27], .agg [.int .i64 5, .str [60], .int .i64 0, .int .i64 29], .agg [.int .i64 1, .str [120], .int .i64 0, .int .i64 31], .agg [.int .i64 5, .str [125], .int .i64 0, .int .i64 32]], .int .i64 10]
def res2 : Slot := .tup [.v (.list [.agg [.int .i64 1, .int .i64 2, .str [], .list [], .list []], .agg [.int .i64 1, .int .i64 3, .str [], .list [], .list []]]), .v (.int .i64 13)]
theorem known2 : PureOK Tryz.prog 259 arg2 res2 := known_of cfgOK tabOK2 (k := 1000) (by kernel_rfl) (by kernel_rfl) (by kernel_rfl)
def tab3 : List (Nat × List AV × Slot) := (259, arg2, res2) :: tab2
theorem tabOK3 : ∀ e ∈ tab3, PureOK Tryz.prog e.1 e.2.1 e.2.2 := fun e he => by
  rcases List.mem_cons.mp he with h | h
  · rw [h]; exact known2
  · exact tabOK2 e h
end Go.Proofs
