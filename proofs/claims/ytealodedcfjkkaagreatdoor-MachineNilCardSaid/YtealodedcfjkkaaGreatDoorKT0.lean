/- Calls of the program of which the evaluator, run by the kernel, finds the result; no conditions. -/
import Derived.Test.YtealodedcfjkkaaGreatDoorW09
/- Calls of the program whose results are known: each is found by the evaluator, in the kernel. -/
namespace Go.Proofs
open Go.Sw Go
def tab0 : List (Nat × List AV × Slot) := []
theorem tabOK0 : ∀ e ∈ tab0, PureOK Tryz.prog e.1 e.2.1 e.2.2 := fun _ h => by cases h
def arg0 : List AV := [.str [97, 108, 108, 32, 97, 110, 100, 32, 98, 111, 111, 108, 32, 98, 121, 32, 99, 111, 117, 110, 116, 32, 101, 108, 115, 101, 32, 102, 97, 108, 115, 101, 32, 102, 105, 120, 32, 102, 111, 114, 32, 102, 114, 111, 109, 32, 103, 114, 101, 97, 116, 32, 105, 102, 32, 105, 110, 32, 105, 110, 116, 32, 108, 97, 119, 32, 108, 101, 97, 115, 116, 32, 109, 101, 101, 116, 32, 109, 105, 110, 117, 115, 32, 109, 111, 100, 117, 108, 101, 32, 110, 111, 110, 101, 32, 110, 111, 116, 32, 111, 112, 32, 111, 114, 32, 112, 105, 99, 107, 32, 115, 111, 109, 101, 32, 115, 117, 109, 32, 116, 101, 120, 116, 32, 116, 104, 101, 110, 32, 116, 114, 117, 101, 32, 117, 110, 105, 111, 110, 32, 118, 97, 114, 32, 119, 104, 105, 108, 101, 32, 119, 105, 116, 104, 105, 110]]
def res0 : Slot := .own 1 [.str [97, 108, 108], .str [97, 110, 100], .str [98, 111, 111, 108], .str [98, 121], .str [99, 111, 117, 110, 116], .str [101, 108, 115, 101], .str [102, 97, 108, 115, 101], .str [102, 105, 120], .str [102, 111, 114], .str [102, 114, 111, 109], .str [103, 114, 101, 97, 116], .str [105, 102], .str [105, 110], .str [105, 110, 116], .str [108, 97, 119], .str [108, 101, 97, 115, 116], .str [109, 101, 101, 116], .str [109, 105, 110, 117, 115], .str [109, 111, 100, 117, 108, 101], .str [110, 111, 110, 101], .str [110, 111, 116], .str [111, 112], .str [111, 114], .str [112, 105, 99, 107], .str [115, 111, 109, 101], .str [115, 117, 109], .str [116, 101, 120, 116], .str [116, 104, 101, 110], .str [116, 114, 117, 101], .str [117, 110, 105, 111, 110], .str [118, 97, 114], .str [119, 104, 105, 108, 101], .str [119, 105, 116, 104, 105, 110]]
theorem known0 : PureOK Tryz.prog 138 arg0 res0 := known_of cfgOK tabOK0 (k := 1000) (by kernel_rfl) (by kernel_rfl) (by kernel_rfl)
def tab1 : List (Nat × List AV × Slot) := (138, arg0, res0) :: tab0
theorem tabOK1 : ∀ e ∈ tab1, PureOK Tryz.prog e.1 e.2.1 e.2.2 := fun e he => by
  rcases List.mem_cons.mp he with h | h
  · rw [h]; exact known0
  · exact tabOK0 e h
end Go.Proofs
