/- Calls of the program of which the evaluator, run by the kernel, finds the result; no conditions. -/
import Derived.Test.YtealodedcfjkkaaGreatDoorKT8
/- Calls of the program whose results are known: each is found by the evaluator, in the kernel. -/
namespace Go.Proofs
open Go.Sw Go
def arg19 : List AV := []
def res19 : Slot := .v (.bool true)
theorem known19 : PureOK Tryz.prog 10 arg19 res19 := known_of cfgOK tabOK19 (k := 1000) (by kernel_rfl) (by kernel_rfl) (by kernel_rfl)
def tab20 : List (Nat × List AV × Slot) := (10, arg19, res19) :: tab19
theorem tabOK20 : ∀ e ∈ tab20, PureOK Tryz.prog e.1 e.2.1 e.2.2 := fun e he => by
  rcases List.mem_cons.mp he with h | h
  · rw [h]; exact known19
  · exact tabOK19 e h
end Go.Proofs
