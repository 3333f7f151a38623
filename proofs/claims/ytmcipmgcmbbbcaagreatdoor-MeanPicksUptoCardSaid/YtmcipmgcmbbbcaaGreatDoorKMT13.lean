/- Calls of the program of which the evaluator, run by the kernel, finds the result; no conditions. -/
import Derived.Test.YtmcipmgcmbbbcaaGreatDoorKMT12
/-! Calls of the program whose results are known: each is found by the evaluator, in the kernel. -/
namespace Go.Proofs
open Go.Sw Go
def arg48 : List AV := []
def res48 : Slot := .v (.bool true)
theorem known48 : PureOK Tryz.prog 17 arg48 res48 := known_of cfgOK tabOK48 (k := 1000) (by kernel_rfl) (by kernel_rfl) (by kernel_rfl)
def tab49 : List (Nat × List AV × Slot) := (17, arg48, res48) :: tab48
theorem tabOK49 : ∀ e ∈ tab49, PureOK Tryz.prog e.1 e.2.1 e.2.2 := fun e he => by
  rcases List.mem_cons.mp he with h | h
  · rw [h]; exact known48
  · exact tabOK48 e h
end Go.Proofs
