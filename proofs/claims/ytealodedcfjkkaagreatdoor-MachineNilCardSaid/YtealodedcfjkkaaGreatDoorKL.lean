/- Calls of the program of which the evaluator, run by the kernel, finds the result; no conditions. -/
import Derived.Test.YtealodedcfjkkaaGreatDoorKT9
namespace Go.Proofs
open Go.Sw Go
theorem knownNil : PureOK Tryz.prog 3 [] (.v (.bool true)) := known_of cfgOK tabOK20 (k := 1000) (by kernel_rfl) (by kernel_rfl) (by kernel_rfl)
end Go.Proofs
