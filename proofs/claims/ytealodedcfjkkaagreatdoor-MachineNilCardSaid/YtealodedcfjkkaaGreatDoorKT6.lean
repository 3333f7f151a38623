/- Calls of the program of which the evaluator, run by the kernel, finds the result; no conditions. -/
import Derived.Test.YtealodedcfjkkaaGreatDoorKT5
/- Calls of the program whose results are known: each is found by the evaluator, in the kernel. -/
namespace Go.Proofs
open Go.Sw Go
def arg12 : List AV := [.iface 221 (.agg [.int .i64 5, .int .i64 0, .str [], .list []]), .agg [.int .i64 1, .int .i64 2, .str [], .list []], .bool false]
def res12 : Slot := .v (.iface 221 (.agg [.int .i64 5, .int .i64 0, .str [], .list [.agg [.int .i64 1, .int .i64 2, .str [], .list []]]]))
theorem known12 : PureOK Tryz.prog 163 arg12 res12 := known_of cfgOK tabOK12 (k := 1000) (by kernel_rfl) (by kernel_rfl) (by kernel_rfl)
def tab13 : List (Nat × List AV × Slot) := (163, arg12, res12) :: tab12
theorem tabOK13 : ∀ e ∈ tab13, PureOK Tryz.prog e.1 e.2.1 e.2.2 := fun e he => by
  rcases List.mem_cons.mp he with h | h
  · rw [h]; exact known12
  · exact tabOK12 e h
def arg13 : List AV := [.iface 221 (.agg [.int .i64 5, .int .i64 0, .str [], .list [.agg [.int .i64 1, .int .i64 2, .str [], .list []]]]), .agg [.int .i64 1, .int .i64 3, .str [], .list []], .bool false]
def res13 : Slot := .v (.iface 221 (.agg [.int .i64 5, .int .i64 0, .str [], .list [.agg [.int .i64 1, .int .i64 2, .str [], .list []], .agg [.int .i64 1, .int .i64 3, .str [], .list []]]]))
theorem known13 : PureOK Tryz.prog 163 arg13 res13 := known_of cfgOK tabOK13 (k := 1000) (by kernel_rfl) (by kernel_rfl) (by kernel_rfl)
def tab14 : List (Nat × List AV × Slot) := (163, arg13, res13) :: tab13
theorem tabOK14 : ∀ e ∈ tab14, PureOK Tryz.prog e.1 e.2.1 e.2.2 := fun e he => by
  rcases List.mem_cons.mp he with h | h
  · rw [h]; exact known13
  · exact tabOK13 e h
def arg14 : List AV := [.iface 221 (.agg [.int .i64 5, .int .i64 0, .str [], .list [.agg [.int .i64 1, .int .i64 2, .str [], .list []], .agg [.int .i64 1, .int .i64 3, .str [], .list []]]]), .agg [.int .i64 1, .int .i64 4, .str [], .list []], .bool false]
def res14 : Slot := .v (.iface 221 (.agg [.int .i64 5, .int .i64 0, .str [], .list [.agg [.int .i64 1, .int .i64 2, .str [], .list []], .agg [.int .i64 1, .int .i64 3, .str [], .list []], .agg [.int .i64 1, .int .i64 4, .str [], .list []]]]))
theorem known14 : PureOK Tryz.prog 163 arg14 res14 := known_of cfgOK tabOK14 (k := 1000) (by kernel_rfl) (by kernel_rfl) (by kernel_rfl)
def tab15 : List (Nat × List AV × Slot) := (163, arg14, res14) :: tab14
theorem tabOK15 : ∀ e ∈ tab15, PureOK Tryz.prog e.1 e.2.1 e.2.2 := fun e he => by
  rcases List.mem_cons.mp he with h | h
  · rw [h]; exact known14
  · exact tabOK14 e h
end Go.Proofs
