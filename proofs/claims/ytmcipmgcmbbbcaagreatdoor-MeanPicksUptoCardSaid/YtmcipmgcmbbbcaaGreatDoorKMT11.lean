/- Calls of the program of which the evaluator, run by the kernel, finds the result; no conditions. -/
import Derived.Test.YtmcipmgcmbbbcaaGreatDoorKMT10
/-! Calls of the program whose results are known: each is found by the evaluator, in the kernel. -/
namespace Go.Proofs
open Go.Sw Go
def arg37 : List AV := [.agg [.str [97, 100, 100], .list [.agg [.str [120], .int .i64 2, .int .i64 0, .int .i64 9, .int .i64 0, .list []]], .list [.agg [.int .i64 2, .str [115], .int .i64 7, .int .i64 0, .str [], .list [], .list [.agg [.int .i64 4, .int .i64 0, .str [120], .list [], .list []]], .list [], .list []], .agg [.int .i64 1, .str [110], .int .i64 26, .int .i64 0, .str [], .list [], .list [.agg [.int .i64 4, .int .i64 0, .str [115], .list [], .list []]], .list [], .list []]]]]
def res37 : Slot := .v (.bool false)
theorem known37 : PureOK Tryz.prog 194 arg37 res37 := known_of cfgOK tabOK37 (k := 1000) (by kernel_rfl) (by kernel_rfl) (by kernel_rfl)
def tab38 : List (Nat × List AV × Slot) := (194, arg37, res37) :: tab37
theorem tabOK38 : ∀ e ∈ tab38, PureOK Tryz.prog e.1 e.2.1 e.2.2 := fun e he => by
  rcases List.mem_cons.mp he with h | h
  · rw [h]; exact known37
  · exact tabOK37 e h
def arg38 : List AV := [.str [97, 108, 108, 32, 97, 110, 100, 32, 98, 111, 111, 108, 32, 98, 121, 32, 99, 111, 117, 110, 116, 32, 101, 108, 115, 101, 32, 102, 97, 108, 115, 101, 32, 102, 105, 120, 32, 102, 111, 114, 32, 102, 114, 111, 109, 32, 103, 114, 101, 97, 116, 32, 105, 102, 32, 105, 110, 32, 105, 110, 116, 32, 108, 97, 119, 32, 108, 101, 97, 115, 116, 32, 109, 101, 101, 116, 32, 109, 105, 110, 117, 115, 32, 109, 111, 100, 117, 108, 101, 32, 110, 111, 110, 101, 32, 110, 111, 116, 32, 111, 112, 32, 111, 114, 32, 112, 105, 99, 107, 32, 115, 111, 109, 101, 32, 115, 117, 109, 32, 116, 101, 120, 116, 32, 116, 104, 101, 110, 32, 116, 114, 117, 101, 32, 117, 110, 105, 111, 110, 32, 118, 97, 114, 32, 119, 104, 105, 108, 101, 32, 119, 105, 116, 104, 105, 110]]
def res38 : Slot := .own 1 [.str [97, 108, 108], .str [97, 110, 100], .str [98, 111, 111, 108], .str [98, 121], .str [99, 111, 117, 110, 116], .str [101, 108, 115, 101], .str [102, 97, 108, 115, 101], .str [102, 105, 120], .str [102, 111, 114], .str [102, 114, 111, 109], .str [103, 114, 101, 97, 116], .str [105, 102], .str [105, 110], .str [105, 110, 116], .str [108, 97, 119], .str [108, 101, 97, 115, 116], .str [109, 101, 101, 116], .str [109, 105, 110, 117, 115], .str [109, 111, 100, 117, 108, 101], .str [110, 111, 110, 101], .str [110, 111, 116], .str [111, 112], .str [111, 114], .str [112, 105, 99, 107], .str [115, 111, 109, 101], .str [115, 117, 109], .str [116, 101, 120, 116], .str [116, 104, 101, 110], .str [116, 114, 117, 101], .str [117, 110, 105, 111, 110], .str [118, 97, 114], .str [119, 104, 105, 108, 101], .str [119, 105, 116, 104, 105, 110]]
theorem known38 : PureOK Tryz.prog 231 arg38 res38 := known_of cfgOK tabOK38 (k := 1000) (by kernel_rfl) (by kernel_rfl) (by kernel_rfl)
def tab39 : List (Nat × List AV × Slot) := (231, arg38, res38) :: tab38
theorem tabOK39 : ∀ e ∈ tab39, PureOK Tryz.prog e.1 e.2.1 e.2.2 := fun e he => by
  rcases List.mem_cons.mp he with h | h
  · rw [h]; exact known38
  · exact tabOK38 e h
def arg39 : List AV := [.agg [.str [111, 110, 101], .list [], .list [.agg [.int .i64 4, .str [110], .int .i64 4, .int .i64 0, .str [115], .list [], .list [], .list [], .list []]]]]
def res39 : Slot := .v (.bool true)
theorem known39 : PureOK Tryz.prog 195 arg39 res39 := known_of cfgOK tabOK39 (k := 1000) (by kernel_rfl) (by kernel_rfl) (by kernel_rfl)
def tab40 : List (Nat × List AV × Slot) := (195, arg39, res39) :: tab39
theorem tabOK40 : ∀ e ∈ tab40, PureOK Tryz.prog e.1 e.2.1 e.2.2 := fun e he => by
  rcases List.mem_cons.mp he with h | h
  · rw [h]; exact known39
  · exact tabOK39 e h
def arg40 : List AV := [.agg [.str [111, 110, 101], .list [], .list [.agg [.int .i64 4, .str [110], .int .i64 4, .int .i64 0, .str [115], .list [], .list [], .list [], .list []]]]]
def res40 : Slot := .v (.bool false)
theorem known40 : PureOK Tryz.prog 194 arg40 res40 := known_of cfgOK tabOK40 (k := 1000) (by kernel_rfl) (by kernel_rfl) (by kernel_rfl)
def tab41 : List (Nat × List AV × Slot) := (194, arg40, res40) :: tab40
theorem tabOK41 : ∀ e ∈ tab41, PureOK Tryz.prog e.1 e.2.1 e.2.2 := fun e he => by
  rcases List.mem_cons.mp he with h | h
  · rw [h]; exact known40
  · exact tabOK40 e h
def arg41 : List AV := [.list [.agg [.int .i64 6, .str [], .int .i64 14, .int .i64 0, .str [], .list [], .list [.agg [.int .i64 4, .int .i64 0, .str [110], .list [], .list []], .agg [.int .i64 1, .int .i64 5, .str [], .list [], .list []]], .list [.agg [.int .i64 1, .str [110], .int .i64 15, .int .i64 0, .str [], .list [], .list [.agg [.int .i64 4, .int .i64 0, .str [110], .list [], .list []], .agg [.int .i64 1, .int .i64 2, .str [], .list [], .list []]], .list [], .list []]], .list []]]]
def res41 : Slot := .v (.bool true)
theorem known41 : PureOK Tryz.prog 269 arg41 res41 := known_of cfgOK tabOK41 (k := 1000) (by kernel_rfl) (by kernel_rfl) (by kernel_rfl)
def tab42 : List (Nat × List AV × Slot) := (269, arg41, res41) :: tab41
theorem tabOK42 : ∀ e ∈ tab42, PureOK Tryz.prog e.1 e.2.1 e.2.2 := fun e he => by
  rcases List.mem_cons.mp he with h | h
  · rw [h]; exact known41
  · exact tabOK41 e h
def arg42 : List AV := [.list [.agg [.int .i64 6, .str [], .int .i64 14, .int .i64 0, .str [], .list [], .list [.agg [.int .i64 4, .int .i64 0, .str [110], .list [], .list []], .agg [.int .i64 1, .int .i64 5, .str [], .list [], .list []]], .list [.agg [.int .i64 1, .str [110], .int .i64 15, .int .i64 0, .str [], .list [], .list [.agg [.int .i64 4, .int .i64 0, .str [110], .list [], .list []], .agg [.int .i64 1, .int .i64 2, .str [], .list [], .list []]], .list [], .list []]], .list []]]]
def res42 : Slot := .v (.bool true)
theorem known42 : PureOK Tryz.prog 240 arg42 res42 := known_of cfgOK tabOK42 (k := 1000) (by kernel_rfl) (by kernel_rfl) (by kernel_rfl)
def tab43 : List (Nat × List AV × Slot) := (240, arg42, res42) :: tab42
theorem tabOK43 : ∀ e ∈ tab43, PureOK Tryz.prog e.1 e.2.1 e.2.2 := fun e he => by
  rcases List.mem_cons.mp he with h | h
  · rw [h]; exact known42
  · exact tabOK42 e h
def arg43 : List AV := [.agg [.str [108, 111, 111, 112], .list [], .list [.agg [.int .i64 6, .str [], .int .i64 14, .int .i64 0, .str [], .list [], .list [.agg [.int .i64 4, .int .i64 0, .str [110], .list [], .list []], .agg [.int .i64 1, .int .i64 5, .str [], .list [], .list []]], .list [.agg [.int .i64 1, .str [110], .int .i64 15, .int .i64 0, .str [], .list [], .list [.agg [.int .i64 4, .int .i64 0, .str [110], .list [], .list []], .agg [.int .i64 1, .int .i64 2, .str [], .list [], .list []]], .list [], .list []]], .list []]]]]
def res43 : Slot := .v (.bool true)
theorem known43 : PureOK Tryz.prog 195 arg43 res43 := known_of cfgOK tabOK43 (k := 1000) (by kernel_rfl) (by kernel_rfl) (by kernel_rfl)
def tab44 : List (Nat × List AV × Slot) := (195, arg43, res43) :: tab43
theorem tabOK44 : ∀ e ∈ tab44, PureOK Tryz.prog e.1 e.2.1 e.2.2 := fun e he => by
  rcases List.mem_cons.mp he with h | h
  · rw [h]; exact known43
  · exact tabOK43 e h
end Go.Proofs
