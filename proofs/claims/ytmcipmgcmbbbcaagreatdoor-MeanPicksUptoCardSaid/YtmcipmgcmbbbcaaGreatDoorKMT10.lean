/- Calls of the program of which the evaluator, run by the kernel, finds the result; no conditions. -/
import Derived.Test.YtmcipmgcmbbbcaaGreatDoorKMT9
/-! Calls of the program whose results are known: each is found by the evaluator, in the kernel. -/
namespace Go.Proofs
open Go.Sw Go
def arg29 : List AV := [.str [109, 111, 100, 117, 108, 101, 32, 109, 32, 123, 32, 118, 97, 114, 32, 115, 32, 58, 32, 123, 105, 110, 116, 32, 48, 46, 46, 57, 125, 32, 49, 48, 32, 61, 32, 123, 49, 44, 32, 50, 125, 59, 32, 118, 97, 114, 32, 110, 32, 58, 32, 105, 110, 116, 32, 48, 46, 46, 57, 57, 32, 61, 32, 48, 59, 32, 111, 112, 32, 97, 100, 100, 40, 120, 32, 58, 32, 105, 110, 116, 32, 48, 46, 46, 57, 41, 32, 123, 32, 115, 32, 43, 61, 32, 123, 120, 125, 59, 32, 110, 32, 58, 61, 32, 99, 111, 117, 110, 116, 40, 115, 41, 59, 32, 125, 32, 111, 112, 32, 111, 110, 101, 40, 41, 32, 123, 32, 112, 105, 99, 107, 32, 110, 32, 102, 114, 111, 109, 32, 115, 59, 32, 125, 32, 111, 112, 32, 108, 111, 111, 112, 40, 41, 32, 123, 32, 119, 104, 105, 108, 101, 32, 110, 32, 60, 32, 53, 32, 123, 32, 110, 32, 58, 61, 32, 110, 32, 43, 32, 50, 59, 32, 125, 32, 125, 32, 108, 97, 119, 32, 108, 111, 119, 32, 61, 32, 110, 32, 60, 32, 51, 59, 32, 125]]
def res29 : Slot := .tup [.v (.agg [.str [109], .list [.agg [.str [115], .int .i64 6, .int .i64 0, .int .i64 0, .int .i64 10, .list [.agg [.int .i64 2, .int .i64 0, .int .i64 9, .int .i64 0, .list []]], .int .i64 7, .int .i64 0, .str [], .list [], .list [.agg [.int .i64 1, .int .i64 1, .str [], .list [], .list []], .agg [.int .i64 1, .int .i64 2, .str [], .list [], .list []]]], .agg [.str [110], .int .i64 2, .int .i64 0, .int .i64 99, .int .i64 0, .list [], .int .i64 1, .int .i64 0, .str [], .list [], .list []]], .list [.agg [.str [97, 100, 100], .list [.agg [.str [120], .int .i64 2, .int .i64 0, .int .i64 9, .int .i64 0, .list []]], .list [.agg [.int .i64 2, .str [115], .int .i64 7, .int .i64 0, .str [], .list [], .list [.agg [.int .i64 4, .int .i64 0, .str [120], .list [], .list []]], .list [], .list []], .agg [.int .i64 1, .str [110], .int .i64 26, .int .i64 0, .str [], .list [], .list [.agg [.int .i64 4, .int .i64 0, .str [115], .list [], .list []]], .list [], .list []]]], .agg [.str [111, 110, 101], .list [], .list [.agg [.int .i64 4, .str [110], .int .i64 4, .int .i64 0, .str [115], .list [], .list [], .list [], .list []]]], .agg [.str [108, 111, 111, 112], .list [], .list [.agg [.int .i64 6, .str [], .int .i64 14, .int .i64 0, .str [], .list [], .list [.agg [.int .i64 4, .int .i64 0, .str [110], .list [], .list []], .agg [.int .i64 1, .int .i64 5, .str [], .list [], .list []]], .list [.agg [.int .i64 1, .str [110], .int .i64 15, .int .i64 0, .str [], .list [], .list [.agg [.int .i64 4, .int .i64 0, .str [110], .list [], .list []], .agg [.int .i64 1, .int .i64 2, .str [], .list [], .list []]], .list [], .list []]], .list []]]]], .list [.agg [.str [108, 111, 119], .int .i64 14, .int .i64 0, .str [], .list [], .list [.agg [.int .i64 4, .int .i64 0, .str [110], .list [], .list []], .agg [.int .i64 1, .int .i64 3, .str [], .list [], .list []]]]]]), .v (.bool true)]
theorem known29 : PureOK Tryz.prog 120 arg29 res29 := known_of cfgOK tabOK29 (k := 1000) (by kernel_rfl) (by kernel_rfl) (by kernel_rfl)
def tab30 : List (Nat × List AV × Slot) := (120, arg29, res29) :: tab29
theorem tabOK30 : ∀ e ∈ tab30, PureOK Tryz.prog e.1 e.2.1 e.2.2 := fun e he => by
  rcases List.mem_cons.mp he with h | h
  · rw [h]; exact known29
  · exact tabOK29 e h
def arg30 : List AV := []
def res30 : Slot := .v (.agg [.str [109], .list [.agg [.str [115], .int .i64 6, .int .i64 0, .int .i64 0, .int .i64 10, .list [.agg [.int .i64 2, .int .i64 0, .int .i64 9, .int .i64 0, .list []]], .int .i64 7, .int .i64 0, .str [], .list [], .list [.agg [.int .i64 1, .int .i64 1, .str [], .list [], .list []], .agg [.int .i64 1, .int .i64 2, .str [], .list [], .list []]]], .agg [.str [110], .int .i64 2, .int .i64 0, .int .i64 99, .int .i64 0, .list [], .int .i64 1, .int .i64 0, .str [], .list [], .list []]], .list [.agg [.str [97, 100, 100], .list [.agg [.str [120], .int .i64 2, .int .i64 0, .int .i64 9, .int .i64 0, .list []]], .list [.agg [.int .i64 2, .str [115], .int .i64 7, .int .i64 0, .str [], .list [], .list [.agg [.int .i64 4, .int .i64 0, .str [120], .list [], .list []]], .list [], .list []], .agg [.int .i64 1, .str [110], .int .i64 26, .int .i64 0, .str [], .list [], .list [.agg [.int .i64 4, .int .i64 0, .str [115], .list [], .list []]], .list [], .list []]]], .agg [.str [111, 110, 101], .list [], .list [.agg [.int .i64 4, .str [110], .int .i64 4, .int .i64 0, .str [115], .list [], .list [], .list [], .list []]]], .agg [.str [108, 111, 111, 112], .list [], .list [.agg [.int .i64 6, .str [], .int .i64 14, .int .i64 0, .str [], .list [], .list [.agg [.int .i64 4, .int .i64 0, .str [110], .list [], .list []], .agg [.int .i64 1, .int .i64 5, .str [], .list [], .list []]], .list [.agg [.int .i64 1, .str [110], .int .i64 15, .int .i64 0, .str [], .list [], .list [.agg [.int .i64 4, .int .i64 0, .str [110], .list [], .list []], .agg [.int .i64 1, .int .i64 2, .str [], .list [], .list []]], .list [], .list []]], .list []]]]], .list [.agg [.str [108, 111, 119], .int .i64 14, .int .i64 0, .str [], .list [], .list [.agg [.int .i64 4, .int .i64 0, .str [110], .list [], .list []], .agg [.int .i64 1, .int .i64 3, .str [], .list [], .list []]]]]])
theorem known30 : PureOK Tryz.prog 64 arg30 res30 := known_of cfgOK tabOK30 (k := 1000) (by kernel_rfl) (by kernel_rfl) (by kernel_rfl)
def tab31 : List (Nat × List AV × Slot) := (64, arg30, res30) :: tab30
theorem tabOK31 : ∀ e ∈ tab31, PureOK Tryz.prog e.1 e.2.1 e.2.2 := fun e he => by
  rcases List.mem_cons.mp he with h | h
  · rw [h]; exact known30
  · exact tabOK30 e h
def arg31 : List AV := [.str [109]]
def res31 : Slot := .v (.bool true)
theorem known31 : PureOK Tryz.prog 125 arg31 res31 := known_of cfgOK tabOK31 (k := 1000) (by kernel_rfl) (by kernel_rfl) (by kernel_rfl)
def tab32 : List (Nat × List AV × Slot) := (125, arg31, res31) :: tab31
theorem tabOK32 : ∀ e ∈ tab32, PureOK Tryz.prog e.1 e.2.1 e.2.2 := fun e he => by
  rcases List.mem_cons.mp he with h | h
  · rw [h]; exact known31
  · exact tabOK31 e h
def arg32 : List AV := [.str [97, 100, 100]]
def res32 : Slot := .v (.bool true)
theorem known32 : PureOK Tryz.prog 125 arg32 res32 := known_of cfgOK tabOK32 (k := 1000) (by kernel_rfl) (by kernel_rfl) (by kernel_rfl)
def tab33 : List (Nat × List AV × Slot) := (125, arg32, res32) :: tab32
theorem tabOK33 : ∀ e ∈ tab33, PureOK Tryz.prog e.1 e.2.1 e.2.2 := fun e he => by
  rcases List.mem_cons.mp he with h | h
  · rw [h]; exact known32
  · exact tabOK32 e h
def arg33 : List AV := [.str [115]]
def res33 : Slot := .v (.bool true)
theorem known33 : PureOK Tryz.prog 125 arg33 res33 := known_of cfgOK tabOK33 (k := 1000) (by kernel_rfl) (by kernel_rfl) (by kernel_rfl)
def tab34 : List (Nat × List AV × Slot) := (125, arg33, res33) :: tab33
theorem tabOK34 : ∀ e ∈ tab34, PureOK Tryz.prog e.1 e.2.1 e.2.2 := fun e he => by
  rcases List.mem_cons.mp he with h | h
  · rw [h]; exact known33
  · exact tabOK33 e h
def arg34 : List AV := [.list [.agg [.int .i64 2, .str [115], .int .i64 7, .int .i64 0, .str [], .list [], .list [.agg [.int .i64 4, .int .i64 0, .str [120], .list [], .list []]], .list [], .list []], .agg [.int .i64 1, .str [110], .int .i64 26, .int .i64 0, .str [], .list [], .list [.agg [.int .i64 4, .int .i64 0, .str [115], .list [], .list []]], .list [], .list []]]]
def res34 : Slot := .v (.bool true)
theorem known34 : PureOK Tryz.prog 269 arg34 res34 := known_of cfgOK tabOK34 (k := 1000) (by kernel_rfl) (by kernel_rfl) (by kernel_rfl)
def tab35 : List (Nat × List AV × Slot) := (269, arg34, res34) :: tab34
theorem tabOK35 : ∀ e ∈ tab35, PureOK Tryz.prog e.1 e.2.1 e.2.2 := fun e he => by
  rcases List.mem_cons.mp he with h | h
  · rw [h]; exact known34
  · exact tabOK34 e h
def arg35 : List AV := [.list [.agg [.int .i64 2, .str [115], .int .i64 7, .int .i64 0, .str [], .list [], .list [.agg [.int .i64 4, .int .i64 0, .str [120], .list [], .list []]], .list [], .list []], .agg [.int .i64 1, .str [110], .int .i64 26, .int .i64 0, .str [], .list [], .list [.agg [.int .i64 4, .int .i64 0, .str [115], .list [], .list []]], .list [], .list []]]]
def res35 : Slot := .v (.bool true)
theorem known35 : PureOK Tryz.prog 240 arg35 res35 := known_of cfgOK tabOK35 (k := 1000) (by kernel_rfl) (by kernel_rfl) (by kernel_rfl)
def tab36 : List (Nat × List AV × Slot) := (240, arg35, res35) :: tab35
theorem tabOK36 : ∀ e ∈ tab36, PureOK Tryz.prog e.1 e.2.1 e.2.2 := fun e he => by
  rcases List.mem_cons.mp he with h | h
  · rw [h]; exact known35
  · exact tabOK35 e h
def arg36 : List AV := [.agg [.str [97, 100, 100], .list [.agg [.str [120], .int .i64 2, .int .i64 0, .int .i64 9, .int .i64 0, .list []]], .list [.agg [.int .i64 2, .str [115], .int .i64 7, .int .i64 0, .str [], .list [], .list [.agg [.int .i64 4, .int .i64 0, .str [120], .list [], .list []]], .list [], .list []], .agg [.int .i64 1, .str [110], .int .i64 26, .int .i64 0, .str [], .list [], .list [.agg [.int .i64 4, .int .i64 0, .str [115], .list [], .list []]], .list [], .list []]]]]
def res36 : Slot := .v (.bool true)
theorem known36 : PureOK Tryz.prog 195 arg36 res36 := known_of cfgOK tabOK36 (k := 1000) (by kernel_rfl) (by kernel_rfl) (by kernel_rfl)
def tab37 : List (Nat × List AV × Slot) := (195, arg36, res36) :: tab36
theorem tabOK37 : ∀ e ∈ tab37, PureOK Tryz.prog e.1 e.2.1 e.2.2 := fun e he => by
  rcases List.mem_cons.mp he with h | h
  · rw [h]; exact known36
  · exact tabOK36 e h
end Go.Proofs
