/- What the program tells of the types and functions that the walks name. Made by program. -/
import Derived.Test.YtnbofpojbpmdmaaChecked
import Derived.Test.YtnbofpojbpmdmaaEngS
import Derived.KernelRfl
namespace Go.Proofs
open Go Go.Eng
theorem Try.agg26 : aggT Try.prog 26 = true := by kernel_rfl
theorem Try.agg32 : aggT Try.prog 32 = true := by kernel_rfl
theorem Try.agg135 : aggT Try.prog 135 = true := by kernel_rfl
theorem Try.by32 : (Try.prog.info? 32).map (·.bytes) = some 16 := by kernel_rfl
theorem Try.ca12 : Callable Try.prog 12 := ⟨_, Try.func12, rfl, by decide⟩
theorem Try.ca13 : Callable Try.prog 13 := ⟨_, Try.func13, rfl, by decide⟩
theorem Try.ca14 : Callable Try.prog 14 := ⟨_, Try.func14, rfl, by decide⟩
theorem Try.ca15 : Callable Try.prog 15 := ⟨_, Try.func15, rfl, by decide⟩
theorem Try.ca16 : Callable Try.prog 16 := ⟨_, Try.func16, rfl, by decide⟩
theorem Try.ca17 : Callable Try.prog 17 := ⟨_, Try.func17, rfl, by decide⟩
theorem Try.ca64 : Callable Try.prog 64 := ⟨_, Try.func64, rfl, by decide⟩
theorem Try.ca65 : Callable Try.prog 65 := ⟨_, Try.func65, rfl, by decide⟩
theorem Try.ca66 : Callable Try.prog 66 := ⟨_, Try.func66, rfl, by decide⟩
theorem Try.ca83 : Callable Try.prog 83 := ⟨_, Try.func83, rfl, by decide⟩
theorem Try.esl22 : esl Try.prog 22 = some 2 := by kernel_rfl
theorem Try.esl23 : esl Try.prog 23 = some 1 := by kernel_rfl
theorem Try.esl24 : esl Try.prog 24 = some 2 := by kernel_rfl
theorem Try.fof26_0 : fof Try.prog 26 0 = some 0 := by kernel_rfl
theorem Try.fof32_0 : fof Try.prog 32 0 = some 0 := by kernel_rfl
theorem Try.fof32_1 : fof Try.prog 32 1 = some 1 := by kernel_rfl
theorem Try.fof135_0 : fof Try.prog 135 0 = some 0 := by kernel_rfl
theorem Try.fof135_1 : fof Try.prog 135 1 = some 1 := by kernel_rfl
theorem Try.sc3 : scal Try.prog 3 = true := by kernel_rfl
theorem Try.sc24 : scal Try.prog 24 = true := by kernel_rfl
theorem Try.sc30 : scal Try.prog 30 = true := by kernel_rfl
theorem Try.stp26 : stp Try.prog 26 = some ([.slice none 0 0], [(0, 1)]) := by kernel_rfl
theorem Try.stp32 : stp Try.prog 32 = some ([.int .i64 0, .int .u64 0], [(0, 1), (1, 1)]) := by kernel_rfl
theorem Try.sz26 : sz Try.prog 26 = some 1 := by kernel_rfl
theorem Try.sz32 : sz Try.prog 32 = some 2 := by kernel_rfl
theorem Try.sz135 : sz Try.prog 135 = some 2 := by kernel_rfl
theorem Try.zln32 : (zrl Try.prog 32).map List.length = some 2 := by kernel_rfl
theorem Try.zrl26 : zrl Try.prog 26 = some ([.slice none 0 0]) := by kernel_rfl
theorem Try.zrl32 : zrl Try.prog 32 = some ([.int .i64 0, .int .u64 0]) := by kernel_rfl
theorem Try.zrl135 : zrl Try.prog 135 = some ([.int .i64 0, .int .u64 0]) := by kernel_rfl
theorem Try.mixed : Try.prog.follows .mixedOrders = true := by kernel_rfl
end Go.Proofs
