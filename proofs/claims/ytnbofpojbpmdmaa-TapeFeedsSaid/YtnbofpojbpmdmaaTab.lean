/- What the program tells of the types and functions that the walks name. Made by program. -/
import Derived.Test.YtnbofpojbpmdmaaChecked
import Derived.Test.YtnbofpojbpmdmaaEngQ
import Derived.KernelRfl
namespace Go.Proofs
open Go Go.Eng
theorem Try.agg26 : aggT Try.prog 26 = true := by kernel_rfl
theorem Try.agg32 : aggT Try.prog 32 = true := by kernel_rfl
theorem Try.agg49 : aggT Try.prog 49 = true := by kernel_rfl
theorem Try.agg51 : aggT Try.prog 51 = true := by kernel_rfl
theorem Try.agg90 : aggT Try.prog 90 = true := by kernel_rfl
theorem Try.agg91 : aggT Try.prog 91 = true := by kernel_rfl
theorem Try.agg92 : aggT Try.prog 92 = true := by kernel_rfl
theorem Try.agg94 : aggT Try.prog 94 = true := by kernel_rfl
theorem Try.agg96 : aggT Try.prog 96 = true := by kernel_rfl
theorem Try.agg105 : aggT Try.prog 105 = true := by kernel_rfl
theorem Try.agg107 : aggT Try.prog 107 = true := by kernel_rfl
theorem Try.agg119 : aggT Try.prog 119 = true := by kernel_rfl
theorem Try.agg135 : aggT Try.prog 135 = true := by kernel_rfl
theorem Try.agg136 : aggT Try.prog 136 = true := by kernel_rfl
theorem Try.agg138 : aggT Try.prog 138 = true := by kernel_rfl
theorem Try.agg154 : aggT Try.prog 154 = true := by kernel_rfl
theorem Try.agg156 : aggT Try.prog 156 = true := by kernel_rfl
theorem Try.by3 : (Try.prog.info? 3).map (·.bytes) = some 8 := by kernel_rfl
theorem Try.by5 : (Try.prog.info? 5).map (·.bytes) = some 1 := by kernel_rfl
theorem Try.by27 : (Try.prog.info? 27).map (·.bytes) = some 8 := by kernel_rfl
theorem Try.by32 : (Try.prog.info? 32).map (·.bytes) = some 16 := by kernel_rfl
theorem Try.by46 : (Try.prog.info? 46).map (·.bytes) = some 24 := by kernel_rfl
theorem Try.by119 : (Try.prog.info? 119).map (·.bytes) = some 56 := by kernel_rfl
theorem Try.by154 : (Try.prog.info? 154).map (·.bytes) = some 16 := by kernel_rfl
theorem Try.by156 : (Try.prog.info? 156).map (·.bytes) = some 16 := by kernel_rfl
theorem Try.ca12 : Callable Try.prog 12 := ⟨_, Try.func12, rfl, by decide⟩
theorem Try.ca13 : Callable Try.prog 13 := ⟨_, Try.func13, rfl, by decide⟩
theorem Try.ca14 : Callable Try.prog 14 := ⟨_, Try.func14, rfl, by decide⟩
theorem Try.ca15 : Callable Try.prog 15 := ⟨_, Try.func15, rfl, by decide⟩
theorem Try.ca16 : Callable Try.prog 16 := ⟨_, Try.func16, rfl, by decide⟩
theorem Try.ca17 : Callable Try.prog 17 := ⟨_, Try.func17, rfl, by decide⟩
theorem Try.ca18 : Callable Try.prog 18 := ⟨_, Try.func18, rfl, by decide⟩
theorem Try.ca19 : Callable Try.prog 19 := ⟨_, Try.func19, rfl, by decide⟩
theorem Try.ca20 : Callable Try.prog 20 := ⟨_, Try.func20, rfl, by decide⟩
theorem Try.ca21 : Callable Try.prog 21 := ⟨_, Try.func21, rfl, by decide⟩
theorem Try.ca22 : Callable Try.prog 22 := ⟨_, Try.func22, rfl, by decide⟩
theorem Try.ca23 : Callable Try.prog 23 := ⟨_, Try.func23, rfl, by decide⟩
theorem Try.ca24 : Callable Try.prog 24 := ⟨_, Try.func24, rfl, by decide⟩
theorem Try.ca25 : Callable Try.prog 25 := ⟨_, Try.func25, rfl, by decide⟩
theorem Try.ca26 : Callable Try.prog 26 := ⟨_, Try.func26, rfl, by decide⟩
theorem Try.ca27 : Callable Try.prog 27 := ⟨_, Try.func27, rfl, by decide⟩
theorem Try.ca28 : Callable Try.prog 28 := ⟨_, Try.func28, rfl, by decide⟩
theorem Try.ca29 : Callable Try.prog 29 := ⟨_, Try.func29, rfl, by decide⟩
theorem Try.ca30 : Callable Try.prog 30 := ⟨_, Try.func30, rfl, by decide⟩
theorem Try.ca31 : Callable Try.prog 31 := ⟨_, Try.func31, rfl, by decide⟩
theorem Try.ca32 : Callable Try.prog 32 := ⟨_, Try.func32, rfl, by decide⟩
theorem Try.ca33 : Callable Try.prog 33 := ⟨_, Try.func33, rfl, by decide⟩
theorem Try.ca34 : Callable Try.prog 34 := ⟨_, Try.func34, rfl, by decide⟩
theorem Try.ca35 : Callable Try.prog 35 := ⟨_, Try.func35, rfl, by decide⟩
theorem Try.ca36 : Callable Try.prog 36 := ⟨_, Try.func36, rfl, by decide⟩
theorem Try.ca37 : Callable Try.prog 37 := ⟨_, Try.func37, rfl, by decide⟩
theorem Try.ca38 : Callable Try.prog 38 := ⟨_, Try.func38, rfl, by decide⟩
theorem Try.ca39 : Callable Try.prog 39 := ⟨_, Try.func39, rfl, by decide⟩
theorem Try.ca40 : Callable Try.prog 40 := ⟨_, Try.func40, rfl, by decide⟩
theorem Try.ca41 : Callable Try.prog 41 := ⟨_, Try.func41, rfl, by decide⟩
theorem Try.ca42 : Callable Try.prog 42 := ⟨_, Try.func42, rfl, by decide⟩
theorem Try.ca43 : Callable Try.prog 43 := ⟨_, Try.func43, rfl, by decide⟩
theorem Try.ca44 : Callable Try.prog 44 := ⟨_, Try.func44, rfl, by decide⟩
theorem Try.ca45 : Callable Try.prog 45 := ⟨_, Try.func45, rfl, by decide⟩
theorem Try.ca46 : Callable Try.prog 46 := ⟨_, Try.func46, rfl, by decide⟩
theorem Try.ca47 : Callable Try.prog 47 := ⟨_, Try.func47, rfl, by decide⟩
theorem Try.ca48 : Callable Try.prog 48 := ⟨_, Try.func48, rfl, by decide⟩
theorem Try.ca49 : Callable Try.prog 49 := ⟨_, Try.func49, rfl, by decide⟩
theorem Try.ca50 : Callable Try.prog 50 := ⟨_, Try.func50, rfl, by decide⟩
theorem Try.ca51 : Callable Try.prog 51 := ⟨_, Try.func51, rfl, by decide⟩
theorem Try.ca52 : Callable Try.prog 52 := ⟨_, Try.func52, rfl, by decide⟩
theorem Try.ca53 : Callable Try.prog 53 := ⟨_, Try.func53, rfl, by decide⟩
theorem Try.ca54 : Callable Try.prog 54 := ⟨_, Try.func54, rfl, by decide⟩
theorem Try.ca55 : Callable Try.prog 55 := ⟨_, Try.func55, rfl, by decide⟩
theorem Try.ca56 : Callable Try.prog 56 := ⟨_, Try.func56, rfl, by decide⟩
theorem Try.ca57 : Callable Try.prog 57 := ⟨_, Try.func57, rfl, by decide⟩
theorem Try.ca58 : Callable Try.prog 58 := ⟨_, Try.func58, rfl, by decide⟩
theorem Try.ca59 : Callable Try.prog 59 := ⟨_, Try.func59, rfl, by decide⟩
theorem Try.ca60 : Callable Try.prog 60 := ⟨_, Try.func60, rfl, by decide⟩
theorem Try.ca61 : Callable Try.prog 61 := ⟨_, Try.func61, rfl, by decide⟩
theorem Try.ca62 : Callable Try.prog 62 := ⟨_, Try.func62, rfl, by decide⟩
theorem Try.ca63 : Callable Try.prog 63 := ⟨_, Try.func63, rfl, by decide⟩
theorem Try.ca64 : Callable Try.prog 64 := ⟨_, Try.func64, rfl, by decide⟩
theorem Try.ca65 : Callable Try.prog 65 := ⟨_, Try.func65, rfl, by decide⟩
theorem Try.ca66 : Callable Try.prog 66 := ⟨_, Try.func66, rfl, by decide⟩
theorem Try.ca67 : Callable Try.prog 67 := ⟨_, Try.func67, rfl, by decide⟩
theorem Try.ca68 : Callable Try.prog 68 := ⟨_, Try.func68, rfl, by decide⟩
theorem Try.ca69 : Callable Try.prog 69 := ⟨_, Try.func69, rfl, by decide⟩
theorem Try.ca70 : Callable Try.prog 70 := ⟨_, Try.func70, rfl, by decide⟩
theorem Try.ca71 : Callable Try.prog 71 := ⟨_, Try.func71, rfl, by decide⟩
theorem Try.ca72 : Callable Try.prog 72 := ⟨_, Try.func72, rfl, by decide⟩
theorem Try.ca73 : Callable Try.prog 73 := ⟨_, Try.func73, rfl, by decide⟩
theorem Try.ca74 : Callable Try.prog 74 := ⟨_, Try.func74, rfl, by decide⟩
theorem Try.ca75 : Callable Try.prog 75 := ⟨_, Try.func75, rfl, by decide⟩
theorem Try.ca76 : Callable Try.prog 76 := ⟨_, Try.func76, rfl, by decide⟩
theorem Try.ca77 : Callable Try.prog 77 := ⟨_, Try.func77, rfl, by decide⟩
theorem Try.ca78 : Callable Try.prog 78 := ⟨_, Try.func78, rfl, by decide⟩
theorem Try.ca79 : Callable Try.prog 79 := ⟨_, Try.func79, rfl, by decide⟩
theorem Try.ca80 : Callable Try.prog 80 := ⟨_, Try.func80, rfl, by decide⟩
theorem Try.ca81 : Callable Try.prog 81 := ⟨_, Try.func81, rfl, by decide⟩
theorem Try.ca82 : Callable Try.prog 82 := ⟨_, Try.func82, rfl, by decide⟩
theorem Try.ca83 : Callable Try.prog 83 := ⟨_, Try.func83, rfl, by decide⟩
theorem Try.ca84 : Callable Try.prog 84 := ⟨_, Try.func84, rfl, by decide⟩
theorem Try.ca85 : Callable Try.prog 85 := ⟨_, Try.func85, rfl, by decide⟩
theorem Try.ca86 : Callable Try.prog 86 := ⟨_, Try.func86, rfl, by decide⟩
theorem Try.ca87 : Callable Try.prog 87 := ⟨_, Try.func87, rfl, by decide⟩
theorem Try.ca89 : Callable Try.prog 89 := ⟨_, Try.func89, rfl, by decide⟩
theorem Try.ear90 : ear Try.prog 90 = some (32, 1) := by kernel_rfl
theorem Try.ear91 : ear Try.prog 91 = some (16, 1) := by kernel_rfl
theorem Try.ear92 : ear Try.prog 92 = some (240, 1) := by kernel_rfl
theorem Try.ear136 : ear Try.prog 136 = some (480, 1) := by kernel_rfl
theorem Try.eg96 : Try.prog.eqGuardType Try.prog.depth 96 = false := by kernel_rfl
theorem Try.esl22 : esl Try.prog 22 = some 2 := by kernel_rfl
theorem Try.esl23 : esl Try.prog 23 = some 1 := by kernel_rfl
theorem Try.esl24 : esl Try.prog 24 = some 2 := by kernel_rfl
theorem Try.esl40 : esl Try.prog 40 = some 1 := by kernel_rfl
theorem Try.esl42 : esl Try.prog 42 = some 1 := by kernel_rfl
theorem Try.esl46 : esl Try.prog 46 = some 1 := by kernel_rfl
theorem Try.esl47 : esl Try.prog 47 = some 1 := by kernel_rfl
theorem Try.esl57 : esl Try.prog 57 = some 1 := by kernel_rfl
theorem Try.esl67 : esl Try.prog 67 = some 5 := by kernel_rfl
theorem Try.esl83 : esl Try.prog 83 = some 2 := by kernel_rfl
theorem Try.esl102 : esl Try.prog 102 = some 3 := by kernel_rfl
theorem Try.esl103 : esl Try.prog 103 = some 2 := by kernel_rfl
theorem Try.fof26_0 : fof Try.prog 26 0 = some 0 := by kernel_rfl
theorem Try.fof32_0 : fof Try.prog 32 0 = some 0 := by kernel_rfl
theorem Try.fof32_1 : fof Try.prog 32 1 = some 1 := by kernel_rfl
theorem Try.fof49_0 : fof Try.prog 49 0 = some 0 := by kernel_rfl
theorem Try.fof49_1 : fof Try.prog 49 1 = some 1 := by kernel_rfl
theorem Try.fof51_0 : fof Try.prog 51 0 = some 0 := by kernel_rfl
theorem Try.fof85_0 : fof Try.prog 85 0 = some 0 := by kernel_rfl
theorem Try.fof85_1 : fof Try.prog 85 1 = some 1 := by kernel_rfl
theorem Try.fof87_0 : fof Try.prog 87 0 = some 0 := by kernel_rfl
theorem Try.fof87_1 : fof Try.prog 87 1 = some 2 := by kernel_rfl
theorem Try.fof87_2 : fof Try.prog 87 2 = some 4 := by kernel_rfl
theorem Try.fof94_0 : fof Try.prog 94 0 = some 0 := by kernel_rfl
theorem Try.fof94_1 : fof Try.prog 94 1 = some 32 := by kernel_rfl
theorem Try.fof94_2 : fof Try.prog 94 2 = some 48 := by kernel_rfl
theorem Try.fof96_0 : fof Try.prog 96 0 = some 0 := by kernel_rfl
theorem Try.fof96_1 : fof Try.prog 96 1 = some 288 := by kernel_rfl
theorem Try.fof96_2 : fof Try.prog 96 2 = some 289 := by kernel_rfl
theorem Try.fof105_0 : fof Try.prog 105 0 = some 0 := by kernel_rfl
theorem Try.fof105_1 : fof Try.prog 105 1 = some 1 := by kernel_rfl
theorem Try.fof107_0 : fof Try.prog 107 0 = some 0 := by kernel_rfl
theorem Try.fof107_1 : fof Try.prog 107 1 = some 1 := by kernel_rfl
theorem Try.fof107_2 : fof Try.prog 107 2 = some 2 := by kernel_rfl
theorem Try.fof119_0 : fof Try.prog 119 0 = some 0 := by kernel_rfl
theorem Try.fof119_1 : fof Try.prog 119 1 = some 1 := by kernel_rfl
theorem Try.fof119_2 : fof Try.prog 119 2 = some 2 := by kernel_rfl
theorem Try.fof119_3 : fof Try.prog 119 3 = some 3 := by kernel_rfl
theorem Try.fof119_4 : fof Try.prog 119 4 = some 4 := by kernel_rfl
theorem Try.fof135_0 : fof Try.prog 135 0 = some 0 := by kernel_rfl
theorem Try.fof135_1 : fof Try.prog 135 1 = some 1 := by kernel_rfl
theorem Try.fof138_0 : fof Try.prog 138 0 = some 0 := by kernel_rfl
theorem Try.fof138_1 : fof Try.prog 138 1 = some 288 := by kernel_rfl
theorem Try.fof154_0 : fof Try.prog 154 0 = some 0 := by kernel_rfl
theorem Try.fof154_1 : fof Try.prog 154 1 = some 1 := by kernel_rfl
theorem Try.fof156_0 : fof Try.prog 156 0 = some 0 := by kernel_rfl
theorem Try.fof156_1 : fof Try.prog 156 1 = some 1 := by kernel_rfl
set_option maxRecDepth 10000 in
theorem Try.ks96 : kindsOf Try.prog 9 96 = some (List.replicate 288 (.int .u8) ++ [.int .u64] ++ List.replicate 32 (.int .u8)) := by kernel_rfl
theorem Try.sc3 : scal Try.prog 3 = true := by kernel_rfl
theorem Try.sc5 : scal Try.prog 5 = true := by kernel_rfl
theorem Try.sc24 : scal Try.prog 24 = true := by kernel_rfl
theorem Try.sc27 : scal Try.prog 27 = true := by kernel_rfl
theorem Try.sc30 : scal Try.prog 30 = true := by kernel_rfl
theorem Try.sc40 : scal Try.prog 40 = true := by kernel_rfl
theorem Try.sc46 : scal Try.prog 46 = true := by kernel_rfl
theorem Try.sc83 : scal Try.prog 83 = true := by kernel_rfl
theorem Try.sc103 : scal Try.prog 103 = true := by kernel_rfl
theorem Try.stp26 : stp Try.prog 26 = some ([.slice none 0 0], [(0, 1)]) := by kernel_rfl
theorem Try.stp32 : stp Try.prog 32 = some ([.int .i64 0, .int .u64 0], [(0, 1), (1, 1)]) := by kernel_rfl
theorem Try.stp49 : stp Try.prog 49 = some ([.slice none 0 0, .int .i64 0], [(0, 1), (1, 1)]) := by kernel_rfl
theorem Try.stp51 : stp Try.prog 51 = some ([.slice none 0 0, .int .i64 0], [(0, 2)]) := by kernel_rfl
theorem Try.stp87 : stp Try.prog 87 = some ([.slice none 0 0, .int .i64 0, .int .i64 0, .slice none 0 0, .slice none 0 0], [(0, 2), (2, 2), (4, 1)]) := by kernel_rfl
theorem Try.stp94 : stp Try.prog 94 = some (List.replicate 288 (.int .u8 0), [(0, 32), (32, 16), (48, 240)]) := by kernel_rfl
theorem Try.stp96 : stp Try.prog 96 = some (List.replicate 288 (.int .u8 0) ++ [.int .u64 0] ++ List.replicate 32 (.int .u8 0), [(0, 288), (288, 1), (289, 32)]) := by kernel_rfl
theorem Try.stp119 : stp Try.prog 119 = some ([.int .u8 0, .int .u64 0, .int .i64 0, .int .i64 0, .slice none 0 0], [(0, 1), (1, 1), (2, 1), (3, 1), (4, 1)]) := by kernel_rfl
theorem Try.stp138 : stp Try.prog 138 = some (List.replicate 768 (.int .u8 0), [(0, 288), (288, 480)]) := by kernel_rfl
theorem Try.stp154 : stp Try.prog 154 = some ([.int .i64 0, .int .i64 0], [(0, 1), (1, 1)]) := by kernel_rfl
theorem Try.stp156 : stp Try.prog 156 = some ([.int .i64 0, .int .i64 0], [(0, 1), (1, 1)]) := by kernel_rfl
theorem Try.sz3 : sz Try.prog 3 = some 1 := by kernel_rfl
theorem Try.sz5 : sz Try.prog 5 = some 1 := by kernel_rfl
theorem Try.sz26 : sz Try.prog 26 = some 1 := by kernel_rfl
theorem Try.sz27 : sz Try.prog 27 = some 1 := by kernel_rfl
theorem Try.sz30 : sz Try.prog 30 = some 1 := by kernel_rfl
theorem Try.sz32 : sz Try.prog 32 = some 2 := by kernel_rfl
theorem Try.sz46 : sz Try.prog 46 = some 1 := by kernel_rfl
theorem Try.sz49 : sz Try.prog 49 = some 2 := by kernel_rfl
theorem Try.sz51 : sz Try.prog 51 = some 2 := by kernel_rfl
theorem Try.sz83 : sz Try.prog 83 = some 1 := by kernel_rfl
theorem Try.sz90 : sz Try.prog 90 = some 32 := by kernel_rfl
theorem Try.sz91 : sz Try.prog 91 = some 16 := by kernel_rfl
theorem Try.sz92 : sz Try.prog 92 = some 240 := by kernel_rfl
theorem Try.sz94 : sz Try.prog 94 = some 288 := by kernel_rfl
theorem Try.sz96 : sz Try.prog 96 = some 321 := by kernel_rfl
theorem Try.sz103 : sz Try.prog 103 = some 1 := by kernel_rfl
theorem Try.sz105 : sz Try.prog 105 = some 2 := by kernel_rfl
theorem Try.sz107 : sz Try.prog 107 = some 3 := by kernel_rfl
theorem Try.sz119 : sz Try.prog 119 = some 5 := by kernel_rfl
theorem Try.sz135 : sz Try.prog 135 = some 2 := by kernel_rfl
theorem Try.sz136 : sz Try.prog 136 = some 480 := by kernel_rfl
theorem Try.sz138 : sz Try.prog 138 = some 768 := by kernel_rfl
theorem Try.sz154 : sz Try.prog 154 = some 2 := by kernel_rfl
theorem Try.sz156 : sz Try.prog 156 = some 2 := by kernel_rfl
theorem Try.zln3 : (zrl Try.prog 3).map List.length = some 1 := by kernel_rfl
theorem Try.zln5 : (zrl Try.prog 5).map List.length = some 1 := by kernel_rfl
theorem Try.zln27 : (zrl Try.prog 27).map List.length = some 1 := by kernel_rfl
theorem Try.zln32 : (zrl Try.prog 32).map List.length = some 2 := by kernel_rfl
theorem Try.zln46 : (zrl Try.prog 46).map List.length = some 1 := by kernel_rfl
theorem Try.zln119 : (zrl Try.prog 119).map List.length = some 5 := by kernel_rfl
theorem Try.zln154 : (zrl Try.prog 154).map List.length = some 2 := by kernel_rfl
theorem Try.zln156 : (zrl Try.prog 156).map List.length = some 2 := by kernel_rfl
theorem Try.zrl3 : zrl Try.prog 3 = some ([.int .i64 0]) := by kernel_rfl
theorem Try.zrl5 : zrl Try.prog 5 = some ([.int .u8 0]) := by kernel_rfl
theorem Try.zrl26 : zrl Try.prog 26 = some ([.slice none 0 0]) := by kernel_rfl
theorem Try.zrl27 : zrl Try.prog 27 = some ([.int .i64 0]) := by kernel_rfl
theorem Try.zrl32 : zrl Try.prog 32 = some ([.int .i64 0, .int .u64 0]) := by kernel_rfl
theorem Try.zrl46 : zrl Try.prog 46 = some ([.slice none 0 0]) := by kernel_rfl
theorem Try.zrl51 : zrl Try.prog 51 = some ([.slice none 0 0, .int .i64 0]) := by kernel_rfl
theorem Try.zrl85 : zrl Try.prog 85 = some ([.int .i64 0, .slice none 0 0]) := by kernel_rfl
theorem Try.zrl94 : zrl Try.prog 94 = some (List.replicate 288 (.int .u8 0)) := by kernel_rfl
theorem Try.zrl96 : zrl Try.prog 96 = some (List.replicate 288 (.int .u8 0) ++ [.int .u64 0] ++ List.replicate 32 (.int .u8 0)) := by kernel_rfl
theorem Try.zrl105 : zrl Try.prog 105 = some ([.int .i64 0, .slice none 0 0]) := by kernel_rfl
theorem Try.zrl107 : zrl Try.prog 107 = some ([.int .i64 0, .int .i64 0, .int .i64 0]) := by kernel_rfl
theorem Try.zrl119 : zrl Try.prog 119 = some ([.int .u8 0, .int .u64 0, .int .i64 0, .int .i64 0, .slice none 0 0]) := by kernel_rfl
theorem Try.zrl135 : zrl Try.prog 135 = some ([.int .i64 0, .int .u64 0]) := by kernel_rfl
theorem Try.zrl138 : zrl Try.prog 138 = some (List.replicate 768 (.int .u8 0)) := by kernel_rfl
theorem Try.zrl154 : zrl Try.prog 154 = some ([.int .i64 0, .int .i64 0]) := by kernel_rfl
theorem Try.zrl156 : zrl Try.prog 156 = some ([.int .i64 0, .int .i64 0]) := by kernel_rfl
theorem Try.mixed : Try.prog.follows .mixedOrders = true := by kernel_rfl
end Go.Proofs
