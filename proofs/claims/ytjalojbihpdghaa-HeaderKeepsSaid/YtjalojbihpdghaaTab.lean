/- What the program tells of the types and functions that the walks name. Made by program. -/
import Derived.Test.YtjalojbihpdghaaChecked
import Derived.Test.YtjalojbihpdghaaEngG
import Derived.KernelRfl
namespace Go.Proofs
open Go Go.Eng
theorem Try.agg24 : aggT Try.prog 24 = true := by kernel_rfl
theorem Try.agg25 : aggT Try.prog 25 = true := by kernel_rfl
theorem Try.agg26 : aggT Try.prog 26 = true := by kernel_rfl
theorem Try.agg28 : aggT Try.prog 28 = true := by kernel_rfl
theorem Try.agg31 : aggT Try.prog 31 = true := by kernel_rfl
theorem Try.agg35 : aggT Try.prog 35 = true := by kernel_rfl
theorem Try.agg37 : aggT Try.prog 37 = true := by kernel_rfl
theorem Try.agg47 : aggT Try.prog 47 = true := by kernel_rfl
theorem Try.agg66 : aggT Try.prog 66 = true := by kernel_rfl
theorem Try.agg84 : aggT Try.prog 84 = true := by kernel_rfl
theorem Try.agg86 : aggT Try.prog 86 = true := by kernel_rfl
theorem Try.agg89 : aggT Try.prog 89 = true := by kernel_rfl
theorem Try.agg127 : aggT Try.prog 127 = true := by kernel_rfl
theorem Try.agg184 : aggT Try.prog 184 = true := by kernel_rfl
theorem Try.agg200 : aggT Try.prog 200 = true := by kernel_rfl
theorem Try.agg211 : aggT Try.prog 211 = true := by kernel_rfl
theorem Try.agg217 : aggT Try.prog 217 = true := by kernel_rfl
theorem Try.agg219 : aggT Try.prog 219 = true := by kernel_rfl
theorem Try.agg222 : aggT Try.prog 222 = true := by kernel_rfl
theorem Try.agg238 : aggT Try.prog 238 = true := by kernel_rfl
theorem Try.agg254 : aggT Try.prog 254 = true := by kernel_rfl
theorem Try.arp24 : arp Try.prog 24 = some (List.replicate 32 (.int .u8 0), 1) := by kernel_rfl
theorem Try.arp25 : arp Try.prog 25 = some (List.replicate 16 (.int .u8 0), 1) := by kernel_rfl
theorem Try.arp164 : arp Try.prog 164 = some ([.string ByteArray.empty, .string ByteArray.empty, .string ByteArray.empty, .string ByteArray.empty], 1) := by kernel_rfl
theorem Try.arp200 : arp Try.prog 200 = some ([.int .u64 0, .int .u64 0, .int .u64 0, .int .u64 0], 1) := by kernel_rfl
theorem Try.arp211 : arp Try.prog 211 = some (List.replicate 16 (.int .u32 0), 1) := by kernel_rfl
theorem Try.arp217 : arp Try.prog 217 = some ([.int .i64 0, .int .i64 0, .int .i64 0, .int .i64 0], 1) := by kernel_rfl
theorem Try.arp218 : arp Try.prog 218 = some (List.replicate 32 (.int .i64 0), 4) := by kernel_rfl
theorem Try.arp219 : arp Try.prog 219 = some ([.int .u32 0, .int .u32 0, .int .u32 0, .int .u32 0], 1) := by kernel_rfl
theorem Try.arp222 : arp Try.prog 222 = some ([.int .u32 0, .int .u32 0, .int .u32 0, .int .u32 0, .int .u32 0, .int .u32 0, .int .u32 0, .int .u32 0], 1) := by kernel_rfl
theorem Try.arp254 : arp Try.prog 254 = some (List.replicate 64 (.int .u32 0), 1) := by kernel_rfl
theorem Try.by5 : (Try.prog.info? 5).map (·.bytes) = some 1 := by kernel_rfl
theorem Try.by22 : (Try.prog.info? 22).map (·.bytes) = some 24 := by kernel_rfl
theorem Try.by24 : (Try.prog.info? 24).map (·.bytes) = some 32 := by kernel_rfl
theorem Try.by47 : (Try.prog.info? 47).map (·.bytes) = some 72 := by kernel_rfl
theorem Try.by66 : (Try.prog.info? 66).map (·.bytes) = some 56 := by kernel_rfl
theorem Try.by86 : (Try.prog.info? 86).map (·.bytes) = some 192 := by kernel_rfl
theorem Try.by125 : (Try.prog.info? 125).map (·.bytes) = some 4 := by kernel_rfl
theorem Try.ca10 : Callable Try.prog 10 := ⟨_, Try.func10, rfl, by decide⟩
theorem Try.ca11 : Callable Try.prog 11 := ⟨_, Try.func11, rfl, by decide⟩
theorem Try.ca12 : Callable Try.prog 12 := ⟨_, Try.func12, rfl, by decide⟩
theorem Try.ca13 : Callable Try.prog 13 := ⟨_, Try.func13, rfl, by decide⟩
theorem Try.ca14 : Callable Try.prog 14 := ⟨_, Try.func14, rfl, by decide⟩
theorem Try.ca15 : Callable Try.prog 15 := ⟨_, Try.func15, rfl, by decide⟩
theorem Try.ca16 : Callable Try.prog 16 := ⟨_, Try.func16, rfl, by decide⟩
theorem Try.ca17 : Callable Try.prog 17 := ⟨_, Try.func17, rfl, by decide⟩
theorem Try.ca18 : Callable Try.prog 18 := ⟨_, Try.func18, rfl, by decide⟩
theorem Try.ca19 : Callable Try.prog 19 := ⟨_, Try.func19, rfl, by decide⟩
theorem Try.ca20 : Callable Try.prog 20 := ⟨_, Try.func20, rfl, by decide⟩
theorem Try.ca21 : Callable Try.prog 21 := ⟨_, Try.func21, rfl, by decide⟩
theorem Try.ca22 : Callable Try.prog 22 := ⟨_, Try.func22, rfl, by decide⟩
theorem Try.ca23 : Callable Try.prog 23 := ⟨_, Try.func23, rfl, by decide⟩
theorem Try.ca24 : Callable Try.prog 24 := ⟨_, Try.func24, rfl, by decide⟩
theorem Try.ca25 : Callable Try.prog 25 := ⟨_, Try.func25, rfl, by decide⟩
theorem Try.ca26 : Callable Try.prog 26 := ⟨_, Try.func26, rfl, by decide⟩
theorem Try.ca27 : Callable Try.prog 27 := ⟨_, Try.func27, rfl, by decide⟩
theorem Try.ca28 : Callable Try.prog 28 := ⟨_, Try.func28, rfl, by decide⟩
theorem Try.ca29 : Callable Try.prog 29 := ⟨_, Try.func29, rfl, by decide⟩
theorem Try.ca30 : Callable Try.prog 30 := ⟨_, Try.func30, rfl, by decide⟩
theorem Try.ca31 : Callable Try.prog 31 := ⟨_, Try.func31, rfl, by decide⟩
theorem Try.ca32 : Callable Try.prog 32 := ⟨_, Try.func32, rfl, by decide⟩
theorem Try.ca33 : Callable Try.prog 33 := ⟨_, Try.func33, rfl, by decide⟩
theorem Try.ca34 : Callable Try.prog 34 := ⟨_, Try.func34, rfl, by decide⟩
theorem Try.ca35 : Callable Try.prog 35 := ⟨_, Try.func35, rfl, by decide⟩
theorem Try.ca36 : Callable Try.prog 36 := ⟨_, Try.func36, rfl, by decide⟩
theorem Try.ca37 : Callable Try.prog 37 := ⟨_, Try.func37, rfl, by decide⟩
theorem Try.ca38 : Callable Try.prog 38 := ⟨_, Try.func38, rfl, by decide⟩
theorem Try.ca39 : Callable Try.prog 39 := ⟨_, Try.func39, rfl, by decide⟩
theorem Try.ca40 : Callable Try.prog 40 := ⟨_, Try.func40, rfl, by decide⟩
theorem Try.ca41 : Callable Try.prog 41 := ⟨_, Try.func41, rfl, by decide⟩
theorem Try.ca42 : Callable Try.prog 42 := ⟨_, Try.func42, rfl, by decide⟩
theorem Try.ca43 : Callable Try.prog 43 := ⟨_, Try.func43, rfl, by decide⟩
theorem Try.ca44 : Callable Try.prog 44 := ⟨_, Try.func44, rfl, by decide⟩
theorem Try.ca45 : Callable Try.prog 45 := ⟨_, Try.func45, rfl, by decide⟩
theorem Try.ca46 : Callable Try.prog 46 := ⟨_, Try.func46, rfl, by decide⟩
theorem Try.ca47 : Callable Try.prog 47 := ⟨_, Try.func47, rfl, by decide⟩
theorem Try.ca48 : Callable Try.prog 48 := ⟨_, Try.func48, rfl, by decide⟩
theorem Try.ca49 : Callable Try.prog 49 := ⟨_, Try.func49, rfl, by decide⟩
theorem Try.ca50 : Callable Try.prog 50 := ⟨_, Try.func50, rfl, by decide⟩
theorem Try.ca51 : Callable Try.prog 51 := ⟨_, Try.func51, rfl, by decide⟩
theorem Try.ca52 : Callable Try.prog 52 := ⟨_, Try.func52, rfl, by decide⟩
theorem Try.ca53 : Callable Try.prog 53 := ⟨_, Try.func53, rfl, by decide⟩
theorem Try.ca54 : Callable Try.prog 54 := ⟨_, Try.func54, rfl, by decide⟩
theorem Try.ca55 : Callable Try.prog 55 := ⟨_, Try.func55, rfl, by decide⟩
theorem Try.ca56 : Callable Try.prog 56 := ⟨_, Try.func56, rfl, by decide⟩
theorem Try.ca57 : Callable Try.prog 57 := ⟨_, Try.func57, rfl, by decide⟩
theorem Try.ca58 : Callable Try.prog 58 := ⟨_, Try.func58, rfl, by decide⟩
theorem Try.ca59 : Callable Try.prog 59 := ⟨_, Try.func59, rfl, by decide⟩
theorem Try.ca60 : Callable Try.prog 60 := ⟨_, Try.func60, rfl, by decide⟩
theorem Try.ca61 : Callable Try.prog 61 := ⟨_, Try.func61, rfl, by decide⟩
theorem Try.ca62 : Callable Try.prog 62 := ⟨_, Try.func62, rfl, by decide⟩
theorem Try.ca63 : Callable Try.prog 63 := ⟨_, Try.func63, rfl, by decide⟩
theorem Try.ca64 : Callable Try.prog 64 := ⟨_, Try.func64, rfl, by decide⟩
theorem Try.ca65 : Callable Try.prog 65 := ⟨_, Try.func65, rfl, by decide⟩
theorem Try.ca66 : Callable Try.prog 66 := ⟨_, Try.func66, rfl, by decide⟩
theorem Try.ca67 : Callable Try.prog 67 := ⟨_, Try.func67, rfl, by decide⟩
theorem Try.ca68 : Callable Try.prog 68 := ⟨_, Try.func68, rfl, by decide⟩
theorem Try.ca69 : Callable Try.prog 69 := ⟨_, Try.func69, rfl, by decide⟩
theorem Try.ca70 : Callable Try.prog 70 := ⟨_, Try.func70, rfl, by decide⟩
theorem Try.ca71 : Callable Try.prog 71 := ⟨_, Try.func71, rfl, by decide⟩
theorem Try.ca72 : Callable Try.prog 72 := ⟨_, Try.func72, rfl, by decide⟩
theorem Try.ca73 : Callable Try.prog 73 := ⟨_, Try.func73, rfl, by decide⟩
theorem Try.ca74 : Callable Try.prog 74 := ⟨_, Try.func74, rfl, by decide⟩
theorem Try.ca75 : Callable Try.prog 75 := ⟨_, Try.func75, rfl, by decide⟩
theorem Try.ca76 : Callable Try.prog 76 := ⟨_, Try.func76, rfl, by decide⟩
theorem Try.ca77 : Callable Try.prog 77 := ⟨_, Try.func77, rfl, by decide⟩
theorem Try.ca78 : Callable Try.prog 78 := ⟨_, Try.func78, rfl, by decide⟩
theorem Try.ca79 : Callable Try.prog 79 := ⟨_, Try.func79, rfl, by decide⟩
theorem Try.ca80 : Callable Try.prog 80 := ⟨_, Try.func80, rfl, by decide⟩
theorem Try.ca81 : Callable Try.prog 81 := ⟨_, Try.func81, rfl, by decide⟩
theorem Try.ca84 : Callable Try.prog 84 := ⟨_, Try.func84, rfl, by decide⟩
theorem Try.ca85 : Callable Try.prog 85 := ⟨_, Try.func85, rfl, by decide⟩
theorem Try.ca86 : Callable Try.prog 86 := ⟨_, Try.func86, rfl, by decide⟩
theorem Try.ca87 : Callable Try.prog 87 := ⟨_, Try.func87, rfl, by decide⟩
theorem Try.ca88 : Callable Try.prog 88 := ⟨_, Try.func88, rfl, by decide⟩
theorem Try.ca89 : Callable Try.prog 89 := ⟨_, Try.func89, rfl, by decide⟩
theorem Try.ca90 : Callable Try.prog 90 := ⟨_, Try.func90, rfl, by decide⟩
theorem Try.ca91 : Callable Try.prog 91 := ⟨_, Try.func91, rfl, by decide⟩
theorem Try.ca92 : Callable Try.prog 92 := ⟨_, Try.func92, rfl, by decide⟩
theorem Try.ca93 : Callable Try.prog 93 := ⟨_, Try.func93, rfl, by decide⟩
theorem Try.ca94 : Callable Try.prog 94 := ⟨_, Try.func94, rfl, by decide⟩
theorem Try.ca95 : Callable Try.prog 95 := ⟨_, Try.func95, rfl, by decide⟩
theorem Try.ca96 : Callable Try.prog 96 := ⟨_, Try.func96, rfl, by decide⟩
theorem Try.ca97 : Callable Try.prog 97 := ⟨_, Try.func97, rfl, by decide⟩
theorem Try.ca98 : Callable Try.prog 98 := ⟨_, Try.func98, rfl, by decide⟩
theorem Try.ca99 : Callable Try.prog 99 := ⟨_, Try.func99, rfl, by decide⟩
theorem Try.ca100 : Callable Try.prog 100 := ⟨_, Try.func100, rfl, by decide⟩
theorem Try.ca101 : Callable Try.prog 101 := ⟨_, Try.func101, rfl, by decide⟩
theorem Try.ca103 : Callable Try.prog 103 := ⟨_, Try.func103, rfl, by decide⟩
theorem Try.ca104 : Callable Try.prog 104 := ⟨_, Try.func104, rfl, by decide⟩
theorem Try.ca105 : Callable Try.prog 105 := ⟨_, Try.func105, rfl, by decide⟩
theorem Try.ca107 : Callable Try.prog 107 := ⟨_, Try.func107, rfl, by decide⟩
theorem Try.ca108 : Callable Try.prog 108 := ⟨_, Try.func108, rfl, by decide⟩
theorem Try.ca109 : Callable Try.prog 109 := ⟨_, Try.func109, rfl, by decide⟩
theorem Try.ca110 : Callable Try.prog 110 := ⟨_, Try.func110, rfl, by decide⟩
theorem Try.ca111 : Callable Try.prog 111 := ⟨_, Try.func111, rfl, by decide⟩
theorem Try.ca112 : Callable Try.prog 112 := ⟨_, Try.func112, rfl, by decide⟩
theorem Try.ca114 : Callable Try.prog 114 := ⟨_, Try.func114, rfl, by decide⟩
theorem Try.ca115 : Callable Try.prog 115 := ⟨_, Try.func115, rfl, by decide⟩
theorem Try.ca116 : Callable Try.prog 116 := ⟨_, Try.func116, rfl, by decide⟩
theorem Try.ca117 : Callable Try.prog 117 := ⟨_, Try.func117, rfl, by decide⟩
theorem Try.ca118 : Callable Try.prog 118 := ⟨_, Try.func118, rfl, by decide⟩
theorem Try.ca119 : Callable Try.prog 119 := ⟨_, Try.func119, rfl, by decide⟩
theorem Try.ca120 : Callable Try.prog 120 := ⟨_, Try.func120, rfl, by decide⟩
theorem Try.ca121 : Callable Try.prog 121 := ⟨_, Try.func121, rfl, by decide⟩
theorem Try.ca122 : Callable Try.prog 122 := ⟨_, Try.func122, rfl, by decide⟩
theorem Try.ca125 : Callable Try.prog 125 := ⟨_, Try.func125, rfl, by decide⟩
theorem Try.ca126 : Callable Try.prog 126 := ⟨_, Try.func126, rfl, by decide⟩
theorem Try.ca127 : Callable Try.prog 127 := ⟨_, Try.func127, rfl, by decide⟩
theorem Try.ca135 : Callable Try.prog 135 := ⟨_, Try.func135, rfl, by decide⟩
theorem Try.ca136 : Callable Try.prog 136 := ⟨_, Try.func136, rfl, by decide⟩
theorem Try.ca137 : Callable Try.prog 137 := ⟨_, Try.func137, rfl, by decide⟩
theorem Try.ca138 : Callable Try.prog 138 := ⟨_, Try.func138, rfl, by decide⟩
theorem Try.ca139 : Callable Try.prog 139 := ⟨_, Try.func139, rfl, by decide⟩
theorem Try.ca140 : Callable Try.prog 140 := ⟨_, Try.func140, rfl, by decide⟩
theorem Try.ca141 : Callable Try.prog 141 := ⟨_, Try.func141, rfl, by decide⟩
theorem Try.ca142 : Callable Try.prog 142 := ⟨_, Try.func142, rfl, by decide⟩
theorem Try.ca153 : Callable Try.prog 153 := ⟨_, Try.func153, rfl, by decide⟩
theorem Try.ca154 : Callable Try.prog 154 := ⟨_, Try.func154, rfl, by decide⟩
theorem Try.ca155 : Callable Try.prog 155 := ⟨_, Try.func155, rfl, by decide⟩
theorem Try.ca156 : Callable Try.prog 156 := ⟨_, Try.func156, rfl, by decide⟩
theorem Try.ca157 : Callable Try.prog 157 := ⟨_, Try.func157, rfl, by decide⟩
theorem Try.ca163 : Callable Try.prog 163 := ⟨_, Try.func163, rfl, by decide⟩
theorem Try.ca164 : Callable Try.prog 164 := ⟨_, Try.func164, rfl, by decide⟩
theorem Try.ca165 : Callable Try.prog 165 := ⟨_, Try.func165, rfl, by decide⟩
theorem Try.ca166 : Callable Try.prog 166 := ⟨_, Try.func166, rfl, by decide⟩
theorem Try.ca167 : Callable Try.prog 167 := ⟨_, Try.func167, rfl, by decide⟩
theorem Try.ca168 : Callable Try.prog 168 := ⟨_, Try.func168, rfl, by decide⟩
theorem Try.ca169 : Callable Try.prog 169 := ⟨_, Try.func169, rfl, by decide⟩
theorem Try.ca175 : Callable Try.prog 175 := ⟨_, Try.func175, rfl, by decide⟩
theorem Try.ca176 : Callable Try.prog 176 := ⟨_, Try.func176, rfl, by decide⟩
theorem Try.ca177 : Callable Try.prog 177 := ⟨_, Try.func177, rfl, by decide⟩
theorem Try.ca178 : Callable Try.prog 178 := ⟨_, Try.func178, rfl, by decide⟩
theorem Try.ca179 : Callable Try.prog 179 := ⟨_, Try.func179, rfl, by decide⟩
theorem Try.ca180 : Callable Try.prog 180 := ⟨_, Try.func180, rfl, by decide⟩
theorem Try.ca181 : Callable Try.prog 181 := ⟨_, Try.func181, rfl, by decide⟩
theorem Try.ca186 : Callable Try.prog 186 := ⟨_, Try.func186, rfl, by decide⟩
theorem Try.ca188 : Callable Try.prog 188 := ⟨_, Try.func188, rfl, by decide⟩
theorem Try.ca189 : Callable Try.prog 189 := ⟨_, Try.func189, rfl, by decide⟩
theorem Try.ca191 : Callable Try.prog 191 := ⟨_, Try.func191, rfl, by decide⟩
theorem Try.ca192 : Callable Try.prog 192 := ⟨_, Try.func192, rfl, by decide⟩
theorem Try.ca195 : Callable Try.prog 195 := ⟨_, Try.func195, rfl, by decide⟩
theorem Try.ca196 : Callable Try.prog 196 := ⟨_, Try.func196, rfl, by decide⟩
theorem Try.ear24 : ear Try.prog 24 = some (32, 1) := by kernel_rfl
theorem Try.ear25 : ear Try.prog 25 = some (16, 1) := by kernel_rfl
theorem Try.ear26 : ear Try.prog 26 = some (240, 1) := by kernel_rfl
theorem Try.ear35 : ear Try.prog 35 = some (480, 1) := by kernel_rfl
theorem Try.ear164 : ear Try.prog 164 = some (4, 1) := by kernel_rfl
theorem Try.ear183 : ear Try.prog 183 = some (12, 1) := by kernel_rfl
theorem Try.ear184 : ear Try.prog 184 = some (64, 1) := by kernel_rfl
theorem Try.ear200 : ear Try.prog 200 = some (4, 1) := by kernel_rfl
theorem Try.ear211 : ear Try.prog 211 = some (16, 1) := by kernel_rfl
theorem Try.ear217 : ear Try.prog 217 = some (4, 1) := by kernel_rfl
theorem Try.ear218 : ear Try.prog 218 = some (8, 4) := by kernel_rfl
theorem Try.ear219 : ear Try.prog 219 = some (4, 1) := by kernel_rfl
theorem Try.ear222 : ear Try.prog 222 = some (8, 1) := by kernel_rfl
theorem Try.ear254 : ear Try.prog 254 = some (64, 1) := by kernel_rfl
theorem Try.ear274 : ear Try.prog 274 = some (8, 1) := by kernel_rfl
theorem Try.eg25 : Try.prog.eqGuardType Try.prog.depth 25 = false := by kernel_rfl
theorem Try.eg28 : Try.prog.eqGuardType Try.prog.depth 28 = false := by kernel_rfl
theorem Try.eg86 : Try.prog.eqGuardType Try.prog.depth 86 = false := by kernel_rfl
theorem Try.eg127 : Try.prog.eqGuardType Try.prog.depth 127 = false := by kernel_rfl
theorem Try.esl22 : esl Try.prog 22 = some 1 := by kernel_rfl
theorem Try.esl45 : esl Try.prog 45 = some 32 := by kernel_rfl
theorem Try.esl48 : esl Try.prog 48 = some 49 := by kernel_rfl
theorem Try.esl57 : esl Try.prog 57 = some 5 := by kernel_rfl
theorem Try.esl62 : esl Try.prog 62 = some 1 := by kernel_rfl
theorem Try.esl73 : esl Try.prog 73 = some 1 := by kernel_rfl
theorem Try.esl79 : esl Try.prog 79 = some 192 := by kernel_rfl
theorem Try.esl80 : esl Try.prog 80 = some 192 := by kernel_rfl
theorem Try.esl128 : esl Try.prog 128 = some 20 := by kernel_rfl
theorem Try.esl186 : esl Try.prog 186 = some 1 := by kernel_rfl
theorem Try.esl215 : esl Try.prog 215 = some 1 := by kernel_rfl
theorem Try.esl263 : esl Try.prog 263 = some 4 := by kernel_rfl
theorem Try.fof28_0 : fof Try.prog 28 0 = some 0 := by kernel_rfl
theorem Try.fof28_1 : fof Try.prog 28 1 = some 32 := by kernel_rfl
theorem Try.fof28_2 : fof Try.prog 28 2 = some 48 := by kernel_rfl
theorem Try.fof31_0 : fof Try.prog 31 0 = some 0 := by kernel_rfl
theorem Try.fof31_1 : fof Try.prog 31 1 = some 288 := by kernel_rfl
theorem Try.fof31_2 : fof Try.prog 31 2 = some 289 := by kernel_rfl
theorem Try.fof37_0 : fof Try.prog 37 0 = some 0 := by kernel_rfl
theorem Try.fof37_1 : fof Try.prog 37 1 = some 288 := by kernel_rfl
theorem Try.fof47_0 : fof Try.prog 47 0 = some 0 := by kernel_rfl
theorem Try.fof47_1 : fof Try.prog 47 1 = some 16 := by kernel_rfl
theorem Try.fof47_2 : fof Try.prog 47 2 = some 48 := by kernel_rfl
theorem Try.fof66_0 : fof Try.prog 66 0 = some 0 := by kernel_rfl
theorem Try.fof66_1 : fof Try.prog 66 1 = some 1 := by kernel_rfl
theorem Try.fof66_2 : fof Try.prog 66 2 = some 2 := by kernel_rfl
theorem Try.fof66_3 : fof Try.prog 66 3 = some 3 := by kernel_rfl
theorem Try.fof66_4 : fof Try.prog 66 4 = some 4 := by kernel_rfl
theorem Try.fof84_0 : fof Try.prog 84 0 = some 0 := by kernel_rfl
theorem Try.fof84_1 : fof Try.prog 84 1 = some 32 := by kernel_rfl
theorem Try.fof86_0 : fof Try.prog 86 0 = some 0 := by kernel_rfl
theorem Try.fof86_1 : fof Try.prog 86 1 = some 128 := by kernel_rfl
theorem Try.fof89_0 : fof Try.prog 89 0 = some 0 := by kernel_rfl
theorem Try.fof89_1 : fof Try.prog 89 1 = some 128 := by kernel_rfl
theorem Try.fof89_2 : fof Try.prog 89 2 = some 160 := by kernel_rfl
theorem Try.fof108_0 : fof Try.prog 108 0 = some 0 := by kernel_rfl
theorem Try.fof108_1 : fof Try.prog 108 1 = some 1 := by kernel_rfl
theorem Try.fof127_0 : fof Try.prog 127 0 = some 0 := by kernel_rfl
theorem Try.fof127_1 : fof Try.prog 127 1 = some 1 := by kernel_rfl
theorem Try.fof127_2 : fof Try.prog 127 2 = some 2 := by kernel_rfl
theorem Try.fof127_3 : fof Try.prog 127 3 = some 3 := by kernel_rfl
theorem Try.fof127_4 : fof Try.prog 127 4 = some 4 := by kernel_rfl
theorem Try.fof149_0 : fof Try.prog 149 0 = some 0 := by kernel_rfl
theorem Try.fof149_1 : fof Try.prog 149 1 = some 1 := by kernel_rfl
theorem Try.fof182_0 : fof Try.prog 182 0 = some 0 := by kernel_rfl
theorem Try.fof182_1 : fof Try.prog 182 1 = some 32 := by kernel_rfl
theorem Try.fof238_0 : fof Try.prog 238 0 = some 0 := by kernel_rfl
theorem Try.fof238_1 : fof Try.prog 238 1 = some 8 := by kernel_rfl
theorem Try.fof238_2 : fof Try.prog 238 2 = some 9 := by kernel_rfl
theorem Try.fof240_0 : fof Try.prog 240 0 = some 0 := by kernel_rfl
theorem Try.fof242_0 : fof Try.prog 242 0 = some 0 := by kernel_rfl
theorem Try.fof242_1 : fof Try.prog 242 1 = some 10 := by kernel_rfl
set_option maxRecDepth 10000 in
theorem Try.ks25 : kindsOf Try.prog 9 25 = some (List.replicate 16 (.int .u8)) := by kernel_rfl
set_option maxRecDepth 10000 in
theorem Try.ks28 : kindsOf Try.prog 9 28 = some (List.replicate 288 (.int .u8)) := by kernel_rfl
set_option maxRecDepth 10000 in
theorem Try.ks86 : kindsOf Try.prog 9 86 = some (List.replicate 192 (.int .u8)) := by kernel_rfl
set_option maxRecDepth 10000 in
theorem Try.ks127 : kindsOf Try.prog 9 127 = some ([.int .u8, .int .u8, .int .u32, .int .u64, .int .u8, .int .u8, .int .u8, .int .u8, .int .u8, .int .u8, .int .u8, .int .u8, .int .u8, .int .u8, .int .u8, .int .u8, .int .u8, .int .u8, .int .u8, .int .u8]) := by kernel_rfl
theorem Try.sc3 : scal Try.prog 3 = true := by kernel_rfl
theorem Try.sc5 : scal Try.prog 5 = true := by kernel_rfl
theorem Try.sc9 : scal Try.prog 9 = true := by kernel_rfl
theorem Try.sc22 : scal Try.prog 22 = true := by kernel_rfl
theorem Try.sc29 : scal Try.prog 29 = true := by kernel_rfl
theorem Try.sc45 : scal Try.prog 45 = true := by kernel_rfl
theorem Try.sc57 : scal Try.prog 57 = true := by kernel_rfl
theorem Try.sc125 : scal Try.prog 125 = true := by kernel_rfl
theorem Try.stp28 : stp Try.prog 28 = some (List.replicate 288 (.int .u8 0), [(0, 32), (32, 16), (48, 240)]) := by kernel_rfl
theorem Try.stp31 : stp Try.prog 31 = some (List.replicate 288 (.int .u8 0) ++ [.int .u64 0] ++ List.replicate 32 (.int .u8 0), [(0, 288), (288, 1), (289, 32)]) := by kernel_rfl
theorem Try.stp37 : stp Try.prog 37 = some (List.replicate 768 (.int .u8 0), [(0, 288), (288, 480)]) := by kernel_rfl
theorem Try.stp66 : stp Try.prog 66 = some ([.int .u8 0, .int .u64 0, .int .i64 0, .int .i64 0, .slice none 0 0], [(0, 1), (1, 1), (2, 1), (3, 1), (4, 1)]) := by kernel_rfl
theorem Try.stp86 : stp Try.prog 86 = some (List.replicate 192 (.int .u8 0), [(0, 128), (128, 32), (160, 32)]) := by kernel_rfl
theorem Try.stp108 : stp Try.prog 108 = some ([.int .u64 0, .slice none 0 0], [(0, 1), (1, 1)]) := by kernel_rfl
theorem Try.stp127 : stp Try.prog 127 = some ([.int .u8 0, .int .u8 0, .int .u32 0, .int .u64 0, .int .u8 0, .int .u8 0, .int .u8 0, .int .u8 0, .int .u8 0, .int .u8 0, .int .u8 0, .int .u8 0, .int .u8 0, .int .u8 0, .int .u8 0, .int .u8 0, .int .u8 0, .int .u8 0, .int .u8 0, .int .u8 0], [(0, 1), (1, 1), (2, 1), (3, 1), (4, 16)]) := by kernel_rfl
theorem Try.stp149 : stp Try.prog 149 = some ([.slice none 0 0, .int .i64 0], [(0, 1), (1, 1)]) := by kernel_rfl
theorem Try.stp182 : stp Try.prog 182 = some (List.replicate 32 (.int .u8 0) ++ [.int .i64 0], [(0, 32), (32, 1)]) := by kernel_rfl
theorem Try.stp240 : stp Try.prog 240 = some ([.int .u32 0, .int .u32 0, .int .u32 0, .int .u32 0, .int .u32 0, .int .u32 0, .int .u32 0, .int .u32 0, .slice none 0 0, .int .i64 0], [(0, 10)]) := by kernel_rfl
theorem Try.stp242 : stp Try.prog 242 = some ([.int .u32 0, .int .u32 0, .int .u32 0, .int .u32 0, .int .u32 0, .int .u32 0, .int .u32 0, .int .u32 0, .slice none 0 0, .int .i64 0, .slice none 0 0], [(0, 10), (10, 1)]) := by kernel_rfl
theorem Try.sz3 : sz Try.prog 3 = some 1 := by kernel_rfl
theorem Try.sz5 : sz Try.prog 5 = some 1 := by kernel_rfl
theorem Try.sz9 : sz Try.prog 9 = some 1 := by kernel_rfl
theorem Try.sz22 : sz Try.prog 22 = some 1 := by kernel_rfl
theorem Try.sz24 : sz Try.prog 24 = some 32 := by kernel_rfl
theorem Try.sz25 : sz Try.prog 25 = some 16 := by kernel_rfl
theorem Try.sz26 : sz Try.prog 26 = some 240 := by kernel_rfl
theorem Try.sz28 : sz Try.prog 28 = some 288 := by kernel_rfl
theorem Try.sz29 : sz Try.prog 29 = some 1 := by kernel_rfl
theorem Try.sz31 : sz Try.prog 31 = some 321 := by kernel_rfl
theorem Try.sz35 : sz Try.prog 35 = some 480 := by kernel_rfl
theorem Try.sz37 : sz Try.prog 37 = some 768 := by kernel_rfl
theorem Try.sz45 : sz Try.prog 45 = some 1 := by kernel_rfl
theorem Try.sz47 : sz Try.prog 47 = some 49 := by kernel_rfl
theorem Try.sz57 : sz Try.prog 57 = some 1 := by kernel_rfl
theorem Try.sz66 : sz Try.prog 66 = some 5 := by kernel_rfl
theorem Try.sz84 : sz Try.prog 84 = some 128 := by kernel_rfl
theorem Try.sz86 : sz Try.prog 86 = some 192 := by kernel_rfl
theorem Try.sz89 : sz Try.prog 89 = some 192 := by kernel_rfl
theorem Try.sz108 : sz Try.prog 108 = some 2 := by kernel_rfl
theorem Try.sz125 : sz Try.prog 125 = some 1 := by kernel_rfl
theorem Try.sz127 : sz Try.prog 127 = some 20 := by kernel_rfl
theorem Try.sz164 : sz Try.prog 164 = some 4 := by kernel_rfl
theorem Try.sz184 : sz Try.prog 184 = some 64 := by kernel_rfl
theorem Try.sz200 : sz Try.prog 200 = some 4 := by kernel_rfl
theorem Try.sz211 : sz Try.prog 211 = some 16 := by kernel_rfl
theorem Try.sz217 : sz Try.prog 217 = some 4 := by kernel_rfl
theorem Try.sz218 : sz Try.prog 218 = some 32 := by kernel_rfl
theorem Try.sz219 : sz Try.prog 219 = some 4 := by kernel_rfl
theorem Try.sz222 : sz Try.prog 222 = some 8 := by kernel_rfl
theorem Try.sz238 : sz Try.prog 238 = some 10 := by kernel_rfl
theorem Try.sz254 : sz Try.prog 254 = some 64 := by kernel_rfl
theorem Try.zln5 : (zrl Try.prog 5).map List.length = some 1 := by kernel_rfl
theorem Try.zln22 : (zrl Try.prog 22).map List.length = some 1 := by kernel_rfl
theorem Try.zln24 : (zrl Try.prog 24).map List.length = some 32 := by kernel_rfl
theorem Try.zln47 : (zrl Try.prog 47).map List.length = some 49 := by kernel_rfl
theorem Try.zln66 : (zrl Try.prog 66).map List.length = some 5 := by kernel_rfl
theorem Try.zln86 : (zrl Try.prog 86).map List.length = some 192 := by kernel_rfl
theorem Try.zln125 : (zrl Try.prog 125).map List.length = some 1 := by kernel_rfl
theorem Try.zrl3 : zrl Try.prog 3 = some ([.int .i64 0]) := by kernel_rfl
theorem Try.zrl5 : zrl Try.prog 5 = some ([.int .u8 0]) := by kernel_rfl
theorem Try.zrl9 : zrl Try.prog 9 = some ([.string ByteArray.empty]) := by kernel_rfl
theorem Try.zrl22 : zrl Try.prog 22 = some ([.slice none 0 0]) := by kernel_rfl
theorem Try.zrl24 : zrl Try.prog 24 = some (List.replicate 32 (.int .u8 0)) := by kernel_rfl
theorem Try.zrl28 : zrl Try.prog 28 = some (List.replicate 288 (.int .u8 0)) := by kernel_rfl
theorem Try.zrl31 : zrl Try.prog 31 = some (List.replicate 288 (.int .u8 0) ++ [.int .u64 0] ++ List.replicate 32 (.int .u8 0)) := by kernel_rfl
theorem Try.zrl37 : zrl Try.prog 37 = some (List.replicate 768 (.int .u8 0)) := by kernel_rfl
theorem Try.zrl47 : zrl Try.prog 47 = some (List.replicate 48 (.int .u8 0) ++ [.slice none 0 0]) := by kernel_rfl
theorem Try.zrl66 : zrl Try.prog 66 = some ([.int .u8 0, .int .u64 0, .int .i64 0, .int .i64 0, .slice none 0 0]) := by kernel_rfl
theorem Try.zrl86 : zrl Try.prog 86 = some (List.replicate 192 (.int .u8 0)) := by kernel_rfl
theorem Try.zrl89 : zrl Try.prog 89 = some (List.replicate 192 (.int .u8 0)) := by kernel_rfl
theorem Try.zrl108 : zrl Try.prog 108 = some ([.int .u64 0, .slice none 0 0]) := by kernel_rfl
theorem Try.zrl125 : zrl Try.prog 125 = some ([.int .u32 0]) := by kernel_rfl
theorem Try.zrl127 : zrl Try.prog 127 = some ([.int .u8 0, .int .u8 0, .int .u32 0, .int .u64 0, .int .u8 0, .int .u8 0, .int .u8 0, .int .u8 0, .int .u8 0, .int .u8 0, .int .u8 0, .int .u8 0, .int .u8 0, .int .u8 0, .int .u8 0, .int .u8 0, .int .u8 0, .int .u8 0, .int .u8 0, .int .u8 0]) := by kernel_rfl
theorem Try.zrl164 : zrl Try.prog 164 = some ([.string ByteArray.empty, .string ByteArray.empty, .string ByteArray.empty, .string ByteArray.empty]) := by kernel_rfl
theorem Try.zrl183 : zrl Try.prog 183 = some ([.int .u8 0, .int .u8 0, .int .u8 0, .int .u8 0, .int .u8 0, .int .u8 0, .int .u8 0, .int .u8 0, .int .u8 0, .int .u8 0, .int .u8 0, .int .u8 0]) := by kernel_rfl
theorem Try.zrl184 : zrl Try.prog 184 = some (List.replicate 64 (.int .u8 0)) := by kernel_rfl
theorem Try.zrl200 : zrl Try.prog 200 = some ([.int .u64 0, .int .u64 0, .int .u64 0, .int .u64 0]) := by kernel_rfl
theorem Try.zrl211 : zrl Try.prog 211 = some (List.replicate 16 (.int .u32 0)) := by kernel_rfl
theorem Try.zrl217 : zrl Try.prog 217 = some ([.int .i64 0, .int .i64 0, .int .i64 0, .int .i64 0]) := by kernel_rfl
theorem Try.zrl218 : zrl Try.prog 218 = some (List.replicate 32 (.int .i64 0)) := by kernel_rfl
theorem Try.zrl219 : zrl Try.prog 219 = some ([.int .u32 0, .int .u32 0, .int .u32 0, .int .u32 0]) := by kernel_rfl
theorem Try.zrl222 : zrl Try.prog 222 = some ([.int .u32 0, .int .u32 0, .int .u32 0, .int .u32 0, .int .u32 0, .int .u32 0, .int .u32 0, .int .u32 0]) := by kernel_rfl
theorem Try.zrl240 : zrl Try.prog 240 = some ([.int .u32 0, .int .u32 0, .int .u32 0, .int .u32 0, .int .u32 0, .int .u32 0, .int .u32 0, .int .u32 0, .slice none 0 0, .int .i64 0]) := by kernel_rfl
theorem Try.zrl254 : zrl Try.prog 254 = some (List.replicate 64 (.int .u32 0)) := by kernel_rfl
theorem Try.zrl274 : zrl Try.prog 274 = some ([.int .u64 0, .int .u64 0, .int .u64 0, .int .u64 0, .int .u64 0, .int .u64 0, .int .u64 0, .int .u64 0]) := by kernel_rfl
theorem Try.mixed : Try.prog.follows .mixedOrders = true := by kernel_rfl
end Go.Proofs
