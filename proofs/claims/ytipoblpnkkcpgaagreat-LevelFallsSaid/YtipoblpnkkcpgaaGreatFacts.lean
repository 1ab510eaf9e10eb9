/- Closed facts on the seat's program, written by a program of this session (facts.py). -/
import Derived.Test.YtipoblpnkkcpgaaGreatProg
import Derived.Test.YtipoblpnkkcpgaaGreatMat
set_option linter.unusedVariables false
namespace Go.Proofs.YtipoblpnkkcpgaaGreat
open Go Go.RowKit Go.Proofs.YtipoblpnkkcpgaaGreat.B
theorem mixed : Tryz.prog.follows .mixedOrders = true := by kernel_rfl
theorem e3 : Enters Tryz.prog 3 := enters Tryz.func3 (by kernel_rfl) rfl
theorem e4 : Enters Tryz.prog 4 := enters Tryz.func4 (by kernel_rfl) rfl
theorem e5 : Enters Tryz.prog 5 := enters Tryz.func5 (by kernel_rfl) rfl
theorem e6 : Enters Tryz.prog 6 := enters Tryz.func6 (by kernel_rfl) rfl
theorem e7 : Enters Tryz.prog 7 := enters Tryz.func7 (by kernel_rfl) rfl
theorem e8 : Enters Tryz.prog 8 := enters Tryz.func8 (by kernel_rfl) rfl
theorem e9 : Enters Tryz.prog 9 := enters Tryz.func9 (by kernel_rfl) rfl
theorem e10 : Enters Tryz.prog 10 := enters Tryz.func10 (by kernel_rfl) rfl
theorem e11 : Enters Tryz.prog 11 := enters Tryz.func11 (by kernel_rfl) rfl
theorem e12 : Enters Tryz.prog 12 := enters Tryz.func12 (by kernel_rfl) rfl
theorem e13 : Enters Tryz.prog 13 := enters Tryz.func13 (by kernel_rfl) rfl
theorem e14 : Enters Tryz.prog 14 := enters Tryz.func14 (by kernel_rfl) rfl
theorem e15 : Enters Tryz.prog 15 := enters Tryz.func15 (by kernel_rfl) rfl
theorem e16 : Enters Tryz.prog 16 := enters Tryz.func16 (by kernel_rfl) rfl
theorem e17 : Enters Tryz.prog 17 := enters Tryz.func17 (by kernel_rfl) rfl
theorem e18 : Enters Tryz.prog 18 := enters Tryz.func18 (by kernel_rfl) rfl
theorem e19 : Enters Tryz.prog 19 := enters Tryz.func19 (by kernel_rfl) rfl
theorem e20 : Enters Tryz.prog 20 := enters Tryz.func20 (by kernel_rfl) rfl
theorem e21 : Enters Tryz.prog 21 := enters Tryz.func21 (by kernel_rfl) rfl
theorem e22 : Enters Tryz.prog 22 := enters Tryz.func22 (by kernel_rfl) rfl
theorem e23 : Enters Tryz.prog 23 := enters Tryz.func23 (by kernel_rfl) rfl
theorem e24 : Enters Tryz.prog 24 := enters Tryz.func24 (by kernel_rfl) rfl
theorem e25 : Enters Tryz.prog 25 := enters Tryz.func25 (by kernel_rfl) rfl
theorem e26 : Enters Tryz.prog 26 := enters Tryz.func26 (by kernel_rfl) rfl
theorem e27 : Enters Tryz.prog 27 := enters Tryz.func27 (by kernel_rfl) rfl
theorem e28 : Enters Tryz.prog 28 := enters Tryz.func28 (by kernel_rfl) rfl
theorem e29 : Enters Tryz.prog 29 := enters Tryz.func29 (by kernel_rfl) rfl
theorem e30 : Enters Tryz.prog 30 := enters Tryz.func30 (by kernel_rfl) rfl
theorem e31 : Enters Tryz.prog 31 := enters Tryz.func31 (by kernel_rfl) rfl
theorem e32 : Enters Tryz.prog 32 := enters Tryz.func32 (by kernel_rfl) rfl
theorem e33 : Enters Tryz.prog 33 := enters Tryz.func33 (by kernel_rfl) rfl
theorem e34 : Enters Tryz.prog 34 := enters Tryz.func34 (by kernel_rfl) rfl
theorem e35 : Enters Tryz.prog 35 := enters Tryz.func35 (by kernel_rfl) rfl
theorem e36 : Enters Tryz.prog 36 := enters Tryz.func36 (by kernel_rfl) rfl
theorem e37 : Enters Tryz.prog 37 := enters Tryz.func37 (by kernel_rfl) rfl
theorem e38 : Enters Tryz.prog 38 := enters Tryz.func38 (by kernel_rfl) rfl
theorem e39 : Enters Tryz.prog 39 := enters Tryz.func39 (by kernel_rfl) rfl
theorem e40 : Enters Tryz.prog 40 := enters Tryz.func40 (by kernel_rfl) rfl
theorem e41 : Enters Tryz.prog 41 := enters Tryz.func41 (by kernel_rfl) rfl
theorem e42 : Enters Tryz.prog 42 := enters Tryz.func42 (by kernel_rfl) rfl
theorem e43 : Enters Tryz.prog 43 := enters Tryz.func43 (by kernel_rfl) rfl
theorem e44 : Enters Tryz.prog 44 := enters Tryz.func44 (by kernel_rfl) rfl
theorem e45 : Enters Tryz.prog 45 := enters Tryz.func45 (by kernel_rfl) rfl
theorem e46 : Enters Tryz.prog 46 := enters Tryz.func46 (by kernel_rfl) rfl
theorem e47 : Enters Tryz.prog 47 := enters Tryz.func47 (by kernel_rfl) rfl
theorem e48 : Enters Tryz.prog 48 := enters Tryz.func48 (by kernel_rfl) rfl
theorem e49 : Enters Tryz.prog 49 := enters Tryz.func49 (by kernel_rfl) rfl
theorem e50 : Enters Tryz.prog 50 := enters Tryz.func50 (by kernel_rfl) rfl
theorem e51 : Enters Tryz.prog 51 := enters Tryz.func51 (by kernel_rfl) rfl
theorem e52 : Enters Tryz.prog 52 := enters Tryz.func52 (by kernel_rfl) rfl
theorem e53 : Enters Tryz.prog 53 := enters Tryz.func53 (by kernel_rfl) rfl
theorem e54 : Enters Tryz.prog 54 := enters Tryz.func54 (by kernel_rfl) rfl
theorem e55 : Enters Tryz.prog 55 := enters Tryz.func55 (by kernel_rfl) rfl
theorem e56 : Enters Tryz.prog 56 := enters Tryz.func56 (by kernel_rfl) rfl
theorem e57 : Enters Tryz.prog 57 := enters Tryz.func57 (by kernel_rfl) rfl
theorem e58 : Enters Tryz.prog 58 := enters Tryz.func58 (by kernel_rfl) rfl
theorem e59 : Enters Tryz.prog 59 := enters Tryz.func59 (by kernel_rfl) rfl
theorem e60 : Enters Tryz.prog 60 := enters Tryz.func60 (by kernel_rfl) rfl
theorem e61 : Enters Tryz.prog 61 := enters Tryz.func61 (by kernel_rfl) rfl
theorem e62 : Enters Tryz.prog 62 := enters Tryz.func62 (by kernel_rfl) rfl
theorem e63 : Enters Tryz.prog 63 := enters Tryz.func63 (by kernel_rfl) rfl
theorem e64 : Enters Tryz.prog 64 := enters Tryz.func64 (by kernel_rfl) rfl
theorem e65 : Enters Tryz.prog 65 := enters Tryz.func65 (by kernel_rfl) rfl
theorem e66 : Enters Tryz.prog 66 := enters Tryz.func66 (by kernel_rfl) rfl
theorem e67 : Enters Tryz.prog 67 := enters Tryz.func67 (by kernel_rfl) rfl
theorem e68 : Enters Tryz.prog 68 := enters Tryz.func68 (by kernel_rfl) rfl
theorem e69 : Enters Tryz.prog 69 := enters Tryz.func69 (by kernel_rfl) rfl
theorem e70 : Enters Tryz.prog 70 := enters Tryz.func70 (by kernel_rfl) rfl
theorem e71 : Enters Tryz.prog 71 := enters Tryz.func71 (by kernel_rfl) rfl
theorem e72 : Enters Tryz.prog 72 := enters Tryz.func72 (by kernel_rfl) rfl
theorem e73 : Enters Tryz.prog 73 := enters Tryz.func73 (by kernel_rfl) rfl
theorem e74 : Enters Tryz.prog 74 := enters Tryz.func74 (by kernel_rfl) rfl
theorem e75 : Enters Tryz.prog 75 := enters Tryz.func75 (by kernel_rfl) rfl
theorem e76 : Enters Tryz.prog 76 := enters Tryz.func76 (by kernel_rfl) rfl
theorem e77 : Enters Tryz.prog 77 := enters Tryz.func77 (by kernel_rfl) rfl
theorem e78 : Enters Tryz.prog 78 := enters Tryz.func78 (by kernel_rfl) rfl
theorem e79 : Enters Tryz.prog 79 := enters Tryz.func79 (by kernel_rfl) rfl
theorem e80 : Enters Tryz.prog 80 := enters Tryz.func80 (by kernel_rfl) rfl
theorem e81 : Enters Tryz.prog 81 := enters Tryz.func81 (by kernel_rfl) rfl
theorem e82 : Enters Tryz.prog 82 := enters Tryz.func82 (by kernel_rfl) rfl
theorem e83 : Enters Tryz.prog 83 := enters Tryz.func83 (by kernel_rfl) rfl
theorem e84 : Enters Tryz.prog 84 := enters Tryz.func84 (by kernel_rfl) rfl
theorem e85 : Enters Tryz.prog 85 := enters Tryz.func85 (by kernel_rfl) rfl
theorem e86 : Enters Tryz.prog 86 := enters Tryz.func86 (by kernel_rfl) rfl
theorem e87 : Enters Tryz.prog 87 := enters Tryz.func87 (by kernel_rfl) rfl
theorem e88 : Enters Tryz.prog 88 := enters Tryz.func88 (by kernel_rfl) rfl
theorem e89 : Enters Tryz.prog 89 := enters Tryz.func89 (by kernel_rfl) rfl
theorem e90 : Enters Tryz.prog 90 := enters Tryz.func90 (by kernel_rfl) rfl
theorem e91 : Enters Tryz.prog 91 := enters Tryz.func91 (by kernel_rfl) rfl
theorem e92 : Enters Tryz.prog 92 := enters Tryz.func92 (by kernel_rfl) rfl
theorem e93 : Enters Tryz.prog 93 := enters Tryz.func93 (by kernel_rfl) rfl
theorem e94 : Enters Tryz.prog 94 := enters Tryz.func94 (by kernel_rfl) rfl
theorem e95 : Enters Tryz.prog 95 := enters Tryz.func95 (by kernel_rfl) rfl
theorem e96 : Enters Tryz.prog 96 := enters Tryz.func96 (by kernel_rfl) rfl
theorem e97 : Enters Tryz.prog 97 := enters Tryz.func97 (by kernel_rfl) rfl
theorem e98 : Enters Tryz.prog 98 := enters Tryz.func98 (by kernel_rfl) rfl
theorem e99 : Enters Tryz.prog 99 := enters Tryz.func99 (by kernel_rfl) rfl
theorem e100 : Enters Tryz.prog 100 := enters Tryz.func100 (by kernel_rfl) rfl
theorem e101 : Enters Tryz.prog 101 := enters Tryz.func101 (by kernel_rfl) rfl
theorem e102 : Enters Tryz.prog 102 := enters Tryz.func102 (by kernel_rfl) rfl
theorem e103 : Enters Tryz.prog 103 := enters Tryz.func103 (by kernel_rfl) rfl
theorem e104 : Enters Tryz.prog 104 := enters Tryz.func104 (by kernel_rfl) rfl
theorem e105 : Enters Tryz.prog 105 := enters Tryz.func105 (by kernel_rfl) rfl
theorem e106 : Enters Tryz.prog 106 := enters Tryz.func106 (by kernel_rfl) rfl
theorem e107 : Enters Tryz.prog 107 := enters Tryz.func107 (by kernel_rfl) rfl
theorem e108 : Enters Tryz.prog 108 := enters Tryz.func108 (by kernel_rfl) rfl
theorem e109 : Enters Tryz.prog 109 := enters Tryz.func109 (by kernel_rfl) rfl
theorem e110 : Enters Tryz.prog 110 := enters Tryz.func110 (by kernel_rfl) rfl
theorem e111 : Enters Tryz.prog 111 := enters Tryz.func111 (by kernel_rfl) rfl
theorem e112 : Enters Tryz.prog 112 := enters Tryz.func112 (by kernel_rfl) rfl
theorem e113 : Enters Tryz.prog 113 := enters Tryz.func113 (by kernel_rfl) rfl
theorem e114 : Enters Tryz.prog 114 := enters Tryz.func114 (by kernel_rfl) rfl
theorem e115 : Enters Tryz.prog 115 := enters Tryz.func115 (by kernel_rfl) rfl
theorem e116 : Enters Tryz.prog 116 := enters Tryz.func116 (by kernel_rfl) rfl
theorem e117 : Enters Tryz.prog 117 := enters Tryz.func117 (by kernel_rfl) rfl
theorem e118 : Enters Tryz.prog 118 := enters Tryz.func118 (by kernel_rfl) rfl
theorem e119 : Enters Tryz.prog 119 := enters Tryz.func119 (by kernel_rfl) rfl
theorem e120 : Enters Tryz.prog 120 := enters Tryz.func120 (by kernel_rfl) rfl
theorem e121 : Enters Tryz.prog 121 := enters Tryz.func121 (by kernel_rfl) rfl
theorem e122 : Enters Tryz.prog 122 := enters Tryz.func122 (by kernel_rfl) rfl
theorem e123 : Enters Tryz.prog 123 := enters Tryz.func123 (by kernel_rfl) rfl
theorem e124 : Enters Tryz.prog 124 := enters Tryz.func124 (by kernel_rfl) rfl
theorem e125 : Enters Tryz.prog 125 := enters Tryz.func125 (by kernel_rfl) rfl
theorem e126 : Enters Tryz.prog 126 := enters Tryz.func126 (by kernel_rfl) rfl
theorem e127 : Enters Tryz.prog 127 := enters Tryz.func127 (by kernel_rfl) rfl
theorem e128 : Enters Tryz.prog 128 := enters Tryz.func128 (by kernel_rfl) rfl
theorem e129 : Enters Tryz.prog 129 := enters Tryz.func129 (by kernel_rfl) rfl
theorem e130 : Enters Tryz.prog 130 := enters Tryz.func130 (by kernel_rfl) rfl
theorem e131 : Enters Tryz.prog 131 := enters Tryz.func131 (by kernel_rfl) rfl
theorem e132 : Enters Tryz.prog 132 := enters Tryz.func132 (by kernel_rfl) rfl
theorem e133 : Enters Tryz.prog 133 := enters Tryz.func133 (by kernel_rfl) rfl
theorem e134 : Enters Tryz.prog 134 := enters Tryz.func134 (by kernel_rfl) rfl
theorem e135 : Enters Tryz.prog 135 := enters Tryz.func135 (by kernel_rfl) rfl
theorem e136 : Enters Tryz.prog 136 := enters Tryz.func136 (by kernel_rfl) rfl
theorem e137 : Enters Tryz.prog 137 := enters Tryz.func137 (by kernel_rfl) rfl
theorem e138 : Enters Tryz.prog 138 := enters Tryz.func138 (by kernel_rfl) rfl
theorem e139 : Enters Tryz.prog 139 := enters Tryz.func139 (by kernel_rfl) rfl
theorem e140 : Enters Tryz.prog 140 := enters Tryz.func140 (by kernel_rfl) rfl
theorem e141 : Enters Tryz.prog 141 := enters Tryz.func141 (by kernel_rfl) rfl
theorem e142 : Enters Tryz.prog 142 := enters Tryz.func142 (by kernel_rfl) rfl
theorem e143 : Enters Tryz.prog 143 := enters Tryz.func143 (by kernel_rfl) rfl
theorem e144 : Enters Tryz.prog 144 := enters Tryz.func144 (by kernel_rfl) rfl
theorem e145 : Enters Tryz.prog 145 := enters Tryz.func145 (by kernel_rfl) rfl
theorem e146 : Enters Tryz.prog 146 := enters Tryz.func146 (by kernel_rfl) rfl
theorem e147 : Enters Tryz.prog 147 := enters Tryz.func147 (by kernel_rfl) rfl
theorem e148 : Enters Tryz.prog 148 := enters Tryz.func148 (by kernel_rfl) rfl
theorem e149 : Enters Tryz.prog 149 := enters Tryz.func149 (by kernel_rfl) rfl
theorem e150 : Enters Tryz.prog 150 := enters Tryz.func150 (by kernel_rfl) rfl
theorem e151 : Enters Tryz.prog 151 := enters Tryz.func151 (by kernel_rfl) rfl
theorem e152 : Enters Tryz.prog 152 := enters Tryz.func152 (by kernel_rfl) rfl
theorem e153 : Enters Tryz.prog 153 := enters Tryz.func153 (by kernel_rfl) rfl
theorem e154 : Enters Tryz.prog 154 := enters Tryz.func154 (by kernel_rfl) rfl
theorem e155 : Enters Tryz.prog 155 := enters Tryz.func155 (by kernel_rfl) rfl
theorem e156 : Enters Tryz.prog 156 := enters Tryz.func156 (by kernel_rfl) rfl
theorem e157 : Enters Tryz.prog 157 := enters Tryz.func157 (by kernel_rfl) rfl
theorem e158 : Enters Tryz.prog 158 := enters Tryz.func158 (by kernel_rfl) rfl
theorem e159 : Enters Tryz.prog 159 := enters Tryz.func159 (by kernel_rfl) rfl
theorem e160 : Enters Tryz.prog 160 := enters Tryz.func160 (by kernel_rfl) rfl
theorem e161 : Enters Tryz.prog 161 := enters Tryz.func161 (by kernel_rfl) rfl
theorem e162 : Enters Tryz.prog 162 := enters Tryz.func162 (by kernel_rfl) rfl
theorem e163 : Enters Tryz.prog 163 := enters Tryz.func163 (by kernel_rfl) rfl
theorem e164 : Enters Tryz.prog 164 := enters Tryz.func164 (by kernel_rfl) rfl
theorem e165 : Enters Tryz.prog 165 := enters Tryz.func165 (by kernel_rfl) rfl
theorem e166 : Enters Tryz.prog 166 := enters Tryz.func166 (by kernel_rfl) rfl
theorem e167 : Enters Tryz.prog 167 := enters Tryz.func167 (by kernel_rfl) rfl
theorem info2 : (Tryz.prog.info? 2).map (fun i => (i.zero, i.size, i.bytes)) = some (some (.int .i64 0), 1, 8) := by kernel_rfl
theorem info3 : (Tryz.prog.info? 3).map (fun i => (i.zero, i.size, i.bytes)) = some (some (.int .i64 0), 1, 8) := by kernel_rfl
theorem info4 : (Tryz.prog.info? 4).map (fun i => (i.zero, i.size, i.bytes)) = some (some (.bool false), 1, 1) := by kernel_rfl
theorem info45 : (Tryz.prog.info? 45).map (fun i => (i.zero, i.size, i.bytes)) = some (some (.agg #[.int .i64 0, .int .i64 0]), 2, 16) := by kernel_rfl
theorem info51 : (Tryz.prog.info? 51).map (fun i => (i.zero, i.size, i.bytes)) = some (some (.slice none 0 0), 1, 24) := by kernel_rfl
theorem info79 : (Tryz.prog.info? 79).map (fun i => (i.zero, i.size, i.bytes)) = some (some (.agg #[.int .i64 0, .int .i64 0, .int .i64 0]), 3, 24) := by kernel_rfl
theorem info108 : (Tryz.prog.info? 108).map (fun i => (i.zero, i.size, i.bytes)) = some (some (.nilFunc), 1, 8) := by kernel_rfl
theorem info126 : (Tryz.prog.info? 126).map (fun i => (i.zero, i.size, i.bytes)) = some (some (.agg #[.int .i64 0, .int .i64 0]), 2, 16) := by kernel_rfl
theorem info173 : (Tryz.prog.info? 173).map (fun i => (i.zero, i.size, i.bytes)) = some (some (.int .u64 0), 1, 8) := by kernel_rfl
theorem arr130 : Go.WideMaps.ArrKey Tryz.prog 130 3 2 := ⟨Tryz.underlying130, by kernel_rfl, by kernel_rfl, by kernel_rfl⟩
theorem keyed130 : Go.Maps.Keyed Tryz.prog 130 := Go.Maps.Keyed.of_law arr130.law
theorem typesSize : ∃ m, Tryz.prog.types.size = m + 1 := ⟨_, (by kernel_rfl : Tryz.prog.types.size = 233 + 1)⟩
theorem bld32_0_1 (x0 : Int) (x1 : Option Addr) (n1 c1 : Nat) (w : World) : (Instr.build 32 #[(0, .int .i64 x0), (1, .slice x1 n1 c1)]).run Tryz.prog w = .ok (.agg #[.int .i64 x0, .slice x1 n1 c1]) w := by kernel_rfl
theorem bld35_  (w : World) : (Instr.build 35 #[]).run Tryz.prog w = .ok (.agg #[.int .i64 0, .slice none 0 0, .slice none 0 0]) w := by kernel_rfl
theorem bld35_0_1 (x0 : Int) (x1 : Option Addr) (n1 c1 : Nat) (x2 : Option Addr) (n2 c2 : Nat) (w : World) : (Instr.build 35 #[(0, .agg #[.int .i64 x0, .slice x1 n1 c1]), (1, .slice x2 n2 c2)]).run Tryz.prog w = .ok (.agg #[.int .i64 x0, .slice x1 n1 c1, .slice x2 n2 c2]) w := by kernel_rfl
theorem bld38_0 (x0 : Int) (x1 : Option Addr) (n1 c1 : Nat) (w : World) : (Instr.build 38 #[(0, .agg #[.int .i64 x0, .slice x1 n1 c1])]).run Tryz.prog w = .ok (.agg #[.int .i64 x0, .slice x1 n1 c1, .int .i64 0, .int .i64 0]) w := by kernel_rfl
theorem bld38_1 (x0 : Int) (w : World) : (Instr.build 38 #[(1, .int .i64 x0)]).run Tryz.prog w = .ok (.agg #[.int .i64 0, .slice none 0 0, .int .i64 x0, .int .i64 0]) w := by kernel_rfl
theorem bld38_1_2 (x0 : Int) (x1 : Int) (w : World) : (Instr.build 38 #[(1, .int .i64 x0), (2, .int .i64 x1)]).run Tryz.prog w = .ok (.agg #[.int .i64 0, .slice none 0 0, .int .i64 x0, .int .i64 x1]) w := by kernel_rfl
theorem bld53_1_2_3_4 (x0 : Int) (x1 : Int) (x2 : Option Addr) (n2 c2 : Nat) (x3 : Option Addr) (n3 c3 : Nat) (w : World) : (Instr.build 53 #[(1, .int .i64 x0), (2, .int .i64 x1), (3, .slice x2 n2 c2), (4, .slice x3 n3 c3)]).run Tryz.prog w = .ok (.agg #[.int .i64 0, .int .i64 x0, .int .i64 x1, .slice x2 n2 c2, .slice x3 n3 c3]) w := by kernel_rfl
theorem bld60_  (w : World) : (Instr.build 60 #[]).run Tryz.prog w = .ok (.agg #[.slice none 0 0, .bool false]) w := by kernel_rfl
theorem bld60_0_1 (x0 : Option Addr) (n0 c0 : Nat) (x1 : Bool) (w : World) : (Instr.build 60 #[(0, .slice x0 n0 c0), (1, .bool x1)]).run Tryz.prog w = .ok (.agg #[.slice x0 n0 c0, .bool x1]) w := by kernel_rfl
theorem bld64_0 (x0 : Int) (w : World) : (Instr.build 64 #[(0, .int .i64 x0)]).run Tryz.prog w = .ok (.agg #[.int .i64 x0, .int .i64 0]) w := by kernel_rfl
theorem bld64_0_1 (x0 : Int) (x1 : Int) (w : World) : (Instr.build 64 #[(0, .int .i64 x0), (1, .int .i64 x1)]).run Tryz.prog w = .ok (.agg #[.int .i64 x0, .int .i64 x1]) w := by kernel_rfl
theorem bld64_1 (x0 : Int) (w : World) : (Instr.build 64 #[(1, .int .i64 x0)]).run Tryz.prog w = .ok (.agg #[.int .i64 0, .int .i64 x0]) w := by kernel_rfl
theorem bld79_0_1_2 (x0 : Int) (x1 : Int) (x2 : Int) (w : World) : (Instr.build 79 #[(0, .int .i64 x0), (1, .int .i64 x1), (2, .int .i64 x2)]).run Tryz.prog w = .ok (.agg #[.int .i64 x0, .int .i64 x1, .int .i64 x2]) w := by kernel_rfl
theorem bld79_1_2 (x0 : Int) (x1 : Int) (w : World) : (Instr.build 79 #[(1, .int .i64 x0), (2, .int .i64 x1)]).run Tryz.prog w = .ok (.agg #[.int .i64 0, .int .i64 x0, .int .i64 x1]) w := by kernel_rfl
theorem bld86_0_1 (x0 : Option Addr) (n0 c0 : Nat) (x1 : Option Addr) (n1 c1 : Nat) (w : World) : (Instr.build 86 #[(0, .slice x0 n0 c0), (1, .slice x1 n1 c1)]).run Tryz.prog w = .ok (.agg #[.slice x0 n0 c0, .slice x1 n1 c1]) w := by kernel_rfl
theorem bld88_0_1 (x0 : Option Addr) (n0 c0 : Nat) (x1 : Option Addr) (n1 c1 : Nat) (x2 : Option Addr) (n2 c2 : Nat) (w : World) : (Instr.build 88 #[(0, .agg #[.slice x0 n0 c0, .slice x1 n1 c1]), (1, .slice x2 n2 c2)]).run Tryz.prog w = .ok (.agg #[.slice x0 n0 c0, .slice x1 n1 c1, .slice x2 n2 c2, .int .i64 0]) w := by kernel_rfl
theorem bld93_0_1_2 (x0 : Option Addr) (x1 : Option Addr) (n1 c1 : Nat) (x2 : Option Addr) (n2 c2 : Nat) (w : World) : (Instr.build 93 #[(0, .pointer x0), (1, .slice x1 n1 c1), (2, .slice x2 n2 c2)]).run Tryz.prog w = .ok (.agg #[.pointer x0, .slice x1 n1 c1, .slice x2 n2 c2]) w := by kernel_rfl
theorem bld95_  (w : World) : (Instr.build 95 #[]).run Tryz.prog w = .ok (.agg #[.int .i64 0, .int .i64 0]) w := by kernel_rfl
theorem bld95_0_1 (x0 : Int) (x1 : Int) (w : World) : (Instr.build 95 #[(0, .int .i64 x0), (1, .int .i64 x1)]).run Tryz.prog w = .ok (.agg #[.int .i64 x0, .int .i64 x1]) w := by kernel_rfl
theorem bld98_  (w : World) : (Instr.build 98 #[]).run Tryz.prog w = .ok (.agg #[.slice none 0 0, .bool false]) w := by kernel_rfl
theorem bld98_0_1 (x0 : Option Addr) (n0 c0 : Nat) (x1 : Bool) (w : World) : (Instr.build 98 #[(0, .slice x0 n0 c0), (1, .bool x1)]).run Tryz.prog w = .ok (.agg #[.slice x0 n0 c0, .bool x1]) w := by kernel_rfl
theorem bld106_1 (x0 : Option Addr) (n0 c0 : Nat) (w : World) : (Instr.build 106 #[(1, .slice x0 n0 c0)]).run Tryz.prog w = .ok (.agg #[.slice none 0 0, .slice x0 n0 c0, .slice none 0 0]) w := by kernel_rfl
theorem bld114_0_1 (x0 : Int) (x1 : Option Addr) (n1 c1 : Nat) (w : World) : (Instr.build 114 #[(0, .int .i64 x0), (1, .slice x1 n1 c1)]).run Tryz.prog w = .ok (.agg #[.int .i64 x0, .slice x1 n1 c1]) w := by kernel_rfl
theorem bld126_0_1 (x0 : Int) (x1 : Int) (w : World) : (Instr.build 126 #[(0, .int .i64 x0), (1, .int .i64 x1)]).run Tryz.prog w = .ok (.agg #[.int .i64 x0, .int .i64 x1]) w := by kernel_rfl
theorem bld130_0_1 (x0 : Int) (x1 : Int) (w : World) : (Instr.build 130 #[(0, .int .i64 x0), (1, .int .i64 x1)]).run Tryz.prog w = .ok (.agg #[.int .i64 x0, .int .i64 x1]) w := by kernel_rfl
theorem bld139_0_1 (x0 : Int) (x1 : Int) (x2 : Int) (x3 : Int) (w : World) : (Instr.build 139 #[(0, .agg #[.int .i64 x0, .int .i64 x1]), (1, .agg #[.int .i64 x2, .int .i64 x3])]).run Tryz.prog w = .ok (.agg #[.int .i64 x0, .int .i64 x1, .int .i64 x2, .int .i64 x3]) w := by kernel_rfl
theorem bld149_0_1 (x0 : Int) (x1 : Option Addr) (n1 c1 : Nat) (w : World) : (Instr.build 149 #[(0, .int .i64 x0), (1, .slice x1 n1 c1)]).run Tryz.prog w = .ok (.agg #[.int .i64 x0, .slice x1 n1 c1]) w := by kernel_rfl
theorem bld176_  (w : World) : (Instr.build 176 #[]).run Tryz.prog w = .ok (.agg #[.int .i64 0, .bool false]) w := by kernel_rfl
theorem bld176_0_1 (x0 : Int) (x1 : Bool) (w : World) : (Instr.build 176 #[(0, .int .i64 x0), (1, .bool x1)]).run Tryz.prog w = .ok (.agg #[.int .i64 x0, .bool x1]) w := by kernel_rfl
theorem bld217_0_1 (x0 : Int) (x1 : Option Addr) (n1 c1 : Nat) (w : World) : (Instr.build 217 #[(0, .int .i64 x0), (1, .slice x1 n1 c1)]).run Tryz.prog w = .ok (.agg #[.int .i64 x0, .slice x1 n1 c1]) w := by kernel_rfl
end Go.Proofs.YtipoblpnkkcpgaaGreat
