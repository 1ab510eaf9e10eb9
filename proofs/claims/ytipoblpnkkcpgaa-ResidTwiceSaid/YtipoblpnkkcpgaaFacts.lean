/- Closed facts on the seat's program, written by a program of this session (facts.py). -/
import Derived.Test.YtipoblpnkkcpgaaProg
import Derived.Test.YtipoblpnkkcpgaaMat
set_option linter.unusedVariables false
namespace Go.Proofs.Ytipoblpnkkcpgaa
open Go Go.RowKit Go.Proofs.Ytipoblpnkkcpgaa.B
theorem mixed : Try.prog.follows .mixedOrders = true := by kernel_rfl
theorem e3 : Enters Try.prog 3 := enters Try.func3 (by kernel_rfl) rfl
theorem e4 : Enters Try.prog 4 := enters Try.func4 (by kernel_rfl) rfl
theorem e5 : Enters Try.prog 5 := enters Try.func5 (by kernel_rfl) rfl
theorem e6 : Enters Try.prog 6 := enters Try.func6 (by kernel_rfl) rfl
theorem e7 : Enters Try.prog 7 := enters Try.func7 (by kernel_rfl) rfl
theorem e8 : Enters Try.prog 8 := enters Try.func8 (by kernel_rfl) rfl
theorem e9 : Enters Try.prog 9 := enters Try.func9 (by kernel_rfl) rfl
theorem e10 : Enters Try.prog 10 := enters Try.func10 (by kernel_rfl) rfl
theorem e11 : Enters Try.prog 11 := enters Try.func11 (by kernel_rfl) rfl
theorem e12 : Enters Try.prog 12 := enters Try.func12 (by kernel_rfl) rfl
theorem e13 : Enters Try.prog 13 := enters Try.func13 (by kernel_rfl) rfl
theorem e14 : Enters Try.prog 14 := enters Try.func14 (by kernel_rfl) rfl
theorem e15 : Enters Try.prog 15 := enters Try.func15 (by kernel_rfl) rfl
theorem e16 : Enters Try.prog 16 := enters Try.func16 (by kernel_rfl) rfl
theorem e17 : Enters Try.prog 17 := enters Try.func17 (by kernel_rfl) rfl
theorem e18 : Enters Try.prog 18 := enters Try.func18 (by kernel_rfl) rfl
theorem e19 : Enters Try.prog 19 := enters Try.func19 (by kernel_rfl) rfl
theorem e20 : Enters Try.prog 20 := enters Try.func20 (by kernel_rfl) rfl
theorem e21 : Enters Try.prog 21 := enters Try.func21 (by kernel_rfl) rfl
theorem e22 : Enters Try.prog 22 := enters Try.func22 (by kernel_rfl) rfl
theorem e23 : Enters Try.prog 23 := enters Try.func23 (by kernel_rfl) rfl
theorem e24 : Enters Try.prog 24 := enters Try.func24 (by kernel_rfl) rfl
theorem e25 : Enters Try.prog 25 := enters Try.func25 (by kernel_rfl) rfl
theorem e26 : Enters Try.prog 26 := enters Try.func26 (by kernel_rfl) rfl
theorem e27 : Enters Try.prog 27 := enters Try.func27 (by kernel_rfl) rfl
theorem e28 : Enters Try.prog 28 := enters Try.func28 (by kernel_rfl) rfl
theorem e29 : Enters Try.prog 29 := enters Try.func29 (by kernel_rfl) rfl
theorem e30 : Enters Try.prog 30 := enters Try.func30 (by kernel_rfl) rfl
theorem e31 : Enters Try.prog 31 := enters Try.func31 (by kernel_rfl) rfl
theorem e32 : Enters Try.prog 32 := enters Try.func32 (by kernel_rfl) rfl
theorem e33 : Enters Try.prog 33 := enters Try.func33 (by kernel_rfl) rfl
theorem e34 : Enters Try.prog 34 := enters Try.func34 (by kernel_rfl) rfl
theorem e35 : Enters Try.prog 35 := enters Try.func35 (by kernel_rfl) rfl
theorem e36 : Enters Try.prog 36 := enters Try.func36 (by kernel_rfl) rfl
theorem e37 : Enters Try.prog 37 := enters Try.func37 (by kernel_rfl) rfl
theorem e38 : Enters Try.prog 38 := enters Try.func38 (by kernel_rfl) rfl
theorem e39 : Enters Try.prog 39 := enters Try.func39 (by kernel_rfl) rfl
theorem e40 : Enters Try.prog 40 := enters Try.func40 (by kernel_rfl) rfl
theorem e41 : Enters Try.prog 41 := enters Try.func41 (by kernel_rfl) rfl
theorem e42 : Enters Try.prog 42 := enters Try.func42 (by kernel_rfl) rfl
theorem e43 : Enters Try.prog 43 := enters Try.func43 (by kernel_rfl) rfl
theorem e44 : Enters Try.prog 44 := enters Try.func44 (by kernel_rfl) rfl
theorem e45 : Enters Try.prog 45 := enters Try.func45 (by kernel_rfl) rfl
theorem e46 : Enters Try.prog 46 := enters Try.func46 (by kernel_rfl) rfl
theorem e47 : Enters Try.prog 47 := enters Try.func47 (by kernel_rfl) rfl
theorem e48 : Enters Try.prog 48 := enters Try.func48 (by kernel_rfl) rfl
theorem e49 : Enters Try.prog 49 := enters Try.func49 (by kernel_rfl) rfl
theorem e50 : Enters Try.prog 50 := enters Try.func50 (by kernel_rfl) rfl
theorem e51 : Enters Try.prog 51 := enters Try.func51 (by kernel_rfl) rfl
theorem e52 : Enters Try.prog 52 := enters Try.func52 (by kernel_rfl) rfl
theorem e53 : Enters Try.prog 53 := enters Try.func53 (by kernel_rfl) rfl
theorem e54 : Enters Try.prog 54 := enters Try.func54 (by kernel_rfl) rfl
theorem e55 : Enters Try.prog 55 := enters Try.func55 (by kernel_rfl) rfl
theorem e56 : Enters Try.prog 56 := enters Try.func56 (by kernel_rfl) rfl
theorem e57 : Enters Try.prog 57 := enters Try.func57 (by kernel_rfl) rfl
theorem e58 : Enters Try.prog 58 := enters Try.func58 (by kernel_rfl) rfl
theorem e59 : Enters Try.prog 59 := enters Try.func59 (by kernel_rfl) rfl
theorem e60 : Enters Try.prog 60 := enters Try.func60 (by kernel_rfl) rfl
theorem e61 : Enters Try.prog 61 := enters Try.func61 (by kernel_rfl) rfl
theorem e62 : Enters Try.prog 62 := enters Try.func62 (by kernel_rfl) rfl
theorem e63 : Enters Try.prog 63 := enters Try.func63 (by kernel_rfl) rfl
theorem e64 : Enters Try.prog 64 := enters Try.func64 (by kernel_rfl) rfl
theorem e65 : Enters Try.prog 65 := enters Try.func65 (by kernel_rfl) rfl
theorem e66 : Enters Try.prog 66 := enters Try.func66 (by kernel_rfl) rfl
theorem e67 : Enters Try.prog 67 := enters Try.func67 (by kernel_rfl) rfl
theorem e68 : Enters Try.prog 68 := enters Try.func68 (by kernel_rfl) rfl
theorem e69 : Enters Try.prog 69 := enters Try.func69 (by kernel_rfl) rfl
theorem e70 : Enters Try.prog 70 := enters Try.func70 (by kernel_rfl) rfl
theorem e71 : Enters Try.prog 71 := enters Try.func71 (by kernel_rfl) rfl
theorem e72 : Enters Try.prog 72 := enters Try.func72 (by kernel_rfl) rfl
theorem e73 : Enters Try.prog 73 := enters Try.func73 (by kernel_rfl) rfl
theorem e74 : Enters Try.prog 74 := enters Try.func74 (by kernel_rfl) rfl
theorem e75 : Enters Try.prog 75 := enters Try.func75 (by kernel_rfl) rfl
theorem e76 : Enters Try.prog 76 := enters Try.func76 (by kernel_rfl) rfl
theorem e77 : Enters Try.prog 77 := enters Try.func77 (by kernel_rfl) rfl
theorem e78 : Enters Try.prog 78 := enters Try.func78 (by kernel_rfl) rfl
theorem e79 : Enters Try.prog 79 := enters Try.func79 (by kernel_rfl) rfl
theorem e80 : Enters Try.prog 80 := enters Try.func80 (by kernel_rfl) rfl
theorem e81 : Enters Try.prog 81 := enters Try.func81 (by kernel_rfl) rfl
theorem e82 : Enters Try.prog 82 := enters Try.func82 (by kernel_rfl) rfl
theorem e83 : Enters Try.prog 83 := enters Try.func83 (by kernel_rfl) rfl
theorem e84 : Enters Try.prog 84 := enters Try.func84 (by kernel_rfl) rfl
theorem e85 : Enters Try.prog 85 := enters Try.func85 (by kernel_rfl) rfl
theorem e86 : Enters Try.prog 86 := enters Try.func86 (by kernel_rfl) rfl
theorem e87 : Enters Try.prog 87 := enters Try.func87 (by kernel_rfl) rfl
theorem e88 : Enters Try.prog 88 := enters Try.func88 (by kernel_rfl) rfl
theorem e89 : Enters Try.prog 89 := enters Try.func89 (by kernel_rfl) rfl
theorem e90 : Enters Try.prog 90 := enters Try.func90 (by kernel_rfl) rfl
theorem e91 : Enters Try.prog 91 := enters Try.func91 (by kernel_rfl) rfl
theorem e92 : Enters Try.prog 92 := enters Try.func92 (by kernel_rfl) rfl
theorem e93 : Enters Try.prog 93 := enters Try.func93 (by kernel_rfl) rfl
theorem e94 : Enters Try.prog 94 := enters Try.func94 (by kernel_rfl) rfl
theorem e95 : Enters Try.prog 95 := enters Try.func95 (by kernel_rfl) rfl
theorem e96 : Enters Try.prog 96 := enters Try.func96 (by kernel_rfl) rfl
theorem e97 : Enters Try.prog 97 := enters Try.func97 (by kernel_rfl) rfl
theorem e98 : Enters Try.prog 98 := enters Try.func98 (by kernel_rfl) rfl
theorem e99 : Enters Try.prog 99 := enters Try.func99 (by kernel_rfl) rfl
theorem e100 : Enters Try.prog 100 := enters Try.func100 (by kernel_rfl) rfl
theorem e101 : Enters Try.prog 101 := enters Try.func101 (by kernel_rfl) rfl
theorem e102 : Enters Try.prog 102 := enters Try.func102 (by kernel_rfl) rfl
theorem e103 : Enters Try.prog 103 := enters Try.func103 (by kernel_rfl) rfl
theorem e104 : Enters Try.prog 104 := enters Try.func104 (by kernel_rfl) rfl
theorem e105 : Enters Try.prog 105 := enters Try.func105 (by kernel_rfl) rfl
theorem e106 : Enters Try.prog 106 := enters Try.func106 (by kernel_rfl) rfl
theorem e107 : Enters Try.prog 107 := enters Try.func107 (by kernel_rfl) rfl
theorem e108 : Enters Try.prog 108 := enters Try.func108 (by kernel_rfl) rfl
theorem e109 : Enters Try.prog 109 := enters Try.func109 (by kernel_rfl) rfl
theorem e110 : Enters Try.prog 110 := enters Try.func110 (by kernel_rfl) rfl
theorem e111 : Enters Try.prog 111 := enters Try.func111 (by kernel_rfl) rfl
theorem e112 : Enters Try.prog 112 := enters Try.func112 (by kernel_rfl) rfl
theorem e113 : Enters Try.prog 113 := enters Try.func113 (by kernel_rfl) rfl
theorem e114 : Enters Try.prog 114 := enters Try.func114 (by kernel_rfl) rfl
theorem e115 : Enters Try.prog 115 := enters Try.func115 (by kernel_rfl) rfl
theorem e116 : Enters Try.prog 116 := enters Try.func116 (by kernel_rfl) rfl
theorem e117 : Enters Try.prog 117 := enters Try.func117 (by kernel_rfl) rfl
theorem e118 : Enters Try.prog 118 := enters Try.func118 (by kernel_rfl) rfl
theorem e119 : Enters Try.prog 119 := enters Try.func119 (by kernel_rfl) rfl
theorem e120 : Enters Try.prog 120 := enters Try.func120 (by kernel_rfl) rfl
theorem e121 : Enters Try.prog 121 := enters Try.func121 (by kernel_rfl) rfl
theorem e122 : Enters Try.prog 122 := enters Try.func122 (by kernel_rfl) rfl
theorem e123 : Enters Try.prog 123 := enters Try.func123 (by kernel_rfl) rfl
theorem e124 : Enters Try.prog 124 := enters Try.func124 (by kernel_rfl) rfl
theorem e125 : Enters Try.prog 125 := enters Try.func125 (by kernel_rfl) rfl
theorem e126 : Enters Try.prog 126 := enters Try.func126 (by kernel_rfl) rfl
theorem e127 : Enters Try.prog 127 := enters Try.func127 (by kernel_rfl) rfl
theorem e128 : Enters Try.prog 128 := enters Try.func128 (by kernel_rfl) rfl
theorem e129 : Enters Try.prog 129 := enters Try.func129 (by kernel_rfl) rfl
theorem info2 : (Try.prog.info? 2).map (fun i => (i.zero, i.size, i.bytes)) = some (some (.int .i64 0), 1, 8) := by kernel_rfl
theorem info3 : (Try.prog.info? 3).map (fun i => (i.zero, i.size, i.bytes)) = some (some (.int .i64 0), 1, 8) := by kernel_rfl
theorem info4 : (Try.prog.info? 4).map (fun i => (i.zero, i.size, i.bytes)) = some (some (.bool false), 1, 1) := by kernel_rfl
theorem info32 : (Try.prog.info? 32).map (fun i => (i.zero, i.size, i.bytes)) = some (some (.slice none 0 0), 1, 24) := by kernel_rfl
theorem info70 : (Try.prog.info? 70).map (fun i => (i.zero, i.size, i.bytes)) = some (some (.agg #[.int .i64 0, .int .i64 0]), 2, 16) := by kernel_rfl
theorem info72 : (Try.prog.info? 72).map (fun i => (i.zero, i.size, i.bytes)) = some (some (.agg #[.int .i64 0, .int .i64 0, .int .i64 0]), 3, 24) := by kernel_rfl
theorem info89 : (Try.prog.info? 89).map (fun i => (i.zero, i.size, i.bytes)) = some (some (.agg #[.int .i64 0, .int .i64 0]), 2, 16) := by kernel_rfl
theorem arr23 : Go.WideMaps.ArrKey Try.prog 23 3 2 := ⟨Try.underlying23, by kernel_rfl, by kernel_rfl, by kernel_rfl⟩
theorem keyed23 : Go.Maps.Keyed Try.prog 23 := Go.Maps.Keyed.of_law arr23.law
theorem typesSize : ∃ m, Try.prog.types.size = m + 1 := ⟨_, (by kernel_rfl : Try.prog.types.size = 190 + 1)⟩
theorem bld23_0_1 (x0 : Int) (x1 : Int) (w : World) : (Instr.build 23 #[(0, .int .i64 x0), (1, .int .i64 x1)]).run Try.prog w = .ok (.agg #[.int .i64 x0, .int .i64 x1]) w := by kernel_rfl
theorem bld37_0_1 (x0 : Int) (x1 : Option Addr) (n1 c1 : Nat) (w : World) : (Instr.build 37 #[(0, .int .i64 x0), (1, .slice x1 n1 c1)]).run Try.prog w = .ok (.agg #[.int .i64 x0, .slice x1 n1 c1]) w := by kernel_rfl
theorem bld39_0 (x0 : Int) (x1 : Option Addr) (n1 c1 : Nat) (w : World) : (Instr.build 39 #[(0, .agg #[.int .i64 x0, .slice x1 n1 c1])]).run Try.prog w = .ok (.agg #[.int .i64 x0, .slice x1 n1 c1, .int .i64 0, .int .i64 0]) w := by kernel_rfl
theorem bld39_1 (x0 : Int) (w : World) : (Instr.build 39 #[(1, .int .i64 x0)]).run Try.prog w = .ok (.agg #[.int .i64 0, .slice none 0 0, .int .i64 x0, .int .i64 0]) w := by kernel_rfl
theorem bld39_1_2 (x0 : Int) (x1 : Int) (w : World) : (Instr.build 39 #[(1, .int .i64 x0), (2, .int .i64 x1)]).run Try.prog w = .ok (.agg #[.int .i64 0, .slice none 0 0, .int .i64 x0, .int .i64 x1]) w := by kernel_rfl
theorem bld54_0 (x0 : Int) (x1 : Option Addr) (n1 c1 : Nat) (w : World) : (Instr.build 54 #[(0, .agg #[.int .i64 x0, .slice x1 n1 c1])]).run Try.prog w = .ok (.agg #[.int .i64 x0, .slice x1 n1 c1, .int .i64 0]) w := by kernel_rfl
theorem bld54_1 (x0 : Int) (w : World) : (Instr.build 54 #[(1, .int .i64 x0)]).run Try.prog w = .ok (.agg #[.int .i64 0, .slice none 0 0, .int .i64 x0]) w := by kernel_rfl
theorem bld72_0_1 (x0 : Int) (x1 : Int) (w : World) : (Instr.build 72 #[(0, .int .i64 x0), (1, .int .i64 x1)]).run Try.prog w = .ok (.agg #[.int .i64 x0, .int .i64 x1, .int .i64 0]) w := by kernel_rfl
theorem bld72_0_1_2 (x0 : Int) (x1 : Int) (x2 : Int) (w : World) : (Instr.build 72 #[(0, .int .i64 x0), (1, .int .i64 x1), (2, .int .i64 x2)]).run Try.prog w = .ok (.agg #[.int .i64 x0, .int .i64 x1, .int .i64 x2]) w := by kernel_rfl
theorem bld72_1_2 (x0 : Int) (x1 : Int) (w : World) : (Instr.build 72 #[(1, .int .i64 x0), (2, .int .i64 x1)]).run Try.prog w = .ok (.agg #[.int .i64 0, .int .i64 x0, .int .i64 x1]) w := by kernel_rfl
theorem bld80_0_1 (x0 : Option Addr) (n0 c0 : Nat) (x1 : Option Addr) (n1 c1 : Nat) (w : World) : (Instr.build 80 #[(0, .slice x0 n0 c0), (1, .slice x1 n1 c1)]).run Try.prog w = .ok (.agg #[.slice x0 n0 c0, .slice x1 n1 c1]) w := by kernel_rfl
theorem bld82_0_1 (x0 : Option Addr) (n0 c0 : Nat) (x1 : Option Addr) (n1 c1 : Nat) (x2 : Option Addr) (n2 c2 : Nat) (w : World) : (Instr.build 82 #[(0, .agg #[.slice x0 n0 c0, .slice x1 n1 c1]), (1, .slice x2 n2 c2)]).run Try.prog w = .ok (.agg #[.slice x0 n0 c0, .slice x1 n1 c1, .slice x2 n2 c2, .int .i64 0]) w := by kernel_rfl
theorem bld87_1 (x0 : Option Addr) (n0 c0 : Nat) (w : World) : (Instr.build 87 #[(1, .slice x0 n0 c0)]).run Try.prog w = .ok (.agg #[.slice none 0 0, .slice x0 n0 c0, .slice none 0 0]) w := by kernel_rfl
theorem bld89_0_1 (x0 : Int) (x1 : Int) (w : World) : (Instr.build 89 #[(0, .int .i64 x0), (1, .int .i64 x1)]).run Try.prog w = .ok (.agg #[.int .i64 x0, .int .i64 x1]) w := by kernel_rfl
theorem bld94_  (w : World) : (Instr.build 94 #[]).run Try.prog w = .ok (.agg #[.int .i64 0, .int .i64 0]) w := by kernel_rfl
theorem bld94_0_1 (x0 : Int) (x1 : Int) (w : World) : (Instr.build 94 #[(0, .int .i64 x0), (1, .int .i64 x1)]).run Try.prog w = .ok (.agg #[.int .i64 x0, .int .i64 x1]) w := by kernel_rfl
theorem bld97_  (w : World) : (Instr.build 97 #[]).run Try.prog w = .ok (.agg #[.slice none 0 0, .bool false]) w := by kernel_rfl
theorem bld97_0_1 (x0 : Option Addr) (n0 c0 : Nat) (x1 : Bool) (w : World) : (Instr.build 97 #[(0, .slice x0 n0 c0), (1, .bool x1)]).run Try.prog w = .ok (.agg #[.slice x0 n0 c0, .bool x1]) w := by kernel_rfl
theorem bld103_0_1_2 (x0 : Option Addr) (x1 : Option Addr) (n1 c1 : Nat) (x2 : Option Addr) (n2 c2 : Nat) (w : World) : (Instr.build 103 #[(0, .pointer x0), (1, .slice x1 n1 c1), (2, .slice x2 n2 c2)]).run Try.prog w = .ok (.agg #[.pointer x0, .slice x1 n1 c1, .slice x2 n2 c2]) w := by kernel_rfl
theorem bld116_0_1 (x0 : Int) (x1 : Int) (x2 : Int) (x3 : Int) (w : World) : (Instr.build 116 #[(0, .agg #[.int .i64 x0, .int .i64 x1]), (1, .agg #[.int .i64 x2, .int .i64 x3])]).run Try.prog w = .ok (.agg #[.int .i64 x0, .int .i64 x1, .int .i64 x2, .int .i64 x3]) w := by kernel_rfl
theorem bld152_  (w : World) : (Instr.build 152 #[]).run Try.prog w = .ok (.agg #[.int .i64 0, .bool false]) w := by kernel_rfl
theorem bld152_0_1 (x0 : Int) (x1 : Bool) (w : World) : (Instr.build 152 #[(0, .int .i64 x0), (1, .bool x1)]).run Try.prog w = .ok (.agg #[.int .i64 x0, .bool x1]) w := by kernel_rfl
end Go.Proofs.Ytipoblpnkkcpgaa
