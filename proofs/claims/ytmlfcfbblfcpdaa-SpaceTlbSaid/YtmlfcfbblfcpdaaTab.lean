/- The facts on types, fields and functions of this translation that the walks use: each closed, by the kernel. -/
import Derived.Test.YtmlfcfbblfcpdaaProg
import Derived.Test.YtmlfcfbblfcpdaaEq
import Derived.KernelRfl
namespace Go.Proofs.Ytmlfcfbblfcpdaa.T
open Go Go.Sl Go.Proofs
set_option maxRecDepth 100000
theorem ti3 : TI Try.prog 3 1 8 (.int .i64 0) false := by unfold TI; kernel_rfl
theorem ti4 : TI Try.prog 4 1 1 (.bool false) false := by unfold TI; kernel_rfl
theorem ti5 : TI Try.prog 5 1 1 (.int .u8 0) false := by unfold TI; kernel_rfl
theorem ti24 : TI Try.prog 24 1 8 (.pointer none) false := by unfold TI; kernel_rfl
theorem ti29 : TI Try.prog 29 1 8 (.int .u64 0) false := by unfold TI; kernel_rfl
theorem ti31 : TI Try.prog 31 4 32 (.agg #[.int .i64 0, .int .i64 0, .int .i64 0, .int .i64 0]) true := by unfold TI; kernel_rfl
theorem ti32 : TI Try.prog 32 1 4 (.int .u32 0) false := by unfold TI; kernel_rfl
theorem ti34 : TI Try.prog 34 8 56 (.agg #[.int .i64 0, .int .i64 0, .int .i64 0, .int .i64 0, .int .i64 0, .int .i64 0, .int .u32 0, .int .u32 0]) true := by unfold TI; kernel_rfl
theorem ti42 : TI Try.prog 42 1 8 (.nilFunc) false := by unfold TI; kernel_rfl
theorem ti45 : TI Try.prog 45 1 8 (.map none) false := by unfold TI; kernel_rfl
theorem ti46 : TI Try.prog 46 2 16 (.agg #[.map none, .map none]) true := by unfold TI; kernel_rfl
theorem ti47 : TI Try.prog 47 2 16 (.agg #[.int .i64 0, .int .i64 0]) true := by unfold TI; kernel_rfl
theorem ti63 : TI Try.prog 63 1 24 (.slice none 0 0) false := by unfold TI; kernel_rfl
theorem ti64 : TI Try.prog 64 1 8 (.pointer none) false := by unfold TI; kernel_rfl
theorem ti65 : TI Try.prog 65 1 8 (.pointer none) false := by unfold TI; kernel_rfl
theorem ti66 : TI Try.prog 66 1 24 (.slice none 0 0) false := by unfold TI; kernel_rfl
theorem ti67 : TI Try.prog 67 1 8 (.pointer none) false := by unfold TI; kernel_rfl
theorem ti68 : TI Try.prog 68 1 24 (.slice none 0 0) false := by unfold TI; kernel_rfl
theorem ti70 : TI Try.prog 70 6 80 (.agg #[.pointer none, .pointer none, .pointer none, .slice none 0 0, .pointer none, .slice none 0 0]) true := by unfold TI; kernel_rfl
theorem ti71 : TI Try.prog 71 1 8 (.map none) false := by unfold TI; kernel_rfl
theorem ti72 : TI Try.prog 72 3 24 (.agg #[.map none, .map none, .map none]) true := by unfold TI; kernel_rfl
theorem ti73 : TI Try.prog 73 1 24 (.slice none 0 0) false := by unfold TI; kernel_rfl
theorem ti78 : TI Try.prog 78 10 112 (.agg #[.int .i64 0, .int .i64 0, .int .i64 0, .int .i64 0, .int .u32 0, .int .i64 0, .int .u64 0, .slice none 0 0, .int .u32 0, .slice none 0 0]) true := by unfold TI; kernel_rfl
theorem ti79 : TI Try.prog 79 256 256 (.agg (List.replicate 256 (Value.int .u8 0)).toArray) true := by unfold TI; kernel_rfl
theorem ti81 : TI Try.prog 81 1 8 (.pointer none) false := by unfold TI; kernel_rfl
theorem ti86 : TI Try.prog 86 1 24 (.slice none 0 0) false := by unfold TI; kernel_rfl
theorem ti89 : TI Try.prog 89 3 40 (.agg #[.int .i64 0, .int .i64 0, .slice none 0 0]) true := by unfold TI; kernel_rfl
theorem ti93 : TI Try.prog 93 3 24 (.agg #[.pointer none, .pointer none, .pointer none]) true := by unfold TI; kernel_rfl
theorem ti94 : TI Try.prog 94 3 24 (.agg #[.pointer none, .pointer none, .pointer none]) true := by unfold TI; kernel_rfl
theorem ti95 : TI Try.prog 95 3 24 (.agg #[.int .i64 0, .int .i64 0, .int .i64 0]) true := by unfold TI; kernel_rfl
theorem ti105 : TI Try.prog 105 1 24 (.slice none 0 0) false := by unfold TI; kernel_rfl
theorem ti107 : TI Try.prog 107 1 24 (.agg #[.slice none 0 0]) true := by unfold TI; kernel_rfl
theorem ti116 : TI Try.prog 116 1 24 (.agg #[.slice none 0 0]) true := by unfold TI; kernel_rfl
theorem ti125 : TI Try.prog 125 1 24 (.slice none 0 0) false := by unfold TI; kernel_rfl
theorem ti129 : TI Try.prog 129 2 16 (.agg #[.int .i64 0, .int .i64 0]) true := by unfold TI; kernel_rfl
theorem ti132 : TI Try.prog 132 2 32 (.agg #[.int .i64 0, .slice none 0 0]) true := by unfold TI; kernel_rfl
theorem ti133 : TI Try.prog 133 1 8 (.pointer none) false := by unfold TI; kernel_rfl
theorem ti137 : TI Try.prog 137 5 40 (.agg #[.int .i64 0, .int .i64 0, .pointer none, .pointer none, .pointer none]) true := by unfold TI; kernel_rfl
theorem ti144 : TI Try.prog 144 1026 8224 (.agg (List.replicate 1025 (Value.int .i64 0) ++ [Value.slice none 0 0]).toArray) true := by unfold TI; kernel_rfl
theorem ti145 : TI Try.prog 145 1 24 (.slice none 0 0) false := by unfold TI; kernel_rfl
theorem ti147 : TI Try.prog 147 4 48 (.agg #[.slice none 0 0, .int .i64 0, .int .i64 0, .int .i64 0]) true := by unfold TI; kernel_rfl
theorem ti152 : TI Try.prog 152 256 256 (.agg (List.replicate 256 (Value.int .u8 0)).toArray) true := by unfold TI; kernel_rfl
theorem ti154 : TI Try.prog 154 4 64 (.agg #[.pointer none, .int .i64 0, .slice none 0 0, .slice none 0 0]) true := by unfold TI; kernel_rfl
theorem ti157 : TI Try.prog 157 4 32 (.agg #[.int .i64 0, .int .i64 0, .int .i64 0, .int .i64 0]) true := by unfold TI; kernel_rfl
theorem ti159 : TI Try.prog 159 5 40 (.agg #[.bool false, .int .i64 0, .int .i64 0, .int .i64 0, .int .i64 0]) true := by unfold TI; kernel_rfl
theorem fa31_0 : FieldAt Try.prog 31 0 0 := by unfold FieldAt; kernel_rfl
theorem fa31_1 : FieldAt Try.prog 31 1 1 := by unfold FieldAt; kernel_rfl
theorem fa31_2 : FieldAt Try.prog 31 2 2 := by unfold FieldAt; kernel_rfl
theorem fa31_3 : FieldAt Try.prog 31 3 3 := by unfold FieldAt; kernel_rfl
theorem fa34_0 : FieldAt Try.prog 34 0 0 := by unfold FieldAt; kernel_rfl
theorem fa34_1 : FieldAt Try.prog 34 1 1 := by unfold FieldAt; kernel_rfl
theorem fa34_2 : FieldAt Try.prog 34 2 2 := by unfold FieldAt; kernel_rfl
theorem fa34_3 : FieldAt Try.prog 34 3 6 := by unfold FieldAt; kernel_rfl
theorem fa34_4 : FieldAt Try.prog 34 4 7 := by unfold FieldAt; kernel_rfl
theorem fa70_1 : FieldAt Try.prog 70 1 1 := by unfold FieldAt; kernel_rfl
theorem fa70_3 : FieldAt Try.prog 70 3 3 := by unfold FieldAt; kernel_rfl
theorem fa70_4 : FieldAt Try.prog 70 4 4 := by unfold FieldAt; kernel_rfl
theorem fa70_5 : FieldAt Try.prog 70 5 5 := by unfold FieldAt; kernel_rfl
theorem fa78_0 : FieldAt Try.prog 78 0 0 := by unfold FieldAt; kernel_rfl
theorem fa78_1 : FieldAt Try.prog 78 1 1 := by unfold FieldAt; kernel_rfl
theorem fa78_2 : FieldAt Try.prog 78 2 2 := by unfold FieldAt; kernel_rfl
theorem fa78_3 : FieldAt Try.prog 78 3 3 := by unfold FieldAt; kernel_rfl
theorem fa78_4 : FieldAt Try.prog 78 4 4 := by unfold FieldAt; kernel_rfl
theorem fa78_5 : FieldAt Try.prog 78 5 5 := by unfold FieldAt; kernel_rfl
theorem fa78_6 : FieldAt Try.prog 78 6 6 := by unfold FieldAt; kernel_rfl
theorem fa78_7 : FieldAt Try.prog 78 7 7 := by unfold FieldAt; kernel_rfl
theorem fa89_0 : FieldAt Try.prog 89 0 0 := by unfold FieldAt; kernel_rfl
theorem fa89_1 : FieldAt Try.prog 89 1 1 := by unfold FieldAt; kernel_rfl
theorem fa89_2 : FieldAt Try.prog 89 2 2 := by unfold FieldAt; kernel_rfl
theorem fa107_0 : FieldAt Try.prog 107 0 0 := by unfold FieldAt; kernel_rfl
theorem fa116_0 : FieldAt Try.prog 116 0 0 := by unfold FieldAt; kernel_rfl
theorem fa132_0 : FieldAt Try.prog 132 0 0 := by unfold FieldAt; kernel_rfl
theorem fa132_1 : FieldAt Try.prog 132 1 1 := by unfold FieldAt; kernel_rfl
theorem fa137_0 : FieldAt Try.prog 137 0 0 := by unfold FieldAt; kernel_rfl
theorem fa137_1 : FieldAt Try.prog 137 1 1 := by unfold FieldAt; kernel_rfl
theorem fa137_2 : FieldAt Try.prog 137 2 2 := by unfold FieldAt; kernel_rfl
theorem fa137_3 : FieldAt Try.prog 137 3 3 := by unfold FieldAt; kernel_rfl
theorem fa137_4 : FieldAt Try.prog 137 4 4 := by unfold FieldAt; kernel_rfl
theorem fa144_0 : FieldAt Try.prog 144 0 0 := by unfold FieldAt; kernel_rfl
theorem fa144_1 : FieldAt Try.prog 144 1 1024 := by unfold FieldAt; kernel_rfl
theorem fa144_2 : FieldAt Try.prog 144 2 1025 := by unfold FieldAt; kernel_rfl
theorem fa147_0 : FieldAt Try.prog 147 0 0 := by unfold FieldAt; kernel_rfl
theorem fa147_1 : FieldAt Try.prog 147 1 1 := by unfold FieldAt; kernel_rfl
theorem fa147_2 : FieldAt Try.prog 147 2 2 := by unfold FieldAt; kernel_rfl
theorem fa147_3 : FieldAt Try.prog 147 3 3 := by unfold FieldAt; kernel_rfl
theorem fa157_2 : FieldAt Try.prog 157 2 2 := by unfold FieldAt; kernel_rfl
theorem fa157_3 : FieldAt Try.prog 157 3 3 := by unfold FieldAt; kernel_rfl
theorem fa159_0 : FieldAt Try.prog 159 0 0 := by unfold FieldAt; kernel_rfl
theorem fa159_1 : FieldAt Try.prog 159 1 1 := by unfold FieldAt; kernel_rfl
theorem bu70 : places? Try.prog 70 = some [(0, 1), (1, 1), (2, 1), (3, 1), (4, 1), (5, 1)] := by kernel_rfl
theorem bu89 : places? Try.prog 89 = some [(0, 1), (1, 1), (2, 1)] := by kernel_rfl
theorem bu107 : places? Try.prog 107 = some [(0, 1)] := by kernel_rfl
theorem bu116 : places? Try.prog 116 = some [(0, 1)] := by kernel_rfl
theorem bu129 : places? Try.prog 129 = some [(0, 1), (1, 1)] := by kernel_rfl
theorem bu132 : places? Try.prog 132 = some [(0, 1), (1, 1)] := by kernel_rfl
theorem bu137 : places? Try.prog 137 = some [(0, 1), (1, 1), (2, 1), (3, 1), (4, 1)] := by kernel_rfl
theorem bu144 : places? Try.prog 144 = some [(0, 1024), (1024, 1), (1025, 1)] := by kernel_rfl
theorem bu147 : places? Try.prog 147 = some [(0, 1), (1, 1), (2, 1), (3, 1)] := by kernel_rfl
theorem bu154 : places? Try.prog 154 = some [(0, 1), (1, 1), (2, 1), (3, 1)] := by kernel_rfl
theorem bu157 : places? Try.prog 157 = some [(0, 1), (1, 1), (2, 1), (3, 1)] := by kernel_rfl
theorem bu159 : places? Try.prog 159 = some [(0, 1), (1, 4)] := by kernel_rfl
theorem call9 : CallOK Try.prog 9 := ⟨_, _, Try.func9, rfl, by kernel_rfl⟩
theorem call10 : CallOK Try.prog 10 := ⟨_, _, Try.func10, rfl, by kernel_rfl⟩
theorem call11 : CallOK Try.prog 11 := ⟨_, _, Try.func11, rfl, by kernel_rfl⟩
theorem call12 : CallOK Try.prog 12 := ⟨_, _, Try.func12, rfl, by kernel_rfl⟩
theorem call13 : CallOK Try.prog 13 := ⟨_, _, Try.func13, rfl, by kernel_rfl⟩
theorem call14 : CallOK Try.prog 14 := ⟨_, _, Try.func14, rfl, by kernel_rfl⟩
theorem call15 : CallOK Try.prog 15 := ⟨_, _, Try.func15, rfl, by kernel_rfl⟩
theorem call16 : CallOK Try.prog 16 := ⟨_, _, Try.func16, rfl, by kernel_rfl⟩
theorem call17 : CallOK Try.prog 17 := ⟨_, _, Try.func17, rfl, by kernel_rfl⟩
theorem call18 : CallOK Try.prog 18 := ⟨_, _, Try.func18, rfl, by kernel_rfl⟩
theorem call19 : CallOK Try.prog 19 := ⟨_, _, Try.func19, rfl, by kernel_rfl⟩
theorem call20 : CallOK Try.prog 20 := ⟨_, _, Try.func20, rfl, by kernel_rfl⟩
theorem call21 : CallOK Try.prog 21 := ⟨_, _, Try.func21, rfl, by kernel_rfl⟩
theorem call22 : CallOK Try.prog 22 := ⟨_, _, Try.func22, rfl, by kernel_rfl⟩
theorem call23 : CallOK Try.prog 23 := ⟨_, _, Try.func23, rfl, by kernel_rfl⟩
theorem call24 : CallOK Try.prog 24 := ⟨_, _, Try.func24, rfl, by kernel_rfl⟩
theorem call25 : CallOK Try.prog 25 := ⟨_, _, Try.func25, rfl, by kernel_rfl⟩
theorem call26 : CallOK Try.prog 26 := ⟨_, _, Try.func26, rfl, by kernel_rfl⟩
theorem call27 : CallOK Try.prog 27 := ⟨_, _, Try.func27, rfl, by kernel_rfl⟩
theorem call28 : CallOK Try.prog 28 := ⟨_, _, Try.func28, rfl, by kernel_rfl⟩
theorem call29 : CallOK Try.prog 29 := ⟨_, _, Try.func29, rfl, by kernel_rfl⟩
theorem call30 : CallOK Try.prog 30 := ⟨_, _, Try.func30, rfl, by kernel_rfl⟩
theorem call31 : CallOK Try.prog 31 := ⟨_, _, Try.func31, rfl, by kernel_rfl⟩
theorem call32 : CallOK Try.prog 32 := ⟨_, _, Try.func32, rfl, by kernel_rfl⟩
theorem call33 : CallOK Try.prog 33 := ⟨_, _, Try.func33, rfl, by kernel_rfl⟩
theorem call34 : CallOK Try.prog 34 := ⟨_, _, Try.func34, rfl, by kernel_rfl⟩
theorem call35 : CallOK Try.prog 35 := ⟨_, _, Try.func35, rfl, by kernel_rfl⟩
theorem call36 : CallOK Try.prog 36 := ⟨_, _, Try.func36, rfl, by kernel_rfl⟩
theorem call37 : CallOK Try.prog 37 := ⟨_, _, Try.func37, rfl, by kernel_rfl⟩
theorem call38 : CallOK Try.prog 38 := ⟨_, _, Try.func38, rfl, by kernel_rfl⟩
theorem call39 : CallOK Try.prog 39 := ⟨_, _, Try.func39, rfl, by kernel_rfl⟩
theorem call40 : CallOK Try.prog 40 := ⟨_, _, Try.func40, rfl, by kernel_rfl⟩
theorem call41 : CallOK Try.prog 41 := ⟨_, _, Try.func41, rfl, by kernel_rfl⟩
theorem call42 : CallOK Try.prog 42 := ⟨_, _, Try.func42, rfl, by kernel_rfl⟩
theorem call43 : CallOK Try.prog 43 := ⟨_, _, Try.func43, rfl, by kernel_rfl⟩
theorem call44 : CallOK Try.prog 44 := ⟨_, _, Try.func44, rfl, by kernel_rfl⟩
theorem call45 : CallOK Try.prog 45 := ⟨_, _, Try.func45, rfl, by kernel_rfl⟩
theorem call46 : CallOK Try.prog 46 := ⟨_, _, Try.func46, rfl, by kernel_rfl⟩
theorem call47 : CallOK Try.prog 47 := ⟨_, _, Try.func47, rfl, by kernel_rfl⟩
theorem call48 : CallOK Try.prog 48 := ⟨_, _, Try.func48, rfl, by kernel_rfl⟩
theorem call49 : CallOK Try.prog 49 := ⟨_, _, Try.func49, rfl, by kernel_rfl⟩
theorem call50 : CallOK Try.prog 50 := ⟨_, _, Try.func50, rfl, by kernel_rfl⟩
theorem call51 : CallOK Try.prog 51 := ⟨_, _, Try.func51, rfl, by kernel_rfl⟩
theorem call52 : CallOK Try.prog 52 := ⟨_, _, Try.func52, rfl, by kernel_rfl⟩
theorem call53 : CallOK Try.prog 53 := ⟨_, _, Try.func53, rfl, by kernel_rfl⟩
theorem call54 : CallOK Try.prog 54 := ⟨_, _, Try.func54, rfl, by kernel_rfl⟩
theorem call55 : CallOK Try.prog 55 := ⟨_, _, Try.func55, rfl, by kernel_rfl⟩
theorem call56 : CallOK Try.prog 56 := ⟨_, _, Try.func56, rfl, by kernel_rfl⟩
theorem call57 : CallOK Try.prog 57 := ⟨_, _, Try.func57, rfl, by kernel_rfl⟩
theorem call58 : CallOK Try.prog 58 := ⟨_, _, Try.func58, rfl, by kernel_rfl⟩
theorem call59 : CallOK Try.prog 59 := ⟨_, _, Try.func59, rfl, by kernel_rfl⟩
theorem call60 : CallOK Try.prog 60 := ⟨_, _, Try.func60, rfl, by kernel_rfl⟩
theorem call61 : CallOK Try.prog 61 := ⟨_, _, Try.func61, rfl, by kernel_rfl⟩
theorem call62 : CallOK Try.prog 62 := ⟨_, _, Try.func62, rfl, by kernel_rfl⟩
theorem call63 : CallOK Try.prog 63 := ⟨_, _, Try.func63, rfl, by kernel_rfl⟩
theorem call64 : CallOK Try.prog 64 := ⟨_, _, Try.func64, rfl, by kernel_rfl⟩
theorem call65 : CallOK Try.prog 65 := ⟨_, _, Try.func65, rfl, by kernel_rfl⟩
theorem call66 : CallOK Try.prog 66 := ⟨_, _, Try.func66, rfl, by kernel_rfl⟩
theorem call67 : CallOK Try.prog 67 := ⟨_, _, Try.func67, rfl, by kernel_rfl⟩
theorem call68 : CallOK Try.prog 68 := ⟨_, _, Try.func68, rfl, by kernel_rfl⟩
theorem call69 : CallOK Try.prog 69 := ⟨_, _, Try.func69, rfl, by kernel_rfl⟩
theorem call70 : CallOK Try.prog 70 := ⟨_, _, Try.func70, rfl, by kernel_rfl⟩
theorem call71 : CallOK Try.prog 71 := ⟨_, _, Try.func71, rfl, by kernel_rfl⟩
theorem call72 : CallOK Try.prog 72 := ⟨_, _, Try.func72, rfl, by kernel_rfl⟩
theorem call73 : CallOK Try.prog 73 := ⟨_, _, Try.func73, rfl, by kernel_rfl⟩
theorem call74 : CallOK Try.prog 74 := ⟨_, _, Try.func74, rfl, by kernel_rfl⟩
theorem call75 : CallOK Try.prog 75 := ⟨_, _, Try.func75, rfl, by kernel_rfl⟩
theorem call76 : CallOK Try.prog 76 := ⟨_, _, Try.func76, rfl, by kernel_rfl⟩
theorem call77 : CallOK Try.prog 77 := ⟨_, _, Try.func77, rfl, by kernel_rfl⟩
theorem call78 : CallOK Try.prog 78 := ⟨_, _, Try.func78, rfl, by kernel_rfl⟩
theorem call79 : CallOK Try.prog 79 := ⟨_, _, Try.func79, rfl, by kernel_rfl⟩
theorem call80 : CallOK Try.prog 80 := ⟨_, _, Try.func80, rfl, by kernel_rfl⟩
theorem call81 : CallOK Try.prog 81 := ⟨_, _, Try.func81, rfl, by kernel_rfl⟩
theorem call82 : CallOK Try.prog 82 := ⟨_, _, Try.func82, rfl, by kernel_rfl⟩
theorem call83 : CallOK Try.prog 83 := ⟨_, _, Try.func83, rfl, by kernel_rfl⟩
theorem call84 : CallOK Try.prog 84 := ⟨_, _, Try.func84, rfl, by kernel_rfl⟩
theorem call85 : CallOK Try.prog 85 := ⟨_, _, Try.func85, rfl, by kernel_rfl⟩
theorem call86 : CallOK Try.prog 86 := ⟨_, _, Try.func86, rfl, by kernel_rfl⟩
theorem call87 : CallOK Try.prog 87 := ⟨_, _, Try.func87, rfl, by kernel_rfl⟩
theorem call88 : CallOK Try.prog 88 := ⟨_, _, Try.func88, rfl, by kernel_rfl⟩
theorem call89 : CallOK Try.prog 89 := ⟨_, _, Try.func89, rfl, by kernel_rfl⟩
theorem call90 : CallOK Try.prog 90 := ⟨_, _, Try.func90, rfl, by kernel_rfl⟩
theorem call91 : CallOK Try.prog 91 := ⟨_, _, Try.func91, rfl, by kernel_rfl⟩
theorem call92 : CallOK Try.prog 92 := ⟨_, _, Try.func92, rfl, by kernel_rfl⟩
theorem call93 : CallOK Try.prog 93 := ⟨_, _, Try.func93, rfl, by kernel_rfl⟩
theorem flat129 : flat? Try.prog 6 129 = some ([some .i64, some .i64], true) := by kernel_rfl
theorem guard129 : Try.prog.eqGuardType Try.prog.depth 129 = false := by kernel_rfl
theorem flat159 : flat? Try.prog 6 159 = some ([none, some .i64, some .i64, some .i64, some .i64], true) := by kernel_rfl
theorem guard159 : Try.prog.eqGuardType Try.prog.depth 159 = false := by kernel_rfl
theorem mixed : Try.prog.follows .mixedOrders = true := by kernel_rfl
end Go.Proofs.Ytmlfcfbblfcpdaa.T
