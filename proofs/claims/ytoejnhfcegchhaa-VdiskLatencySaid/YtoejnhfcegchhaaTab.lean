/- The facts on types, fields and functions of this translation that the walks use: each closed, by the kernel. -/
import Derived.Test.YtoejnhfcegchhaaProg
import Derived.Test.YtoejnhfcegchhaaEq
import Derived.KernelRfl
namespace Go.Proofs.Ytoejnhfcegchhaa.T
open Go Go.Sl Go.Proofs
set_option maxRecDepth 100000
theorem ti3 : TI Try.prog 3 1 8 (.int .i64 0) false := by unfold TI; kernel_rfl
theorem ti4 : TI Try.prog 4 1 1 (.bool false) false := by unfold TI; kernel_rfl
theorem ti5 : TI Try.prog 5 1 1 (.int .u8 0) false := by unfold TI; kernel_rfl
theorem ti23 : TI Try.prog 23 1 24 (.slice none 0 0) false := by unfold TI; kernel_rfl
theorem ti35 : TI Try.prog 35 1 4 (.int .u32 0) false := by unfold TI; kernel_rfl
theorem ti36 : TI Try.prog 36 1 24 (.slice none 0 0) false := by unfold TI; kernel_rfl
theorem ti38 : TI Try.prog 38 4 40 (.agg #[.int .u32 0, .bool false, .int .u32 0, .slice none 0 0]) true := by unfold TI; kernel_rfl
theorem ti40 : TI Try.prog 40 5 48 (.agg #[.int .i64 0, .int .u32 0, .bool false, .int .i64 0, .slice none 0 0]) true := by unfold TI; kernel_rfl
theorem ti42 : TI Try.prog 42 11 112 (.agg #[.int .i64 0, .bool false, .int .i64 0, .int .u32 0, .slice none 0 0, .int .i64 0, .int .i64 0, .int .u32 0, .bool false, .int .i64 0, .slice none 0 0]) true := by unfold TI; kernel_rfl
theorem ti43 : TI Try.prog 43 1 24 (.slice none 0 0) false := by unfold TI; kernel_rfl
theorem ti54 : TI Try.prog 54 4 4 (.agg #[.int .u8 0, .int .u8 0, .int .u8 0, .int .u8 0]) true := by unfold TI; kernel_rfl
theorem ti72 : TI Try.prog 72 7 64 (.agg #[.int .i64 0, .int .i64 0, .int .u32 0, .bool false, .int .i64 0, .slice none 0 0, .int .i64 0]) true := by unfold TI; kernel_rfl
theorem ti82 : TI Try.prog 82 1 24 (.slice none 0 0) false := by unfold TI; kernel_rfl
theorem ti84 : TI Try.prog 84 7 88 (.agg #[.int .i64 0, .int .i64 0, .int .i64 0, .int .i64 0, .int .u32 0, .slice none 0 0, .slice none 0 0]) true := by unfold TI; kernel_rfl
theorem ti86 : TI Try.prog 86 7 64 (.agg #[.int .u32 0, .bool false, .int .i64 0, .int .u32 0, .slice none 0 0, .int .i64 0, .int .i64 0]) true := by unfold TI; kernel_rfl
theorem ti96 : TI Try.prog 96 1 24 (.slice none 0 0) false := by unfold TI; kernel_rfl
theorem ti98 : TI Try.prog 98 1 24 (.agg #[.slice none 0 0]) true := by unfold TI; kernel_rfl
theorem ti100 : TI Try.prog 100 5 88 (.agg #[.slice none 0 0, .slice none 0 0, .int .i64 0, .int .i64 0, .slice none 0 0]) true := by unfold TI; kernel_rfl
theorem ti102 : TI Try.prog 102 6 56 (.agg #[.int .i64 0, .int .u32 0, .bool false, .int .i64 0, .slice none 0 0, .int .i64 0]) true := by unfold TI; kernel_rfl
theorem ti107 : TI Try.prog 107 1 24 (.slice none 0 0) false := by unfold TI; kernel_rfl
theorem ti109 : TI Try.prog 109 7 88 (.agg #[.int .i64 0, .int .i64 0, .int .i64 0, .int .i64 0, .slice none 0 0, .int .u32 0, .slice none 0 0]) true := by unfold TI; kernel_rfl
theorem ti119 : TI Try.prog 119 1 24 (.slice none 0 0) false := by unfold TI; kernel_rfl
theorem ti121 : TI Try.prog 121 5 88 (.agg #[.slice none 0 0, .slice none 0 0, .int .i64 0, .int .i64 0, .slice none 0 0]) true := by unfold TI; kernel_rfl
theorem ti123 : TI Try.prog 123 6 56 (.agg #[.int .i64 0, .int .u32 0, .bool false, .int .i64 0, .slice none 0 0, .int .i64 0]) true := by unfold TI; kernel_rfl
theorem ti128 : TI Try.prog 128 8 64 (.agg #[.int .u32 0, .bool false, .int .i64 0, .int .u32 0, .slice none 0 0, .int .i64 0, .bool false, .bool false]) true := by unfold TI; kernel_rfl
theorem ti129 : TI Try.prog 129 4 40 (.agg #[.int .u32 0, .bool false, .int .u32 0, .slice none 0 0]) true := by unfold TI; kernel_rfl
theorem fa38_0 : FieldAt Try.prog 38 0 0 := by unfold FieldAt; kernel_rfl
theorem fa38_1 : FieldAt Try.prog 38 1 1 := by unfold FieldAt; kernel_rfl
theorem fa38_2 : FieldAt Try.prog 38 2 2 := by unfold FieldAt; kernel_rfl
theorem fa38_3 : FieldAt Try.prog 38 3 3 := by unfold FieldAt; kernel_rfl
theorem fa40_0 : FieldAt Try.prog 40 0 0 := by unfold FieldAt; kernel_rfl
theorem fa40_1 : FieldAt Try.prog 40 1 1 := by unfold FieldAt; kernel_rfl
theorem fa40_2 : FieldAt Try.prog 40 2 2 := by unfold FieldAt; kernel_rfl
theorem fa40_3 : FieldAt Try.prog 40 3 3 := by unfold FieldAt; kernel_rfl
theorem fa40_4 : FieldAt Try.prog 40 4 4 := by unfold FieldAt; kernel_rfl
theorem fa42_0 : FieldAt Try.prog 42 0 0 := by unfold FieldAt; kernel_rfl
theorem fa42_1 : FieldAt Try.prog 42 1 1 := by unfold FieldAt; kernel_rfl
theorem fa42_2 : FieldAt Try.prog 42 2 2 := by unfold FieldAt; kernel_rfl
theorem fa42_3 : FieldAt Try.prog 42 3 3 := by unfold FieldAt; kernel_rfl
theorem fa42_4 : FieldAt Try.prog 42 4 4 := by unfold FieldAt; kernel_rfl
theorem fa42_5 : FieldAt Try.prog 42 5 5 := by unfold FieldAt; kernel_rfl
theorem fa42_6 : FieldAt Try.prog 42 6 6 := by unfold FieldAt; kernel_rfl
theorem fa72_0 : FieldAt Try.prog 72 0 0 := by unfold FieldAt; kernel_rfl
theorem fa72_1 : FieldAt Try.prog 72 1 1 := by unfold FieldAt; kernel_rfl
theorem fa72_2 : FieldAt Try.prog 72 2 6 := by unfold FieldAt; kernel_rfl
theorem fa84_0 : FieldAt Try.prog 84 0 0 := by unfold FieldAt; kernel_rfl
theorem fa84_1 : FieldAt Try.prog 84 1 1 := by unfold FieldAt; kernel_rfl
theorem fa84_2 : FieldAt Try.prog 84 2 2 := by unfold FieldAt; kernel_rfl
theorem fa84_3 : FieldAt Try.prog 84 3 3 := by unfold FieldAt; kernel_rfl
theorem fa84_4 : FieldAt Try.prog 84 4 4 := by unfold FieldAt; kernel_rfl
theorem fa84_5 : FieldAt Try.prog 84 5 5 := by unfold FieldAt; kernel_rfl
theorem fa84_6 : FieldAt Try.prog 84 6 6 := by unfold FieldAt; kernel_rfl
theorem fa86_0 : FieldAt Try.prog 86 0 0 := by unfold FieldAt; kernel_rfl
theorem fa86_1 : FieldAt Try.prog 86 1 1 := by unfold FieldAt; kernel_rfl
theorem fa86_2 : FieldAt Try.prog 86 2 2 := by unfold FieldAt; kernel_rfl
theorem fa86_3 : FieldAt Try.prog 86 3 3 := by unfold FieldAt; kernel_rfl
theorem fa86_4 : FieldAt Try.prog 86 4 4 := by unfold FieldAt; kernel_rfl
theorem fa86_5 : FieldAt Try.prog 86 5 5 := by unfold FieldAt; kernel_rfl
theorem fa86_6 : FieldAt Try.prog 86 6 6 := by unfold FieldAt; kernel_rfl
theorem fa98_0 : FieldAt Try.prog 98 0 0 := by unfold FieldAt; kernel_rfl
theorem fa100_0 : FieldAt Try.prog 100 0 0 := by unfold FieldAt; kernel_rfl
theorem fa100_1 : FieldAt Try.prog 100 1 1 := by unfold FieldAt; kernel_rfl
theorem fa100_2 : FieldAt Try.prog 100 2 2 := by unfold FieldAt; kernel_rfl
theorem fa100_3 : FieldAt Try.prog 100 3 3 := by unfold FieldAt; kernel_rfl
theorem fa100_4 : FieldAt Try.prog 100 4 4 := by unfold FieldAt; kernel_rfl
theorem fa102_0 : FieldAt Try.prog 102 0 0 := by unfold FieldAt; kernel_rfl
theorem fa102_1 : FieldAt Try.prog 102 1 5 := by unfold FieldAt; kernel_rfl
theorem fa109_0 : FieldAt Try.prog 109 0 0 := by unfold FieldAt; kernel_rfl
theorem fa109_1 : FieldAt Try.prog 109 1 1 := by unfold FieldAt; kernel_rfl
theorem fa109_2 : FieldAt Try.prog 109 2 2 := by unfold FieldAt; kernel_rfl
theorem fa109_3 : FieldAt Try.prog 109 3 3 := by unfold FieldAt; kernel_rfl
theorem fa109_4 : FieldAt Try.prog 109 4 4 := by unfold FieldAt; kernel_rfl
theorem fa109_5 : FieldAt Try.prog 109 5 5 := by unfold FieldAt; kernel_rfl
theorem fa109_6 : FieldAt Try.prog 109 6 6 := by unfold FieldAt; kernel_rfl
theorem fa121_0 : FieldAt Try.prog 121 0 0 := by unfold FieldAt; kernel_rfl
theorem fa121_1 : FieldAt Try.prog 121 1 1 := by unfold FieldAt; kernel_rfl
theorem fa121_2 : FieldAt Try.prog 121 2 2 := by unfold FieldAt; kernel_rfl
theorem fa121_3 : FieldAt Try.prog 121 3 3 := by unfold FieldAt; kernel_rfl
theorem fa121_4 : FieldAt Try.prog 121 4 4 := by unfold FieldAt; kernel_rfl
theorem fa123_0 : FieldAt Try.prog 123 0 0 := by unfold FieldAt; kernel_rfl
theorem fa123_1 : FieldAt Try.prog 123 1 5 := by unfold FieldAt; kernel_rfl
theorem fa128_0 : FieldAt Try.prog 128 0 0 := by unfold FieldAt; kernel_rfl
theorem fa128_1 : FieldAt Try.prog 128 1 1 := by unfold FieldAt; kernel_rfl
theorem fa128_2 : FieldAt Try.prog 128 2 2 := by unfold FieldAt; kernel_rfl
theorem fa128_3 : FieldAt Try.prog 128 3 3 := by unfold FieldAt; kernel_rfl
theorem fa128_4 : FieldAt Try.prog 128 4 4 := by unfold FieldAt; kernel_rfl
theorem fa128_5 : FieldAt Try.prog 128 5 5 := by unfold FieldAt; kernel_rfl
theorem fa128_6 : FieldAt Try.prog 128 6 6 := by unfold FieldAt; kernel_rfl
theorem fa128_7 : FieldAt Try.prog 128 7 7 := by unfold FieldAt; kernel_rfl
theorem fa129_0 : FieldAt Try.prog 129 0 0 := by unfold FieldAt; kernel_rfl
theorem fa129_1 : FieldAt Try.prog 129 1 1 := by unfold FieldAt; kernel_rfl
theorem fa129_2 : FieldAt Try.prog 129 2 2 := by unfold FieldAt; kernel_rfl
theorem fa129_3 : FieldAt Try.prog 129 3 3 := by unfold FieldAt; kernel_rfl
theorem bu38 : places? Try.prog 38 = some [(0, 1), (1, 1), (2, 1), (3, 1)] := by kernel_rfl
theorem bu40 : places? Try.prog 40 = some [(0, 1), (1, 1), (2, 1), (3, 1), (4, 1)] := by kernel_rfl
theorem bu84 : places? Try.prog 84 = some [(0, 1), (1, 1), (2, 1), (3, 1), (4, 1), (5, 1), (6, 1)] := by kernel_rfl
theorem bu86 : places? Try.prog 86 = some [(0, 1), (1, 1), (2, 1), (3, 1), (4, 1), (5, 1), (6, 1)] := by kernel_rfl
theorem bu98 : places? Try.prog 98 = some [(0, 1)] := by kernel_rfl
theorem bu100 : places? Try.prog 100 = some [(0, 1), (1, 1), (2, 1), (3, 1), (4, 1)] := by kernel_rfl
theorem bu102 : places? Try.prog 102 = some [(0, 5), (5, 1)] := by kernel_rfl
theorem bu109 : places? Try.prog 109 = some [(0, 1), (1, 1), (2, 1), (3, 1), (4, 1), (5, 1), (6, 1)] := by kernel_rfl
theorem bu121 : places? Try.prog 121 = some [(0, 1), (1, 1), (2, 1), (3, 1), (4, 1)] := by kernel_rfl
theorem bu123 : places? Try.prog 123 = some [(0, 5), (5, 1)] := by kernel_rfl
theorem bu128 : places? Try.prog 128 = some [(0, 1), (1, 1), (2, 1), (3, 1), (4, 1), (5, 1), (6, 1), (7, 1)] := by kernel_rfl
theorem bu129 : places? Try.prog 129 = some [(0, 1), (1, 1), (2, 1), (3, 1)] := by kernel_rfl
theorem call9 : CallOK Try.prog 9 := ⟨_, _, Try.func9, rfl, by kernel_rfl⟩
theorem call10 : CallOK Try.prog 10 := ⟨_, _, Try.func10, rfl, by kernel_rfl⟩
theorem call11 : CallOK Try.prog 11 := ⟨_, _, Try.func11, rfl, by kernel_rfl⟩
theorem call12 : CallOK Try.prog 12 := ⟨_, _, Try.func12, rfl, by kernel_rfl⟩
theorem call13 : CallOK Try.prog 13 := ⟨_, _, Try.func13, rfl, by kernel_rfl⟩
theorem call14 : CallOK Try.prog 14 := ⟨_, _, Try.func14, rfl, by kernel_rfl⟩
theorem call15 : CallOK Try.prog 15 := ⟨_, _, Try.func15, rfl, by kernel_rfl⟩
theorem call16 : CallOK Try.prog 16 := ⟨_, _, Try.func16, rfl, by kernel_rfl⟩
theorem call17 : CallOK Try.prog 17 := ⟨_, _, Try.func17, rfl, by kernel_rfl⟩
theorem call18 : CallOK Try.prog 18 := ⟨_, _, Try.func18, rfl, by kernel_rfl⟩
theorem call19 : CallOK Try.prog 19 := ⟨_, _, Try.func19, rfl, by kernel_rfl⟩
theorem call20 : CallOK Try.prog 20 := ⟨_, _, Try.func20, rfl, by kernel_rfl⟩
theorem call21 : CallOK Try.prog 21 := ⟨_, _, Try.func21, rfl, by kernel_rfl⟩
theorem call22 : CallOK Try.prog 22 := ⟨_, _, Try.func22, rfl, by kernel_rfl⟩
theorem call23 : CallOK Try.prog 23 := ⟨_, _, Try.func23, rfl, by kernel_rfl⟩
theorem call24 : CallOK Try.prog 24 := ⟨_, _, Try.func24, rfl, by kernel_rfl⟩
theorem call25 : CallOK Try.prog 25 := ⟨_, _, Try.func25, rfl, by kernel_rfl⟩
theorem call26 : CallOK Try.prog 26 := ⟨_, _, Try.func26, rfl, by kernel_rfl⟩
theorem call27 : CallOK Try.prog 27 := ⟨_, _, Try.func27, rfl, by kernel_rfl⟩
theorem call28 : CallOK Try.prog 28 := ⟨_, _, Try.func28, rfl, by kernel_rfl⟩
theorem call29 : CallOK Try.prog 29 := ⟨_, _, Try.func29, rfl, by kernel_rfl⟩
theorem call30 : CallOK Try.prog 30 := ⟨_, _, Try.func30, rfl, by kernel_rfl⟩
theorem call31 : CallOK Try.prog 31 := ⟨_, _, Try.func31, rfl, by kernel_rfl⟩
theorem call32 : CallOK Try.prog 32 := ⟨_, _, Try.func32, rfl, by kernel_rfl⟩
theorem call33 : CallOK Try.prog 33 := ⟨_, _, Try.func33, rfl, by kernel_rfl⟩
theorem call34 : CallOK Try.prog 34 := ⟨_, _, Try.func34, rfl, by kernel_rfl⟩
theorem call35 : CallOK Try.prog 35 := ⟨_, _, Try.func35, rfl, by kernel_rfl⟩
theorem call36 : CallOK Try.prog 36 := ⟨_, _, Try.func36, rfl, by kernel_rfl⟩
theorem call37 : CallOK Try.prog 37 := ⟨_, _, Try.func37, rfl, by kernel_rfl⟩
theorem call38 : CallOK Try.prog 38 := ⟨_, _, Try.func38, rfl, by kernel_rfl⟩
theorem call39 : CallOK Try.prog 39 := ⟨_, _, Try.func39, rfl, by kernel_rfl⟩
theorem call40 : CallOK Try.prog 40 := ⟨_, _, Try.func40, rfl, by kernel_rfl⟩
theorem call41 : CallOK Try.prog 41 := ⟨_, _, Try.func41, rfl, by kernel_rfl⟩
theorem call42 : CallOK Try.prog 42 := ⟨_, _, Try.func42, rfl, by kernel_rfl⟩
theorem call43 : CallOK Try.prog 43 := ⟨_, _, Try.func43, rfl, by kernel_rfl⟩
theorem call44 : CallOK Try.prog 44 := ⟨_, _, Try.func44, rfl, by kernel_rfl⟩
theorem call45 : CallOK Try.prog 45 := ⟨_, _, Try.func45, rfl, by kernel_rfl⟩
theorem call46 : CallOK Try.prog 46 := ⟨_, _, Try.func46, rfl, by kernel_rfl⟩
theorem call47 : CallOK Try.prog 47 := ⟨_, _, Try.func47, rfl, by kernel_rfl⟩
theorem call48 : CallOK Try.prog 48 := ⟨_, _, Try.func48, rfl, by kernel_rfl⟩
theorem call49 : CallOK Try.prog 49 := ⟨_, _, Try.func49, rfl, by kernel_rfl⟩
theorem call50 : CallOK Try.prog 50 := ⟨_, _, Try.func50, rfl, by kernel_rfl⟩
theorem call51 : CallOK Try.prog 51 := ⟨_, _, Try.func51, rfl, by kernel_rfl⟩
theorem call52 : CallOK Try.prog 52 := ⟨_, _, Try.func52, rfl, by kernel_rfl⟩
theorem call53 : CallOK Try.prog 53 := ⟨_, _, Try.func53, rfl, by kernel_rfl⟩
theorem call54 : CallOK Try.prog 54 := ⟨_, _, Try.func54, rfl, by kernel_rfl⟩
theorem call55 : CallOK Try.prog 55 := ⟨_, _, Try.func55, rfl, by kernel_rfl⟩
theorem call56 : CallOK Try.prog 56 := ⟨_, _, Try.func56, rfl, by kernel_rfl⟩
theorem call57 : CallOK Try.prog 57 := ⟨_, _, Try.func57, rfl, by kernel_rfl⟩
theorem call58 : CallOK Try.prog 58 := ⟨_, _, Try.func58, rfl, by kernel_rfl⟩
theorem call59 : CallOK Try.prog 59 := ⟨_, _, Try.func59, rfl, by kernel_rfl⟩
theorem call60 : CallOK Try.prog 60 := ⟨_, _, Try.func60, rfl, by kernel_rfl⟩
theorem call61 : CallOK Try.prog 61 := ⟨_, _, Try.func61, rfl, by kernel_rfl⟩
theorem call62 : CallOK Try.prog 62 := ⟨_, _, Try.func62, rfl, by kernel_rfl⟩
theorem call63 : CallOK Try.prog 63 := ⟨_, _, Try.func63, rfl, by kernel_rfl⟩
theorem call64 : CallOK Try.prog 64 := ⟨_, _, Try.func64, rfl, by kernel_rfl⟩
theorem call65 : CallOK Try.prog 65 := ⟨_, _, Try.func65, rfl, by kernel_rfl⟩
theorem call66 : CallOK Try.prog 66 := ⟨_, _, Try.func66, rfl, by kernel_rfl⟩
theorem call67 : CallOK Try.prog 67 := ⟨_, _, Try.func67, rfl, by kernel_rfl⟩
theorem mixed : Try.prog.follows .mixedOrders = true := by kernel_rfl
end Go.Proofs.Ytoejnhfcegchhaa.T
