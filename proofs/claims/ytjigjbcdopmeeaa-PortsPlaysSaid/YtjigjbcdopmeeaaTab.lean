/- The facts on types, fields and functions of this translation that the walks use: each closed, by the kernel. -/
import Derived.Test.YtjigjbcdopmeeaaProg
import Derived.Test.YtjigjbcdopmeeaaEq
import Derived.KernelRfl
namespace Go.Proofs.Ytjigjbcdopmeeaa.T
open Go Go.Sl Go.Proofs
set_option maxRecDepth 100000
theorem ti3 : TI Try.prog 3 1 8 (.int .i64 0) false := by unfold TI; kernel_rfl
theorem ti5 : TI Try.prog 5 1 1 (.int .u8 0) false := by unfold TI; kernel_rfl
theorem ti29 : TI Try.prog 29 1 24 (.slice none 0 0) false := by unfold TI; kernel_rfl
theorem ti32 : TI Try.prog 32 3 24 (.agg #[.int .i64 0, .int .i64 0, .int .i64 0]) true := by unfold TI; kernel_rfl
theorem ti47 : TI Try.prog 47 5 40 (.agg #[.int .i64 0, .int .i64 0, .int .i64 0, .int .i64 0, .int .i64 0]) true := by unfold TI; kernel_rfl
theorem ti48 : TI Try.prog 48 1 24 (.slice none 0 0) false := by unfold TI; kernel_rfl
theorem ti49 : TI Try.prog 49 1 24 (.slice none 0 0) false := by unfold TI; kernel_rfl
theorem ti51 : TI Try.prog 51 4 48 (.agg #[.int .i64 0, .int .i64 0, .int .i64 0, .slice none 0 0]) true := by unfold TI; kernel_rfl
theorem ti65 : TI Try.prog 65 1 24 (.slice none 0 0) false := by unfold TI; kernel_rfl
theorem ti69 : TI Try.prog 69 1 24 (.slice none 0 0) false := by unfold TI; kernel_rfl
theorem ti78 : TI Try.prog 78 1026 8224 (.agg (List.replicate 1025 (Value.int .i64 0) ++ [Value.slice none 0 0]).toArray) true := by unfold TI; kernel_rfl
theorem ti80 : TI Try.prog 80 1 24 (.slice none 0 0) false := by unfold TI; kernel_rfl
theorem ti82 : TI Try.prog 82 1 24 (.agg #[.slice none 0 0]) true := by unfold TI; kernel_rfl
theorem ti84 : TI Try.prog 84 1 24 (.agg #[.slice none 0 0]) true := by unfold TI; kernel_rfl
theorem ti86 : TI Try.prog 86 7 88 (.agg #[.int .i64 0, .int .i64 0, .int .i64 0, .int .i64 0, .int .i64 0, .slice none 0 0, .slice none 0 0]) true := by unfold TI; kernel_rfl
theorem ti92 : TI Try.prog 92 2 48 (.agg #[.slice none 0 0, .slice none 0 0]) true := by unfold TI; kernel_rfl
theorem ti94 : TI Try.prog 94 3 72 (.agg #[.slice none 0 0, .slice none 0 0, .slice none 0 0]) true := by unfold TI; kernel_rfl
theorem fa32_0 : FieldAt Try.prog 32 0 0 := by unfold FieldAt; kernel_rfl
theorem fa32_1 : FieldAt Try.prog 32 1 1 := by unfold FieldAt; kernel_rfl
theorem fa32_2 : FieldAt Try.prog 32 2 2 := by unfold FieldAt; kernel_rfl
theorem fa47_0 : FieldAt Try.prog 47 0 0 := by unfold FieldAt; kernel_rfl
theorem fa47_1 : FieldAt Try.prog 47 1 1 := by unfold FieldAt; kernel_rfl
theorem fa47_2 : FieldAt Try.prog 47 2 2 := by unfold FieldAt; kernel_rfl
theorem fa47_3 : FieldAt Try.prog 47 3 3 := by unfold FieldAt; kernel_rfl
theorem fa47_4 : FieldAt Try.prog 47 4 4 := by unfold FieldAt; kernel_rfl
theorem fa51_0 : FieldAt Try.prog 51 0 0 := by unfold FieldAt; kernel_rfl
theorem fa51_1 : FieldAt Try.prog 51 1 1 := by unfold FieldAt; kernel_rfl
theorem fa51_2 : FieldAt Try.prog 51 2 2 := by unfold FieldAt; kernel_rfl
theorem fa51_3 : FieldAt Try.prog 51 3 3 := by unfold FieldAt; kernel_rfl
theorem fa78_0 : FieldAt Try.prog 78 0 0 := by unfold FieldAt; kernel_rfl
theorem fa78_1 : FieldAt Try.prog 78 1 1024 := by unfold FieldAt; kernel_rfl
theorem fa78_2 : FieldAt Try.prog 78 2 1025 := by unfold FieldAt; kernel_rfl
theorem fa82_0 : FieldAt Try.prog 82 0 0 := by unfold FieldAt; kernel_rfl
theorem fa84_0 : FieldAt Try.prog 84 0 0 := by unfold FieldAt; kernel_rfl
theorem fa86_0 : FieldAt Try.prog 86 0 0 := by unfold FieldAt; kernel_rfl
theorem fa86_1 : FieldAt Try.prog 86 1 5 := by unfold FieldAt; kernel_rfl
theorem fa86_2 : FieldAt Try.prog 86 2 6 := by unfold FieldAt; kernel_rfl
theorem fa92_0 : FieldAt Try.prog 92 0 0 := by unfold FieldAt; kernel_rfl
theorem fa92_1 : FieldAt Try.prog 92 1 1 := by unfold FieldAt; kernel_rfl
theorem fa94_0 : FieldAt Try.prog 94 0 0 := by unfold FieldAt; kernel_rfl
theorem fa94_1 : FieldAt Try.prog 94 1 1 := by unfold FieldAt; kernel_rfl
theorem fa94_2 : FieldAt Try.prog 94 2 2 := by unfold FieldAt; kernel_rfl
theorem bu47 : places? Try.prog 47 = some [(0, 1), (1, 1), (2, 1), (3, 1), (4, 1)] := by kernel_rfl
theorem bu78 : places? Try.prog 78 = some [(0, 1024), (1024, 1), (1025, 1)] := by kernel_rfl
theorem bu82 : places? Try.prog 82 = some [(0, 1)] := by kernel_rfl
theorem bu84 : places? Try.prog 84 = some [(0, 1)] := by kernel_rfl
theorem bu86 : places? Try.prog 86 = some [(0, 5), (5, 1), (6, 1)] := by kernel_rfl
theorem bu92 : places? Try.prog 92 = some [(0, 1), (1, 1)] := by kernel_rfl
theorem bu94 : places? Try.prog 94 = some [(0, 1), (1, 1), (2, 1)] := by kernel_rfl
theorem call12 : CallOK Try.prog 12 := ⟨_, _, Try.func12, rfl, by kernel_rfl⟩
theorem call13 : CallOK Try.prog 13 := ⟨_, _, Try.func13, rfl, by kernel_rfl⟩
theorem call14 : CallOK Try.prog 14 := ⟨_, _, Try.func14, rfl, by kernel_rfl⟩
theorem call15 : CallOK Try.prog 15 := ⟨_, _, Try.func15, rfl, by kernel_rfl⟩
theorem call16 : CallOK Try.prog 16 := ⟨_, _, Try.func16, rfl, by kernel_rfl⟩
theorem call17 : CallOK Try.prog 17 := ⟨_, _, Try.func17, rfl, by kernel_rfl⟩
theorem call18 : CallOK Try.prog 18 := ⟨_, _, Try.func18, rfl, by kernel_rfl⟩
theorem call19 : CallOK Try.prog 19 := ⟨_, _, Try.func19, rfl, by kernel_rfl⟩
theorem call20 : CallOK Try.prog 20 := ⟨_, _, Try.func20, rfl, by kernel_rfl⟩
theorem call21 : CallOK Try.prog 21 := ⟨_, _, Try.func21, rfl, by kernel_rfl⟩
theorem call22 : CallOK Try.prog 22 := ⟨_, _, Try.func22, rfl, by kernel_rfl⟩
theorem call23 : CallOK Try.prog 23 := ⟨_, _, Try.func23, rfl, by kernel_rfl⟩
theorem call24 : CallOK Try.prog 24 := ⟨_, _, Try.func24, rfl, by kernel_rfl⟩
theorem call25 : CallOK Try.prog 25 := ⟨_, _, Try.func25, rfl, by kernel_rfl⟩
theorem call26 : CallOK Try.prog 26 := ⟨_, _, Try.func26, rfl, by kernel_rfl⟩
theorem call27 : CallOK Try.prog 27 := ⟨_, _, Try.func27, rfl, by kernel_rfl⟩
theorem call28 : CallOK Try.prog 28 := ⟨_, _, Try.func28, rfl, by kernel_rfl⟩
theorem call29 : CallOK Try.prog 29 := ⟨_, _, Try.func29, rfl, by kernel_rfl⟩
theorem call30 : CallOK Try.prog 30 := ⟨_, _, Try.func30, rfl, by kernel_rfl⟩
theorem call31 : CallOK Try.prog 31 := ⟨_, _, Try.func31, rfl, by kernel_rfl⟩
theorem call32 : CallOK Try.prog 32 := ⟨_, _, Try.func32, rfl, by kernel_rfl⟩
theorem call33 : CallOK Try.prog 33 := ⟨_, _, Try.func33, rfl, by kernel_rfl⟩
theorem call34 : CallOK Try.prog 34 := ⟨_, _, Try.func34, rfl, by kernel_rfl⟩
theorem call35 : CallOK Try.prog 35 := ⟨_, _, Try.func35, rfl, by kernel_rfl⟩
theorem call36 : CallOK Try.prog 36 := ⟨_, _, Try.func36, rfl, by kernel_rfl⟩
theorem call37 : CallOK Try.prog 37 := ⟨_, _, Try.func37, rfl, by kernel_rfl⟩
theorem call38 : CallOK Try.prog 38 := ⟨_, _, Try.func38, rfl, by kernel_rfl⟩
theorem call39 : CallOK Try.prog 39 := ⟨_, _, Try.func39, rfl, by kernel_rfl⟩
theorem call40 : CallOK Try.prog 40 := ⟨_, _, Try.func40, rfl, by kernel_rfl⟩
theorem call41 : CallOK Try.prog 41 := ⟨_, _, Try.func41, rfl, by kernel_rfl⟩
theorem call42 : CallOK Try.prog 42 := ⟨_, _, Try.func42, rfl, by kernel_rfl⟩
theorem call43 : CallOK Try.prog 43 := ⟨_, _, Try.func43, rfl, by kernel_rfl⟩
theorem call44 : CallOK Try.prog 44 := ⟨_, _, Try.func44, rfl, by kernel_rfl⟩
theorem call45 : CallOK Try.prog 45 := ⟨_, _, Try.func45, rfl, by kernel_rfl⟩
theorem call46 : CallOK Try.prog 46 := ⟨_, _, Try.func46, rfl, by kernel_rfl⟩
theorem call47 : CallOK Try.prog 47 := ⟨_, _, Try.func47, rfl, by kernel_rfl⟩
theorem call48 : CallOK Try.prog 48 := ⟨_, _, Try.func48, rfl, by kernel_rfl⟩
theorem call49 : CallOK Try.prog 49 := ⟨_, _, Try.func49, rfl, by kernel_rfl⟩
theorem call50 : CallOK Try.prog 50 := ⟨_, _, Try.func50, rfl, by kernel_rfl⟩
theorem call51 : CallOK Try.prog 51 := ⟨_, _, Try.func51, rfl, by kernel_rfl⟩
theorem call52 : CallOK Try.prog 52 := ⟨_, _, Try.func52, rfl, by kernel_rfl⟩
theorem call53 : CallOK Try.prog 53 := ⟨_, _, Try.func53, rfl, by kernel_rfl⟩
theorem call54 : CallOK Try.prog 54 := ⟨_, _, Try.func54, rfl, by kernel_rfl⟩
theorem call55 : CallOK Try.prog 55 := ⟨_, _, Try.func55, rfl, by kernel_rfl⟩
theorem call56 : CallOK Try.prog 56 := ⟨_, _, Try.func56, rfl, by kernel_rfl⟩
theorem call57 : CallOK Try.prog 57 := ⟨_, _, Try.func57, rfl, by kernel_rfl⟩
theorem call58 : CallOK Try.prog 58 := ⟨_, _, Try.func58, rfl, by kernel_rfl⟩
theorem call59 : CallOK Try.prog 59 := ⟨_, _, Try.func59, rfl, by kernel_rfl⟩
theorem call60 : CallOK Try.prog 60 := ⟨_, _, Try.func60, rfl, by kernel_rfl⟩
theorem call61 : CallOK Try.prog 61 := ⟨_, _, Try.func61, rfl, by kernel_rfl⟩
theorem flat47 : flat? Try.prog 6 47 = some ([some .i64, some .i64, some .i64, some .i64, some .i64], true) := by kernel_rfl
theorem guard47 : Try.prog.eqGuardType Try.prog.depth 47 = false := by kernel_rfl
theorem mixed : Try.prog.follows .mixedOrders = true := by kernel_rfl
end Go.Proofs.Ytjigjbcdopmeeaa.T
