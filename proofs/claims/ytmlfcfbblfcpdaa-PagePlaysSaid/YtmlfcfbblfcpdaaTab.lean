/- The facts on types, fields and functions of this translation that the walks use: each closed, by the kernel. -/
import Derived.Test.YtmlfcfbblfcpdaaProg
import Derived.Test.YtmlfcfbblfcpdaaEq
import Derived.KernelRfl
namespace Go.Proofs.Ytmlfcfbblfcpdaa.T
open Go Go.Sl Go.Proofs
set_option maxRecDepth 100000
theorem ti3 : TI Try.prog 3 1 8 (.int .i64 0) false := by unfold TI; kernel_rfl
theorem ti4 : TI Try.prog 4 1 1 (.bool false) false := by unfold TI; kernel_rfl
theorem ti5 : TI Try.prog 5 1 1 (.int .u8 0) false := by unfold TI; kernel_rfl
theorem ti24 : TI Try.prog 24 1 8 (.pointer none) false := by unfold TI; kernel_rfl
theorem ti31 : TI Try.prog 31 4 32 (.agg #[.int .i64 0, .int .i64 0, .int .i64 0, .int .i64 0]) true := by unfold TI; kernel_rfl
theorem ti32 : TI Try.prog 32 1 4 (.int .u32 0) false := by unfold TI; kernel_rfl
theorem ti34 : TI Try.prog 34 8 56 (.agg #[.int .i64 0, .int .i64 0, .int .i64 0, .int .i64 0, .int .i64 0, .int .i64 0, .int .u32 0, .int .u32 0]) true := by unfold TI; kernel_rfl
theorem ti42 : TI Try.prog 42 1 8 (.nilFunc) false := by unfold TI; kernel_rfl
theorem ti45 : TI Try.prog 45 1 8 (.map none) false := by unfold TI; kernel_rfl
theorem ti46 : TI Try.prog 46 2 16 (.agg #[.map none, .map none]) true := by unfold TI; kernel_rfl
theorem ti47 : TI Try.prog 47 2 16 (.agg #[.int .i64 0, .int .i64 0]) true := by unfold TI; kernel_rfl
theorem ti73 : TI Try.prog 73 1 24 (.slice none 0 0) false := by unfold TI; kernel_rfl
theorem ti105 : TI Try.prog 105 1 24 (.slice none 0 0) false := by unfold TI; kernel_rfl
theorem ti107 : TI Try.prog 107 1 24 (.agg #[.slice none 0 0]) true := by unfold TI; kernel_rfl
theorem ti116 : TI Try.prog 116 1 24 (.agg #[.slice none 0 0]) true := by unfold TI; kernel_rfl
theorem ti125 : TI Try.prog 125 1 24 (.slice none 0 0) false := by unfold TI; kernel_rfl
theorem ti129 : TI Try.prog 129 2 16 (.agg #[.int .i64 0, .int .i64 0]) true := by unfold TI; kernel_rfl
theorem ti152 : TI Try.prog 152 256 256 (.agg (List.replicate 256 (Value.int .u8 0)).toArray) true := by unfold TI; kernel_rfl
theorem fa31_0 : FieldAt Try.prog 31 0 0 := by unfold FieldAt; kernel_rfl
theorem fa31_1 : FieldAt Try.prog 31 1 1 := by unfold FieldAt; kernel_rfl
theorem fa31_2 : FieldAt Try.prog 31 2 2 := by unfold FieldAt; kernel_rfl
theorem fa31_3 : FieldAt Try.prog 31 3 3 := by unfold FieldAt; kernel_rfl
theorem fa34_0 : FieldAt Try.prog 34 0 0 := by unfold FieldAt; kernel_rfl
theorem fa34_1 : FieldAt Try.prog 34 1 1 := by unfold FieldAt; kernel_rfl
theorem fa34_2 : FieldAt Try.prog 34 2 2 := by unfold FieldAt; kernel_rfl
theorem fa34_3 : FieldAt Try.prog 34 3 6 := by unfold FieldAt; kernel_rfl
theorem fa34_4 : FieldAt Try.prog 34 4 7 := by unfold FieldAt; kernel_rfl
theorem fa107_0 : FieldAt Try.prog 107 0 0 := by unfold FieldAt; kernel_rfl
theorem fa116_0 : FieldAt Try.prog 116 0 0 := by unfold FieldAt; kernel_rfl
theorem bu107 : places? Try.prog 107 = some [(0, 1)] := by kernel_rfl
theorem bu116 : places? Try.prog 116 = some [(0, 1)] := by kernel_rfl
theorem bu129 : places? Try.prog 129 = some [(0, 1), (1, 1)] := by kernel_rfl
theorem call9 : CallOK Try.prog 9 := ⟨_, _, Try.func9, rfl, by kernel_rfl⟩
theorem call10 : CallOK Try.prog 10 := ⟨_, _, Try.func10, rfl, by kernel_rfl⟩
theorem call11 : CallOK Try.prog 11 := ⟨_, _, Try.func11, rfl, by kernel_rfl⟩
theorem call12 : CallOK Try.prog 12 := ⟨_, _, Try.func12, rfl, by kernel_rfl⟩
theorem call13 : CallOK Try.prog 13 := ⟨_, _, Try.func13, rfl, by kernel_rfl⟩
theorem call14 : CallOK Try.prog 14 := ⟨_, _, Try.func14, rfl, by kernel_rfl⟩
theorem call15 : CallOK Try.prog 15 := ⟨_, _, Try.func15, rfl, by kernel_rfl⟩
theorem call16 : CallOK Try.prog 16 := ⟨_, _, Try.func16, rfl, by kernel_rfl⟩
theorem call17 : CallOK Try.prog 17 := ⟨_, _, Try.func17, rfl, by kernel_rfl⟩
theorem call18 : CallOK Try.prog 18 := ⟨_, _, Try.func18, rfl, by kernel_rfl⟩
theorem call19 : CallOK Try.prog 19 := ⟨_, _, Try.func19, rfl, by kernel_rfl⟩
theorem call20 : CallOK Try.prog 20 := ⟨_, _, Try.func20, rfl, by kernel_rfl⟩
theorem call21 : CallOK Try.prog 21 := ⟨_, _, Try.func21, rfl, by kernel_rfl⟩
theorem call22 : CallOK Try.prog 22 := ⟨_, _, Try.func22, rfl, by kernel_rfl⟩
theorem call37 : CallOK Try.prog 37 := ⟨_, _, Try.func37, rfl, by kernel_rfl⟩
theorem call38 : CallOK Try.prog 38 := ⟨_, _, Try.func38, rfl, by kernel_rfl⟩
theorem call39 : CallOK Try.prog 39 := ⟨_, _, Try.func39, rfl, by kernel_rfl⟩
theorem call40 : CallOK Try.prog 40 := ⟨_, _, Try.func40, rfl, by kernel_rfl⟩
theorem call41 : CallOK Try.prog 41 := ⟨_, _, Try.func41, rfl, by kernel_rfl⟩
theorem call42 : CallOK Try.prog 42 := ⟨_, _, Try.func42, rfl, by kernel_rfl⟩
theorem call43 : CallOK Try.prog 43 := ⟨_, _, Try.func43, rfl, by kernel_rfl⟩
theorem call44 : CallOK Try.prog 44 := ⟨_, _, Try.func44, rfl, by kernel_rfl⟩
theorem call45 : CallOK Try.prog 45 := ⟨_, _, Try.func45, rfl, by kernel_rfl⟩
theorem call46 : CallOK Try.prog 46 := ⟨_, _, Try.func46, rfl, by kernel_rfl⟩
theorem call47 : CallOK Try.prog 47 := ⟨_, _, Try.func47, rfl, by kernel_rfl⟩
theorem call48 : CallOK Try.prog 48 := ⟨_, _, Try.func48, rfl, by kernel_rfl⟩
theorem call49 : CallOK Try.prog 49 := ⟨_, _, Try.func49, rfl, by kernel_rfl⟩
theorem call50 : CallOK Try.prog 50 := ⟨_, _, Try.func50, rfl, by kernel_rfl⟩
theorem call51 : CallOK Try.prog 51 := ⟨_, _, Try.func51, rfl, by kernel_rfl⟩
theorem call52 : CallOK Try.prog 52 := ⟨_, _, Try.func52, rfl, by kernel_rfl⟩
theorem call53 : CallOK Try.prog 53 := ⟨_, _, Try.func53, rfl, by kernel_rfl⟩
theorem call54 : CallOK Try.prog 54 := ⟨_, _, Try.func54, rfl, by kernel_rfl⟩
theorem call55 : CallOK Try.prog 55 := ⟨_, _, Try.func55, rfl, by kernel_rfl⟩
theorem call56 : CallOK Try.prog 56 := ⟨_, _, Try.func56, rfl, by kernel_rfl⟩
theorem call57 : CallOK Try.prog 57 := ⟨_, _, Try.func57, rfl, by kernel_rfl⟩
theorem call58 : CallOK Try.prog 58 := ⟨_, _, Try.func58, rfl, by kernel_rfl⟩
theorem call59 : CallOK Try.prog 59 := ⟨_, _, Try.func59, rfl, by kernel_rfl⟩
theorem call69 : CallOK Try.prog 69 := ⟨_, _, Try.func69, rfl, by kernel_rfl⟩
theorem call77 : CallOK Try.prog 77 := ⟨_, _, Try.func77, rfl, by kernel_rfl⟩
theorem call78 : CallOK Try.prog 78 := ⟨_, _, Try.func78, rfl, by kernel_rfl⟩
theorem call79 : CallOK Try.prog 79 := ⟨_, _, Try.func79, rfl, by kernel_rfl⟩
theorem call85 : CallOK Try.prog 85 := ⟨_, _, Try.func85, rfl, by kernel_rfl⟩
theorem call90 : CallOK Try.prog 90 := ⟨_, _, Try.func90, rfl, by kernel_rfl⟩
theorem flat129 : flat? Try.prog 6 129 = some ([some .i64, some .i64], true) := by kernel_rfl
theorem guard129 : Try.prog.eqGuardType Try.prog.depth 129 = false := by kernel_rfl
theorem mixed : Try.prog.follows .mixedOrders = true := by kernel_rfl
end Go.Proofs.Ytmlfcfbblfcpdaa.T
