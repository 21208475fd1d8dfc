/- The facts on types, fields and functions of this translation that the walks use: each closed, by the kernel. -/
import Derived.Test.YtmhcdeklfecokaaProg
import Derived.Test.YtmhcdeklfecokaaMk
import Derived.KernelRfl
namespace Go.Proofs.Ytmhcdeklfecokaa.T
open Go Go.Sl Go.Proofs
set_option maxRecDepth 100000
theorem ti3 : TI Try.prog 3 1 8 (.int .i64 0) false := by unfold TI; kernel_rfl
theorem ti5 : TI Try.prog 5 1 1 (.int .u8 0) false := by unfold TI; kernel_rfl
theorem ti30 : TI Try.prog 30 1 24 (.slice none 0 0) false := by unfold TI; kernel_rfl
theorem ti32 : TI Try.prog 32 3 40 (.agg #[.int .i64 0, .slice none 0 0, .int .i64 0]) true := by unfold TI; kernel_rfl
theorem ti47 : TI Try.prog 47 3 40 (.agg #[.int .i64 0, .slice none 0 0, .int .i64 0]) true := by unfold TI; kernel_rfl
theorem ti55 : TI Try.prog 55 2 48 (.agg #[.slice none 0 0, .slice none 0 0]) true := by unfold TI; kernel_rfl
theorem ti58 : TI Try.prog 58 3 56 (.agg #[.int .i64 0, .slice none 0 0, .slice none 0 0]) true := by unfold TI; kernel_rfl
theorem ti60 : TI Try.prog 60 3 40 (.agg #[.int .i64 0, .slice none 0 0, .int .i64 0]) true := by unfold TI; kernel_rfl
theorem ti65 : TI Try.prog 65 132 160 (.agg (List.replicate 64 (Value.int .u8 0) ++ List.replicate 2 (Value.int .i64 0) ++ List.replicate 64 (Value.int .u8 0) ++ List.replicate 2 (Value.int .i64 0)).toArray) true := by unfold TI; kernel_rfl
theorem fa32_0 : FieldAt Try.prog 32 0 0 := by unfold FieldAt; kernel_rfl
theorem fa32_1 : FieldAt Try.prog 32 1 1 := by unfold FieldAt; kernel_rfl
theorem fa32_2 : FieldAt Try.prog 32 2 2 := by unfold FieldAt; kernel_rfl
theorem fa47_0 : FieldAt Try.prog 47 0 0 := by unfold FieldAt; kernel_rfl
theorem fa47_1 : FieldAt Try.prog 47 1 1 := by unfold FieldAt; kernel_rfl
theorem fa47_2 : FieldAt Try.prog 47 2 2 := by unfold FieldAt; kernel_rfl
theorem fa55_0 : FieldAt Try.prog 55 0 0 := by unfold FieldAt; kernel_rfl
theorem fa55_1 : FieldAt Try.prog 55 1 1 := by unfold FieldAt; kernel_rfl
theorem fa58_0 : FieldAt Try.prog 58 0 0 := by unfold FieldAt; kernel_rfl
theorem fa58_1 : FieldAt Try.prog 58 1 1 := by unfold FieldAt; kernel_rfl
theorem fa58_2 : FieldAt Try.prog 58 2 2 := by unfold FieldAt; kernel_rfl
theorem fa60_0 : FieldAt Try.prog 60 0 0 := by unfold FieldAt; kernel_rfl
theorem fa60_1 : FieldAt Try.prog 60 1 1 := by unfold FieldAt; kernel_rfl
theorem fa60_2 : FieldAt Try.prog 60 2 2 := by unfold FieldAt; kernel_rfl
theorem fa63_0 : FieldAt Try.prog 63 0 0 := by unfold FieldAt; kernel_rfl
theorem fa63_1 : FieldAt Try.prog 63 1 64 := by unfold FieldAt; kernel_rfl
theorem fa63_2 : FieldAt Try.prog 63 2 65 := by unfold FieldAt; kernel_rfl
theorem fa65_0 : FieldAt Try.prog 65 0 0 := by unfold FieldAt; kernel_rfl
theorem fa65_1 : FieldAt Try.prog 65 1 66 := by unfold FieldAt; kernel_rfl
theorem bu55 : places? Try.prog 55 = some [(0, 1), (1, 1)] := by kernel_rfl
theorem bu58 : places? Try.prog 58 = some [(0, 1), (1, 1), (2, 1)] := by kernel_rfl
theorem bu60 : places? Try.prog 60 = some [(0, 1), (1, 1), (2, 1)] := by kernel_rfl
theorem bu65 : places? Try.prog 65 = some [(0, 66), (66, 66)] := by kernel_rfl
theorem call10 : CallOK Try.prog 10 := ⟨_, _, Try.func10, rfl, by kernel_rfl⟩
theorem call11 : CallOK Try.prog 11 := ⟨_, _, Try.func11, rfl, by kernel_rfl⟩
theorem call12 : CallOK Try.prog 12 := ⟨_, _, Try.func12, rfl, by kernel_rfl⟩
theorem call13 : CallOK Try.prog 13 := ⟨_, _, Try.func13, rfl, by kernel_rfl⟩
theorem call14 : CallOK Try.prog 14 := ⟨_, _, Try.func14, rfl, by kernel_rfl⟩
theorem call15 : CallOK Try.prog 15 := ⟨_, _, Try.func15, rfl, by kernel_rfl⟩
theorem call16 : CallOK Try.prog 16 := ⟨_, _, Try.func16, rfl, by kernel_rfl⟩
theorem call17 : CallOK Try.prog 17 := ⟨_, _, Try.func17, rfl, by kernel_rfl⟩
theorem call18 : CallOK Try.prog 18 := ⟨_, _, Try.func18, rfl, by kernel_rfl⟩
theorem call19 : CallOK Try.prog 19 := ⟨_, _, Try.func19, rfl, by kernel_rfl⟩
theorem call20 : CallOK Try.prog 20 := ⟨_, _, Try.func20, rfl, by kernel_rfl⟩
theorem call21 : CallOK Try.prog 21 := ⟨_, _, Try.func21, rfl, by kernel_rfl⟩
theorem call22 : CallOK Try.prog 22 := ⟨_, _, Try.func22, rfl, by kernel_rfl⟩
theorem call23 : CallOK Try.prog 23 := ⟨_, _, Try.func23, rfl, by kernel_rfl⟩
theorem call24 : CallOK Try.prog 24 := ⟨_, _, Try.func24, rfl, by kernel_rfl⟩
theorem call25 : CallOK Try.prog 25 := ⟨_, _, Try.func25, rfl, by kernel_rfl⟩
theorem call26 : CallOK Try.prog 26 := ⟨_, _, Try.func26, rfl, by kernel_rfl⟩
theorem call27 : CallOK Try.prog 27 := ⟨_, _, Try.func27, rfl, by kernel_rfl⟩
theorem call28 : CallOK Try.prog 28 := ⟨_, _, Try.func28, rfl, by kernel_rfl⟩
theorem call29 : CallOK Try.prog 29 := ⟨_, _, Try.func29, rfl, by kernel_rfl⟩
theorem call30 : CallOK Try.prog 30 := ⟨_, _, Try.func30, rfl, by kernel_rfl⟩
theorem call31 : CallOK Try.prog 31 := ⟨_, _, Try.func31, rfl, by kernel_rfl⟩
theorem call32 : CallOK Try.prog 32 := ⟨_, _, Try.func32, rfl, by kernel_rfl⟩
theorem call33 : CallOK Try.prog 33 := ⟨_, _, Try.func33, rfl, by kernel_rfl⟩
theorem call34 : CallOK Try.prog 34 := ⟨_, _, Try.func34, rfl, by kernel_rfl⟩
theorem call35 : CallOK Try.prog 35 := ⟨_, _, Try.func35, rfl, by kernel_rfl⟩
theorem call36 : CallOK Try.prog 36 := ⟨_, _, Try.func36, rfl, by kernel_rfl⟩
theorem call37 : CallOK Try.prog 37 := ⟨_, _, Try.func37, rfl, by kernel_rfl⟩
theorem call38 : CallOK Try.prog 38 := ⟨_, _, Try.func38, rfl, by kernel_rfl⟩
theorem call39 : CallOK Try.prog 39 := ⟨_, _, Try.func39, rfl, by kernel_rfl⟩
theorem call40 : CallOK Try.prog 40 := ⟨_, _, Try.func40, rfl, by kernel_rfl⟩
theorem call41 : CallOK Try.prog 41 := ⟨_, _, Try.func41, rfl, by kernel_rfl⟩
theorem mixed : Try.prog.follows .mixedOrders = true := by kernel_rfl
end Go.Proofs.Ytmhcdeklfecokaa.T
