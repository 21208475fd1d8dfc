/- The facts on types, fields and functions of this translation that the walks use: each closed, by the kernel. -/
import Derived.Test.YtjdaglakhiifjaaProg
import Derived.Test.YtjdaglakhiifjaaEq
import Derived.KernelRfl
namespace Go.Proofs.Ytjdaglakhiifjaa.T
open Go Go.Sl Go.Proofs
set_option maxRecDepth 100000
theorem ti3 : TI Try.prog 3 1 8 (.int .i64 0) false := by unfold TI; kernel_rfl
theorem ti4 : TI Try.prog 4 1 1 (.bool false) false := by unfold TI; kernel_rfl
theorem ti5 : TI Try.prog 5 1 1 (.int .u8 0) false := by unfold TI; kernel_rfl
theorem ti24 : TI Try.prog 24 1 8 (.int .u64 0) false := by unfold TI; kernel_rfl
theorem ti37 : TI Try.prog 37 1 4 (.int .u32 0) false := by unfold TI; kernel_rfl
theorem ti47 : TI Try.prog 47 768 768 (.agg (List.replicate 768 (Value.int .u8 0)).toArray) true := by unfold TI; kernel_rfl
theorem ti48 : TI Try.prog 48 1 24 (.slice none 0 0) false := by unfold TI; kernel_rfl
theorem ti50 : TI Try.prog 50 6 64 (.agg #[.int .i64 0, .int .u32 0, .int .i64 0, .int .u64 0, .int .i64 0, .slice none 0 0]) true := by unfold TI; kernel_rfl
theorem ti57 : TI Try.prog 57 3 24 (.agg #[.int .i64 0, .int .i64 0, .int .u32 0]) true := by unfold TI; kernel_rfl
theorem ti72 : TI Try.prog 72 5 40 (.agg #[.int .i64 0, .int .i64 0, .int .i64 0, .int .i64 0, .int .i64 0]) true := by unfold TI; kernel_rfl
theorem ti74 : TI Try.prog 74 2 16 (.agg #[.int .i64 0, .int .i64 0]) true := by unfold TI; kernel_rfl
theorem ti82 : TI Try.prog 82 4 32 (.agg #[.int .i64 0, .int .i64 0, .int .i64 0, .int .i64 0]) true := by unfold TI; kernel_rfl
theorem ti96 : TI Try.prog 96 1 24 (.slice none 0 0) false := by unfold TI; kernel_rfl
theorem ti98 : TI Try.prog 98 4 48 (.agg #[.slice none 0 0, .int .i64 0, .int .i64 0, .int .i64 0]) true := by unfold TI; kernel_rfl
theorem ti102 : TI Try.prog 102 5 40 (.agg #[.bool false, .int .i64 0, .int .i64 0, .int .i64 0, .int .i64 0]) true := by unfold TI; kernel_rfl
theorem ti103 : TI Try.prog 103 8 8 (.agg #[.bool false, .bool false, .bool false, .bool false, .bool false, .bool false, .bool false, .bool false]) true := by unfold TI; kernel_rfl
theorem ti105 : TI Try.prog 105 18 32 (.agg (List.replicate 16 (Value.bool false) ++ [Value.int .i64 0] ++ [Value.bool false]).toArray) true := by unfold TI; kernel_rfl
theorem ti106 : TI Try.prog 106 1 24 (.slice none 0 0) false := by unfold TI; kernel_rfl
theorem ti108 : TI Try.prog 108 1 24 (.agg #[.slice none 0 0]) true := by unfold TI; kernel_rfl
theorem ti113 : TI Try.prog 113 256 256 (.agg (List.replicate 256 (Value.int .u8 0)).toArray) true := by unfold TI; kernel_rfl
theorem ti116 : TI Try.prog 116 1 24 (.agg #[.slice none 0 0]) true := by unfold TI; kernel_rfl
theorem ti119 : TI Try.prog 119 1 24 (.slice none 0 0) false := by unfold TI; kernel_rfl
theorem ti121 : TI Try.prog 121 4 48 (.agg #[.slice none 0 0, .int .i64 0, .int .i64 0, .int .i64 0]) true := by unfold TI; kernel_rfl
theorem ti123 : TI Try.prog 123 5 40 (.agg #[.bool false, .int .i64 0, .int .i64 0, .int .i64 0, .int .i64 0]) true := by unfold TI; kernel_rfl
theorem fa50_0 : FieldAt Try.prog 50 0 0 := by unfold FieldAt; kernel_rfl
theorem fa50_1 : FieldAt Try.prog 50 1 1 := by unfold FieldAt; kernel_rfl
theorem fa50_2 : FieldAt Try.prog 50 2 2 := by unfold FieldAt; kernel_rfl
theorem fa50_3 : FieldAt Try.prog 50 3 3 := by unfold FieldAt; kernel_rfl
theorem fa50_4 : FieldAt Try.prog 50 4 4 := by unfold FieldAt; kernel_rfl
theorem fa50_5 : FieldAt Try.prog 50 5 5 := by unfold FieldAt; kernel_rfl
theorem fa57_0 : FieldAt Try.prog 57 0 0 := by unfold FieldAt; kernel_rfl
theorem fa57_1 : FieldAt Try.prog 57 1 1 := by unfold FieldAt; kernel_rfl
theorem fa57_2 : FieldAt Try.prog 57 2 2 := by unfold FieldAt; kernel_rfl
theorem fa68_2 : FieldAt Try.prog 68 2 16 := by unfold FieldAt; kernel_rfl
theorem fa72_0 : FieldAt Try.prog 72 0 0 := by unfold FieldAt; kernel_rfl
theorem fa72_1 : FieldAt Try.prog 72 1 1 := by unfold FieldAt; kernel_rfl
theorem fa72_2 : FieldAt Try.prog 72 2 2 := by unfold FieldAt; kernel_rfl
theorem fa72_3 : FieldAt Try.prog 72 3 3 := by unfold FieldAt; kernel_rfl
theorem fa72_4 : FieldAt Try.prog 72 4 4 := by unfold FieldAt; kernel_rfl
theorem fa82_0 : FieldAt Try.prog 82 0 0 := by unfold FieldAt; kernel_rfl
theorem fa82_2 : FieldAt Try.prog 82 2 2 := by unfold FieldAt; kernel_rfl
theorem fa82_3 : FieldAt Try.prog 82 3 3 := by unfold FieldAt; kernel_rfl
theorem fa98_0 : FieldAt Try.prog 98 0 0 := by unfold FieldAt; kernel_rfl
theorem fa98_1 : FieldAt Try.prog 98 1 1 := by unfold FieldAt; kernel_rfl
theorem fa98_2 : FieldAt Try.prog 98 2 2 := by unfold FieldAt; kernel_rfl
theorem fa98_3 : FieldAt Try.prog 98 3 3 := by unfold FieldAt; kernel_rfl
theorem fa102_0 : FieldAt Try.prog 102 0 0 := by unfold FieldAt; kernel_rfl
theorem fa102_1 : FieldAt Try.prog 102 1 1 := by unfold FieldAt; kernel_rfl
theorem fa105_0 : FieldAt Try.prog 105 0 0 := by unfold FieldAt; kernel_rfl
theorem fa105_1 : FieldAt Try.prog 105 1 8 := by unfold FieldAt; kernel_rfl
theorem fa105_2 : FieldAt Try.prog 105 2 16 := by unfold FieldAt; kernel_rfl
theorem fa105_3 : FieldAt Try.prog 105 3 17 := by unfold FieldAt; kernel_rfl
theorem fa108_0 : FieldAt Try.prog 108 0 0 := by unfold FieldAt; kernel_rfl
theorem fa116_0 : FieldAt Try.prog 116 0 0 := by unfold FieldAt; kernel_rfl
theorem fa121_0 : FieldAt Try.prog 121 0 0 := by unfold FieldAt; kernel_rfl
theorem fa121_1 : FieldAt Try.prog 121 1 1 := by unfold FieldAt; kernel_rfl
theorem fa121_2 : FieldAt Try.prog 121 2 2 := by unfold FieldAt; kernel_rfl
theorem fa121_3 : FieldAt Try.prog 121 3 3 := by unfold FieldAt; kernel_rfl
theorem fa123_0 : FieldAt Try.prog 123 0 0 := by unfold FieldAt; kernel_rfl
theorem fa123_1 : FieldAt Try.prog 123 1 1 := by unfold FieldAt; kernel_rfl
theorem fa123_2 : FieldAt Try.prog 123 2 2 := by unfold FieldAt; kernel_rfl
theorem fa123_3 : FieldAt Try.prog 123 3 3 := by unfold FieldAt; kernel_rfl
theorem fa123_4 : FieldAt Try.prog 123 4 4 := by unfold FieldAt; kernel_rfl
theorem bu74 : places? Try.prog 74 = some [(0, 1), (1, 1)] := by kernel_rfl
theorem bu82 : places? Try.prog 82 = some [(0, 1), (1, 1), (2, 1), (3, 1)] := by kernel_rfl
theorem bu98 : places? Try.prog 98 = some [(0, 1), (1, 1), (2, 1), (3, 1)] := by kernel_rfl
theorem bu102 : places? Try.prog 102 = some [(0, 1), (1, 4)] := by kernel_rfl
theorem bu105 : places? Try.prog 105 = some [(0, 8), (8, 8), (16, 1), (17, 1)] := by kernel_rfl
theorem bu108 : places? Try.prog 108 = some [(0, 1)] := by kernel_rfl
theorem bu116 : places? Try.prog 116 = some [(0, 1)] := by kernel_rfl
theorem bu121 : places? Try.prog 121 = some [(0, 1), (1, 1), (2, 1), (3, 1)] := by kernel_rfl
theorem bu123 : places? Try.prog 123 = some [(0, 1), (1, 1), (2, 1), (3, 1), (4, 1)] := by kernel_rfl
theorem call13 : CallOK Try.prog 13 := ⟨_, _, Try.func13, rfl, by kernel_rfl⟩
theorem call14 : CallOK Try.prog 14 := ⟨_, _, Try.func14, rfl, by kernel_rfl⟩
theorem call15 : CallOK Try.prog 15 := ⟨_, _, Try.func15, rfl, by kernel_rfl⟩
theorem call16 : CallOK Try.prog 16 := ⟨_, _, Try.func16, rfl, by kernel_rfl⟩
theorem call17 : CallOK Try.prog 17 := ⟨_, _, Try.func17, rfl, by kernel_rfl⟩
theorem call18 : CallOK Try.prog 18 := ⟨_, _, Try.func18, rfl, by kernel_rfl⟩
theorem call19 : CallOK Try.prog 19 := ⟨_, _, Try.func19, rfl, by kernel_rfl⟩
theorem call20 : CallOK Try.prog 20 := ⟨_, _, Try.func20, rfl, by kernel_rfl⟩
theorem call21 : CallOK Try.prog 21 := ⟨_, _, Try.func21, rfl, by kernel_rfl⟩
theorem call22 : CallOK Try.prog 22 := ⟨_, _, Try.func22, rfl, by kernel_rfl⟩
theorem call23 : CallOK Try.prog 23 := ⟨_, _, Try.func23, rfl, by kernel_rfl⟩
theorem call24 : CallOK Try.prog 24 := ⟨_, _, Try.func24, rfl, by kernel_rfl⟩
theorem call25 : CallOK Try.prog 25 := ⟨_, _, Try.func25, rfl, by kernel_rfl⟩
theorem call26 : CallOK Try.prog 26 := ⟨_, _, Try.func26, rfl, by kernel_rfl⟩
theorem call27 : CallOK Try.prog 27 := ⟨_, _, Try.func27, rfl, by kernel_rfl⟩
theorem call28 : CallOK Try.prog 28 := ⟨_, _, Try.func28, rfl, by kernel_rfl⟩
theorem call29 : CallOK Try.prog 29 := ⟨_, _, Try.func29, rfl, by kernel_rfl⟩
theorem call30 : CallOK Try.prog 30 := ⟨_, _, Try.func30, rfl, by kernel_rfl⟩
theorem call31 : CallOK Try.prog 31 := ⟨_, _, Try.func31, rfl, by kernel_rfl⟩
theorem call32 : CallOK Try.prog 32 := ⟨_, _, Try.func32, rfl, by kernel_rfl⟩
theorem call33 : CallOK Try.prog 33 := ⟨_, _, Try.func33, rfl, by kernel_rfl⟩
theorem call34 : CallOK Try.prog 34 := ⟨_, _, Try.func34, rfl, by kernel_rfl⟩
theorem call35 : CallOK Try.prog 35 := ⟨_, _, Try.func35, rfl, by kernel_rfl⟩
theorem call36 : CallOK Try.prog 36 := ⟨_, _, Try.func36, rfl, by kernel_rfl⟩
theorem call37 : CallOK Try.prog 37 := ⟨_, _, Try.func37, rfl, by kernel_rfl⟩
theorem call38 : CallOK Try.prog 38 := ⟨_, _, Try.func38, rfl, by kernel_rfl⟩
theorem call39 : CallOK Try.prog 39 := ⟨_, _, Try.func39, rfl, by kernel_rfl⟩
theorem call40 : CallOK Try.prog 40 := ⟨_, _, Try.func40, rfl, by kernel_rfl⟩
theorem call41 : CallOK Try.prog 41 := ⟨_, _, Try.func41, rfl, by kernel_rfl⟩
theorem call42 : CallOK Try.prog 42 := ⟨_, _, Try.func42, rfl, by kernel_rfl⟩
theorem call43 : CallOK Try.prog 43 := ⟨_, _, Try.func43, rfl, by kernel_rfl⟩
theorem call44 : CallOK Try.prog 44 := ⟨_, _, Try.func44, rfl, by kernel_rfl⟩
theorem call45 : CallOK Try.prog 45 := ⟨_, _, Try.func45, rfl, by kernel_rfl⟩
theorem call46 : CallOK Try.prog 46 := ⟨_, _, Try.func46, rfl, by kernel_rfl⟩
theorem call47 : CallOK Try.prog 47 := ⟨_, _, Try.func47, rfl, by kernel_rfl⟩
theorem call48 : CallOK Try.prog 48 := ⟨_, _, Try.func48, rfl, by kernel_rfl⟩
theorem call49 : CallOK Try.prog 49 := ⟨_, _, Try.func49, rfl, by kernel_rfl⟩
theorem call50 : CallOK Try.prog 50 := ⟨_, _, Try.func50, rfl, by kernel_rfl⟩
theorem call51 : CallOK Try.prog 51 := ⟨_, _, Try.func51, rfl, by kernel_rfl⟩
theorem call52 : CallOK Try.prog 52 := ⟨_, _, Try.func52, rfl, by kernel_rfl⟩
theorem call53 : CallOK Try.prog 53 := ⟨_, _, Try.func53, rfl, by kernel_rfl⟩
theorem call54 : CallOK Try.prog 54 := ⟨_, _, Try.func54, rfl, by kernel_rfl⟩
theorem call55 : CallOK Try.prog 55 := ⟨_, _, Try.func55, rfl, by kernel_rfl⟩
theorem call56 : CallOK Try.prog 56 := ⟨_, _, Try.func56, rfl, by kernel_rfl⟩
theorem call57 : CallOK Try.prog 57 := ⟨_, _, Try.func57, rfl, by kernel_rfl⟩
theorem call58 : CallOK Try.prog 58 := ⟨_, _, Try.func58, rfl, by kernel_rfl⟩
theorem call59 : CallOK Try.prog 59 := ⟨_, _, Try.func59, rfl, by kernel_rfl⟩
theorem call60 : CallOK Try.prog 60 := ⟨_, _, Try.func60, rfl, by kernel_rfl⟩
theorem call61 : CallOK Try.prog 61 := ⟨_, _, Try.func61, rfl, by kernel_rfl⟩
theorem call62 : CallOK Try.prog 62 := ⟨_, _, Try.func62, rfl, by kernel_rfl⟩
theorem call63 : CallOK Try.prog 63 := ⟨_, _, Try.func63, rfl, by kernel_rfl⟩
theorem call64 : CallOK Try.prog 64 := ⟨_, _, Try.func64, rfl, by kernel_rfl⟩
theorem call65 : CallOK Try.prog 65 := ⟨_, _, Try.func65, rfl, by kernel_rfl⟩
theorem call66 : CallOK Try.prog 66 := ⟨_, _, Try.func66, rfl, by kernel_rfl⟩
theorem call72 : CallOK Try.prog 72 := ⟨_, _, Try.func72, rfl, by kernel_rfl⟩
theorem call73 : CallOK Try.prog 73 := ⟨_, _, Try.func73, rfl, by kernel_rfl⟩
theorem call74 : CallOK Try.prog 74 := ⟨_, _, Try.func74, rfl, by kernel_rfl⟩
theorem call75 : CallOK Try.prog 75 := ⟨_, _, Try.func75, rfl, by kernel_rfl⟩
theorem call76 : CallOK Try.prog 76 := ⟨_, _, Try.func76, rfl, by kernel_rfl⟩
theorem call77 : CallOK Try.prog 77 := ⟨_, _, Try.func77, rfl, by kernel_rfl⟩
theorem call78 : CallOK Try.prog 78 := ⟨_, _, Try.func78, rfl, by kernel_rfl⟩
theorem call79 : CallOK Try.prog 79 := ⟨_, _, Try.func79, rfl, by kernel_rfl⟩
theorem flat74 : flat? Try.prog 6 74 = some ([some .i64, some .i64], true) := by kernel_rfl
theorem guard74 : Try.prog.eqGuardType Try.prog.depth 74 = false := by kernel_rfl
theorem flat82 : flat? Try.prog 6 82 = some ([some .i64, some .i64, some .i64, some .i64], true) := by kernel_rfl
theorem guard82 : Try.prog.eqGuardType Try.prog.depth 82 = false := by kernel_rfl
theorem flat102 : flat? Try.prog 6 102 = some ([none, some .i64, some .i64, some .i64, some .i64], true) := by kernel_rfl
theorem guard102 : Try.prog.eqGuardType Try.prog.depth 102 = false := by kernel_rfl
theorem flat103 : flat? Try.prog 6 103 = some ([none, none, none, none, none, none, none, none], true) := by kernel_rfl
theorem guard103 : Try.prog.eqGuardType Try.prog.depth 103 = false := by kernel_rfl
theorem mixed : Try.prog.follows .mixedOrders = true := by kernel_rfl
end Go.Proofs.Ytjdaglakhiifjaa.T
