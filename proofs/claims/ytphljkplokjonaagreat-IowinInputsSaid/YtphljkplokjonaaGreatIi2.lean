/- A part of what the last text stands on: rules for steps of the model, and what functions of the program do. -/
import Derived.Test.YtphljkplokjonaaGreatIi1
import Derived.Test.YtphljkplokjonaaGreatProg
import Derived.KernelRfl
import Derived.RangeFuncLeaves
import Derived.RangeFuncNested
set_option linter.unusedSimpArgs false
set_option linter.unusedVariables false
/- The facts on types, fields and functions of this translation that the walks use: each closed, by the kernel. -/
namespace Go.Proofs.YtphljkplokjonaaGreat.T
open Go Go.Sl Go.Proofs
set_option maxRecDepth 100000
theorem ti3 : TI Tryz.prog 3 1 8 (.int .i64 0) false := by unfold TI; kernel_rfl
theorem ti4 : TI Tryz.prog 4 1 1 (.bool false) false := by unfold TI; kernel_rfl
theorem ti5 : TI Tryz.prog 5 1 1 (.int .u8 0) false := by unfold TI; kernel_rfl
theorem ti27 : TI Tryz.prog 27 1 4 (.int .u32 0) false := by unfold TI; kernel_rfl
theorem ti32 : TI Tryz.prog 32 1 24 (.slice none 0 0) false := by unfold TI; kernel_rfl
theorem ti37 : TI Tryz.prog 37 1 24 (.slice none 0 0) false := by unfold TI; kernel_rfl
theorem ti53 : TI Tryz.prog 53 1 8 (.pointer none) false := by unfold TI; kernel_rfl
theorem ti54 : TI Tryz.prog 54 1 8 (.pointer none) false := by unfold TI; kernel_rfl
theorem ti55 : TI Tryz.prog 55 1 8 (.pointer none) false := by unfold TI; kernel_rfl
theorem ti56 : TI Tryz.prog 56 1 8 (.pointer none) false := by unfold TI; kernel_rfl
theorem ti58 : TI Tryz.prog 58 4 32 (.agg #[.pointer none, .pointer none, .pointer none, .pointer none]) true := by unfold TI; kernel_rfl
theorem ti59 : TI Tryz.prog 59 1 24 (.slice none 0 0) false := by unfold TI; kernel_rfl
theorem ti60 : TI Tryz.prog 60 1 8 (.pointer none) false := by unfold TI; kernel_rfl
theorem ti61 : TI Tryz.prog 61 1 8 (.pointer none) false := by unfold TI; kernel_rfl
theorem ti62 : TI Tryz.prog 62 1 8 (.pointer none) false := by unfold TI; kernel_rfl
theorem ti64 : TI Tryz.prog 64 4 48 (.agg #[.slice none 0 0, .pointer none, .pointer none, .pointer none]) true := by unfold TI; kernel_rfl
theorem ti67 : TI Tryz.prog 67 1 24 (.slice none 0 0) false := by unfold TI; kernel_rfl
theorem ti72 : TI Tryz.prog 72 1 24 (.slice none 0 0) false := by unfold TI; kernel_rfl
theorem ti75 : TI Tryz.prog 75 3 40 (.agg #[.int .i64 0, .int .i64 0, .slice none 0 0]) true := by unfold TI; kernel_rfl
theorem ti80 : TI Tryz.prog 80 1 24 (.slice none 0 0) false := by unfold TI; kernel_rfl
theorem ti101 : TI Tryz.prog 101 5 48 (.agg #[.int .i64 0, .int .u32 0, .bool false, .int .i64 0, .slice none 0 0]) true := by unfold TI; kernel_rfl
theorem ti111 : TI Tryz.prog 111 1 8 (.pointer none) false := by unfold TI; kernel_rfl
theorem ti114 : TI Tryz.prog 114 1 8 (.pointer none) false := by unfold TI; kernel_rfl
theorem ti117 : TI Tryz.prog 117 1 8 (.pointer none) false := by unfold TI; kernel_rfl
theorem ti148 : TI Tryz.prog 148 132 160 (.agg (List.replicate 64 (Value.int .u8 0) ++ List.replicate 2 (Value.int .i64 0) ++ List.replicate 64 (Value.int .u8 0) ++ List.replicate 2 (Value.int .i64 0)).toArray) true := by unfold TI; kernel_rfl
theorem ti153 : TI Tryz.prog 153 3 56 (.agg #[.int .i64 0, .slice none 0 0, .slice none 0 0]) true := by unfold TI; kernel_rfl
theorem ti156 : TI Tryz.prog 156 5 40 (.agg #[.int .i64 0, .int .i64 0, .int .i64 0, .int .i64 0, .int .i64 0]) true := by unfold TI; kernel_rfl
theorem ti158 : TI Tryz.prog 158 4 40 (.agg #[.int .u32 0, .bool false, .int .u32 0, .slice none 0 0]) true := by unfold TI; kernel_rfl
theorem ti160 : TI Tryz.prog 160 8 8 (.agg #[.bool false, .bool false, .bool false, .bool false, .bool false, .bool false, .bool false, .bool false]) true := by unfold TI; kernel_rfl
theorem ti162 : TI Tryz.prog 162 18 32 (.agg (List.replicate 16 (Value.bool false) ++ [Value.int .i64 0] ++ [Value.bool false]).toArray) true := by unfold TI; kernel_rfl
theorem ti166 : TI Tryz.prog 166 5 40 (.agg #[.int .i64 0, .int .i64 0, .pointer none, .pointer none, .pointer none]) true := by unfold TI; kernel_rfl
theorem ti173 : TI Tryz.prog 173 1 24 (.slice none 0 0) false := by unfold TI; kernel_rfl
theorem ti175 : TI Tryz.prog 175 7 88 (.agg #[.int .i64 0, .int .i64 0, .int .i64 0, .int .i64 0, .int .u32 0, .slice none 0 0, .slice none 0 0]) true := by unfold TI; kernel_rfl
theorem ti177 : TI Tryz.prog 177 7 64 (.agg #[.int .u32 0, .bool false, .int .i64 0, .int .u32 0, .slice none 0 0, .int .i64 0, .int .i64 0]) true := by unfold TI; kernel_rfl
theorem ti191 : TI Tryz.prog 191 7 88 (.agg #[.int .i64 0, .int .i64 0, .int .i64 0, .int .i64 0, .int .i64 0, .slice none 0 0, .slice none 0 0]) true := by unfold TI; kernel_rfl
theorem ti194 : TI Tryz.prog 194 1 24 (.slice none 0 0) false := by unfold TI; kernel_rfl
theorem ti196 : TI Tryz.prog 196 1 24 (.agg #[.slice none 0 0]) true := by unfold TI; kernel_rfl
theorem ti221 : TI Tryz.prog 221 1 24 (.slice none 0 0) false := by unfold TI; kernel_rfl
theorem ti223 : TI Tryz.prog 223 1 24 (.agg #[.slice none 0 0]) true := by unfold TI; kernel_rfl
theorem ti226 : TI Tryz.prog 226 1026 8224 (.agg (List.replicate 1025 (Value.int .i64 0) ++ [Value.slice none 0 0]).toArray) true := by unfold TI; kernel_rfl
theorem ti227 : TI Tryz.prog 227 1 24 (.slice none 0 0) false := by unfold TI; kernel_rfl
theorem ti229 : TI Tryz.prog 229 4 48 (.agg #[.slice none 0 0, .int .i64 0, .int .i64 0, .int .i64 0]) true := by unfold TI; kernel_rfl
theorem ti241 : TI Tryz.prog 241 1 24 (.slice none 0 0) false := by unfold TI; kernel_rfl
theorem ti245 : TI Tryz.prog 245 5 88 (.agg #[.slice none 0 0, .slice none 0 0, .int .i64 0, .int .i64 0, .slice none 0 0]) true := by unfold TI; kernel_rfl
theorem ti252 : TI Tryz.prog 252 6 56 (.agg #[.int .i64 0, .int .u32 0, .bool false, .int .i64 0, .slice none 0 0, .int .i64 0]) true := by unfold TI; kernel_rfl
theorem ti261 : TI Tryz.prog 261 256 256 (.agg (List.replicate 256 (Value.int .u8 0)).toArray) true := by unfold TI; kernel_rfl
theorem ti305 : TI Tryz.prog 305 4 32 (.agg #[.int .i64 0, .int .i64 0, .int .i64 0, .int .i64 0]) true := by unfold TI; kernel_rfl
theorem ti307 : TI Tryz.prog 307 5 40 (.agg #[.bool false, .int .i64 0, .int .i64 0, .int .i64 0, .int .i64 0]) true := by unfold TI; kernel_rfl
theorem fa58_0 : FieldAt Tryz.prog 58 0 0 := by unfold FieldAt; kernel_rfl
theorem fa58_1 : FieldAt Tryz.prog 58 1 1 := by unfold FieldAt; kernel_rfl
theorem fa58_2 : FieldAt Tryz.prog 58 2 2 := by unfold FieldAt; kernel_rfl
theorem fa58_3 : FieldAt Tryz.prog 58 3 3 := by unfold FieldAt; kernel_rfl
theorem fa64_0 : FieldAt Tryz.prog 64 0 0 := by unfold FieldAt; kernel_rfl
theorem fa64_1 : FieldAt Tryz.prog 64 1 1 := by unfold FieldAt; kernel_rfl
theorem fa64_2 : FieldAt Tryz.prog 64 2 2 := by unfold FieldAt; kernel_rfl
theorem fa64_3 : FieldAt Tryz.prog 64 3 3 := by unfold FieldAt; kernel_rfl
theorem fa75_0 : FieldAt Tryz.prog 75 0 0 := by unfold FieldAt; kernel_rfl
theorem fa75_1 : FieldAt Tryz.prog 75 1 1 := by unfold FieldAt; kernel_rfl
theorem fa75_2 : FieldAt Tryz.prog 75 2 2 := by unfold FieldAt; kernel_rfl
theorem fa101_0 : FieldAt Tryz.prog 101 0 0 := by unfold FieldAt; kernel_rfl
theorem fa101_1 : FieldAt Tryz.prog 101 1 1 := by unfold FieldAt; kernel_rfl
theorem fa101_2 : FieldAt Tryz.prog 101 2 2 := by unfold FieldAt; kernel_rfl
theorem fa101_3 : FieldAt Tryz.prog 101 3 3 := by unfold FieldAt; kernel_rfl
theorem fa101_4 : FieldAt Tryz.prog 101 4 4 := by unfold FieldAt; kernel_rfl
theorem fa146_0 : FieldAt Tryz.prog 146 0 0 := by unfold FieldAt; kernel_rfl
theorem fa146_1 : FieldAt Tryz.prog 146 1 64 := by unfold FieldAt; kernel_rfl
theorem fa146_2 : FieldAt Tryz.prog 146 2 65 := by unfold FieldAt; kernel_rfl
theorem fa148_0 : FieldAt Tryz.prog 148 0 0 := by unfold FieldAt; kernel_rfl
theorem fa148_1 : FieldAt Tryz.prog 148 1 66 := by unfold FieldAt; kernel_rfl
theorem fa153_0 : FieldAt Tryz.prog 153 0 0 := by unfold FieldAt; kernel_rfl
theorem fa153_1 : FieldAt Tryz.prog 153 1 1 := by unfold FieldAt; kernel_rfl
theorem fa153_2 : FieldAt Tryz.prog 153 2 2 := by unfold FieldAt; kernel_rfl
theorem fa156_0 : FieldAt Tryz.prog 156 0 0 := by unfold FieldAt; kernel_rfl
theorem fa156_1 : FieldAt Tryz.prog 156 1 1 := by unfold FieldAt; kernel_rfl
theorem fa156_2 : FieldAt Tryz.prog 156 2 2 := by unfold FieldAt; kernel_rfl
theorem fa156_3 : FieldAt Tryz.prog 156 3 3 := by unfold FieldAt; kernel_rfl
theorem fa156_4 : FieldAt Tryz.prog 156 4 4 := by unfold FieldAt; kernel_rfl
theorem fa158_1 : FieldAt Tryz.prog 158 1 1 := by unfold FieldAt; kernel_rfl
theorem fa158_2 : FieldAt Tryz.prog 158 2 2 := by unfold FieldAt; kernel_rfl
theorem fa158_3 : FieldAt Tryz.prog 158 3 3 := by unfold FieldAt; kernel_rfl
theorem fa162_0 : FieldAt Tryz.prog 162 0 0 := by unfold FieldAt; kernel_rfl
theorem fa162_1 : FieldAt Tryz.prog 162 1 8 := by unfold FieldAt; kernel_rfl
theorem fa162_2 : FieldAt Tryz.prog 162 2 16 := by unfold FieldAt; kernel_rfl
theorem fa162_3 : FieldAt Tryz.prog 162 3 17 := by unfold FieldAt; kernel_rfl
theorem fa166_0 : FieldAt Tryz.prog 166 0 0 := by unfold FieldAt; kernel_rfl
theorem fa166_1 : FieldAt Tryz.prog 166 1 1 := by unfold FieldAt; kernel_rfl
theorem fa166_2 : FieldAt Tryz.prog 166 2 2 := by unfold FieldAt; kernel_rfl
theorem fa166_3 : FieldAt Tryz.prog 166 3 3 := by unfold FieldAt; kernel_rfl
theorem fa166_4 : FieldAt Tryz.prog 166 4 4 := by unfold FieldAt; kernel_rfl
theorem fa175_0 : FieldAt Tryz.prog 175 0 0 := by unfold FieldAt; kernel_rfl
theorem fa175_1 : FieldAt Tryz.prog 175 1 1 := by unfold FieldAt; kernel_rfl
theorem fa175_2 : FieldAt Tryz.prog 175 2 2 := by unfold FieldAt; kernel_rfl
theorem fa175_3 : FieldAt Tryz.prog 175 3 3 := by unfold FieldAt; kernel_rfl
theorem fa175_4 : FieldAt Tryz.prog 175 4 4 := by unfold FieldAt; kernel_rfl
theorem fa175_5 : FieldAt Tryz.prog 175 5 5 := by unfold FieldAt; kernel_rfl
theorem fa175_6 : FieldAt Tryz.prog 175 6 6 := by unfold FieldAt; kernel_rfl
theorem fa177_0 : FieldAt Tryz.prog 177 0 0 := by unfold FieldAt; kernel_rfl
theorem fa177_1 : FieldAt Tryz.prog 177 1 1 := by unfold FieldAt; kernel_rfl
theorem fa177_2 : FieldAt Tryz.prog 177 2 2 := by unfold FieldAt; kernel_rfl
theorem fa177_3 : FieldAt Tryz.prog 177 3 3 := by unfold FieldAt; kernel_rfl
theorem fa177_4 : FieldAt Tryz.prog 177 4 4 := by unfold FieldAt; kernel_rfl
theorem fa177_5 : FieldAt Tryz.prog 177 5 5 := by unfold FieldAt; kernel_rfl
theorem fa177_6 : FieldAt Tryz.prog 177 6 6 := by unfold FieldAt; kernel_rfl
theorem fa189_0 : FieldAt Tryz.prog 189 0 0 := by unfold FieldAt; kernel_rfl
theorem fa191_0 : FieldAt Tryz.prog 191 0 0 := by unfold FieldAt; kernel_rfl
theorem fa191_1 : FieldAt Tryz.prog 191 1 5 := by unfold FieldAt; kernel_rfl
theorem fa191_2 : FieldAt Tryz.prog 191 2 6 := by unfold FieldAt; kernel_rfl
theorem fa196_0 : FieldAt Tryz.prog 196 0 0 := by unfold FieldAt; kernel_rfl
theorem fa223_0 : FieldAt Tryz.prog 223 0 0 := by unfold FieldAt; kernel_rfl
theorem fa226_0 : FieldAt Tryz.prog 226 0 0 := by unfold FieldAt; kernel_rfl
theorem fa226_1 : FieldAt Tryz.prog 226 1 1024 := by unfold FieldAt; kernel_rfl
theorem fa226_2 : FieldAt Tryz.prog 226 2 1025 := by unfold FieldAt; kernel_rfl
theorem fa229_0 : FieldAt Tryz.prog 229 0 0 := by unfold FieldAt; kernel_rfl
theorem fa229_1 : FieldAt Tryz.prog 229 1 1 := by unfold FieldAt; kernel_rfl
theorem fa229_2 : FieldAt Tryz.prog 229 2 2 := by unfold FieldAt; kernel_rfl
theorem fa229_3 : FieldAt Tryz.prog 229 3 3 := by unfold FieldAt; kernel_rfl
theorem fa243_0 : FieldAt Tryz.prog 243 0 0 := by unfold FieldAt; kernel_rfl
theorem fa245_0 : FieldAt Tryz.prog 245 0 0 := by unfold FieldAt; kernel_rfl
theorem fa245_1 : FieldAt Tryz.prog 245 1 1 := by unfold FieldAt; kernel_rfl
theorem fa245_2 : FieldAt Tryz.prog 245 2 2 := by unfold FieldAt; kernel_rfl
theorem fa245_3 : FieldAt Tryz.prog 245 3 3 := by unfold FieldAt; kernel_rfl
theorem fa245_4 : FieldAt Tryz.prog 245 4 4 := by unfold FieldAt; kernel_rfl
theorem fa252_0 : FieldAt Tryz.prog 252 0 0 := by unfold FieldAt; kernel_rfl
theorem fa252_1 : FieldAt Tryz.prog 252 1 5 := by unfold FieldAt; kernel_rfl
theorem fa271_0 : FieldAt Tryz.prog 271 0 0 := by unfold FieldAt; kernel_rfl
theorem fa305_2 : FieldAt Tryz.prog 305 2 2 := by unfold FieldAt; kernel_rfl
theorem fa305_3 : FieldAt Tryz.prog 305 3 3 := by unfold FieldAt; kernel_rfl
theorem fa307_0 : FieldAt Tryz.prog 307 0 0 := by unfold FieldAt; kernel_rfl
theorem fa307_1 : FieldAt Tryz.prog 307 1 1 := by unfold FieldAt; kernel_rfl
theorem bu58 : places? Tryz.prog 58 = some [(0, 1), (1, 1), (2, 1), (3, 1)] := by kernel_rfl
theorem bu64 : places? Tryz.prog 64 = some [(0, 1), (1, 1), (2, 1), (3, 1)] := by kernel_rfl
theorem bu75 : places? Tryz.prog 75 = some [(0, 1), (1, 1), (2, 1)] := by kernel_rfl
theorem bu101 : places? Tryz.prog 101 = some [(0, 1), (1, 1), (2, 1), (3, 1), (4, 1)] := by kernel_rfl
theorem bu148 : places? Tryz.prog 148 = some [(0, 66), (66, 66)] := by kernel_rfl
theorem bu153 : places? Tryz.prog 153 = some [(0, 1), (1, 1), (2, 1)] := by kernel_rfl
theorem bu156 : places? Tryz.prog 156 = some [(0, 1), (1, 1), (2, 1), (3, 1), (4, 1)] := by kernel_rfl
theorem bu158 : places? Tryz.prog 158 = some [(0, 1), (1, 1), (2, 1), (3, 1)] := by kernel_rfl
theorem bu162 : places? Tryz.prog 162 = some [(0, 8), (8, 8), (16, 1), (17, 1)] := by kernel_rfl
theorem bu166 : places? Tryz.prog 166 = some [(0, 1), (1, 1), (2, 1), (3, 1), (4, 1)] := by kernel_rfl
theorem bu175 : places? Tryz.prog 175 = some [(0, 1), (1, 1), (2, 1), (3, 1), (4, 1), (5, 1), (6, 1)] := by kernel_rfl
theorem bu177 : places? Tryz.prog 177 = some [(0, 1), (1, 1), (2, 1), (3, 1), (4, 1), (5, 1), (6, 1)] := by kernel_rfl
theorem bu191 : places? Tryz.prog 191 = some [(0, 5), (5, 1), (6, 1)] := by kernel_rfl
theorem bu196 : places? Tryz.prog 196 = some [(0, 1)] := by kernel_rfl
theorem bu223 : places? Tryz.prog 223 = some [(0, 1)] := by kernel_rfl
theorem bu226 : places? Tryz.prog 226 = some [(0, 1024), (1024, 1), (1025, 1)] := by kernel_rfl
theorem bu229 : places? Tryz.prog 229 = some [(0, 1), (1, 1), (2, 1), (3, 1)] := by kernel_rfl
theorem bu245 : places? Tryz.prog 245 = some [(0, 1), (1, 1), (2, 1), (3, 1), (4, 1)] := by kernel_rfl
theorem bu252 : places? Tryz.prog 252 = some [(0, 5), (5, 1)] := by kernel_rfl
theorem bu305 : places? Tryz.prog 305 = some [(0, 1), (1, 1), (2, 1), (3, 1)] := by kernel_rfl
theorem bu307 : places? Tryz.prog 307 = some [(0, 1), (1, 4)] := by kernel_rfl
theorem call18 : CallOK Tryz.prog 18 := ⟨_, _, Tryz.func18, rfl, by kernel_rfl⟩
theorem call19 : CallOK Tryz.prog 19 := ⟨_, _, Tryz.func19, rfl, by kernel_rfl⟩
theorem call20 : CallOK Tryz.prog 20 := ⟨_, _, Tryz.func20, rfl, by kernel_rfl⟩
theorem call22 : CallOK Tryz.prog 22 := ⟨_, _, Tryz.func22, rfl, by kernel_rfl⟩
theorem call23 : CallOK Tryz.prog 23 := ⟨_, _, Tryz.func23, rfl, by kernel_rfl⟩
theorem call24 : CallOK Tryz.prog 24 := ⟨_, _, Tryz.func24, rfl, by kernel_rfl⟩
theorem call25 : CallOK Tryz.prog 25 := ⟨_, _, Tryz.func25, rfl, by kernel_rfl⟩
theorem call26 : CallOK Tryz.prog 26 := ⟨_, _, Tryz.func26, rfl, by kernel_rfl⟩
theorem call27 : CallOK Tryz.prog 27 := ⟨_, _, Tryz.func27, rfl, by kernel_rfl⟩
theorem call32 : CallOK Tryz.prog 32 := ⟨_, _, Tryz.func32, rfl, by kernel_rfl⟩
theorem call35 : CallOK Tryz.prog 35 := ⟨_, _, Tryz.func35, rfl, by kernel_rfl⟩
theorem call36 : CallOK Tryz.prog 36 := ⟨_, _, Tryz.func36, rfl, by kernel_rfl⟩
theorem call42 : CallOK Tryz.prog 42 := ⟨_, _, Tryz.func42, rfl, by kernel_rfl⟩
theorem call44 : CallOK Tryz.prog 44 := ⟨_, _, Tryz.func44, rfl, by kernel_rfl⟩
theorem call45 : CallOK Tryz.prog 45 := ⟨_, _, Tryz.func45, rfl, by kernel_rfl⟩
theorem call50 : CallOK Tryz.prog 50 := ⟨_, _, Tryz.func50, rfl, by kernel_rfl⟩
theorem call51 : CallOK Tryz.prog 51 := ⟨_, _, Tryz.func51, rfl, by kernel_rfl⟩
theorem call52 : CallOK Tryz.prog 52 := ⟨_, _, Tryz.func52, rfl, by kernel_rfl⟩
theorem call53 : CallOK Tryz.prog 53 := ⟨_, _, Tryz.func53, rfl, by kernel_rfl⟩
theorem call54 : CallOK Tryz.prog 54 := ⟨_, _, Tryz.func54, rfl, by kernel_rfl⟩
theorem call55 : CallOK Tryz.prog 55 := ⟨_, _, Tryz.func55, rfl, by kernel_rfl⟩
theorem call56 : CallOK Tryz.prog 56 := ⟨_, _, Tryz.func56, rfl, by kernel_rfl⟩
theorem call58 : CallOK Tryz.prog 58 := ⟨_, _, Tryz.func58, rfl, by kernel_rfl⟩
theorem call60 : CallOK Tryz.prog 60 := ⟨_, _, Tryz.func60, rfl, by kernel_rfl⟩
theorem call61 : CallOK Tryz.prog 61 := ⟨_, _, Tryz.func61, rfl, by kernel_rfl⟩
theorem call62 : CallOK Tryz.prog 62 := ⟨_, _, Tryz.func62, rfl, by kernel_rfl⟩
theorem call63 : CallOK Tryz.prog 63 := ⟨_, _, Tryz.func63, rfl, by kernel_rfl⟩
theorem call64 : CallOK Tryz.prog 64 := ⟨_, _, Tryz.func64, rfl, by kernel_rfl⟩
theorem call69 : CallOK Tryz.prog 69 := ⟨_, _, Tryz.func69, rfl, by kernel_rfl⟩
theorem call70 : CallOK Tryz.prog 70 := ⟨_, _, Tryz.func70, rfl, by kernel_rfl⟩
theorem call71 : CallOK Tryz.prog 71 := ⟨_, _, Tryz.func71, rfl, by kernel_rfl⟩
theorem call72 : CallOK Tryz.prog 72 := ⟨_, _, Tryz.func72, rfl, by kernel_rfl⟩
theorem call73 : CallOK Tryz.prog 73 := ⟨_, _, Tryz.func73, rfl, by kernel_rfl⟩
theorem call74 : CallOK Tryz.prog 74 := ⟨_, _, Tryz.func74, rfl, by kernel_rfl⟩
theorem call75 : CallOK Tryz.prog 75 := ⟨_, _, Tryz.func75, rfl, by kernel_rfl⟩
theorem call76 : CallOK Tryz.prog 76 := ⟨_, _, Tryz.func76, rfl, by kernel_rfl⟩
theorem call77 : CallOK Tryz.prog 77 := ⟨_, _, Tryz.func77, rfl, by kernel_rfl⟩
theorem call78 : CallOK Tryz.prog 78 := ⟨_, _, Tryz.func78, rfl, by kernel_rfl⟩
theorem call79 : CallOK Tryz.prog 79 := ⟨_, _, Tryz.func79, rfl, by kernel_rfl⟩
theorem call80 : CallOK Tryz.prog 80 := ⟨_, _, Tryz.func80, rfl, by kernel_rfl⟩
theorem call81 : CallOK Tryz.prog 81 := ⟨_, _, Tryz.func81, rfl, by kernel_rfl⟩
theorem call82 : CallOK Tryz.prog 82 := ⟨_, _, Tryz.func82, rfl, by kernel_rfl⟩
theorem call83 : CallOK Tryz.prog 83 := ⟨_, _, Tryz.func83, rfl, by kernel_rfl⟩
theorem call84 : CallOK Tryz.prog 84 := ⟨_, _, Tryz.func84, rfl, by kernel_rfl⟩
theorem call85 : CallOK Tryz.prog 85 := ⟨_, _, Tryz.func85, rfl, by kernel_rfl⟩
theorem call86 : CallOK Tryz.prog 86 := ⟨_, _, Tryz.func86, rfl, by kernel_rfl⟩
theorem call87 : CallOK Tryz.prog 87 := ⟨_, _, Tryz.func87, rfl, by kernel_rfl⟩
theorem call88 : CallOK Tryz.prog 88 := ⟨_, _, Tryz.func88, rfl, by kernel_rfl⟩
theorem call89 : CallOK Tryz.prog 89 := ⟨_, _, Tryz.func89, rfl, by kernel_rfl⟩
theorem call90 : CallOK Tryz.prog 90 := ⟨_, _, Tryz.func90, rfl, by kernel_rfl⟩
theorem call94 : CallOK Tryz.prog 94 := ⟨_, _, Tryz.func94, rfl, by kernel_rfl⟩
theorem call95 : CallOK Tryz.prog 95 := ⟨_, _, Tryz.func95, rfl, by kernel_rfl⟩
theorem call96 : CallOK Tryz.prog 96 := ⟨_, _, Tryz.func96, rfl, by kernel_rfl⟩
theorem call97 : CallOK Tryz.prog 97 := ⟨_, _, Tryz.func97, rfl, by kernel_rfl⟩
theorem call98 : CallOK Tryz.prog 98 := ⟨_, _, Tryz.func98, rfl, by kernel_rfl⟩
theorem call99 : CallOK Tryz.prog 99 := ⟨_, _, Tryz.func99, rfl, by kernel_rfl⟩
theorem call122 : CallOK Tryz.prog 122 := ⟨_, _, Tryz.func122, rfl, by kernel_rfl⟩
theorem call123 : CallOK Tryz.prog 123 := ⟨_, _, Tryz.func123, rfl, by kernel_rfl⟩
theorem call124 : CallOK Tryz.prog 124 := ⟨_, _, Tryz.func124, rfl, by kernel_rfl⟩
theorem call125 : CallOK Tryz.prog 125 := ⟨_, _, Tryz.func125, rfl, by kernel_rfl⟩
theorem call128 : CallOK Tryz.prog 128 := ⟨_, _, Tryz.func128, rfl, by kernel_rfl⟩
theorem call129 : CallOK Tryz.prog 129 := ⟨_, _, Tryz.func129, rfl, by kernel_rfl⟩
theorem call130 : CallOK Tryz.prog 130 := ⟨_, _, Tryz.func130, rfl, by kernel_rfl⟩
theorem call131 : CallOK Tryz.prog 131 := ⟨_, _, Tryz.func131, rfl, by kernel_rfl⟩
theorem call132 : CallOK Tryz.prog 132 := ⟨_, _, Tryz.func132, rfl, by kernel_rfl⟩
theorem call133 : CallOK Tryz.prog 133 := ⟨_, _, Tryz.func133, rfl, by kernel_rfl⟩
theorem call134 : CallOK Tryz.prog 134 := ⟨_, _, Tryz.func134, rfl, by kernel_rfl⟩
theorem call135 : CallOK Tryz.prog 135 := ⟨_, _, Tryz.func135, rfl, by kernel_rfl⟩
theorem call136 : CallOK Tryz.prog 136 := ⟨_, _, Tryz.func136, rfl, by kernel_rfl⟩
theorem call137 : CallOK Tryz.prog 137 := ⟨_, _, Tryz.func137, rfl, by kernel_rfl⟩
theorem call138 : CallOK Tryz.prog 138 := ⟨_, _, Tryz.func138, rfl, by kernel_rfl⟩
theorem call139 : CallOK Tryz.prog 139 := ⟨_, _, Tryz.func139, rfl, by kernel_rfl⟩
theorem call140 : CallOK Tryz.prog 140 := ⟨_, _, Tryz.func140, rfl, by kernel_rfl⟩
theorem call141 : CallOK Tryz.prog 141 := ⟨_, _, Tryz.func141, rfl, by kernel_rfl⟩
theorem call142 : CallOK Tryz.prog 142 := ⟨_, _, Tryz.func142, rfl, by kernel_rfl⟩
theorem call143 : CallOK Tryz.prog 143 := ⟨_, _, Tryz.func143, rfl, by kernel_rfl⟩
theorem call144 : CallOK Tryz.prog 144 := ⟨_, _, Tryz.func144, rfl, by kernel_rfl⟩
theorem call145 : CallOK Tryz.prog 145 := ⟨_, _, Tryz.func145, rfl, by kernel_rfl⟩
theorem call146 : CallOK Tryz.prog 146 := ⟨_, _, Tryz.func146, rfl, by kernel_rfl⟩
theorem call147 : CallOK Tryz.prog 147 := ⟨_, _, Tryz.func147, rfl, by kernel_rfl⟩
theorem call170 : CallOK Tryz.prog 170 := ⟨_, _, Tryz.func170, rfl, by kernel_rfl⟩
theorem call171 : CallOK Tryz.prog 171 := ⟨_, _, Tryz.func171, rfl, by kernel_rfl⟩
theorem call186 : CallOK Tryz.prog 186 := ⟨_, _, Tryz.func186, rfl, by kernel_rfl⟩
theorem call187 : CallOK Tryz.prog 187 := ⟨_, _, Tryz.func187, rfl, by kernel_rfl⟩
theorem call188 : CallOK Tryz.prog 188 := ⟨_, _, Tryz.func188, rfl, by kernel_rfl⟩
theorem call189 : CallOK Tryz.prog 189 := ⟨_, _, Tryz.func189, rfl, by kernel_rfl⟩
theorem call190 : CallOK Tryz.prog 190 := ⟨_, _, Tryz.func190, rfl, by kernel_rfl⟩
theorem call191 : CallOK Tryz.prog 191 := ⟨_, _, Tryz.func191, rfl, by kernel_rfl⟩
theorem call192 : CallOK Tryz.prog 192 := ⟨_, _, Tryz.func192, rfl, by kernel_rfl⟩
theorem call193 : CallOK Tryz.prog 193 := ⟨_, _, Tryz.func193, rfl, by kernel_rfl⟩
theorem call194 : CallOK Tryz.prog 194 := ⟨_, _, Tryz.func194, rfl, by kernel_rfl⟩
theorem call195 : CallOK Tryz.prog 195 := ⟨_, _, Tryz.func195, rfl, by kernel_rfl⟩
theorem call196 : CallOK Tryz.prog 196 := ⟨_, _, Tryz.func196, rfl, by kernel_rfl⟩
theorem call209 : CallOK Tryz.prog 209 := ⟨_, _, Tryz.func209, rfl, by kernel_rfl⟩
theorem call219 : CallOK Tryz.prog 219 := ⟨_, _, Tryz.func219, rfl, by kernel_rfl⟩
theorem call220 : CallOK Tryz.prog 220 := ⟨_, _, Tryz.func220, rfl, by kernel_rfl⟩
theorem call221 : CallOK Tryz.prog 221 := ⟨_, _, Tryz.func221, rfl, by kernel_rfl⟩
theorem call222 : CallOK Tryz.prog 222 := ⟨_, _, Tryz.func222, rfl, by kernel_rfl⟩
theorem call223 : CallOK Tryz.prog 223 := ⟨_, _, Tryz.func223, rfl, by kernel_rfl⟩
theorem flat160 : flat? Tryz.prog 6 160 = some ([none, none, none, none, none, none, none, none], true) := by kernel_rfl
theorem guard160 : Tryz.prog.eqGuardType Tryz.prog.depth 160 = false := by kernel_rfl
theorem flat307 : flat? Tryz.prog 6 307 = some ([none, some .i64, some .i64, some .i64, some .i64], true) := by kernel_rfl
theorem guard307 : Tryz.prog.eqGuardType Tryz.prog.depth 307 = false := by kernel_rfl
theorem mixed : Tryz.prog.follows .mixedOrders = true := by kernel_rfl
end Go.Proofs.YtphljkplokjonaaGreat.T
/- memory.Memory as its bytes: what each function does; and word.Get, word.Put. -/
namespace Go.Proofs.YtphljkplokjonaaGreat.Me
open Go Go.Sl Go.RowKit Go.Proofs Go.Proofs.YtphljkplokjonaaGreat.T
set_option maxRecDepth 100000
/-- The number of bytes, the lowest first. -/
def leN : List UInt8 → Nat
  | [] => 0
  | b :: bs => b.toNat + 256 * leN bs
theorem leN_lt : ∀ bs : List UInt8, leN bs < 2 ^ (8 * bs.length)
  | [] => by simp [leN]
  | b :: bs => by
    have ih := leN_lt bs
    have hb := b.toNat_lt
    have : 2 ^ (8 * (b :: bs).length) = 256 * 2 ^ (8 * bs.length) := by
      rw [List.length_cons, Nat.mul_succ, Nat.pow_add, Nat.mul_comm]
    rw [this]; simp only [leN]; omega
theorem leN_append (a b : List UInt8) : leN (a ++ b) = leN a + 2 ^ (8 * a.length) * leN b := by
  induction a with
  | nil => simp [leN]
  | cons x a ih =>
    have e : 2 ^ (8 * (x :: a).length) = 2 ^ (8 * a.length) * 256 := by rw [List.length_cons, Nat.mul_add, Nat.pow_add]
    rw [e]
    simp only [List.cons_append, leN, ih]
    rw [Nat.mul_add, ← Nat.mul_assoc, Nat.mul_comm 256 (2 ^ (8 * a.length)), Nat.add_assoc]
theorem leN_take {bs : List UInt8} {i : Nat} {b : UInt8} (h : bs[i]? = some b) : leN (bs.take (i + 1)) = leN (bs.take i) + b.toNat * 2 ^ (8 * i) := by
  obtain ⟨hi, rfl⟩ := List.getElem?_eq_some_iff.1 h
  rw [List.take_succ_eq_append_getElem hi, leN_append, List.length_take, Nat.min_eq_left (by omega)]
  simp [leN, Nat.mul_comm]
/-- The k lowest bytes of a number, the lowest first. -/
def putB (v k : Nat) : List UInt8 := (List.range k).map fun i => UInt8.ofNat (v / 2 ^ (8 * i))
theorem putB_len (v k : Nat) : (putB v k).length = k := by simp [putB]
theorem putB_succ (v k : Nat) : putB v (k + 1) = putB v k ++ [UInt8.ofNat (v / 2 ^ (8 * k))] := by unfold putB; rw [List.range_succ, List.map_append]; rfl
theorem leN_putB (v k : Nat) : leN (putB v k) = v % 2 ^ (8 * k) := by
  induction k with
  | zero => simp [putB, leN, Nat.mod_one]
  | succ k ih =>
    rw [putB_succ, leN_append, ih, putB_len]
    simp only [leN, Nat.mul_zero, Nat.add_zero, UInt8.toNat_ofNat']
    rw [Nat.mul_succ, Nat.pow_add, Nat.mod_mul]
/-- Bytes with others written over them from a on. -/
def overB (bs : List UInt8) (a : Nat) (ys : List UInt8) : List UInt8 := bs.take a ++ ys ++ bs.drop (a + ys.length)
theorem overB_len {bs : List UInt8} {a : Nat} {ys : List UInt8} (h : a + ys.length ≤ bs.length) : (overB bs a ys).length = bs.length := by unfold overB; simp; omega
theorem over_bytes (bs : List UInt8) (a : Nat) (ys : List UInt8) : over (bytesV bs) a (bytesV ys) = bytesV (overB bs a ys) := by
  unfold over overB; rw [bytesV_length, bytesV_take, bytesV_drop, bytesV_append, bytesV_append]
theorem overB_at {bs ys : List UInt8} {a : Nat} (h : a ≤ bs.length) : ((overB bs a ys).drop a).take ys.length = ys := by
  unfold overB
  have e0 : (bs.take a).length = a := by rw [List.length_take]; omega
  rw [List.append_assoc, List.drop_append, e0, List.drop_eq_nil_of_le (by omega), List.nil_append, Nat.sub_self, List.drop_zero, List.take_append_of_le_length (Nat.le_refl _), List.take_length]
theorem quo_nat {a b : Nat} (hb : b ≠ 0) (ha : a ≤ 9223372036854775807) : IntKind.i64.wrap ((a : Int).tdiv (b : Int)) = ((a / b : Nat) : Int) := by
  rw [Int.tdiv_eq_ediv_of_nonneg (by omega), ← Int.natCast_ediv]
  have := Nat.div_le_self a b
  generalize a / b = q at this ⊢
  exact w64 (by omega) (by omega)
theorem quo_nat32 {a b : Nat} (hb : b ≠ 0) (ha : a ≤ 4294967295) : IntKind.u32.wrap ((a : Int).tdiv (b : Int)) = ((a / b : Nat) : Int) := by
  rw [Int.tdiv_eq_ediv_of_nonneg (by omega), ← Int.natCast_ediv]
  have := Nat.div_le_self a b
  generalize a / b = q at this ⊢
  exact wu32 (by omega) (by omega)
theorem shl_bound {x i : Nat} (hx : x < 256) (hi : i < 8) : x * 2 ^ (8 * i) < 18446744073709551616 := by
  have h1 : x * 2 ^ (8 * i) < 256 * 2 ^ (8 * i) := Nat.mul_lt_mul_of_pos_right hx (Nat.two_pow_pos _)
  have h2 : 256 * 2 ^ (8 * i) = 2 ^ (8 * i + 8) := by rw [Nat.pow_add, Nat.mul_comm]
  have h3 : 2 ^ (8 * i + 8) ≤ 2 ^ 64 := Nat.pow_le_pow_right (by decide) (by omega)
  have h4 : (2 : Nat) ^ 64 = 18446744073709551616 := by decide
  omega
theorem or_join {a x i : Nat} (ha : a < 2 ^ (8 * i)) (hx : x < 256) (hi : i < 8) : Go.bits .or .u64 (a : Int) ((x * 2 ^ (8 * i) : Nat) : Int) = ((a + x * 2 ^ (8 * i) : Nat) : Int) := by
  have h4 : (2 : Nat) ^ 64 = 18446744073709551616 := by decide
  have h2 := shl_bound hx hi
  have h3 : (2 : Nat) ^ (8 * i) ≤ 2 ^ 64 := Nat.pow_le_pow_right (by decide) (by omega)
  rw [(bits_nat .u64 64 (by decide) (fun n h0 h1 => wu64 h0 (by omega)) a _ (by omega) (by omega)).2]
  congr 1
  rw [Nat.or_comm, Nat.mul_comm, ← Nat.two_pow_add_eq_or_of_lt ha, Nat.add_comm]
theorem wrap_u8_nat (n : Nat) : IntKind.u8.wrap (n : Int) = ((UInt8.ofNat n).toNat : Int) := by
  rw [IntKind.wrap_u8, UInt8.toNat_ofNat']; omega
theorem SlR.byte {W0 : World} {G : List HProp} {b o m i : Nat} {bs : List UInt8} {x : UInt8} (h : SlR W0 G 1 (some ⟨b, o, none⟩) m (bytesV bs)) (hx : bs[i]? = some x) : Cel W0 G ⟨b, o + i * 1, none⟩ (byteV x) := by
  rw [Nat.mul_one]; exact h.cel (bytesV_get hx)
theorem flat_zeros (n k : Nat) : (List.replicate n (Value.agg (List.replicate k (Value.int .u8 0)).toArray).cells.toList).flatten = bytesV (List.replicate (n * k) 0) := by
  show (List.replicate n (List.replicate k (Value.int .u8 0))).flatten = _
  rw [List.flatten_replicate_replicate]
  simp [bytesV, byteV]
theorem sl_eq {b o o' m m' c c' : Nat} (h1 : o = o') (h2 : m = m') (h3 : c = c') : Value.slice (some ⟨b, o, none⟩) m c = .slice (some ⟨b, o', none⟩) m' c' := by subst h1 h2 h3; rfl
abbrev PA := (Nat × Nat) × Nat
abbrev MO (m n : Nat) (bs : List UInt8) (p : PA) : List HProp :=
  [blk m [.slice (some ⟨p.1.1, p.1.2, none⟩) n p.2] 223, osl 261 256 (some ⟨p.1.1, p.1.2, none⟩) p.2 n (bytesV bs)]
/-- At block m lies a memory of n frames. -/
def M (m n : Nat) (bs : List UInt8) : HProp := fun h => ∃ p, (bs.length = n * 256 ∧ 1 ≤ n ∧ n ≤ 1024) ∧ Star (MO m n bs p) h
theorem m_open {m n : Nat} {bs : List UInt8} (y : Heaplet) (h : M m n bs y) : ∃ p, (bs.length = n * 256 ∧ 1 ≤ n ∧ n ≤ 1024) ∧ Star (MO m n bs p) y := h
theorem m_close {m n : Nat} {bs : List UInt8} {G : List HProp} (p : PA) (hl : bs.length = n * 256 ∧ 1 ≤ n ∧ n ≤ 1024) : Imp (MO m n bs p ++ G) (M m n bs :: G) :=
  Imp.trans star_close (Imp.head fun y hy => ⟨p, hl, hy⟩)
theorem m_facts {W0 : World} {G R : List HProp} {m n : Nat} {bs : List UInt8} (x : Ext G (M m n bs) R) (w : World) (hw : Sat W0 G w) : bs.length = n * 256 ∧ 1 ≤ n ∧ n ≤ 1024 := by
  obtain ⟨f, hf, p, h, _⟩ := Sat.ext x hw
  exact h
section
variable (W0 : World) (Fr : List HProp)
theorem get_spec {b o c : Nat} {bs : List UInt8} (hr : SlR W0 Fr 1 (some ⟨b, o, none⟩) bs.length (bytesV bs)) (hl : bs.length ≤ 8) : Ctr Tryz.prog W0 220 [.slice (some ⟨b, o, none⟩) bs.length c] Fr (fun _ : Unit => True) (fun _ => .int .u64 (leN bs)) (fun _ => Fr) := by
  refine Ctr.of_body Tryz.func220 rfl Tryz.ntmps220 rfl ?_
  refine CG.seq ?_
  refine CG.region ?_
  refine OG.sg rfl rfl ?_
  refine OG.nil ?_
  refine QG.then ?_
  refine CG.seq ?_
  refine CG.region ?_
  refine OG.sg rfl rfl ?_
  refine OG.nil ?_
  refine QG.then ?_
  refine CG.seq ?_
  refine CG.seq ?_
  refine CG.region ?_
  refine OG.mv rfl rfl ?_
  refine OG.yield (Yield.len_slice Tryz.underlying32 rfl rfl) rfl ?_
  refine OG.yield (Yield.as (Yield.min2 rfl rfl) (v' := .int .i64 bs.length) (by congr 1; omega)) rfl ?_
  refine OG.mv rfl rfl ?_
  refine OG.nil ?_
  refine QG.then ?_
  refine CG.block ?_
  refine CG.loop (fun i : Nat => i ≤ bs.length) (fun i => [(0, .slice (some ⟨b, o, none⟩) bs.length c), (3, .int .u64 (leN (bs.take i))), (7, .int .i64 bs.length), (8, .int .i64 i)]) (fun _ => Fr) (fun i => bs.length - i) 0 (Nat.zero_le _) eS (Imp.refl _) ?_
  intro i hi
  refine CG.seq ?_
  refine CG.region ?_
  refine OG.yield Yield.lssA rfl ?_
  refine OG.nil ?_
  refine QG.then ?_
  refine CG.seq ?_
  refine CG.cond rfl (fun hc => ?_) (fun hc => ?_)
  · try replace hc := of_decide_eq_true hc
    have hi' : i < bs.length := by omega
    have hget : bs[i]? = some bs[i] := by simp [hi']
    generalize bs[i] = x at hget
    have hx := x.toNat_lt
    have hll := leN_lt (bs.take i)
    rw [List.length_take, Nat.min_eq_left (by omega)] at hll
    refine CG.skip ?_
    refine QG.then ?_
    refine CG.seq ?_
    refine CG.block ?_
    refine CG.seq ?_
    refine CG.region ?_
    refine OG.mv rfl rfl ?_
    refine OG.sg rfl rfl ?_
    refine OG.nil ?_
    refine QG.then ?_
    refine CG.region ?_
    refine OG.mv rfl rfl ?_
    refine OG.mv rfl rfl ?_
    refine OG.mv rfl rfl ?_
    refine OG.yield (Yield.index_slice Tryz.underlying32 ti5 rfl rfl (by omega) (by omega)) rfl ?_
    refine OG.yield (Yield.load (v := byteV x) ti5 rfl (SlR.byte hr hget)) rfl ?_
    refine OG.yield (Yield.conv (c := (x.toNat : Int)) Tryz.underlying24 rfl rfl (wu64 (by omega) (by omega))) rfl ?_
    refine OG.mv rfl rfl ?_
    refine OG.yield (Yield.mul rfl rfl (w64 (by omega) (by omega))) rfl ?_
    refine OG.yield (Yield.shl (m := 8 * i) (c := ((x.toNat * 2 ^ (8 * i) : Nat) : Int)) rfl rfl (by omega) (by simp only [IntKind.bits]; omega) (by have := shl_bound hx (show i < 8 by omega); rw [show ((x.toNat : Int) * 2 ^ (8 * i)) = ((x.toNat * 2 ^ (8 * i) : Nat) : Int) by push_cast; rfl]; exact wu64 (by omega) (by omega))) rfl ?_
    refine OG.yield (Yield.bitop (c := ((leN (bs.take (i + 1)) : Nat) : Int)) rfl rfl rfl (by rw [leN_take hget]; exact or_join hll hx (by omega))) rfl ?_
    refine OG.sg rfl rfl ?_
    refine OG.nil ?_
    refine QG.block_normal ?_
    refine QG.then ?_
    refine CG.region ?_
    refine OG.yield (Yield.add rfl rfl (w64 (by omega) (by omega))) rfl ?_
    refine OG.mv rfl rfl ?_
    refine OG.nil ?_
    exact QG.next (i + 1) (show i + 1 ≤ bs.length by omega) (show bs.length - (i + 1) < bs.length - i by omega) eS iM
  · try replace hc := of_decide_eq_false hc
    refine CG.exit ?_
    refine QG.pass_exit ?_
    refine QG.pass_exit ?_
    refine QG.block_exit ?_
    refine QG.then ?_
    refine CG.seq ?_
    refine CG.region ?_
    refine OG.mv rfl rfl ?_
    refine OG.sg rfl rfl ?_
    refine OG.nil ?_
    refine QG.then ?_
    refine CG.ret ?_
    have : i = bs.length := by omega
    subst this
    rw [List.take_length]
    exact QG.ret1 rfl rfl () trivial rfl iM
theorem put_spec {v s : Nat} (hs : s ≤ 8) (hv : v < 18446744073709551616) : Ctr Tryz.prog W0 221 [.int .u64 v, .int .i64 s] Fr (fun _ : Option Addr × Nat => True) (fun p => .slice p.1 (putB v s).length p.2) (fun p => oby 5 p.1 p.2 (putB v s) :: Fr) := by
  refine Ctr.of_body Tryz.func221 rfl Tryz.ntmps221 rfl ?_
  refine CG.seq ?_
  refine CG.region ?_
  refine OG.sg rfl rfl ?_
  refine OG.nil ?_
  refine QG.then ?_
  refine CG.seq ?_
  refine CG.region ?_
  refine OG.sg rfl rfl ?_
  refine OG.nil ?_
  refine QG.then ?_
  refine CG.seq ?_
  refine CG.seq ?_
  refine CG.region ?_
  refine OG.mv rfl rfl ?_
  refine OG.yield (Yield.as (Yield.min2 rfl rfl) (v' := .int .i64 s) (by congr 1; omega)) rfl ?_
  refine OG.mv rfl rfl ?_
  refine OG.nil ?_
  refine QG.then ?_
  refine CG.block ?_
  refine CG.loop (fun i : Nat × Option Addr × Nat => i.1 ≤ s) (fun i => [(0, .int .u64 v), (5, .slice i.2.1 (putB v i.1).length i.2.2), (8, .int .i64 s), (9, .int .i64 i.1)]) (fun i => oby 5 i.2.1 i.2.2 (putB v i.1) :: Fr) (fun i => s - i.1) (0, none, 0) (Nat.zero_le _) eS (Imp.trans (oby_nil (E := 5)) (Imp.refl _)) ?_
  rintro ⟨i, a, c⟩ (hi : i ≤ s)
  have hpl := putB_len v i
  dsimp only
  refine CG.seq ?_
  refine CG.region ?_
  refine OG.yield Yield.lssA rfl ?_
  refine OG.nil ?_
  refine QG.then ?_
  refine CG.seq ?_
  refine CG.cond rfl (fun hc => ?_) (fun hc => ?_)
  · try replace hc := of_decide_eq_true hc
    refine CG.skip ?_
    refine QG.then ?_
    refine CG.seq ?_
    refine CG.block ?_
    refine CG.seq ?_
    refine CG.region ?_
    refine OG.mv rfl rfl ?_
    refine OG.sg rfl rfl ?_
    refine OG.nil ?_
    refine QG.then ?_
    refine CG.region ?_
    refine OG.mv rfl rfl ?_
    refine OG.mv rfl rfl ?_
    refine OG.mv rfl rfl ?_
    refine OG.yield (Yield.mul rfl rfl (w64 (by omega) (by omega))) rfl ?_
    refine OG.yield (Yield.shr (m := 8 * i) (c := ((v / 2 ^ (8 * i) : Nat) : Int)) rfl rfl (by omega) (by simp only [IntKind.bits]; omega) (by push_cast; rfl)) rfl ?_
    refine OG.yield (Yield.conv (c := ((UInt8.ofNat (v / 2 ^ (8 * i))).toNat : Int)) Tryz.underlying5 rfl rfl (wrap_u8_nat _)) rfl ?_
    refine OG.effd (Eff.lit1 Tryz.underlying32 ti5 rfl rfl rfl) rfl ?_
    rintro b18 -
    refine OG.effd (Eff.appendB (bs := putB v i) (ys := [UInt8.ofNat (v / 2 ^ (8 * i))]) rfl rfl rfl Tryz.underlying32 Tryz.underlying32 ti5 (by decide) fC (by first | exact SlR.of_osl eX | exact SlR.of_osl_eq eX rfl rfl | exact SlR.of_osl_eq eX rfl (by simp [bytesV, byteV]) | assumption | exact SlAt.old (by assumption) eX | exact RdB.slR (by assumption)) (by simp only [List.length_cons, List.length_nil]; omega)) rfl ?_
    rintro ⟨a19, c19⟩ -
    rw [← putB_succ]
    refine OG.sg rfl rfl ?_
    refine OG.nil ?_
    refine QG.block_normal ?_
    refine QG.then ?_
    refine CG.region ?_
    refine OG.yield (Yield.add rfl rfl (w64 (by omega) (by omega))) rfl ?_
    refine OG.mv rfl rfl ?_
    refine OG.nil ?_
    exact QG.next (i + 1, a19, c19) (show i + 1 ≤ s by omega) (show s - (i + 1) < s - i by omega) eS iM
  · try replace hc := of_decide_eq_false hc
    refine CG.exit ?_
    refine QG.pass_exit ?_
    refine QG.pass_exit ?_
    refine QG.block_exit ?_
    refine QG.then ?_
    refine CG.seq ?_
    refine CG.region ?_
    refine OG.mv rfl rfl ?_
    refine OG.sg rfl rfl ?_
    refine OG.nil ?_
    refine QG.then ?_
    refine CG.ret ?_
    have : i = s := by omega
    subst this
    exact QG.ret1 rfl rfl (a, c) trivial rfl iM
theorem new_spec {n : Nat} (h1 : 1 ≤ n) (h2 : n ≤ 1024) : Ctr Tryz.prog W0 50 [.int .i64 n] Fr (fun _ : Nat => True) (fun t => .tuple #[.pointer (some ⟨t, 0, none⟩), .int .i64 0]) (fun t => M t n (List.replicate (n * 256) 0) :: Fr) := by
  refine Ctr.of_body Tryz.func50 rfl Tryz.ntmps50 rfl ?_
  refine CG.seq ?_
  refine CG.region ?_
  refine OG.sg rfl rfl ?_
  refine OG.sg rfl rfl ?_
  refine OG.nil ?_
  refine QG.then ?_
  refine CG.seq ?_
  refine CG.seq ?_
  refine CG.region ?_
  refine OG.mv rfl rfl ?_
  refine OG.yield Yield.lssA rfl ?_
  refine OG.mv rfl rfl ?_
  refine OG.gy rfl rfl rfl ?_
  refine OG.mv rfl rfl ?_
  refine OG.gy rfl rfl rfl ?_
  refine OG.yield Yield.gtrA rfl ?_
  refine OG.yield Yield.pickA rfl ?_
  refine OG.nil ?_
  refine QG.then ?_
  refine CG.cond_f rfl ?_
  refine CG.skip ?_
  refine QG.then ?_
  refine CG.seq ?_
  refine CG.region ?_
  refine OG.mv rfl rfl ?_
  refine OG.effd (Eff.makeSlice Tryz.underlying221 ti261 (by simp [Value.cells]) (by decide) rfl (by omega) (by omega) (by omega)) rfl ?_
  rintro b11 -
  rw [flat_zeros]
  refine OG.yield (Yield.build bu223 ti223 rfl (cells := [_]) rfl) rfl ?_
  refine OG.effd (Eff.box rfl) rfl ?_
  rintro b13 -
  refine OG.sg rfl rfl ?_
  refine OG.sg rfl rfl ?_
  refine OG.nil ?_
  refine QG.then ?_
  refine CG.ret ?_
  exact QG.ret2 rfl rfl rfl b13 trivial rfl (Imp.trans iM (m_close (n := n) ((b11, 0), n) ⟨by simp, h1, h2⟩))
theorem frames_spec {m n : Nat} {bs : List UInt8} : Ctr Tryz.prog W0 194 [.pointer (some ⟨m, 0, none⟩)] (M m n bs :: Fr) (fun _ : Unit => True) (fun _ => .int .i64 n) (fun _ => M m n bs :: Fr) := by
  refine Ctr.ex Ext.here m_open ?_
  rintro ⟨⟨b, o⟩, c⟩ hlen
  refine Ctr.imp star_open ?_
  dsimp only [MO]
  refine Ctr.of_body Tryz.func194 rfl Tryz.ntmps194 rfl ?_
  refine CG.seq ?_
  refine CG.region ?_
  refine OG.sg rfl rfl ?_
  refine OG.nil ?_
  refine QG.then ?_
  refine CG.seq ?_
  refine CG.region ?_
  refine OG.mv rfl rfl ?_
  refine OG.yield (Yield.nilCheck rfl) rfl ?_
  refine OG.yield (Yield.fieldAddr fa223_0 rfl) rfl ?_
  refine OG.yield (Yield.load ti221 rfl (by first | exact Cel.of_blk eX rfl | exact (hrow eX) _ _ rfl)) rfl ?_
  refine OG.yield (Yield.len_slice Tryz.underlying221 rfl rfl) rfl ?_
  refine OG.sg rfl rfl ?_
  refine OG.nil ?_
  refine QG.then ?_
  refine CG.ret ?_
  exact QG.ret1 rfl rfl () trivial rfl (Imp.trans iM (m_close ((b, o), c) hlen))
theorem place_ok {m n a s : Nat} {bs : List UInt8} (p : PA) (hn : n ≤ 1024) (hs : s = 1 ∨ s = 2 ∨ s = 4 ∨ s = 8) (ha : a % s = 0) (hb : a + s ≤ n * 256) : Ctr Tryz.prog W0 219 [.pointer (some ⟨m, 0, none⟩), .int .u32 a, .int .i64 s] (MO m n bs p ++ Fr) (fun _ : Unit => True)
    (fun _ => .tuple #[.slice (some ⟨p.1.1, p.1.2 + a, none⟩) s (256 - a % 256), .int .i64 0]) (fun _ => MO m n bs p ++ Fr) := by
  obtain ⟨⟨b, o⟩, c⟩ := p
  dsimp only [MO, List.cons_append, List.nil_append]
  refine Ctr.of_body Tryz.func219 rfl Tryz.ntmps219 rfl ?_
  refine CG.seq ?_
  refine CG.region ?_
  refine OG.sg rfl rfl ?_
  refine OG.sg rfl rfl ?_
  refine OG.nil ?_
  refine QG.then ?_
  refine CG.seq ?_
  refine CG.block ?_
  refine CG.seq ?_
  rcases hs with rfl | rfl | rfl | rfl
  · skip
    refine CG.region ?_
    refine OG.mv rfl rfl ?_
    refine OG.yield Yield.neqA rfl ?_
    refine OG.mv rfl rfl ?_
    refine OG.gn rfl rfl rfl rfl rfl ?_
    refine OG.gn rfl rfl rfl rfl rfl ?_
    refine OG.yield Yield.pickA rfl ?_
    refine OG.mv rfl rfl ?_
    refine OG.gn rfl rfl rfl rfl rfl ?_
    refine OG.gn rfl rfl rfl rfl rfl ?_
    refine OG.yield Yield.pickA rfl ?_
    refine OG.mv rfl rfl ?_
    refine OG.gn rfl rfl rfl rfl rfl ?_
    refine OG.gn rfl rfl rfl rfl rfl ?_
    refine OG.yield Yield.pickA rfl ?_
    refine OG.sg rfl rfl ?_
    refine OG.nil ?_
    refine QG.then ?_
    refine CG.cond_f rfl ?_
    refine CG.seq ?_
    refine CG.region ?_
    refine OG.mv rfl rfl ?_
    refine OG.mv rfl rfl ?_
    refine OG.yield (by first | exact Yield.conv Tryz.underlying27 rfl rfl (wu32 (by omega) (by omega)) | exact Yield.conv Tryz.underlying27 rfl rfl rfl) rfl ?_
    refine OG.yield (Yield.rem rfl rfl (by omega) (tmod_pos (by omega) (by omega))) rfl ?_
    refine OG.yield Yield.neqA rfl ?_
    refine OG.sg rfl rfl ?_
    refine OG.nil ?_
    refine QG.then ?_
    refine CG.cond_f rfl ?_
    refine CG.seq ?_
    refine CG.region ?_
    refine OG.mv rfl rfl ?_
    refine OG.yield (by first | exact Yield.conv Tryz.underlying3 rfl rfl (w64 (by omega) (by omega)) | exact Yield.conv Tryz.underlying3 rfl rfl rfl) rfl ?_
    refine OG.mv rfl rfl ?_
    refine OG.yield (Yield.add rfl rfl (w64 (by omega) (by omega))) rfl ?_
    refine OG.mv rfl rfl ?_
    refine OG.yield (Yield.nilCheck rfl) rfl ?_
    refine OG.yield (Yield.fieldAddr fa223_0 rfl) rfl ?_
    refine OG.yield (Yield.load ti221 rfl (by first | exact Cel.of_blk eX rfl | exact (hrow eX) _ _ rfl)) rfl ?_
    refine OG.yield (Yield.len_slice Tryz.underlying221 rfl rfl) rfl ?_
    refine OG.yield (Yield.mul rfl rfl (w64 (by omega) (by omega))) rfl ?_
    refine OG.yield Yield.gtrA rfl ?_
    refine OG.sg rfl rfl ?_
    refine OG.nil ?_
    refine QG.then ?_
    refine CG.cond_f rfl ?_
    refine CG.skip ?_
    refine QG.block_normal ?_
    refine QG.then ?_
    refine CG.seq ?_
    refine CG.region ?_
    refine OG.mv rfl rfl ?_
    refine OG.yield (by first | exact Yield.conv Tryz.underlying3 rfl rfl (w64 (by omega) (by omega)) | exact Yield.conv Tryz.underlying3 rfl rfl rfl) rfl ?_
    refine OG.yield (Yield.rem rfl rfl (by omega) (tmod_pos (by omega) (by omega))) rfl ?_
    refine OG.sg rfl rfl ?_
    refine OG.nil ?_
    refine QG.then ?_
    refine CG.seq ?_
    refine CG.region ?_
    refine OG.mv rfl rfl ?_
    refine OG.yield (Yield.nilCheck rfl) rfl ?_
    refine OG.yield (Yield.fieldAddr fa223_0 rfl) rfl ?_
    refine OG.yield (Yield.load ti221 rfl (by first | exact Cel.of_blk eX rfl | exact (hrow eX) _ _ rfl)) rfl ?_
    refine OG.mv rfl rfl ?_
    refine OG.yield (Yield.quo (c := ((a / 256 : Nat) : Int)) rfl rfl (by decide) (quo_nat32 (b := 256) (by decide) (by omega))) rfl ?_
    refine OG.yield (Yield.index_slice Tryz.underlying221 ti261 rfl rfl (by omega) (by omega)) rfl ?_
    refine OG.mv rfl rfl ?_
    refine OG.mv rfl rfl ?_
    refine OG.mv rfl rfl ?_
    refine OG.yield (Yield.add rfl rfl (w64 (by omega) (by omega))) rfl ?_
    refine OG.yield (Yield.as (Yield.slice_arr Tryz.underlying261 ti5 rfl (Bound.some rfl) (Bound.some rfl) (by omega) (by omega) (by omega) (by omega)) (v' := .slice (some ⟨b, o + a, none⟩) 1 (256 - a % 256)) (sl_eq (by omega) (by omega) (by omega))) rfl ?_
    refine OG.sg rfl rfl ?_
    refine OG.sg rfl rfl ?_
    refine OG.nil ?_
    refine QG.then ?_
    refine CG.ret ?_
    exact QG.ret2 rfl rfl rfl () trivial rfl iM
  · skip
    refine CG.region ?_
    refine OG.mv rfl rfl ?_
    refine OG.yield Yield.neqA rfl ?_
    refine OG.mv rfl rfl ?_
    refine OG.gy rfl rfl rfl ?_
    refine OG.mv rfl rfl ?_
    refine OG.gy rfl rfl rfl ?_
    refine OG.yield Yield.neqA rfl ?_
    refine OG.yield Yield.pickA rfl ?_
    refine OG.mv rfl rfl ?_
    refine OG.gn rfl rfl rfl rfl rfl ?_
    refine OG.gn rfl rfl rfl rfl rfl ?_
    refine OG.yield Yield.pickA rfl ?_
    refine OG.mv rfl rfl ?_
    refine OG.gn rfl rfl rfl rfl rfl ?_
    refine OG.gn rfl rfl rfl rfl rfl ?_
    refine OG.yield Yield.pickA rfl ?_
    refine OG.sg rfl rfl ?_
    refine OG.nil ?_
    refine QG.then ?_
    refine CG.cond_f rfl ?_
    refine CG.seq ?_
    refine CG.region ?_
    refine OG.mv rfl rfl ?_
    refine OG.mv rfl rfl ?_
    refine OG.yield (by first | exact Yield.conv Tryz.underlying27 rfl rfl (wu32 (by omega) (by omega)) | exact Yield.conv Tryz.underlying27 rfl rfl rfl) rfl ?_
    refine OG.yield (Yield.rem rfl rfl (by omega) (tmod_pos (by omega) (by omega))) rfl ?_
    refine OG.yield Yield.neqA rfl ?_
    refine OG.sg rfl rfl ?_
    refine OG.nil ?_
    refine QG.then ?_
    refine CG.cond_f rfl ?_
    refine CG.seq ?_
    refine CG.region ?_
    refine OG.mv rfl rfl ?_
    refine OG.yield (by first | exact Yield.conv Tryz.underlying3 rfl rfl (w64 (by omega) (by omega)) | exact Yield.conv Tryz.underlying3 rfl rfl rfl) rfl ?_
    refine OG.mv rfl rfl ?_
    refine OG.yield (Yield.add rfl rfl (w64 (by omega) (by omega))) rfl ?_
    refine OG.mv rfl rfl ?_
    refine OG.yield (Yield.nilCheck rfl) rfl ?_
    refine OG.yield (Yield.fieldAddr fa223_0 rfl) rfl ?_
    refine OG.yield (Yield.load ti221 rfl (by first | exact Cel.of_blk eX rfl | exact (hrow eX) _ _ rfl)) rfl ?_
    refine OG.yield (Yield.len_slice Tryz.underlying221 rfl rfl) rfl ?_
    refine OG.yield (Yield.mul rfl rfl (w64 (by omega) (by omega))) rfl ?_
    refine OG.yield Yield.gtrA rfl ?_
    refine OG.sg rfl rfl ?_
    refine OG.nil ?_
    refine QG.then ?_
    refine CG.cond_f rfl ?_
    refine CG.skip ?_
    refine QG.block_normal ?_
    refine QG.then ?_
    refine CG.seq ?_
    refine CG.region ?_
    refine OG.mv rfl rfl ?_
    refine OG.yield (by first | exact Yield.conv Tryz.underlying3 rfl rfl (w64 (by omega) (by omega)) | exact Yield.conv Tryz.underlying3 rfl rfl rfl) rfl ?_
    refine OG.yield (Yield.rem rfl rfl (by omega) (tmod_pos (by omega) (by omega))) rfl ?_
    refine OG.sg rfl rfl ?_
    refine OG.nil ?_
    refine QG.then ?_
    refine CG.seq ?_
    refine CG.region ?_
    refine OG.mv rfl rfl ?_
    refine OG.yield (Yield.nilCheck rfl) rfl ?_
    refine OG.yield (Yield.fieldAddr fa223_0 rfl) rfl ?_
    refine OG.yield (Yield.load ti221 rfl (by first | exact Cel.of_blk eX rfl | exact (hrow eX) _ _ rfl)) rfl ?_
    refine OG.mv rfl rfl ?_
    refine OG.yield (Yield.quo (c := ((a / 256 : Nat) : Int)) rfl rfl (by decide) (quo_nat32 (b := 256) (by decide) (by omega))) rfl ?_
    refine OG.yield (Yield.index_slice Tryz.underlying221 ti261 rfl rfl (by omega) (by omega)) rfl ?_
    refine OG.mv rfl rfl ?_
    refine OG.mv rfl rfl ?_
    refine OG.mv rfl rfl ?_
    refine OG.yield (Yield.add rfl rfl (w64 (by omega) (by omega))) rfl ?_
    refine OG.yield (Yield.as (Yield.slice_arr Tryz.underlying261 ti5 rfl (Bound.some rfl) (Bound.some rfl) (by omega) (by omega) (by omega) (by omega)) (v' := .slice (some ⟨b, o + a, none⟩) 2 (256 - a % 256)) (sl_eq (by omega) (by omega) (by omega))) rfl ?_
    refine OG.sg rfl rfl ?_
    refine OG.sg rfl rfl ?_
    refine OG.nil ?_
    refine QG.then ?_
    refine CG.ret ?_
    exact QG.ret2 rfl rfl rfl () trivial rfl iM
  · skip
    refine CG.region ?_
    refine OG.mv rfl rfl ?_
    refine OG.yield Yield.neqA rfl ?_
    refine OG.mv rfl rfl ?_
    refine OG.gy rfl rfl rfl ?_
    refine OG.mv rfl rfl ?_
    refine OG.gy rfl rfl rfl ?_
    refine OG.yield Yield.neqA rfl ?_
    refine OG.yield Yield.pickA rfl ?_
    refine OG.mv rfl rfl ?_
    refine OG.gy rfl rfl rfl ?_
    refine OG.mv rfl rfl ?_
    refine OG.gy rfl rfl rfl ?_
    refine OG.yield Yield.neqA rfl ?_
    refine OG.yield Yield.pickA rfl ?_
    refine OG.mv rfl rfl ?_
    refine OG.gn rfl rfl rfl rfl rfl ?_
    refine OG.gn rfl rfl rfl rfl rfl ?_
    refine OG.yield Yield.pickA rfl ?_
    refine OG.sg rfl rfl ?_
    refine OG.nil ?_
    refine QG.then ?_
    refine CG.cond_f rfl ?_
    refine CG.seq ?_
    refine CG.region ?_
    refine OG.mv rfl rfl ?_
    refine OG.mv rfl rfl ?_
    refine OG.yield (by first | exact Yield.conv Tryz.underlying27 rfl rfl (wu32 (by omega) (by omega)) | exact Yield.conv Tryz.underlying27 rfl rfl rfl) rfl ?_
    refine OG.yield (Yield.rem rfl rfl (by omega) (tmod_pos (by omega) (by omega))) rfl ?_
    refine OG.yield Yield.neqA rfl ?_
    refine OG.sg rfl rfl ?_
    refine OG.nil ?_
    refine QG.then ?_
    refine CG.cond_f rfl ?_
    refine CG.seq ?_
    refine CG.region ?_
    refine OG.mv rfl rfl ?_
    refine OG.yield (by first | exact Yield.conv Tryz.underlying3 rfl rfl (w64 (by omega) (by omega)) | exact Yield.conv Tryz.underlying3 rfl rfl rfl) rfl ?_
    refine OG.mv rfl rfl ?_
    refine OG.yield (Yield.add rfl rfl (w64 (by omega) (by omega))) rfl ?_
    refine OG.mv rfl rfl ?_
    refine OG.yield (Yield.nilCheck rfl) rfl ?_
    refine OG.yield (Yield.fieldAddr fa223_0 rfl) rfl ?_
    refine OG.yield (Yield.load ti221 rfl (by first | exact Cel.of_blk eX rfl | exact (hrow eX) _ _ rfl)) rfl ?_
    refine OG.yield (Yield.len_slice Tryz.underlying221 rfl rfl) rfl ?_
    refine OG.yield (Yield.mul rfl rfl (w64 (by omega) (by omega))) rfl ?_
    refine OG.yield Yield.gtrA rfl ?_
    refine OG.sg rfl rfl ?_
    refine OG.nil ?_
    refine QG.then ?_
    refine CG.cond_f rfl ?_
    refine CG.skip ?_
    refine QG.block_normal ?_
    refine QG.then ?_
    refine CG.seq ?_
    refine CG.region ?_
    refine OG.mv rfl rfl ?_
    refine OG.yield (by first | exact Yield.conv Tryz.underlying3 rfl rfl (w64 (by omega) (by omega)) | exact Yield.conv Tryz.underlying3 rfl rfl rfl) rfl ?_
    refine OG.yield (Yield.rem rfl rfl (by omega) (tmod_pos (by omega) (by omega))) rfl ?_
    refine OG.sg rfl rfl ?_
    refine OG.nil ?_
    refine QG.then ?_
    refine CG.seq ?_
    refine CG.region ?_
    refine OG.mv rfl rfl ?_
    refine OG.yield (Yield.nilCheck rfl) rfl ?_
    refine OG.yield (Yield.fieldAddr fa223_0 rfl) rfl ?_
    refine OG.yield (Yield.load ti221 rfl (by first | exact Cel.of_blk eX rfl | exact (hrow eX) _ _ rfl)) rfl ?_
    refine OG.mv rfl rfl ?_
    refine OG.yield (Yield.quo (c := ((a / 256 : Nat) : Int)) rfl rfl (by decide) (quo_nat32 (b := 256) (by decide) (by omega))) rfl ?_
    refine OG.yield (Yield.index_slice Tryz.underlying221 ti261 rfl rfl (by omega) (by omega)) rfl ?_
    refine OG.mv rfl rfl ?_
    refine OG.mv rfl rfl ?_
    refine OG.mv rfl rfl ?_
    refine OG.yield (Yield.add rfl rfl (w64 (by omega) (by omega))) rfl ?_
    refine OG.yield (Yield.as (Yield.slice_arr Tryz.underlying261 ti5 rfl (Bound.some rfl) (Bound.some rfl) (by omega) (by omega) (by omega) (by omega)) (v' := .slice (some ⟨b, o + a, none⟩) 4 (256 - a % 256)) (sl_eq (by omega) (by omega) (by omega))) rfl ?_
    refine OG.sg rfl rfl ?_
    refine OG.sg rfl rfl ?_
    refine OG.nil ?_
    refine QG.then ?_
    refine CG.ret ?_
    exact QG.ret2 rfl rfl rfl () trivial rfl iM
  · skip
    refine CG.region ?_
    refine OG.mv rfl rfl ?_
    refine OG.yield Yield.neqA rfl ?_
    refine OG.mv rfl rfl ?_
    refine OG.gy rfl rfl rfl ?_
    refine OG.mv rfl rfl ?_
    refine OG.gy rfl rfl rfl ?_
    refine OG.yield Yield.neqA rfl ?_
    refine OG.yield Yield.pickA rfl ?_
    refine OG.mv rfl rfl ?_
    refine OG.gy rfl rfl rfl ?_
    refine OG.mv rfl rfl ?_
    refine OG.gy rfl rfl rfl ?_
    refine OG.yield Yield.neqA rfl ?_
    refine OG.yield Yield.pickA rfl ?_
    refine OG.mv rfl rfl ?_
    refine OG.gy rfl rfl rfl ?_
    refine OG.mv rfl rfl ?_
    refine OG.gy rfl rfl rfl ?_
    refine OG.yield Yield.neqA rfl ?_
    refine OG.yield Yield.pickA rfl ?_
    refine OG.sg rfl rfl ?_
    refine OG.nil ?_
    refine QG.then ?_
    refine CG.cond_f rfl ?_
    refine CG.seq ?_
    refine CG.region ?_
    refine OG.mv rfl rfl ?_
    refine OG.mv rfl rfl ?_
    refine OG.yield (by first | exact Yield.conv Tryz.underlying27 rfl rfl (wu32 (by omega) (by omega)) | exact Yield.conv Tryz.underlying27 rfl rfl rfl) rfl ?_
    refine OG.yield (Yield.rem rfl rfl (by omega) (tmod_pos (by omega) (by omega))) rfl ?_
    refine OG.yield Yield.neqA rfl ?_
    refine OG.sg rfl rfl ?_
    refine OG.nil ?_
    refine QG.then ?_
    refine CG.cond_f rfl ?_
    refine CG.seq ?_
    refine CG.region ?_
    refine OG.mv rfl rfl ?_
    refine OG.yield (by first | exact Yield.conv Tryz.underlying3 rfl rfl (w64 (by omega) (by omega)) | exact Yield.conv Tryz.underlying3 rfl rfl rfl) rfl ?_
    refine OG.mv rfl rfl ?_
    refine OG.yield (Yield.add rfl rfl (w64 (by omega) (by omega))) rfl ?_
    refine OG.mv rfl rfl ?_
    refine OG.yield (Yield.nilCheck rfl) rfl ?_
    refine OG.yield (Yield.fieldAddr fa223_0 rfl) rfl ?_
    refine OG.yield (Yield.load ti221 rfl (by first | exact Cel.of_blk eX rfl | exact (hrow eX) _ _ rfl)) rfl ?_
    refine OG.yield (Yield.len_slice Tryz.underlying221 rfl rfl) rfl ?_
    refine OG.yield (Yield.mul rfl rfl (w64 (by omega) (by omega))) rfl ?_
    refine OG.yield Yield.gtrA rfl ?_
    refine OG.sg rfl rfl ?_
    refine OG.nil ?_
    refine QG.then ?_
    refine CG.cond_f rfl ?_
    refine CG.skip ?_
    refine QG.block_normal ?_
    refine QG.then ?_
    refine CG.seq ?_
    refine CG.region ?_
    refine OG.mv rfl rfl ?_
    refine OG.yield (by first | exact Yield.conv Tryz.underlying3 rfl rfl (w64 (by omega) (by omega)) | exact Yield.conv Tryz.underlying3 rfl rfl rfl) rfl ?_
    refine OG.yield (Yield.rem rfl rfl (by omega) (tmod_pos (by omega) (by omega))) rfl ?_
    refine OG.sg rfl rfl ?_
    refine OG.nil ?_
    refine QG.then ?_
    refine CG.seq ?_
    refine CG.region ?_
    refine OG.mv rfl rfl ?_
    refine OG.yield (Yield.nilCheck rfl) rfl ?_
    refine OG.yield (Yield.fieldAddr fa223_0 rfl) rfl ?_
    refine OG.yield (Yield.load ti221 rfl (by first | exact Cel.of_blk eX rfl | exact (hrow eX) _ _ rfl)) rfl ?_
    refine OG.mv rfl rfl ?_
    refine OG.yield (Yield.quo (c := ((a / 256 : Nat) : Int)) rfl rfl (by decide) (quo_nat32 (b := 256) (by decide) (by omega))) rfl ?_
    refine OG.yield (Yield.index_slice Tryz.underlying221 ti261 rfl rfl (by omega) (by omega)) rfl ?_
    refine OG.mv rfl rfl ?_
    refine OG.mv rfl rfl ?_
    refine OG.mv rfl rfl ?_
    refine OG.yield (Yield.add rfl rfl (w64 (by omega) (by omega))) rfl ?_
    refine OG.yield (Yield.as (Yield.slice_arr Tryz.underlying261 ti5 rfl (Bound.some rfl) (Bound.some rfl) (by omega) (by omega) (by omega) (by omega)) (v' := .slice (some ⟨b, o + a, none⟩) 8 (256 - a % 256)) (sl_eq (by omega) (by omega) (by omega))) rfl ?_
    refine OG.sg rfl rfl ?_
    refine OG.sg rfl rfl ?_
    refine OG.nil ?_
    refine QG.then ?_
    refine CG.ret ?_
    exact QG.ret2 rfl rfl rfl () trivial rfl iM
theorem load_ok {m n a s : Nat} {bs : List UInt8} (hs : s = 1 ∨ s = 2 ∨ s = 4 ∨ s = 8) (ha : a % s = 0) (hb : a + s ≤ n * 256) : Ctr Tryz.prog W0 187 [.pointer (some ⟨m, 0, none⟩), .int .u32 a, .int .i64 s] (M m n bs :: Fr) (fun _ : Unit => True)
    (fun _ => .tuple #[.int .u64 (leN ((bs.drop a).take s)), .int .i64 0]) (fun _ => M m n bs :: Fr) := by
  refine Ctr.ex Ext.here m_open ?_
  rintro ⟨⟨b, o⟩, c⟩ hlen
  refine Ctr.imp star_open ?_
  have hl : ((bs.drop a).take s).length = s := by rw [List.length_take, List.length_drop]; omega
  refine Ctr.of_body Tryz.func187 rfl Tryz.ntmps187 rfl ?_
  refine CG.seq ?_
  refine CG.region ?_
  refine OG.sg rfl rfl ?_
  refine OG.sg rfl rfl ?_
  refine OG.nil ?_
  refine QG.then ?_
  refine CG.seq ?_
  refine CG.region ?_
  refine OG.mv rfl rfl ?_
  refine OG.mv rfl rfl ?_
  refine OG.mv rfl rfl ?_
  refine OG.callo call219 rfl (Imp.refl _) (place_ok W0 Fr ((b, o), c) hlen.2.2 hs ha hb) rfl ?_
  rintro ⟨⟩ -
  dsimp only [MO, List.cons_append, List.nil_append]
  refine OG.mv rfl rfl ?_
  refine OG.yield (Yield.extract rfl rfl) rfl ?_
  refine OG.yield (Yield.extract rfl rfl) rfl ?_
  refine OG.sg rfl rfl ?_
  refine OG.sg rfl rfl ?_
  refine OG.nil ?_
  refine QG.then ?_
  refine CG.seq ?_
  refine CG.seq ?_
  refine CG.region ?_
  refine OG.mv rfl rfl ?_
  refine OG.yield Yield.neqA rfl ?_
  refine OG.nil ?_
  refine QG.then ?_
  refine CG.cond_f rfl ?_
  refine CG.skip ?_
  refine QG.then ?_
  have hsr : SlR W0 (MO m n bs ((b, o), c) ++ Fr) 1 (some ⟨b, o + a, none⟩) ((bs.drop a).take s).length (bytesV ((bs.drop a).take s)) := by
    rw [hl]
    exact (SlR.of_osl (E := 261) (sz := 256) (c := c) (m := n) (xs := bytesV bs) (Ext.there Ext.here)).part (by rw [bytesV_drop, bytesV_take]) hb
  refine CG.seq ?_
  refine CG.pure (fun _ _ => trivial) fun (_ : True) => ?_
  refine CG.region ?_
  refine OG.mv rfl rfl ?_
  refine OG.callo call220 rfl (Imp.refl _) ((by have := get_spec W0 (MO m n bs ((b, o), c) ++ Fr) (c := 256 - a % 256) hsr (by omega); rw [hl] at this; exact this)) rfl ?_
  rintro ⟨⟩ -
  refine OG.sg rfl rfl ?_
  refine OG.sg rfl rfl ?_
  refine OG.nil ?_
  refine QG.then ?_
  refine CG.ret ?_
  exact QG.ret2 rfl rfl rfl () trivial rfl (m_close ((b, o), c) hlen)
theorem store_ok {m n a s v : Nat} {bs : List UInt8} (hs : s = 1 ∨ s = 2 ∨ s = 4 ∨ s = 8) (ha : a % s = 0) (hb : a + s ≤ n * 256) (hv : v < 18446744073709551616) : Ctr Tryz.prog W0 191 [.pointer (some ⟨m, 0, none⟩), .int .u32 a, .int .i64 s, .int .u64 v] (M m n bs :: Fr) (fun _ : Unit => True)
    (fun _ => .int .i64 0) (fun _ => M m n (overB bs a (putB v s)) :: Fr) := by
  refine Ctr.ex Ext.here m_open ?_
  rintro ⟨⟨b, o⟩, c⟩ hlen
  refine Ctr.imp star_open ?_
  have hpl := putB_len v s
  refine Ctr.of_body Tryz.func191 rfl Tryz.ntmps191 rfl ?_
  refine CG.seq ?_
  refine CG.region ?_
  refine OG.sg rfl rfl ?_
  refine OG.nil ?_
  refine QG.then ?_
  refine CG.seq ?_
  refine CG.region ?_
  refine OG.mv rfl rfl ?_
  refine OG.mv rfl rfl ?_
  refine OG.mv rfl rfl ?_
  refine OG.callo call219 rfl (Imp.refl _) (place_ok W0 Fr ((b, o), c) hlen.2.2 hs ha hb) rfl ?_
  rintro ⟨⟩ -
  dsimp only [MO, List.cons_append, List.nil_append]
  refine OG.mv rfl rfl ?_
  refine OG.yield (Yield.extract rfl rfl) rfl ?_
  refine OG.yield (Yield.extract rfl rfl) rfl ?_
  refine OG.sg rfl rfl ?_
  refine OG.sg rfl rfl ?_
  refine OG.nil ?_
  refine QG.then ?_
  refine CG.seq ?_
  refine CG.seq ?_
  refine CG.region ?_
  refine OG.mv rfl rfl ?_
  refine OG.yield Yield.eqlA rfl ?_
  refine OG.nil ?_
  refine QG.then ?_
  refine CG.cond_t rfl ?_
  refine CG.region ?_
  refine OG.mv rfl rfl ?_
  refine OG.mv rfl rfl ?_
  refine OG.mv rfl rfl ?_
  refine OG.callo call221 rfl (Imp.refl _) (put_spec W0 _ (v := v) (s := s) (by omega) hv) rfl ?_
  rintro ⟨a23, c23⟩ -
  refine OG.effd (Eff.copyIn (b := b) (o := o) (j := a) (n := s) (k := (putB v s).length) (ys := bytesV (putB v s)) rfl rfl rfl Tryz.underlying32 ti5 (fC) (by omega) (SlR.of_osl Ext.here) bytesV_one) rfl ?_
  rintro ⟨⟩ -
  rw [show min (putB v s).length s = (bytesV (putB v s)).length by rw [bytesV_length]; omega, List.take_length, over_bytes]
  refine OG.nil ?_
  refine QG.then ?_
  refine CG.seq ?_
  refine CG.region ?_
  refine OG.mv rfl rfl ?_
  refine OG.sg rfl rfl ?_
  refine OG.nil ?_
  refine QG.then ?_
  refine CG.ret ?_
  exact QG.ret1 rfl rfl () trivial rfl (Imp.trans iM (m_close ((b, o), c) ⟨by rw [overB_len (by omega)]; exact hlen.1, hlen.2⟩))
/-- The bytes of a frame. -/
def frB (bs : List UInt8) (k : Nat) : List UInt8 := (bs.drop (k * 256)).take 256
theorem frB_len {bs : List UInt8} {k n : Nat} (h : bs.length = n * 256) (hk : k < n) : (frB bs k).length = 256 := by unfold frB; rw [List.length_take, List.length_drop]; omega
theorem frame_ok {m n k : Nat} {bs : List UInt8} (hk : k < n) : Ctr Tryz.prog W0 87 [.pointer (some ⟨m, 0, none⟩), .int .i64 k] (M m n bs :: Fr) (fun _ : Nat => True)
    (fun f => .tuple #[.slice (some ⟨f, 0, none⟩) (frB bs k).length 256, .int .i64 0]) (fun f => oby 261 (some ⟨f, 0, none⟩) 256 (frB bs k) :: M m n bs :: Fr) := by
  refine Ctr.ex Ext.here m_open ?_
  rintro ⟨⟨b, o⟩, c⟩ hlen
  refine Ctr.imp star_open ?_
  have hfl := frB_len hlen.1 hk
  have hn := hlen.2.2
  dsimp only [MO, List.cons_append, List.nil_append]
  refine Ctr.of_body Tryz.func87 rfl Tryz.ntmps87 rfl ?_
  refine CG.seq ?_
  refine CG.region ?_
  refine OG.sg rfl rfl ?_
  refine OG.sg rfl rfl ?_
  refine OG.nil ?_
  refine QG.then ?_
  refine CG.seq ?_
  refine CG.seq ?_
  refine CG.region ?_
  refine OG.mv rfl rfl ?_
  refine OG.yield Yield.lssA rfl ?_
  refine OG.mv rfl rfl ?_
  refine OG.gy rfl rfl rfl ?_
  refine OG.mv rfl rfl ?_
  refine OG.gy rfl rfl rfl ?_
  refine OG.mv rfl rfl ?_
  refine OG.gy rfl rfl rfl ?_
  refine OG.yield (Yield.nilCheck rfl) rfl ?_
  refine OG.gy rfl rfl rfl ?_
  refine OG.yield (Yield.fieldAddr fa223_0 rfl) rfl ?_
  refine OG.gy rfl rfl rfl ?_
  refine OG.yield (Yield.load ti221 rfl (by first | exact Cel.of_blk eX rfl | exact (hrow eX) _ _ rfl)) rfl ?_
  refine OG.gy rfl rfl rfl ?_
  refine OG.yield (Yield.len_slice Tryz.underlying221 rfl rfl) rfl ?_
  refine OG.gy rfl rfl rfl ?_
  refine OG.yield Yield.geqA rfl ?_
  refine OG.yield Yield.pickA rfl ?_
  refine OG.nil ?_
  refine QG.then ?_
  refine CG.cond_f rfl ?_
  refine CG.skip ?_
  refine QG.then ?_
  refine CG.seq ?_
  refine CG.region ?_
  refine OG.mv rfl rfl ?_
  refine OG.yield (Yield.nilCheck rfl) rfl ?_
  refine OG.yield (Yield.fieldAddr fa223_0 rfl) rfl ?_
  refine OG.yield (Yield.load ti221 rfl (by first | exact Cel.of_blk eX rfl | exact (hrow eX) _ _ rfl)) rfl ?_
  refine OG.mv rfl rfl ?_
  refine OG.yield (Yield.index_slice Tryz.underlying221 ti261 rfl rfl (by omega) (by omega)) rfl ?_
  refine OG.yield (Yield.load_agg (vs := bytesV (frB bs k)) ti261 rfl (by rw [bytesV_length]; exact hfl) ((SlR.of_osl eX).row (k * 256) 256 (by rw [bytesV_drop, bytesV_take]; rfl))) rfl ?_
  refine OG.effd (Eff.alloc ti261) rfl ?_
  rintro b6 -
  refine OG.eff (Eff.storeAll ti261 rfl rfl fC (by rw [bytesV_length]; exact hfl) bytesV_one (by simp [Value.cells])) rfl ?_
  rintro ⟨⟩ -
  refine OG.nil ?_
  refine QG.then ?_
  refine CG.seq ?_
  refine CG.region ?_
  refine OG.yield (Yield.slice_arr Tryz.underlying261 ti5 rfl Bound.none Bound.none (by omega) (by omega) (by omega) (by omega)) rfl ?_
  refine OG.sg rfl rfl ?_
  refine OG.sg rfl rfl ?_
  refine OG.nil ?_
  refine QG.then ?_
  refine CG.ret ?_
  refine QG.ret2 rfl rfl rfl b6 trivial (by rw [hfl]; rfl) (Imp.trans (Imp.head (fun x hb => blk_osl (n := 256) (by rw [bytesV_length]; exact hfl) x hb)) ?_)
  unfold oby
  rw [hfl]
  exact Imp.cons (m_close ((b, o), c) hlen)
/-- What Fill lays into a frame. -/
def fillB (ws : List UInt8) : List UInt8 := ws ++ List.replicate (256 - ws.length) 0
theorem fillB_len {ws : List UInt8} (h : ws.length ≤ 256) : (fillB ws).length = 256 := by simp [fillB]; omega
theorem over_zero {ws : List UInt8} (h : ws.length ≤ 256) : overB (List.replicate 256 0) 0 ws = fillB ws := by
  unfold overB fillB; rw [List.take_zero, List.nil_append, Nat.zero_add, List.drop_replicate]
theorem fill_ok {m n k : Nat} {bs ws : List UInt8} {a : Option Addr} {c2 : Nat} (hr : RdB W0 Fr a c2 ws) (hk : k < n) (hw : ws.length ≤ 256) : Ctr Tryz.prog W0 90 [.pointer (some ⟨m, 0, none⟩), .int .i64 k, .slice a ws.length c2] (M m n bs :: Fr) (fun _ : Unit => True)
    (fun _ => .int .i64 0) (fun _ => M m n (overB bs (k * 256) (fillB ws)) :: Fr) := by
  refine Ctr.ex Ext.here m_open ?_
  rintro ⟨⟨b, o⟩, c⟩ hlen
  refine Ctr.imp star_open ?_
  have hfl := fillB_len hw
  have hn := hlen.2.2
  dsimp only [MO, List.cons_append, List.nil_append]
  refine Ctr.of_body Tryz.func90 rfl Tryz.ntmps90 rfl ?_
  refine CG.seq ?_
  refine CG.region ?_
  refine OG.sg rfl rfl ?_
  refine OG.nil ?_
  refine QG.then ?_
  refine CG.seq ?_
  refine CG.block ?_
  refine CG.seq ?_
  refine CG.region ?_
  refine OG.mv rfl rfl ?_
  refine OG.yield Yield.lssA rfl ?_
  refine OG.mv rfl rfl ?_
  refine OG.gy rfl rfl rfl ?_
  refine OG.mv rfl rfl ?_
  refine OG.gy rfl rfl rfl ?_
  refine OG.mv rfl rfl ?_
  refine OG.gy rfl rfl rfl ?_
  refine OG.yield (Yield.nilCheck rfl) rfl ?_
  refine OG.gy rfl rfl rfl ?_
  refine OG.yield (Yield.fieldAddr fa223_0 rfl) rfl ?_
  refine OG.gy rfl rfl rfl ?_
  refine OG.yield (Yield.load ti221 rfl (by first | exact Cel.of_blk eX rfl | exact (hrow eX) _ _ rfl)) rfl ?_
  refine OG.gy rfl rfl rfl ?_
  refine OG.yield (Yield.len_slice Tryz.underlying221 rfl rfl) rfl ?_
  refine OG.gy rfl rfl rfl ?_
  refine OG.yield Yield.geqA rfl ?_
  refine OG.yield Yield.pickA rfl ?_
  refine OG.sg rfl rfl ?_
  refine OG.nil ?_
  refine QG.then ?_
  refine CG.cond_f rfl ?_
  refine CG.seq ?_
  refine CG.region ?_
  refine OG.mv rfl rfl ?_
  refine OG.yield (Yield.len_slice Tryz.underlying32 rfl rfl) rfl ?_
  refine OG.yield Yield.gtrA rfl ?_
  refine OG.sg rfl rfl ?_
  refine OG.nil ?_
  refine QG.then ?_
  refine CG.cond_f rfl ?_
  refine CG.skip ?_
  refine QG.block_normal ?_
  refine QG.then ?_
  refine CG.seq ?_
  refine CG.region ?_
  refine OG.effd (Eff.alloc ti261) rfl ?_
  rintro b7 -
  refine OG.nil ?_
  refine QG.then ?_
  refine CG.seq ?_
  refine CG.imp (Imp.head (fun x hb => blk_osl (n := 256) (by simp [Value.cells]) x hb)) ?_
  rw [show (Value.agg (List.replicate 256 (Value.int .u8 0)).toArray).cells.toList = bytesV (List.replicate 256 0) by simp [Value.cells, bytesV, byteV]]
  refine CG.region ?_
  refine OG.yield (Yield.slice_arr Tryz.underlying261 ti5 rfl Bound.none Bound.none (by omega) (by omega) (by omega) (by omega)) rfl ?_
  refine OG.mv rfl rfl ?_
  refine OG.effd (Eff.copyIn (b := b7) (o := 0) (j := 0) (n := 256) (k := ws.length) (ys := bytesV ws) rfl rfl rfl Tryz.underlying32 ti5 Foc.here (by omega) ((hr.imp iM).slR) bytesV_one) rfl ?_
  rintro ⟨⟩ -
  rw [show min ws.length 256 = (bytesV ws).length by rw [bytesV_length]; omega, List.take_length, over_bytes, over_zero hw]
  refine OG.nil ?_
  refine QG.then ?_
  refine CG.seq ?_
  refine CG.draw (.look 0 1 (.look 1 1 (.look 2 1 (.look 3 1 (.look 4 1 (.look 5 1 (.look 6 1 (.eff1 7 false (.done))))))))) [7] [] ([]) ([]) mixed (by kernel_rfl) (Imp.none _) (Imp.none _) ?_
  refine DG.look rfl rfl (Yield.move rfl) rfl ?_
  refine DG.look rfl rfl (Yield.nilCheck rfl) rfl ?_
  refine DG.look rfl rfl (Yield.fieldAddr fa223_0 rfl) rfl ?_
  refine DG.look rfl rfl (Yield.load ti221 rfl (by first | exact Cel.of_blk eX rfl | exact (hrow eX) _ _ rfl)) rfl ?_
  refine DG.look rfl rfl (Yield.move rfl) rfl ?_
  refine DG.look rfl rfl (Yield.load_agg (vs := bytesV (fillB ws)) ti261 rfl (by rw [bytesV_length]; exact hfl) ((SlR.of_osl (a := some ⟨b7, 0, none⟩) eX).row 0 256 (by rw [List.drop_zero, bytesV_take, List.take_of_length_le (by omega)]))) rfl ?_
  refine DG.look rfl rfl (Yield.index_slice Tryz.underlying221 ti261 rfl rfl (by omega) (by omega)) rfl ?_
  refine DG.eff1 ?_
  refine Chg.eff rfl rfl (Eff.storeCells (b := b) (o := o) (i := k * 256) (k := 256) ti261 rfl rfl (by simp only [Value.cells]; rw [List.size_toArray, bytesV_length]; exact hfl) fC (by simp only [Value.cells]; exact bytesV_one) (by omega)) rfl (fun _ => iM) (fun _ => Imp.refl _) (fun _ => iM) ?_
  rintro ⟨⟩ -
  rw [show (Value.agg (bytesV (fillB ws)).toArray).cells.toList = bytesV (fillB ws) from rfl, over_bytes]
  refine DG.done ?_
  refine QG.then ?_
  refine CG.seq ?_
  refine CG.region ?_
  refine OG.sg rfl rfl ?_
  refine OG.nil ?_
  refine QG.then ?_
  refine CG.ret ?_
  exact QG.ret1 rfl rfl () trivial rfl (Imp.trans iM (m_close ((b, o), c) ⟨by rw [overB_len (by omega)]; exact hlen.1, hlen.2⟩))
end
end Go.Proofs.YtphljkplokjonaaGreat.Me
/- page.Entry and page.Split and what the reference says of them: as functions of numbers. -/
namespace Go.Proofs.YtphljkplokjonaaGreat.Pe
open Go Go.Sl Go.RowKit Go.Proofs Go.Proofs.YtphljkplokjonaaGreat.T
set_option maxRecDepth 100000
/-- The word of an entry. -/
def entryOf (f p : Int) : Int := if 0 ≤ f ∧ f < 1024 ∧ 0 ≤ p ∧ p ≤ 7 then 1 + p * 2 + f * 256 else 0
/-- Is the word an entry? -/
def isEntry (w : Int) : Prop := w ≠ 0 ∧ entryOf (w / 256) (w / 2 % 8) = w
instance (w : Int) : Decidable (isEntry w) := by unfold isEntry; infer_instance
theorem wraps_word (n : Int) (h₀ : 0 ≤ n) (h₁ : n < 2 ^ 32) : IntKind.u32.wrap n = n := by rw [IntKind.wrap_u32]; omega
theorem or_entry (f p : Int) (h0 : 0 ≤ f) (h1 : f < 1024) (h2 : 0 ≤ p) (h3 : p ≤ 7) : Go.bits .or .u32 (Go.bits .or .u32 (f * 256) (p * 2)) 1 = 1 + p * 2 + f * 256 := by
  have e1 : Go.bits .or .u32 (f * 256) (p * 2) = f * 256 + p * 2 := bits_join .u32 32 (by decide) wraps_word 8 _ _ (by omega) (by omega) (by omega) (by omega) (by omega) (by omega)
  rw [e1]
  have e2 : Go.bits .or .u32 (f * 256 + p * 2) 1 = f * 256 + p * 2 + 1 := bits_join .u32 32 (by decide) wraps_word 1 _ _ (by omega) (by omega) (by omega) (by omega) (by omega) (by omega)
  rw [e2]; omega
theorem and_seven (x : Int) (h0 : 0 ≤ x) (h1 : x < 2147483648) : Go.bits .and .u32 x 7 = x % 8 :=
  bits_mask .u32 32 (by decide) wraps_word 3 (by decide) x (by omega) (by omega)
theorem entryOf_range (f p : Int) : 0 ≤ entryOf f p ∧ entryOf f p ≤ 262143 := by unfold entryOf; split <;> omega
section
variable (W0 : World) (Fr : List HProp)
theorem entry_spec (f p : Int) : Ctr Tryz.prog W0 190 [.int .i64 f, .int .i64 p] Fr (fun _ : Unit => True) (fun _ => .int .u32 (entryOf f p)) (fun _ => Fr) := by
  refine Ctr.of_body Tryz.func190 rfl Tryz.ntmps190 rfl ?_
  refine CG.seq ?_
  refine CG.region ?_
  refine OG.sg rfl rfl ?_
  refine OG.nil ?_
  refine QG.then ?_
  refine CG.seq ?_
  refine CG.seq ?_
  rcases (show f < 0 ∨ (0 ≤ f ∧ f ≥ 1024) ∨ (0 ≤ f ∧ f < 1024 ∧ p < 0) ∨ (0 ≤ f ∧ f < 1024 ∧ 0 ≤ p ∧ p > 7) ∨ (0 ≤ f ∧ f < 1024 ∧ 0 ≤ p ∧ p ≤ 7) by omega) with hh | hh | hh | hh | hh
  · skip
    refine CG.region ?_
    refine OG.mv rfl rfl ?_
    refine OG.yield Yield.lssA rfl ?_
    refine OG.mv rfl rfl ?_
    refine OG.gn rfl rfl rfl rfl rfl ?_
    refine OG.gn rfl rfl rfl rfl rfl ?_
    refine OG.yield Yield.pickA rfl ?_
    refine OG.mv rfl rfl ?_
    refine OG.gn rfl rfl rfl rfl rfl ?_
    refine OG.gn rfl rfl rfl rfl rfl ?_
    refine OG.yield Yield.pickA rfl ?_
    refine OG.mv rfl rfl ?_
    refine OG.gn rfl rfl rfl rfl rfl ?_
    refine OG.gn rfl rfl rfl rfl rfl ?_
    refine OG.yield Yield.pickA rfl ?_
    refine OG.nil ?_
    refine QG.then ?_
    refine CG.cond_t rfl ?_
    refine CG.seq ?_
    refine CG.region ?_
    refine OG.sg rfl rfl ?_
    refine OG.nil ?_
    refine QG.then ?_
    refine CG.ret ?_
    refine QG.pass_ret ?_
    exact QG.ret1 rfl rfl () trivial (by unfold entryOf; rw [if_neg (by omega)]) (Imp.refl _)
  · skip
    refine CG.region ?_
    refine OG.mv rfl rfl ?_
    refine OG.yield Yield.lssA rfl ?_
    refine OG.mv rfl rfl ?_
    refine OG.gy rfl rfl rfl ?_
    refine OG.mv rfl rfl ?_
    refine OG.gy rfl rfl rfl ?_
    refine OG.yield Yield.geqA rfl ?_
    refine OG.yield Yield.pickA rfl ?_
    refine OG.mv rfl rfl ?_
    refine OG.gn rfl rfl rfl rfl rfl ?_
    refine OG.gn rfl rfl rfl rfl rfl ?_
    refine OG.yield Yield.pickA rfl ?_
    refine OG.mv rfl rfl ?_
    refine OG.gn rfl rfl rfl rfl rfl ?_
    refine OG.gn rfl rfl rfl rfl rfl ?_
    refine OG.yield Yield.pickA rfl ?_
    refine OG.nil ?_
    refine QG.then ?_
    refine CG.cond_t rfl ?_
    refine CG.seq ?_
    refine CG.region ?_
    refine OG.sg rfl rfl ?_
    refine OG.nil ?_
    refine QG.then ?_
    refine CG.ret ?_
    refine QG.pass_ret ?_
    exact QG.ret1 rfl rfl () trivial (by unfold entryOf; rw [if_neg (by omega)]) (Imp.refl _)
  · skip
    refine CG.region ?_
    refine OG.mv rfl rfl ?_
    refine OG.yield Yield.lssA rfl ?_
    refine OG.mv rfl rfl ?_
    refine OG.gy rfl rfl rfl ?_
    refine OG.mv rfl rfl ?_
    refine OG.gy rfl rfl rfl ?_
    refine OG.yield Yield.geqA rfl ?_
    refine OG.yield Yield.pickA rfl ?_
    refine OG.mv rfl rfl ?_
    refine OG.gy rfl rfl rfl ?_
    refine OG.mv rfl rfl ?_
    refine OG.gy rfl rfl rfl ?_
    refine OG.yield Yield.lssA rfl ?_
    refine OG.yield Yield.pickA rfl ?_
    refine OG.mv rfl rfl ?_
    refine OG.gn rfl rfl rfl rfl rfl ?_
    refine OG.gn rfl rfl rfl rfl rfl ?_
    refine OG.yield Yield.pickA rfl ?_
    refine OG.nil ?_
    refine QG.then ?_
    refine CG.cond_t rfl ?_
    refine CG.seq ?_
    refine CG.region ?_
    refine OG.sg rfl rfl ?_
    refine OG.nil ?_
    refine QG.then ?_
    refine CG.ret ?_
    refine QG.pass_ret ?_
    exact QG.ret1 rfl rfl () trivial (by unfold entryOf; rw [if_neg (by omega)]) (Imp.refl _)
  · skip
    refine CG.region ?_
    refine OG.mv rfl rfl ?_
    refine OG.yield Yield.lssA rfl ?_
    refine OG.mv rfl rfl ?_
    refine OG.gy rfl rfl rfl ?_
    refine OG.mv rfl rfl ?_
    refine OG.gy rfl rfl rfl ?_
    refine OG.yield Yield.geqA rfl ?_
    refine OG.yield Yield.pickA rfl ?_
    refine OG.mv rfl rfl ?_
    refine OG.gy rfl rfl rfl ?_
    refine OG.mv rfl rfl ?_
    refine OG.gy rfl rfl rfl ?_
    refine OG.yield Yield.lssA rfl ?_
    refine OG.yield Yield.pickA rfl ?_
    refine OG.mv rfl rfl ?_
    refine OG.gy rfl rfl rfl ?_
    refine OG.mv rfl rfl ?_
    refine OG.gy rfl rfl rfl ?_
    refine OG.yield Yield.gtrA rfl ?_
    refine OG.yield Yield.pickA rfl ?_
    refine OG.nil ?_
    refine QG.then ?_
    refine CG.cond_t rfl ?_
    refine CG.seq ?_
    refine CG.region ?_
    refine OG.sg rfl rfl ?_
    refine OG.nil ?_
    refine QG.then ?_
    refine CG.ret ?_
    refine QG.pass_ret ?_
    exact QG.ret1 rfl rfl () trivial (by unfold entryOf; rw [if_neg (by omega)]) (Imp.refl _)
  · skip
    refine CG.region ?_
    refine OG.mv rfl rfl ?_
    refine OG.yield Yield.lssA rfl ?_
    refine OG.mv rfl rfl ?_
    refine OG.gy rfl rfl rfl ?_
    refine OG.mv rfl rfl ?_
    refine OG.gy rfl rfl rfl ?_
    refine OG.yield Yield.geqA rfl ?_
    refine OG.yield Yield.pickA rfl ?_
    refine OG.mv rfl rfl ?_
    refine OG.gy rfl rfl rfl ?_
    refine OG.mv rfl rfl ?_
    refine OG.gy rfl rfl rfl ?_
    refine OG.yield Yield.lssA rfl ?_
    refine OG.yield Yield.pickA rfl ?_
    refine OG.mv rfl rfl ?_
    refine OG.gy rfl rfl rfl ?_
    refine OG.mv rfl rfl ?_
    refine OG.gy rfl rfl rfl ?_
    refine OG.yield Yield.gtrA rfl ?_
    refine OG.yield Yield.pickA rfl ?_
    refine OG.nil ?_
    refine QG.then ?_
    refine CG.cond_f rfl ?_
    refine CG.skip ?_
    refine QG.then ?_
    refine CG.seq ?_
    refine CG.region ?_
    refine OG.mv rfl rfl ?_
    refine OG.yield (by first | exact Yield.conv Tryz.underlying27 rfl rfl (wu32 (by omega) (by omega)) | exact Yield.conv Tryz.underlying27 rfl rfl rfl) rfl ?_
    refine OG.yield (Yield.shl (m := 8) (c := f * 256) rfl rfl rfl (by decide) (wu32 (by omega) (by omega))) rfl ?_
    refine OG.mv rfl rfl ?_
    refine OG.yield (by first | exact Yield.conv Tryz.underlying27 rfl rfl (wu32 (by omega) (by omega)) | exact Yield.conv Tryz.underlying27 rfl rfl rfl) rfl ?_
    refine OG.yield (Yield.shl (m := 1) (c := p * 2) rfl rfl rfl (by decide) (wu32 (by omega) (by omega))) rfl ?_
    refine OG.yield (Yield.bitop rfl rfl rfl rfl) rfl ?_
    refine OG.yield (Yield.bitop rfl rfl rfl (or_entry f p (by omega) (by omega) (by omega) (by omega))) rfl ?_
    refine OG.sg rfl rfl ?_
    refine OG.nil ?_
    refine QG.then ?_
    refine CG.ret ?_
    exact QG.ret1 rfl rfl () trivial (by unfold entryOf; rw [if_pos (by omega)]) (Imp.refl _)
/-- What an entry says. -/
def splitOf (w : Int) : Value := if isEntry w then .tuple #[.int .i64 (w / 256), .int .i64 (w / 2 % 8), .bool true] else .tuple #[.int .i64 0, .int .i64 0, .bool false]
theorem split_yes {w : Int} (h : isEntry w) : splitOf w = .tuple #[.int .i64 (w / 256), .int .i64 (w / 2 % 8), .bool true] := if_pos h
theorem split_no {w : Int} (h : ¬ isEntry w) : splitOf w = .tuple #[.int .i64 0, .int .i64 0, .bool false] := if_neg h
theorem entry_cases (w : Int) : (w = 0 ∧ ¬ isEntry w) ∨ (w ≠ 0 ∧ entryOf (w / 256) (w / 2 % 8) ≠ w ∧ ¬ isEntry w) ∨ (w ≠ 0 ∧ entryOf (w / 256) (w / 2 % 8) = w ∧ isEntry w) := by
  unfold isEntry
  by_cases h0 : w = 0
  · exact .inl ⟨h0, fun h => h.1 h0⟩
  · by_cases h1 : entryOf (w / 256) (w / 2 % 8) = w
    · exact .inr (.inr ⟨h0, h1, h0, h1⟩)
    · exact .inr (.inl ⟨h0, h1, fun h => h1 h.2⟩)
theorem split_spec (w : Int) (h0 : 0 ≤ w) (h1 : w ≤ 4294967295) : Ctr Tryz.prog W0 188 [.int .u32 w] Fr (fun _ : Unit => True) (fun _ => splitOf w) (fun _ => Fr) := by
  refine Ctr.of_body Tryz.func188 rfl Tryz.ntmps188 rfl ?_
  refine CG.seq ?_
  refine CG.region ?_
  refine OG.sg rfl rfl ?_
  refine OG.sg rfl rfl ?_
  refine OG.sg rfl rfl ?_
  refine OG.nil ?_
  refine QG.then ?_
  refine CG.seq ?_
  refine CG.region ?_
  refine OG.mv rfl rfl ?_
  refine OG.yield (Yield.shr (m := 8) (c := w / 256) rfl rfl rfl (by decide) rfl) rfl ?_
  refine OG.yield (by first | exact Yield.conv Tryz.underlying3 rfl rfl (w64 (by omega) (by omega)) | exact Yield.conv Tryz.underlying3 rfl rfl rfl) rfl ?_
  refine OG.mv rfl rfl ?_
  refine OG.yield (Yield.shr (m := 1) (c := w / 2) rfl rfl rfl (by decide) rfl) rfl ?_
  refine OG.yield (Yield.bitop rfl rfl rfl (and_seven (w / 2) (by omega) (by omega))) rfl ?_
  refine OG.yield (by first | exact Yield.conv Tryz.underlying3 rfl rfl (w64 (by omega) (by omega)) | exact Yield.conv Tryz.underlying3 rfl rfl rfl) rfl ?_
  refine OG.sg rfl rfl ?_
  refine OG.sg rfl rfl ?_
  refine OG.nil ?_
  refine QG.then ?_
  refine CG.seq ?_
  refine CG.seq ?_
  rcases entry_cases w with hh | hh | hh
  · skip
    refine CG.region ?_
    refine OG.mv rfl rfl ?_
    refine OG.yield Yield.eqlA rfl ?_
    refine OG.mv rfl rfl ?_
    refine OG.gn rfl rfl rfl rfl rfl ?_
    refine OG.gn rfl rfl rfl rfl rfl ?_
    refine OG.gn rfl rfl rfl rfl rfl ?_
    refine OG.gn rfl rfl rfl rfl rfl ?_
    refine OG.gn rfl rfl rfl rfl rfl ?_
    refine OG.yield Yield.pickA rfl ?_
    refine OG.nil ?_
    refine QG.then ?_
    refine CG.cond_t rfl ?_
    refine CG.seq ?_
    refine CG.region ?_
    refine OG.sg rfl rfl ?_
    refine OG.sg rfl rfl ?_
    refine OG.sg rfl rfl ?_
    refine OG.nil ?_
    refine QG.then ?_
    refine CG.ret ?_
    refine QG.pass_ret ?_
    exact QG.ret3 rfl rfl rfl rfl () trivial (split_no hh.2) (Imp.refl _)
  · skip
    refine CG.region ?_
    refine OG.mv rfl rfl ?_
    refine OG.yield Yield.eqlA rfl ?_
    refine OG.mv rfl rfl ?_
    refine OG.gy rfl rfl rfl ?_
    refine OG.mv rfl rfl ?_
    refine OG.gy rfl rfl rfl ?_
    refine OG.mv rfl rfl ?_
    refine OG.gy rfl rfl rfl ?_
    refine OG.callo call190 rfl (Imp.refl _) (entry_spec W0 Fr (w / 256) (w / 2 % 8)) rfl ?_
    rintro ⟨⟩ -
    refine OG.gy rfl rfl rfl ?_
    refine OG.mv rfl rfl ?_
    refine OG.gy rfl rfl rfl ?_
    refine OG.yield Yield.neqA rfl ?_
    refine OG.yield Yield.pickA rfl ?_
    refine OG.nil ?_
    refine QG.then ?_
    refine CG.cond_t rfl ?_
    refine CG.seq ?_
    refine CG.region ?_
    refine OG.sg rfl rfl ?_
    refine OG.sg rfl rfl ?_
    refine OG.sg rfl rfl ?_
    refine OG.nil ?_
    refine QG.then ?_
    refine CG.ret ?_
    refine QG.pass_ret ?_
    exact QG.ret3 rfl rfl rfl rfl () trivial (split_no hh.2.2) (Imp.refl _)
  · skip
    refine CG.region ?_
    refine OG.mv rfl rfl ?_
    refine OG.yield Yield.eqlA rfl ?_
    refine OG.mv rfl rfl ?_
    refine OG.gy rfl rfl rfl ?_
    refine OG.mv rfl rfl ?_
    refine OG.gy rfl rfl rfl ?_
    refine OG.mv rfl rfl ?_
    refine OG.gy rfl rfl rfl ?_
    refine OG.callo call190 rfl (Imp.refl _) (entry_spec W0 Fr (w / 256) (w / 2 % 8)) rfl ?_
    rintro ⟨⟩ -
    refine OG.gy rfl rfl rfl ?_
    refine OG.mv rfl rfl ?_
    refine OG.gy rfl rfl rfl ?_
    refine OG.yield Yield.neqA rfl ?_
    refine OG.yield Yield.pickA rfl ?_
    refine OG.nil ?_
    refine QG.then ?_
    refine CG.cond_f rfl ?_
    refine CG.skip ?_
    refine QG.then ?_
    refine CG.seq ?_
    refine CG.region ?_
    refine OG.mv rfl rfl ?_
    refine OG.mv rfl rfl ?_
    refine OG.sg rfl rfl ?_
    refine OG.sg rfl rfl ?_
    refine OG.sg rfl rfl ?_
    refine OG.nil ?_
    refine QG.then ?_
    refine CG.ret ?_
    exact QG.ret3 rfl rfl rfl rfl () trivial (split_yes hh.2.2) (Imp.refl _)
end
end Go.Proofs.YtphljkplokjonaaGreat.Pe
/- package page over a memory: slot, has, known, read, second, Walk. -/
namespace Go.Proofs.YtphljkplokjonaaGreat.Pg
open Go Go.Sl Go.RowKit Go.Proofs Go.Proofs.YtphljkplokjonaaGreat.T Go.Proofs.YtphljkplokjonaaGreat.Me Go.Proofs.YtphljkplokjonaaGreat.Pe
set_option maxRecDepth 100000
/-- The word i of the table t. -/
def word (bs : List UInt8) (t i : Nat) : Nat := leN ((bs.drop (t * 256 + i * 4)).take 4)
theorem word_lt (bs : List UInt8) (t i : Nat) : word bs t i < 4294967296 := by
  have h := leN_lt ((bs.drop (t * 256 + i * 4)).take 4)
  have h2 : ((bs.drop (t * 256 + i * 4)).take 4).length ≤ 4 := by rw [List.length_take]; omega
  exact Nat.lt_of_lt_of_le h (Nat.pow_le_pow_right (by decide) (by omega) : 2 ^ (8 * ((bs.drop (t * 256 + i * 4)).take 4).length) ≤ 2 ^ 32)
section
variable (W0 : World) (Fr : List HProp)
theorem slot_spec {t i : Nat} (ht : t ≤ 1024) (hi : i < 64) : Ctr Tryz.prog W0 192 [.int .i64 t, .int .i64 i] Fr (fun _ : Unit => True) (fun _ => .int .u32 ((t * 256 + i * 4 : Nat) : Int)) (fun _ => Fr) := by
  refine Ctr.of_body Tryz.func192 rfl Tryz.ntmps192 rfl ?_
  refine CG.seq ?_
  refine CG.region ?_
  refine OG.sg rfl rfl ?_
  refine OG.nil ?_
  refine QG.then ?_
  refine CG.seq ?_
  refine CG.region ?_
  refine OG.mv rfl rfl ?_
  refine OG.yield (Yield.mul rfl rfl (w64 (by omega) (by omega))) rfl ?_
  refine OG.mv rfl rfl ?_
  refine OG.yield (Yield.mul rfl rfl (w64 (by omega) (by omega))) rfl ?_
  refine OG.yield (Yield.add rfl rfl (w64 (by omega) (by omega))) rfl ?_
  refine OG.yield (Yield.conv (c := ((t * 256 + i * 4 : Nat) : Int)) Tryz.underlying27 rfl rfl (by rw [show (t : Int) * 256 + 4 * (i : Int) = ((t * 256 + i * 4 : Nat) : Int) by omega]; exact wu32 (by omega) (by omega))) rfl ?_
  refine OG.sg rfl rfl ?_
  refine OG.nil ?_
  refine QG.then ?_
  refine CG.ret ?_
  exact QG.ret1 rfl rfl () trivial rfl (Imp.refl _)
theorem has_spec {m n : Nat} {bs : List UInt8} (k : Int) : Ctr Tryz.prog W0 143 [.pointer (some ⟨m, 0, none⟩), .int .i64 k] (M m n bs :: Fr) (fun _ : Unit => True) (fun _ => .bool (decide (0 ≤ k ∧ k < n))) (fun _ => M m n bs :: Fr) := by
  refine Ctr.of_body Tryz.func143 rfl Tryz.ntmps143 rfl ?_
  refine CG.seq ?_
  refine CG.region ?_
  refine OG.sg rfl rfl ?_
  refine OG.nil ?_
  refine QG.then ?_
  refine CG.seq ?_
  rcases (show k < 0 ∨ 0 ≤ k by omega) with hh | hh
  · skip
    refine CG.region ?_
    refine OG.mv rfl rfl ?_
    refine OG.yield Yield.geqA rfl ?_
    refine OG.mv rfl rfl ?_
    refine OG.gn rfl rfl rfl rfl rfl ?_
    refine OG.gn rfl rfl rfl rfl rfl ?_
    refine OG.gn rfl rfl rfl rfl rfl ?_
    refine OG.gn rfl rfl rfl rfl rfl ?_
    refine OG.yield Yield.pickA rfl ?_
    refine OG.sg rfl rfl ?_
    refine OG.nil ?_
    refine QG.then ?_
    refine CG.ret ?_
    exact QG.ret1 rfl rfl () trivial (by rw [decide_eq_false (by omega)]) (Imp.refl _)
  · skip
    refine CG.region ?_
    refine OG.mv rfl rfl ?_
    refine OG.yield Yield.geqA rfl ?_
    refine OG.mv rfl rfl ?_
    refine OG.gy rfl rfl rfl ?_
    refine OG.mv rfl rfl ?_
    refine OG.gy rfl rfl rfl ?_
    refine OG.mv rfl rfl ?_
    refine OG.gy rfl rfl rfl ?_
    refine OG.callo call194 rfl (Imp.refl _) (frames_spec W0 _ (m := m) (n := n) (bs := bs)) rfl ?_
    rintro ⟨⟩ -
    refine OG.gy rfl rfl rfl ?_
    refine OG.yield (Yield.lss rfl rfl) rfl ?_
    refine OG.yield Yield.pickA rfl ?_
    refine OG.sg rfl rfl ?_
    refine OG.nil ?_
    refine QG.then ?_
    refine CG.ret ?_
    exact QG.ret1 rfl rfl () trivial (by rw [show decide (0 ≤ k ∧ k < (n : Int)) = decide (k < (n : Int)) by simp [hh]]) (Imp.refl _)
theorem known_spec (p : Int) : Ctr Tryz.prog W0 144 [.int .i64 p] Fr (fun _ : Unit => True) (fun _ => .bool (decide (0 ≤ p ∧ p < 4096))) (fun _ => Fr) := by
  refine Ctr.of_body Tryz.func144 rfl Tryz.ntmps144 rfl ?_
  refine CG.seq ?_
  refine CG.region ?_
  refine OG.sg rfl rfl ?_
  refine OG.nil ?_
  refine QG.then ?_
  refine CG.seq ?_
  rcases (show p < 0 ∨ 0 ≤ p by omega) with hh | hh
  · skip
    refine CG.region ?_
    refine OG.mv rfl rfl ?_
    refine OG.yield Yield.geqA rfl ?_
    refine OG.mv rfl rfl ?_
    refine OG.gn rfl rfl rfl rfl rfl ?_
    refine OG.gn rfl rfl rfl rfl rfl ?_
    refine OG.yield Yield.pickA rfl ?_
    refine OG.sg rfl rfl ?_
    refine OG.nil ?_
    refine QG.then ?_
    refine CG.ret ?_
    exact QG.ret1 rfl rfl () trivial (by rw [decide_eq_false (by omega)]) (Imp.refl _)
  · skip
    refine CG.region ?_
    refine OG.mv rfl rfl ?_
    refine OG.yield Yield.geqA rfl ?_
    refine OG.mv rfl rfl ?_
    refine OG.gy rfl rfl rfl ?_
    refine OG.mv rfl rfl ?_
    refine OG.gy rfl rfl rfl ?_
    refine OG.yield (Yield.lss rfl rfl) rfl ?_
    refine OG.yield Yield.pickA rfl ?_
    refine OG.sg rfl rfl ?_
    refine OG.nil ?_
    refine QG.then ?_
    refine CG.ret ?_
    exact QG.ret1 rfl rfl () trivial (by rw [show decide (0 ≤ p ∧ p < 4096) = decide (p < 4096) by simp [hh]]) (Imp.refl _)
/-- What an entry says: its frame, its rights, whether it is one. -/
def sp (w : Nat) : Int × Int × Bool := if isEntry w then ((w / 256 : Nat), (w / 2 % 8 : Nat), true) else (0, 0, false)
theorem split_sp (w : Nat) : splitOf (w : Int) = .tuple #[.int .i64 (sp w).1, .int .i64 (sp w).2.1, .bool (sp w).2.2] := by
  unfold sp splitOf
  split <;> rfl
theorem read_spec {m n t i : Nat} {bs : List UInt8} (ht : t < n) (hi : i < 64) : Ctr Tryz.prog W0 146 [.pointer (some ⟨m, 0, none⟩), .int .i64 t, .int .i64 i] (M m n bs :: Fr) (fun _ : Unit => True) (fun _ => .tuple #[.int .i64 (sp (word bs t i)).1, .int .i64 (sp (word bs t i)).2.1, .bool (sp (word bs t i)).2.2]) (fun _ => M m n bs :: Fr) := by
  refine Ctr.pure (fun w hw => m_facts (m := m) (n := n) (bs := bs) Ext.here w hw) ?_
  rintro ⟨hl, hn1, hn2⟩
  have hw := word_lt bs t i
  refine Ctr.of_body Tryz.func146 rfl Tryz.ntmps146 rfl ?_
  refine CG.seq ?_
  refine CG.region ?_
  refine OG.sg rfl rfl ?_
  refine OG.sg rfl rfl ?_
  refine OG.sg rfl rfl ?_
  refine OG.nil ?_
  refine QG.then ?_
  refine CG.seq ?_
  refine CG.region ?_
  refine OG.mv rfl rfl ?_
  refine OG.mv rfl rfl ?_
  refine OG.mv rfl rfl ?_
  refine OG.callo call192 rfl (Imp.refl _) (slot_spec W0 _ (t := t) (i := i) (by omega) hi) rfl ?_
  rintro ⟨⟩ -
  refine OG.callo call187 rfl (Imp.refl _) (load_ok W0 _ (m := m) (n := n) (a := t * 256 + i * 4) (s := 4) (bs := bs) (by omega) (by omega) (by omega)) rfl ?_
  rintro ⟨⟩ -
  refine OG.mv rfl rfl ?_
  refine OG.yield (Yield.extract rfl rfl) rfl ?_
  refine OG.yield (Yield.extract rfl rfl) rfl ?_
  refine OG.sg rfl rfl ?_
  refine OG.sg rfl rfl ?_
  refine OG.nil ?_
  refine QG.then ?_
  refine CG.seq ?_
  refine CG.seq ?_
  refine CG.region ?_
  refine OG.mv rfl rfl ?_
  refine OG.yield Yield.neqA rfl ?_
  refine OG.nil ?_
  refine QG.then ?_
  refine CG.cond_f rfl ?_
  refine CG.skip ?_
  refine QG.then ?_
  refine CG.seq ?_
  refine CG.region ?_
  refine OG.mv rfl rfl ?_
  refine OG.yield (Yield.conv (c := (word bs t i : Int)) Tryz.underlying27 rfl rfl (wu32 (by omega) (by show ((word bs t i : Nat) : Int) ≤ _; omega))) rfl ?_
  refine OG.callo call188 rfl (Imp.refl _) (split_spec W0 _ (word bs t i : Int) (by omega) (by omega)) rfl ?_
  rintro ⟨⟩ -
  rw [split_sp]
  refine OG.yield (Yield.extract rfl rfl) rfl ?_
  refine OG.yield (Yield.extract rfl rfl) rfl ?_
  refine OG.yield (Yield.extract rfl rfl) rfl ?_
  refine OG.sg rfl rfl ?_
  refine OG.sg rfl rfl ?_
  refine OG.sg rfl rfl ?_
  refine OG.nil ?_
  refine QG.then ?_
  refine CG.ret ?_
  exact QG.rets [.int .i64 (sp (word bs t i)).1, .int .i64 (sp (word bs t i)).2.1, .bool (sp (word bs t i)).2.2] rfl ⟨rfl, rfl, rfl, trivial⟩ () trivial rfl (Imp.refl _)
end
end Go.Proofs.YtphljkplokjonaaGreat.Pg
/- package page over a memory: second, Walk, Clear, Set. -/
namespace Go.Proofs.YtphljkplokjonaaGreat.Pg
open Go Go.Sl Go.RowKit Go.Proofs Go.Proofs.YtphljkplokjonaaGreat.T Go.Proofs.YtphljkplokjonaaGreat.Me Go.Proofs.YtphljkplokjonaaGreat.Pe
set_option maxRecDepth 100000
/-- The second table of a page. -/
def secR (n : Nat) (bs : List UInt8) (root p : Nat) : Int × Bool := ((sp (word bs root (p / 64))).1, (sp (word bs root (p / 64))).2.2 && decide (0 ≤ (sp (word bs root (p / 64))).1 ∧ (sp (word bs root (p / 64))).1 < n))
theorem secR_in {n : Nat} {bs : List UInt8} {root p : Nat} (h : (secR n bs root p).2 = true) : ∃ t : Nat, (secR n bs root p).1 = t ∧ t < n := by
  unfold secR at h ⊢
  simp only [Bool.and_eq_true, decide_eq_true_eq] at h
  exact ⟨(sp (word bs root (p / 64))).1.toNat, by dsimp only; omega, by omega⟩
def walkR (n : Nat) (bs : List UInt8) (root p : Nat) : Int × Int × Int :=
  if (secR n bs root p).2 = true ∧ (sp (word bs (secR n bs root p).1.toNat (p % 64))).2.2 = true then ((sp (word bs (secR n bs root p).1.toNat (p % 64))).1, (sp (word bs (secR n bs root p).1.toNat (p % 64))).2.1, 0) else (0, 0, 90)
theorem tmod_nat (a b : Nat) (h : 0 < b) : (a : Int).tmod (b : Int) = ((a % b : Nat) : Int) := by
  rw [tmod_pos (by omega) (by omega)]; rfl
section
variable (W0 : World) (Fr : List HProp)
theorem second_spec {m n root p : Nat} {bs : List UInt8} (hr : root < n) (hp : p < 4096) : Ctr Tryz.prog W0 145 [.pointer (some ⟨m, 0, none⟩), .int .i64 root, .int .i64 p] (M m n bs :: Fr) (fun _ : Unit => True) (fun _ => .tuple #[.int .i64 (secR n bs root p).1, .bool (secR n bs root p).2]) (fun _ => M m n bs :: Fr) := by
  have hi : p / 64 < 64 := by omega
  generalize hx : sp (word bs root (p / 64)) = x
  obtain ⟨x1, x2, x3⟩ := x
  have hsec : secR n bs root p = (x1, x3 && decide (0 ≤ x1 ∧ x1 < n)) := by unfold secR; rw [hx]
  rw [hsec]
  refine Ctr.of_body Tryz.func145 rfl Tryz.ntmps145 rfl ?_
  refine CG.seq ?_
  refine CG.region ?_
  refine OG.sg rfl rfl ?_
  refine OG.sg rfl rfl ?_
  refine OG.nil ?_
  refine QG.then ?_
  refine CG.seq ?_
  refine CG.region ?_
  refine OG.mv rfl rfl ?_
  refine OG.mv rfl rfl ?_
  refine OG.mv rfl rfl ?_
  refine OG.yield (Yield.quo (c := ((p / 64 : Nat) : Int)) rfl rfl (by decide) (quo_nat (b := 64) (by decide) (by omega))) rfl ?_
  refine OG.callo call146 rfl (Imp.refl _) (read_spec W0 _ (m := m) (n := n) (t := root) (i := p / 64) (bs := bs) hr hi) rfl ?_
  rintro ⟨⟩ -
  rw [hx]
  dsimp only
  refine OG.mv rfl rfl ?_
  refine OG.yield (Yield.extract rfl rfl) rfl ?_
  refine OG.yield (Yield.extract rfl rfl) rfl ?_
  refine OG.yield (Yield.extract rfl rfl) rfl ?_
  refine OG.sg rfl rfl ?_
  refine OG.sg rfl rfl ?_
  refine OG.sg rfl rfl ?_
  refine OG.nil ?_
  refine QG.then ?_
  refine CG.seq ?_
  cases x3
  · skip
    refine CG.region ?_
    refine OG.mv rfl rfl ?_
    refine OG.mv rfl rfl ?_
    refine OG.mv rfl rfl ?_
    refine OG.gn rfl rfl rfl rfl rfl ?_
    refine OG.gn rfl rfl rfl rfl rfl ?_
    refine OG.gn rfl rfl rfl rfl rfl ?_
    refine OG.yield Yield.pickA rfl ?_
    refine OG.sg rfl rfl ?_
    refine OG.sg rfl rfl ?_
    refine OG.nil ?_
    refine QG.then ?_
    refine CG.ret ?_
    exact QG.ret2 rfl rfl rfl () trivial rfl (Imp.refl _)
  · skip
    refine CG.region ?_
    refine OG.mv rfl rfl ?_
    refine OG.mv rfl rfl ?_
    refine OG.mv rfl rfl ?_
    refine OG.gy rfl rfl rfl ?_
    refine OG.mv rfl rfl ?_
    refine OG.gy rfl rfl rfl ?_
    refine OG.mv rfl rfl ?_
    refine OG.gy rfl rfl rfl ?_
    refine OG.callo call143 rfl (Imp.refl _) (has_spec W0 _ (m := m) (n := n) (bs := bs) x1) rfl ?_
    rintro ⟨⟩ -
    refine OG.yield Yield.pickA rfl ?_
    refine OG.sg rfl rfl ?_
    refine OG.sg rfl rfl ?_
    refine OG.nil ?_
    refine QG.then ?_
    refine CG.ret ?_
    exact QG.ret2 rfl rfl rfl () trivial rfl (Imp.refl _)
theorem walk_bad {m n : Nat} {root p : Int} {bs : List UInt8} (h : ¬(0 ≤ root ∧ root < n) ∨ ¬(0 ≤ p ∧ p < 4096)) : Ctr Tryz.prog W0 84 [.pointer (some ⟨m, 0, none⟩), .int .i64 root, .int .i64 p] (M m n bs :: Fr) (fun _ : Unit => True) (fun _ => .tuple #[.int .i64 0, .int .i64 0, .int .i64 2]) (fun _ => M m n bs :: Fr) := by
  refine Ctr.of_body Tryz.func84 rfl Tryz.ntmps84 rfl ?_
  refine CG.seq ?_
  refine CG.region ?_
  refine OG.sg rfl rfl ?_
  refine OG.sg rfl rfl ?_
  refine OG.sg rfl rfl ?_
  refine OG.nil ?_
  refine QG.then ?_
  refine CG.seq ?_
  refine CG.seq ?_
  rcases (show ¬(0 ≤ root ∧ root < (n : Int)) ∨ ((0 ≤ root ∧ root < (n : Int)) ∧ ¬(0 ≤ p ∧ p < 4096)) by omega) with hh | hh
  · skip
    refine CG.region ?_
    refine OG.mv rfl rfl ?_
    refine OG.mv rfl rfl ?_
    refine OG.callo call143 rfl (Imp.refl _) (has_spec W0 _ (m := m) (n := n) (bs := bs) root) rfl ?_
    rintro ⟨⟩ -
    first | rw [decide_eq_false hh] | rw [decide_eq_true hh.1]
    refine OG.yield (Yield.not rfl) rfl ?_
    refine OG.mv rfl rfl ?_
    refine OG.gn rfl rfl rfl rfl rfl ?_
    refine OG.gn rfl rfl rfl rfl rfl ?_
    refine OG.gn rfl rfl rfl rfl rfl ?_
    refine OG.yield Yield.pickA rfl ?_
    refine OG.nil ?_
    refine QG.then ?_
    refine CG.cond_t rfl ?_
    refine CG.seq ?_
    refine CG.region ?_
    refine OG.sg rfl rfl ?_
    refine OG.sg rfl rfl ?_
    refine OG.sg rfl rfl ?_
    refine OG.nil ?_
    refine QG.then ?_
    refine CG.ret ?_
    refine QG.pass_ret ?_
    exact QG.rets [.int .i64 0, .int .i64 0, .int .i64 2] rfl ⟨rfl, rfl, rfl, trivial⟩ () trivial rfl (Imp.refl _)
  · skip
    refine CG.region ?_
    refine OG.mv rfl rfl ?_
    refine OG.mv rfl rfl ?_
    refine OG.callo call143 rfl (Imp.refl _) (has_spec W0 _ (m := m) (n := n) (bs := bs) root) rfl ?_
    rintro ⟨⟩ -
    first | rw [decide_eq_false hh] | rw [decide_eq_true hh.1]
    refine OG.yield (Yield.not rfl) rfl ?_
    refine OG.mv rfl rfl ?_
    refine OG.gy rfl rfl rfl ?_
    refine OG.mv rfl rfl ?_
    refine OG.gy rfl rfl rfl ?_
    refine OG.callo call144 rfl (Imp.refl _) (known_spec W0 _ p) rfl ?_
    rintro ⟨⟩ -
    rw [decide_eq_false hh.2]
    refine OG.gy rfl rfl rfl ?_
    refine OG.yield (Yield.not rfl) rfl ?_
    refine OG.yield Yield.pickA rfl ?_
    refine OG.nil ?_
    refine QG.then ?_
    refine CG.cond_t rfl ?_
    refine CG.seq ?_
    refine CG.region ?_
    refine OG.sg rfl rfl ?_
    refine OG.sg rfl rfl ?_
    refine OG.sg rfl rfl ?_
    refine OG.nil ?_
    refine QG.then ?_
    refine CG.ret ?_
    refine QG.pass_ret ?_
    exact QG.rets [.int .i64 0, .int .i64 0, .int .i64 2] rfl ⟨rfl, rfl, rfl, trivial⟩ () trivial rfl (Imp.refl _)
theorem walk_spec {m n root p : Nat} {bs : List UInt8} (hr : root < n) (hp : p < 4096) : Ctr Tryz.prog W0 84 [.pointer (some ⟨m, 0, none⟩), .int .i64 root, .int .i64 p] (M m n bs :: Fr) (fun _ : Unit => True) (fun _ => .tuple #[.int .i64 (walkR n bs root p).1, .int .i64 (walkR n bs root p).2.1, .int .i64 (walkR n bs root p).2.2]) (fun _ => M m n bs :: Fr) := by
  have hi : p % 64 < 64 := Nat.mod_lt _ (by decide)
  refine Ctr.of_body Tryz.func84 rfl Tryz.ntmps84 rfl ?_
  refine CG.seq ?_
  refine CG.region ?_
  refine OG.sg rfl rfl ?_
  refine OG.sg rfl rfl ?_
  refine OG.sg rfl rfl ?_
  refine OG.nil ?_
  refine QG.then ?_
  refine CG.seq ?_
  refine CG.seq ?_
  refine CG.region ?_
  refine OG.mv rfl rfl ?_
  refine OG.mv rfl rfl ?_
  refine OG.callo call143 rfl (Imp.refl _) (has_spec W0 _ (m := m) (n := n) (bs := bs) (root : Int)) rfl ?_
  rintro ⟨⟩ -
  rw [decide_eq_true (p := 0 ≤ (root : Int) ∧ (root : Int) < (n : Int)) (by omega)]
  refine OG.yield (Yield.not rfl) rfl ?_
  refine OG.mv rfl rfl ?_
  refine OG.gy rfl rfl rfl ?_
  refine OG.mv rfl rfl ?_
  refine OG.gy rfl rfl rfl ?_
  refine OG.callo call144 rfl (Imp.refl _) (known_spec W0 _ (p : Int)) rfl ?_
  rintro ⟨⟩ -
  rw [decide_eq_true (p := 0 ≤ (p : Int) ∧ (p : Int) < 4096) (by omega)]
  refine OG.gy rfl rfl rfl ?_
  refine OG.yield (Yield.not rfl) rfl ?_
  refine OG.yield Yield.pickA rfl ?_
  refine OG.nil ?_
  refine QG.then ?_
  refine CG.cond_f rfl ?_
  refine CG.skip ?_
  refine QG.then ?_
  refine CG.seq ?_
  refine CG.seq ?_
  refine CG.region ?_
  refine OG.mv rfl rfl ?_
  refine OG.mv rfl rfl ?_
  refine OG.mv rfl rfl ?_
  refine OG.callo call145 rfl (Imp.refl _) (second_spec W0 _ (m := m) (n := n) (root := root) (p := p) (bs := bs) hr hp) rfl ?_
  rintro ⟨⟩ -
  refine OG.mv rfl rfl ?_
  refine OG.yield (Yield.extract rfl rfl) rfl ?_
  refine OG.yield (Yield.extract rfl rfl) rfl ?_
  refine OG.sg rfl rfl ?_
  refine OG.sg rfl rfl ?_
  refine OG.nil ?_
  refine QG.then ?_
  refine CG.seq ?_
  rcases hs2 : (secR n bs root p).2
  · skip
    have hw : walkR n bs root p = (0, 0, 90) := by unfold walkR; rw [if_neg (by rw [hs2]; simp)]
    rw [hw]
    refine CG.region ?_
    refine OG.mv rfl rfl ?_
    refine OG.nil ?_
    refine QG.then ?_
    refine CG.cond_f rfl ?_
    refine CG.skip ?_
    refine QG.then ?_
    refine CG.seq ?_
    refine CG.region ?_
    refine OG.sg rfl rfl ?_
    refine OG.sg rfl rfl ?_
    refine OG.sg rfl rfl ?_
    refine OG.nil ?_
    refine QG.then ?_
    refine CG.ret ?_
    first | exact QG.rets [.int .i64 0, .int .i64 0, .int .i64 90] rfl ⟨rfl, rfl, rfl, trivial⟩ () trivial (by first | rfl | (rw [hw]; rfl)) (Imp.refl _) | exact QG.rets [.int .i64 x1, .int .i64 x2, .int .i64 0] rfl ⟨rfl, rfl, rfl, trivial⟩ () trivial (by rw [hw]; rfl) (Imp.refl _)
  · skip
    obtain ⟨t, ht, htn⟩ := secR_in hs2
    rw [ht]
    generalize hx : sp (word bs t (p % 64)) = x
    obtain ⟨x1, x2, x3⟩ := x
    have hw : walkR n bs root p = if x3 = true then (x1, x2, 0) else (0, 0, 90) := by unfold walkR; rw [ht, Int.toNat_natCast, hx, hs2]; simp
    refine CG.region ?_
    refine OG.mv rfl rfl ?_
    refine OG.nil ?_
    refine QG.then ?_
    refine CG.cond_t rfl ?_
    refine CG.seq ?_
    refine CG.region ?_
    refine OG.mv rfl rfl ?_
    refine OG.mv rfl rfl ?_
    refine OG.mv rfl rfl ?_
    refine OG.yield (Yield.rem (c := ((p % 64 : Nat) : Int)) rfl rfl (by decide) (tmod_nat p 64 (by decide))) rfl ?_
    refine OG.callo call146 rfl (Imp.refl _) (read_spec W0 _ (m := m) (n := n) (t := t) (i := p % 64) (bs := bs) htn hi) rfl ?_
    rintro ⟨⟩ -
    rw [hx]
    dsimp only
    refine OG.mv rfl rfl ?_
    refine OG.yield (Yield.extract rfl rfl) rfl ?_
    refine OG.yield (Yield.extract rfl rfl) rfl ?_
    refine OG.yield (Yield.extract rfl rfl) rfl ?_
    refine OG.sg rfl rfl ?_
    refine OG.sg rfl rfl ?_
    refine OG.sg rfl rfl ?_
    refine OG.nil ?_
    refine QG.then ?_
    refine CG.seq ?_
    cases x3
    · skip
      refine CG.region ?_
      refine OG.mv rfl rfl ?_
      refine OG.nil ?_
      refine QG.then ?_
      refine CG.cond_f rfl ?_
      refine CG.skip ?_
      refine QG.then ?_
      refine CG.seq ?_
      refine CG.region ?_
      refine OG.sg rfl rfl ?_
      refine OG.sg rfl rfl ?_
      refine OG.sg rfl rfl ?_
      refine OG.nil ?_
      refine QG.then ?_
      refine CG.ret ?_
      first | exact QG.rets [.int .i64 0, .int .i64 0, .int .i64 90] rfl ⟨rfl, rfl, rfl, trivial⟩ () trivial (by first | rfl | (rw [hw]; rfl)) (Imp.refl _) | exact QG.rets [.int .i64 x1, .int .i64 x2, .int .i64 0] rfl ⟨rfl, rfl, rfl, trivial⟩ () trivial (by rw [hw]; rfl) (Imp.refl _)
    · skip
      refine CG.region ?_
      refine OG.mv rfl rfl ?_
      refine OG.nil ?_
      refine QG.then ?_
      refine CG.cond_t rfl ?_
      refine CG.seq ?_
      refine CG.region ?_
      refine OG.mv rfl rfl ?_
      refine OG.mv rfl rfl ?_
      refine OG.sg rfl rfl ?_
      refine OG.sg rfl rfl ?_
      refine OG.sg rfl rfl ?_
      refine OG.nil ?_
      refine QG.then ?_
      refine CG.ret ?_
      refine QG.pass_ret ?_
      first | exact QG.rets [.int .i64 0, .int .i64 0, .int .i64 90] rfl ⟨rfl, rfl, rfl, trivial⟩ () trivial (by first | rfl | (rw [hw]; rfl)) (Imp.refl _) | exact QG.rets [.int .i64 x1, .int .i64 x2, .int .i64 0] rfl ⟨rfl, rfl, rfl, trivial⟩ () trivial (by rw [hw]; rfl) (Imp.refl _)
end
end Go.Proofs.YtphljkplokjonaaGreat.Pg
/- package page over a memory: Clear, Set. -/
namespace Go.Proofs.YtphljkplokjonaaGreat.Pg
open Go Go.Sl Go.RowKit Go.Proofs Go.Proofs.YtphljkplokjonaaGreat.T Go.Proofs.YtphljkplokjonaaGreat.Me Go.Proofs.YtphljkplokjonaaGreat.Pe
set_option maxRecDepth 100000
/-- A word of a table is stored. -/
def stW (bs : List UInt8) (t i v : Nat) : List UInt8 := overB bs (t * 256 + i * 4) (putB v 4)
/-- What Set does: whether the spare frame was used, the answer, and the bytes behind it. -/
def setR (n : Nat) (bs : List UInt8) (root p e : Nat) (spare : Int) : Bool × Int × List UInt8 :=
  if (secR n bs root p).2 = true then (false, 0, stW bs (secR n bs root p).1.toNat (p % 64) e)
  else if 0 ≤ spare ∧ spare < n then (true, 0, stW (stW (overB bs (spare.toNat * 256) (fillB [])) root (p / 64) (entryOf spare 0).toNat) spare.toNat (p % 64) e)
  else (false, 4, bs)
section
variable (W0 : World) (Fr : List HProp)
theorem set_spec {m n root p e : Nat} {f pm spare : Int} {bs : List UInt8} (hr : root < n) (hp : p < 4096) (he : entryOf f pm = e) (he0 : e ≠ 0) (hf : 0 ≤ f ∧ f < n) : Ctr Tryz.prog W0 136 [.pointer (some ⟨m, 0, none⟩), .int .i64 root, .int .i64 p, .int .i64 f, .int .i64 pm, .int .i64 spare] (M m n bs :: Fr) (fun _ : Unit => True) (fun _ => .tuple #[.bool (setR n bs root p e spare).1, .int .i64 (setR n bs root p e spare).2.1]) (fun _ => M m n (setR n bs root p e spare).2.2 :: Fr) := by
  have her := entryOf_range f pm
  rw [he] at her
  refine Ctr.pure (fun w hw => m_facts (m := m) (n := n) (bs := bs) Ext.here w hw) ?_
  rintro ⟨hl, hn1, hn2⟩
  have hi : p % 64 < 64 := Nat.mod_lt _ (by decide)
  have hi2 : p / 64 < 64 := by omega
  refine Ctr.of_body Tryz.func136 rfl Tryz.ntmps136 rfl ?_
  refine CG.seq ?_
  refine CG.region ?_
  refine OG.sg rfl rfl ?_
  refine OG.sg rfl rfl ?_
  refine OG.nil ?_
  refine QG.then ?_
  refine CG.seq ?_
  refine CG.region ?_
  refine OG.mv rfl rfl ?_
  refine OG.mv rfl rfl ?_
  refine OG.callo call190 rfl (Imp.refl _) (entry_spec W0 _ f pm) rfl ?_
  rintro ⟨⟩ -
  rw [he]
  refine OG.sg rfl rfl ?_
  refine OG.nil ?_
  refine QG.then ?_
  refine CG.seq ?_
  refine CG.seq ?_
  refine CG.region ?_
  refine OG.mv rfl rfl ?_
  refine OG.mv rfl rfl ?_
  refine OG.callo call143 rfl (Imp.refl _) (has_spec W0 _ (m := m) (n := n) (bs := bs) (root : Int)) rfl ?_
  rintro ⟨⟩ -
  rw [decide_eq_true (p := 0 ≤ (root : Int) ∧ (root : Int) < (n : Int)) (by omega)]
  refine OG.yield (Yield.not rfl) rfl ?_
  refine OG.mv rfl rfl ?_
  refine OG.gy rfl rfl rfl ?_
  refine OG.mv rfl rfl ?_
  refine OG.gy rfl rfl rfl ?_
  refine OG.callo call144 rfl (Imp.refl _) (known_spec W0 _ (p : Int)) rfl ?_
  rintro ⟨⟩ -
  rw [decide_eq_true (p := 0 ≤ (p : Int) ∧ (p : Int) < 4096) (by omega)]
  refine OG.gy rfl rfl rfl ?_
  refine OG.yield (Yield.not rfl) rfl ?_
  refine OG.yield Yield.pickA rfl ?_
  refine OG.mv rfl rfl ?_
  refine OG.gy rfl rfl rfl ?_
  refine OG.mv rfl rfl ?_
  refine OG.gy rfl rfl rfl ?_
  refine OG.yield (Yield.as (Yield.eql rfl rfl) (bF (by omega))) rfl ?_
  refine OG.yield Yield.pickA rfl ?_
  refine OG.mv rfl rfl ?_
  refine OG.gy rfl rfl rfl ?_
  refine OG.mv rfl rfl ?_
  refine OG.gy rfl rfl rfl ?_
  refine OG.mv rfl rfl ?_
  refine OG.gy rfl rfl rfl ?_
  refine OG.callo call143 rfl (Imp.refl _) (has_spec W0 _ (m := m) (n := n) (bs := bs) f) rfl ?_
  rintro ⟨⟩ -
  rw [decide_eq_true (p := 0 ≤ f ∧ f < (n : Int)) hf]
  refine OG.gy rfl rfl rfl ?_
  refine OG.yield (Yield.not rfl) rfl ?_
  refine OG.yield Yield.pickA rfl ?_
  refine OG.nil ?_
  refine QG.then ?_
  refine CG.cond_f rfl ?_
  refine CG.skip ?_
  refine QG.then ?_
  refine CG.seq ?_
  refine CG.region ?_
  refine OG.mv rfl rfl ?_
  refine OG.mv rfl rfl ?_
  refine OG.mv rfl rfl ?_
  refine OG.callo call145 rfl (Imp.refl _) (second_spec W0 _ (m := m) (n := n) (root := root) (p := p) (bs := bs) hr hp) rfl ?_
  rintro ⟨⟩ -
  refine OG.mv rfl rfl ?_
  refine OG.yield (Yield.extract rfl rfl) rfl ?_
  refine OG.yield (Yield.extract rfl rfl) rfl ?_
  refine OG.sg rfl rfl ?_
  refine OG.sg rfl rfl ?_
  refine OG.nil ?_
  refine QG.then ?_
  refine CG.seq ?_
  refine CG.seq ?_
  rcases (show (secR n bs root p).2 = true ∨ ((secR n bs root p).2 = false ∧ (0 ≤ spare ∧ spare < (n : Int))) ∨ ((secR n bs root p).2 = false ∧ ¬(0 ≤ spare ∧ spare < (n : Int))) by cases (secR n bs root p).2 <;> simp <;> omega) with hs | ⟨hs, hsp⟩ | ⟨hs, hsp⟩
  · skip
    obtain ⟨t, ht, htn⟩ := secR_in hs
    have hset : setR n bs root p e spare = (false, 0, stW bs t (p % 64) e) := by unfold setR; rw [if_pos hs, ht, Int.toNat_natCast]
    rw [hset, hs, ht]
    refine CG.region ?_
    refine OG.mv rfl rfl ?_
    refine OG.yield (Yield.not rfl) rfl ?_
    refine OG.nil ?_
    refine QG.then ?_
    refine CG.cond_f rfl ?_
    refine CG.skip ?_
    refine QG.then ?_
    refine CG.seq ?_
    refine CG.region ?_
    refine OG.mv rfl rfl ?_
    refine OG.mv rfl rfl ?_
    refine OG.mv rfl rfl ?_
    refine OG.yield (Yield.rem (c := ((p % 64 : Nat) : Int)) rfl rfl (by decide) (tmod_nat p 64 (by decide))) rfl ?_
    refine OG.callo call192 rfl (Imp.refl _) (slot_spec W0 _ (t := t) (i := p % 64) (by omega) hi) rfl ?_
    rintro ⟨⟩ -
    refine OG.mv rfl rfl ?_
    refine OG.yield (Yield.conv (c := (e : Int)) Tryz.underlying24 rfl rfl (by rw [IntKind.wrap_u64]; omega)) rfl ?_
    refine OG.callo call191 rfl (Imp.refl _) (store_ok W0 _ (m := m) (n := n) (a := t * 256 + p % 64 * 4) (s := 4) (v := e) (bs := bs) (by omega) (by omega) (by omega) (by omega)) rfl ?_
    rintro ⟨⟩ -
    refine OG.nil ?_
    refine QG.then ?_
    refine CG.seq ?_
    refine CG.region ?_
    refine OG.mv rfl rfl ?_
    refine OG.yield (Yield.not rfl) rfl ?_
    refine OG.sg rfl rfl ?_
    refine OG.sg rfl rfl ?_
    refine OG.nil ?_
    refine QG.then ?_
    refine CG.ret ?_
    exact QG.ret2 rfl rfl rfl () trivial rfl (Imp.refl _)
  · skip
    obtain ⟨q, rfl⟩ := Int.eq_ofNat_of_zero_le hsp.1
    have hqn : q < n := by omega
    have hset : setR n bs root p e (q : Int) = (true, 0, stW (stW (overB bs (q * 256) (fillB [])) root (p / 64) (entryOf (q : Int) 0).toNat) q (p % 64) e) := by unfold setR; rw [if_neg (by rw [hs]; decide), if_pos hsp, Int.toNat_natCast]
    rw [hset, hs]
    have heq := entryOf_range (q : Int) 0
    refine CG.region ?_
    refine OG.mv rfl rfl ?_
    refine OG.yield (Yield.not rfl) rfl ?_
    refine OG.nil ?_
    refine QG.then ?_
    refine CG.cond_t rfl ?_
    refine CG.seq ?_
    refine CG.seq ?_
    refine CG.region ?_
    refine OG.mv rfl rfl ?_
    refine OG.mv rfl rfl ?_
    refine OG.callo call143 rfl (Imp.refl _) (has_spec W0 _ (m := m) (n := n) (bs := bs) (q : Int)) rfl ?_
    rintro ⟨⟩ -
    rw [decide_eq_true (p := 0 ≤ (q : Int) ∧ (q : Int) < (n : Int)) hsp]
    refine OG.yield (Yield.not rfl) rfl ?_
    refine OG.nil ?_
    refine QG.then ?_
    refine CG.cond_f rfl ?_
    refine CG.skip ?_
    refine QG.then ?_
    refine CG.seq ?_
    refine CG.region ?_
    refine OG.mv rfl rfl ?_
    refine OG.sg rfl rfl ?_
    refine OG.nil ?_
    refine QG.then ?_
    refine CG.seq ?_
    refine CG.region ?_
    refine OG.mv rfl rfl ?_
    refine OG.mv rfl rfl ?_
    refine OG.callo call90 rfl (Imp.refl _) (fill_ok W0 _ (m := m) (n := n) (k := q) (bs := bs) (ws := []) (a := none) (c2 := 0) (RdB.of_slR SlR.nil (Nat.le_refl _)) hqn (by decide)) rfl ?_
    rintro ⟨⟩ -
    refine OG.nil ?_
    refine QG.then ?_
    refine CG.region ?_
    refine OG.mv rfl rfl ?_
    refine OG.mv rfl rfl ?_
    refine OG.mv rfl rfl ?_
    refine OG.yield (Yield.quo (c := ((p / 64 : Nat) : Int)) rfl rfl (by decide) (quo_nat (b := 64) (by decide) (by omega))) rfl ?_
    refine OG.callo call192 rfl (Imp.refl _) (slot_spec W0 _ (t := root) (i := p / 64) (by omega) hi2) rfl ?_
    rintro ⟨⟩ -
    refine OG.mv rfl rfl ?_
    refine OG.callo call190 rfl (Imp.refl _) (entry_spec W0 _ (q : Int) 0) rfl ?_
    rintro ⟨⟩ -
    refine OG.yield (Yield.conv (c := ((entryOf (q : Int) 0).toNat : Int)) Tryz.underlying24 rfl rfl (by rw [IntKind.wrap_u64]; omega)) rfl ?_
    refine OG.callo call191 rfl (Imp.refl _) (store_ok W0 _ (m := m) (n := n) (a := root * 256 + p / 64 * 4) (s := 4) (v := (entryOf (q : Int) 0).toNat) (bs := overB bs (q * 256) (fillB [])) (by omega) (by omega) (by omega) (by omega)) rfl ?_
    rintro ⟨⟩ -
    refine OG.nil ?_
    refine QG.then ?_
    refine CG.seq ?_
    refine CG.region ?_
    refine OG.mv rfl rfl ?_
    refine OG.mv rfl rfl ?_
    refine OG.mv rfl rfl ?_
    refine OG.yield (Yield.rem (c := ((p % 64 : Nat) : Int)) rfl rfl (by decide) (tmod_nat p 64 (by decide))) rfl ?_
    refine OG.callo call192 rfl (Imp.refl _) (slot_spec W0 _ (t := q) (i := p % 64) (by omega) hi) rfl ?_
    rintro ⟨⟩ -
    refine OG.mv rfl rfl ?_
    refine OG.yield (Yield.conv (c := (e : Int)) Tryz.underlying24 rfl rfl (by rw [IntKind.wrap_u64]; omega)) rfl ?_
    refine OG.callo call191 rfl (Imp.refl _) (store_ok W0 _ (m := m) (n := n) (a := q * 256 + p % 64 * 4) (s := 4) (v := e) (bs := stW (overB bs (q * 256) (fillB [])) root (p / 64) (entryOf (q : Int) 0).toNat) (by omega) (by omega) (by omega) (by omega)) rfl ?_
    rintro ⟨⟩ -
    refine OG.nil ?_
    refine QG.then ?_
    refine CG.seq ?_
    refine CG.region ?_
    refine OG.mv rfl rfl ?_
    refine OG.yield (Yield.not rfl) rfl ?_
    refine OG.sg rfl rfl ?_
    refine OG.sg rfl rfl ?_
    refine OG.nil ?_
    refine QG.then ?_
    refine CG.ret ?_
    exact QG.ret2 rfl rfl rfl () trivial rfl (Imp.refl _)
  · skip
    have hset : setR n bs root p e spare = (false, 4, bs) := by unfold setR; rw [if_neg (by rw [hs]; decide), if_neg hsp]
    rw [hset, hs]
    refine CG.region ?_
    refine OG.mv rfl rfl ?_
    refine OG.yield (Yield.not rfl) rfl ?_
    refine OG.nil ?_
    refine QG.then ?_
    refine CG.cond_t rfl ?_
    refine CG.seq ?_
    refine CG.seq ?_
    refine CG.region ?_
    refine OG.mv rfl rfl ?_
    refine OG.mv rfl rfl ?_
    refine OG.callo call143 rfl (Imp.refl _) (has_spec W0 _ (m := m) (n := n) (bs := bs) spare) rfl ?_
    rintro ⟨⟩ -
    rw [decide_eq_false hsp]
    refine OG.yield (Yield.not rfl) rfl ?_
    refine OG.nil ?_
    refine QG.then ?_
    refine CG.cond_t rfl ?_
    refine CG.seq ?_
    refine CG.region ?_
    refine OG.sg rfl rfl ?_
    refine OG.sg rfl rfl ?_
    refine OG.nil ?_
    refine QG.then ?_
    refine CG.ret ?_
    refine QG.pass_ret ?_
    refine QG.pass_ret ?_
    exact QG.ret2 rfl rfl rfl () trivial rfl (Imp.refl _)
end
end Go.Proofs.YtphljkplokjonaaGreat.Pg
/- package page: the plain law of words in tables. -/
namespace Go.Proofs.YtphljkplokjonaaGreat.Pg
open Go Go.Sl Go.RowKit Go.Proofs Go.Proofs.YtphljkplokjonaaGreat.T Go.Proofs.YtphljkplokjonaaGreat.Me Go.Proofs.YtphljkplokjonaaGreat.Pe
set_option maxRecDepth 100000
theorem overB_lo {bs ys : List UInt8} {a p : Nat} (h : p < a) (ha : a + ys.length ≤ bs.length) : (overB bs a ys)[p]? = bs[p]? := by
  unfold overB; rw [List.append_assoc, List.getElem?_append_left (by rw [List.length_take]; omega), List.getElem?_take, if_pos h]
theorem overB_hi {bs ys : List UInt8} {a p : Nat} (h : a + ys.length ≤ p) (ha : a + ys.length ≤ bs.length) : (overB bs a ys)[p]? = bs[p]? := by
  have e : (bs.take a ++ ys).length = a + ys.length := by rw [List.length_append, List.length_take]; omega
  unfold overB; rw [List.getElem?_append_right (by rw [e]; exact h), e, List.getElem?_drop]; congr 1; omega
theorem word_ext {bs cs : List UInt8} {A : Nat} (h : ∀ j, j < 4 → bs[A + j]? = cs[A + j]?) : leN ((bs.drop A).take 4) = leN ((cs.drop A).take 4) := by
  congr 1
  apply List.ext_getElem?
  intro j
  rw [List.getElem?_take, List.getElem?_take]
  split
  · rename_i hj
    rw [List.getElem?_drop, List.getElem?_drop]; exact h j hj
  · rfl
theorem word_st {bs : List UInt8} {n t i v t' i' : Nat} (hl : bs.length = n * 256) (ht : t < n) (hi : i < 64) (ht' : t' < n) (hi' : i' < 64) : word (stW bs t i v) t' i' = if t' = t ∧ i' = i then v % 4294967296 else word bs t' i' := by
  have hp := putB_len v 4
  unfold word stW
  split
  · rename_i h
    obtain ⟨rfl, rfl⟩ := h
    have := overB_at (bs := bs) (ys := putB v 4) (a := t' * 256 + i' * 4) (by omega)
    rw [hp] at this
    rw [this, leN_putB]
  · rename_i h
    refine word_ext fun j hj => ?_
    rcases (show t' * 256 + i' * 4 + j < t * 256 + i * 4 ∨ t * 256 + i * 4 + 4 ≤ t' * 256 + i' * 4 + j by omega) with q | q
    · exact overB_lo q (by omega)
    · exact overB_hi (by omega) (by omega)
theorem stW_len {bs : List UInt8} {n t i v : Nat} (hl : bs.length = n * 256) (ht : t < n) (hi : i < 64) : (stW bs t i v).length = n * 256 := by
  unfold stW; rw [overB_len (by rw [putB_len]; omega), hl]
theorem leN_zeros (k : Nat) : leN (List.replicate k 0) = 0 := by
  induction k with
  | zero => rfl
  | succ k ih => rw [List.replicate_succ]; show (0 : UInt8).toNat + 256 * leN (List.replicate k 0) = 0; rw [ih]; rfl
theorem fillB_nil : fillB [] = List.replicate 256 0 := rfl
theorem word_fill {bs : List UInt8} {n q t' i' : Nat} (hl : bs.length = n * 256) (hq : q < n) (ht' : t' < n) (hi' : i' < 64) : word (overB bs (q * 256) (fillB [])) t' i' = if t' = q then 0 else word bs t' i' := by
  have hf : (fillB []).length = 256 := rfl
  unfold word
  split
  · rename_i h
    subst h
    have e : ((overB bs (t' * 256) (fillB [])).drop (t' * 256 + i' * 4)).take 4 = List.replicate 4 0 := by
      have := overB_at (bs := bs) (ys := fillB []) (a := t' * 256) (by omega)
      rw [hf, fillB_nil] at this
      rw [← List.drop_drop]
      have h2 : ((overB bs (t' * 256) (fillB [])).drop (t' * 256)) = List.replicate 256 0 ++ ((overB bs (t' * 256) (fillB [])).drop (t' * 256)).drop 256 := by
        conv => lhs; rw [← List.take_append_drop 256 ((overB bs (t' * 256) (fillB [])).drop (t' * 256))]
        rw [fillB_nil, this]
      rw [h2, List.drop_append_of_le_length (by simp; omega), List.take_append_of_le_length (by simp; omega), List.drop_replicate, List.take_replicate, show min 4 (256 - i' * 4) = 4 by omega]
    rw [e, leN_zeros]
  · rename_i h
    refine word_ext fun j hj => ?_
    rcases (show t' * 256 + i' * 4 + j < q * 256 ∨ q * 256 + 256 ≤ t' * 256 + i' * 4 + j by omega) with r | r
    · exact overB_lo r (by rw [hf]; omega)
    · exact overB_hi (by rw [hf]; omega) (by rw [hf]; omega)
theorem fill_len {bs : List UInt8} {n q : Nat} (hl : bs.length = n * 256) (hq : q < n) : (overB bs (q * 256) (fillB [])).length = n * 256 := by
  rw [overB_len (by show q * 256 + 256 ≤ _; omega), hl]
theorem sp_entry {f p : Nat} (hf : f < 1024) (hp : p ≤ 7) : entryOf f p = ((1 + p * 2 + f * 256 : Nat) : Int) ∧ sp (1 + p * 2 + f * 256) = ((f : Int), (p : Int), true) := by
  have h1 : entryOf f p = ((1 + p * 2 + f * 256 : Nat) : Int) := by unfold entryOf; rw [if_pos (by omega)]; omega
  have e1 : (1 + p * 2 + f * 256) / 256 = f := by omega
  have e2 : (1 + p * 2 + f * 256) / 2 % 8 = p := by omega
  refine ⟨h1, ?_⟩
  have hi : isEntry ((1 + p * 2 + f * 256 : Nat) : Int) := by
    refine ⟨by omega, ?_⟩
    rw [show ((1 + p * 2 + f * 256 : Nat) : Int) / 256 = (f : Int) by omega, show ((1 + p * 2 + f * 256 : Nat) : Int) / 2 % 8 = (p : Int) by omega]
    exact h1
  unfold sp
  rw [if_pos hi, e1, e2]
theorem sp_zero : sp 0 = (0, 0, false) := by unfold sp; rw [if_neg (fun h => h.1 rfl)]
end Go.Proofs.YtphljkplokjonaaGreat.Pg
/- Ranges over functions: what an iterator owes (a contract at whatever its yield does), the statement, a round, and what stands at the end of a function that holds such a statement. No program in sight. -/
namespace Go.Sl
open Go Go.RowKit

/-- The record of a loop, in this state. -/
def lst (q : Loop) (s : LoopState) (p : Option Code) : Loop := { q with state := s, pending := p }
/-- The loop l's record. -/
abbrev lrec (l : Nat) (q : Loop) (s : LoopState) (p : Option Code) : HProp := obj l (.loop (lst q s p))
/-- The block of the deferred calls of a loop's rounds. -/
abbrev dblk (d : Nat) : HProp := obj d (.deferred (some []))
/-- A call of the yield of loop l. -/
def YCtr (P : Program) (W0 : World) (l : Nat) (args : List Value) (G : List HProp) {α : Type} (φ : α → Prop) (v : α → Value) (G' : α → List HProp) : Prop :=
  ∀ w, Sat W0 G w → ∃ fn tmps assign body, (Instr.yield l args.toArray).run P w = .ok (.round l fn tmps assign body) w ∧
    RoundIn (Fz none) 0 P l fn tmps assign body w fun e w' => ∃ x, φ x ∧ e = .returned (v x) ∧ Sat W0 (G' x) w'
/-- The value of a loop's yield. -/
abbrev yv (l : Nat) : Value := .func (.yield l) #[] #[]

theorem Sat.put {W0 w : World} {G : List HProp} {b : Nat} {o o' : Obj} {put : HProp → List HProp} (fc : Foc G (obj b o) put) (s : Sat W0 G w) : Sat W0 (put (obj b o')) (w.putObj b o') := by
  obtain ⟨R, x⟩ := foc_ext fc
  refine Sat.write fc s (Sat.get_obj x s) fun f _ hA => ⟨hA, ?_⟩
  unfold obj updH; rw [if_pos rfl]

section
variable {P : Program} {W0 : World} {n : Nat} {ds : List Deferred} {e : Env} {G R : List HProp}

/-- The parameters of a round, in their slots. -/
def zipE : List Nat → List Value → Env → Env
  | p :: ps, v :: vs, e => zipE ps vs ((p, v) :: e)
  | _, _, e => e
theorem At.zip : ∀ {ps : List Nat} {vs : List Value} {e : Env} {a : Act}, At n ds e a → (∀ p ∈ ps, p < n) →
    At n [] (zipE ps vs e) { tmps := (ps.zip vs).foldl (fun t (p, v) => t.setIfInBounds p v) a.tmps, defers := [] }
  | [], _, e, a, h, _ => ⟨h.size, h.slot, rfl⟩
  | p :: ps, [], e, a, h, _ => ⟨h.size, h.slot, rfl⟩
  | p :: ps, v :: vs, e, a, h, hp => At.zip (ps := ps) (vs := vs) (a := a.put (some p) v) (h.put (hp p (by simp))) fun q hq => hp q (by simp [hq])

/-- What a round owes: it goes on (none), or leaves by a jump (some i). -/
def RoundR (W0 : World) {ι : Type} (ψ : ι → Prop) (Y : List HProp) (Z : ι → List HProp) : Ending → World → Prop := fun e w' =>
  ∃ o : Option ι, (match o with | none => True | some i => ψ i) ∧ e = .returned (.bool o.isNone) ∧ Sat W0 (match o with | none => Y | some i => Z i) w'

/-- Between the assignment to the loop's variables and the body. -/
def Begin (P : Program) (l : Nat) (body : Code) (R : Ending → World → Prop) : Act → World → Prop := fun a w => ∃ w₂, (Instr.beginRound l).run P w = .ok () w₂ ∧ body.wpIn (Fz (some l)) 0 P (roundPost P l R) a w₂
theorem QG.begin {l : Nat} {q : Loop} {body : Code} {K : Ending → World → Prop} {Q : Exit → Act → World → Prop} (x : Ext G (lrec l q .ready none) R) (k : CG (some l) P W0 n ds body (roundPost P l K) e (lrec l q .busy none :: R)) :
    QG W0 n ds (Exit.then (Begin P l body K) Q) .normal e G := fun a w ha hw => by
  have h1 := hw.imp x.1
  exact ⟨_, run_beginRound (Sat.get_obj Ext.here h1) rfl, k a _ ha (Sat.put Foc.here h1)⟩

/-- What an iterator owes at whatever its yield makes of Y: it calls it for the elements 0 .. N - 1, as long as it is told to go on. -/
def Hit (P : Program) (W0 : World) (gf : FuncId) (lb : List Value) (N : Nat) (enc : Nat → List Value) (l : Nat) {ι : Type} (ψ : ι → Prop) (Y : Nat → List HProp) (Z : ι → List HProp) : Prop :=
  (∀ k, k < N → YCtr P W0 l (enc k) (Y k) (α := Option ι) (fun o => match o with | none => True | some i => ψ i) (fun o => .bool o.isNone) (fun o => match o with | none => Y (k + 1) | some i => Z i)) →
  Ctr P W0 gf (yv l :: lb) (Y 0) (α := Option ι) (fun o => match o with | none => True | some i => ψ i) (fun _ => .tuple #[]) (fun o => match o with | none => Y N | some i => Z i)

theorem range_core {r : Option Nat} {g : Operand} {ps : List Nat} {assign body : Code} {Q : Exit → Act → World → Prop} {a : Act} {w w1 : World} {D : Nat} {mark : List Deferred} {gf : FuncId} {lb : List Value} {N : Nat} {enc : Nat → List Value} {ι : Type} {ψ : ι → Prop} {jc : ι → Code} {Inv : Nat → List HProp} {Gx : ι → List HProp}
    (hat : At n ds e a) (hg : e.ev g = some (.func (.func gf) #[] lb.toArray)) (hc : CallOK P gf) (hps : ∀ p ∈ ps, p < n) (henc : ∀ k, (enc k).length = ps.length)
    (he : ∀ fn, (Instr.enterLoop fn a.tmps ps.toArray assign body r).run P w = .ok (w1.heap.size, mark) (w1.alloc (.loop { state := .ready, pending := none, fn, tmps := a.tmps, params := ps.toArray, assign, body, defers := D })))
    (hs : Sat W0 (Inv 0) w1)
    (hit : ∀ l q, Hit P W0 gf lb N enc l ψ (fun k => lrec l q .ready none :: Inv k) (fun i => lrec l q .done (some (jc i)) :: Gx i))
    (hround : ∀ l q k, k < N → CG (some l) P W0 n [] assign (Exit.then (Begin P l body (RoundR W0 ψ (lrec l q .ready none :: Inv (k + 1)) (fun i => lrec l q .done (some (jc i)) :: Gx i))) (fun _ _ _ => False)) (zipE ps (enc k) e) (lrec l q .ready none :: Inv k))
    (hdone : ∀ w4, Sat W0 (Inv N) w4 → Q .normal { a with defers := mark ++ a.defers } w4)
    (hstop : ∀ i w4, ψ i → Sat W0 (Gx i) w4 → (jc i).wpIn (Fz r) 0 P Q { a with defers := mark ++ a.defers } w4) :
    (Code.rangeFunc g ps.toArray assign body).wpIn (Fz r) 0 P Q a w := by
  refine wpIn_rangeFunc ?_
  intro fn hfn
  obtain ⟨q, hq⟩ : ∃ q : Loop, q = { state := .ready, pending := none, fn, tmps := a.tmps, params := ps.toArray, assign, body, defers := D } := ⟨_, rfl⟩
  have hq0 : lst q .ready none = q := by rw [hq]; rfl
  obtain ⟨W1, hW1⟩ : ∃ W1, w1.alloc (.loop q) = W1 := ⟨_, rfl⟩
  have hev := hat.agrees _ _ hg
  obtain ⟨fn', c, hf1, hb1, hn1⟩ := hc
  have hs1 : Sat W0 (lrec w1.heap.size q .ready none :: Inv 0) W1 := by
    have := hs.new (.loop (lst q .ready none)); rw [hq0] at this; rw [← hW1, lrec, hq0]; exact this
  refine ⟨w1.heap.size, mark, W1, { target := .fn (.func gf) lb.toArray, args := #[yv w1.heap.size] }, W1, gf, (yv w1.heap.size :: lb).toArray, W1, ?_, ?_, ?_, ?_, (fun h => by cases h), ?_⟩
  · rw [← hW1, hq]; exact he fn
  · simp only [resolve, hev]
    simp [go_sem, Act.eval]
  · intro f' _; trivial
  · have h3 := callFunc_run hf1 hb1 hn1 (yv w1.heap.size :: lb).toArray W1
    have h4 : #[yv w1.heap.size] ++ lb.toArray = (yv w1.heap.size :: lb).toArray := by simp
    simp only [invoke, h4]; exact h3
  · refine CallsIn.mono (callsFz (hit w1.heap.size q ?_ W1 hs1)) ?_
    · intro k hk W hW
      have hl : W.heap[w1.heap.size]? = some (.loop q) := by have := Sat.get_obj Ext.here hW; rw [hq0] at this; exact this
      have hy := run_yield (P := P) (args := (enc k).toArray) hl (by rw [hq]; simpa using henc k)
      rw [hq] at hy
      refine ⟨fn, _, assign, body, hy, roundIn_of_wpIn hfn ?_⟩
      have hz := At.zip (vs := enc k) hat hps
      have hzz : (ps.toArray.zip (enc k).toArray).foldl (fun t (p, v) => t.setIfInBounds p v) a.tmps = (ps.zip (enc k)).foldl (fun t (p, v) => t.setIfInBounds p v) a.tmps := by simp
      dsimp only
      rw [hzz]
      exact hround w1.heap.size q k hk _ _ hz hW
    · rintro e' w3 ⟨o, ho, rfl, hs3⟩
      cases o with
      | none =>
        have hl : w3.heap[w1.heap.size]? = some (.loop (lst q .ready none)) := Sat.get_obj Ext.here hs3
        refine ⟨none, _, run_endLoop hl (by simp [lst]), hdone _ ?_⟩
        exact (Sat.put (o' := .loop { lst q .ready none with state := .exhausted }) Foc.here hs3).imp Imp.drop
      | some i =>
        have hl : w3.heap[w1.heap.size]? = some (.loop (lst q .done (some (jc i)))) := Sat.get_obj Ext.here hs3
        refine ⟨some (jc i), _, run_endLoop hl (by simp [lst]), hstop i _ ho ?_⟩
        exact (Sat.put (o' := .loop { lst q .done (some (jc i)) with state := .exhausted }) Foc.here hs3).imp Imp.drop

/-- The mark that a range over a function leaves among the deferred calls. -/
def mk1 (D : Nat) : Deferred := { target := .collected D, args := #[] }

/-- A range over a function, in no other one's body. -/
theorem CG.range {g : Operand} {ps : List Nat} {assign body : Code} {Q : Exit → Act → World → Prop} {gf : FuncId} {lb : List Value} {ι : Type} (N : Nat) (enc : Nat → List Value) (ψ : ι → Prop) (jc : ι → Code) (Inv : Nat → List HProp) (Gx : ι → List HProp)
    (hg : e.ev g = some (.func (.func gf) #[] lb.toArray)) (hc : CallOK P gf) (hps : ps.all (fun p => Nat.ble (p + 1) n) = true) (henc : ∀ k, (enc k).length = ps.length) (hG : Imp G (Inv 0))
    (hit : ∀ D l q, Hit P W0 gf lb N enc l ψ (fun k => lrec l q .ready none :: dblk D :: Inv k) (fun i => lrec l q .done (some (jc i)) :: dblk D :: Gx i))
    (hround : ∀ D l q k, k < N → CG (some l) P W0 n [] assign (Exit.then (Begin P l body (RoundR W0 ψ (lrec l q .ready none :: dblk D :: Inv (k + 1)) (fun i => lrec l q .done (some (jc i)) :: dblk D :: Gx i))) (fun _ _ _ => False)) (zipE ps (enc k) e) (lrec l q .ready none :: dblk D :: Inv k))
    (hdone : ∀ D, QG W0 n (mk1 D :: ds) Q .normal e (dblk D :: Inv N))
    (hstop : ∀ D i, ψ i → CG none P W0 n (mk1 D :: ds) (jc i) Q e (dblk D :: Gx i)) :
    CG none P W0 n ds (.rangeFunc g ps.toArray assign body) Q e G := fun a w ha hw => by
  have h2 : At n (mk1 w.heap.size :: ds) e { a with defers := [mk1 w.heap.size] ++ a.defers } := ⟨ha.size, ha.slot, by simp [ha.defers]⟩
  refine range_core (D := w.heap.size) (mark := [mk1 w.heap.size]) (w1 := w.alloc (.deferred (some []))) (Inv := fun k => dblk w.heap.size :: Inv k) (Gx := fun i => dblk w.heap.size :: Gx i) ha hg hc (fun p hp => Nat.le_of_ble_eq_true (List.all_eq_true.1 hps p hp)) henc ?_ ?_ (hit _) (hround _) ?_ ?_
  · intro fn
    have := run_enterLoop_outer (P := P) (w := w) fn a.tmps ps.toArray assign body
    rw [this]
    simp [mk1]
  · exact (hw.imp hG).new _
  · intro w4 h4; exact hdone _ _ _ h2 h4
  · intro i w4 hi h4; exact hstop _ i hi _ _ h2 h4
/-- A contract of an iterator, said of other lists. -/
theorem Hit.conv {gf : FuncId} {lb : List Value} {N : Nat} {enc : Nat → List Value} {l : Nat} {ι : Type} {ψ : ι → Prop} {Y Y2 : Nat → List HProp} {Z Z2 : ι → List HProp} (h : Hit P W0 gf lb N enc l ψ Y2 Z2)
    (h1 : ∀ k, Imp (Y k) (Y2 k)) (h2 : ∀ k, Imp (Y2 k) (Y k)) (h3 : ∀ i, Imp (Z i) (Z2 i)) (h4 : ∀ i, Imp (Z2 i) (Z i)) : Hit P W0 gf lb N enc l ψ Y Z := fun hy w hw => by
  refine (h (fun k hk w hw => ?_) w (hw.imp (h1 0))).mono ?_
  · obtain ⟨fn, tmps, assign, body, hr, hR⟩ := hy k hk w (hw.imp (h2 k))
    refine ⟨fn, tmps, assign, body, hr, hR.mono ?_⟩
    rintro e w' ⟨o, ho, he, hs⟩
    refine ⟨o, ho, he, ?_⟩
    cases o with
    | none => exact hs.imp (h1 _)
    | some i => exact hs.imp (h3 i)
  · rintro e w' ⟨o, ho, he, hs⟩
    refine ⟨o, ho, he, ?_⟩
    cases o with
    | none => exact hs.imp (h2 _)
    | some i => exact hs.imp (h4 i)
end
end Go.Sl
/- package page: Pages, the iterator over all pages of a root. -/
namespace Go.Proofs.YtphljkplokjonaaGreat.Pg
open Go Go.Sl Go.RowKit Go.Proofs Go.Proofs.YtphljkplokjonaaGreat.T Go.Proofs.YtphljkplokjonaaGreat.Me Go.Proofs.YtphljkplokjonaaGreat.Pe
set_option maxRecDepth 100000
/-- The page p, if it is there, with its frame. -/
def pl (n : Nat) (bs : List UInt8) (root p : Nat) : List (Nat × Int) := if (walkR n bs root p).2.2 = 0 then [(p, (walkR n bs root p).1)] else []
/-- All pages below p. -/
def pagesTo (n : Nat) (bs : List UInt8) (root : Nat) : Nat → List (Nat × Int)
  | 0 => []
  | p + 1 => pagesTo n bs root p ++ pl n bs root p
section
variable {n : Nat} {bs : List UInt8} {root : Nat}
end
/-- All pages. -/
def pages (n : Nat) (bs : List UInt8) (root : Nat) : List (Nat × Int) := pagesTo n bs root 4096
section
variable (W0 : World) (Fr : List HProp)
end
end Go.Proofs.YtphljkplokjonaaGreat.Pg
/- package page: tables as maps from groups to frames, and from pages to frames and rights: what stores do to them. Plain law. -/
namespace Go.Proofs.YtphljkplokjonaaGreat.Pg
open Go Go.Sl Go.RowKit Go.Proofs Go.Proofs.YtphljkplokjonaaGreat.T Go.Proofs.YtphljkplokjonaaGreat.Me Go.Proofs.YtphljkplokjonaaGreat.Pe
set_option maxRecDepth 100000
/-- What an entry's word says: the frame and the rights. -/
def ent (w : Nat) : Option (Nat × Nat) := if (sp w).2.2 = true then some ((sp w).1.toNat, (sp w).2.1.toNat) else none
theorem sp_ent (w : Nat) : sp w = match ent w with | some x => ((x.1 : Int), (x.2 : Int), true) | none => (0, 0, false) := by
  unfold ent sp
  split
  · simp; omega
  · simp
theorem ent_zero : ent 0 = none := by unfold ent; rw [sp_zero]; rfl
theorem ent_entry {f p : Nat} (hf : f < 1024) (hp : p ≤ 7) : ent (entryOf f p).toNat = some (f, p) := by
  obtain ⟨h1, h2⟩ := sp_entry hf hp
  rw [h1, Int.toNat_natCast]; unfold ent; rw [h2]; simp
theorem entry_mod (f p : Int) : (entryOf f p).toNat % 4294967296 = (entryOf f p).toNat := Nat.mod_eq_of_lt (by have := entryOf_range f p; omega)
/-- The second table of a group of 64 pages. -/
def tab (n : Nat) (bs : List UInt8) (root g : Nat) : Option Nat := (ent (word bs root g)).bind fun x => if x.1 < n then some x.1 else none
/-- A page's frame and rights. -/
def wk (n : Nat) (bs : List UInt8) (root p : Nat) : Option (Nat × Nat) := (tab n bs root (p / 64)).bind fun q => ent (word bs q (p % 64))
theorem secR_tab {n : Nat} {bs : List UInt8} {root p : Nat} : (secR n bs root p).2 = (tab n bs root (p / 64)).isSome ∧ ∀ q, tab n bs root (p / 64) = some q → (secR n bs root p).1 = q := by
  unfold secR tab
  rw [sp_ent]
  cases ent (word bs root (p / 64)) with
  | none => exact ⟨rfl, fun q h => (by cases h)⟩
  | some x =>
    simp only [Option.bind_some, Bool.true_and]
    by_cases hx : x.1 < n
    · rw [if_pos hx]; exact ⟨by simp [hx], fun q h => (by cases h; rfl)⟩
    · rw [if_neg hx]; exact ⟨by simp [hx], fun q h => (by cases h)⟩
theorem tab_lt {n : Nat} {bs : List UInt8} {root g q : Nat} (h : tab n bs root g = some q) : q < n := by
  unfold tab at h
  cases hx : ent (word bs root g) with
  | none => rw [hx] at h; cases h
  | some x =>
    rw [hx] at h
    simp only [Option.bind_some] at h
    split at h
    · cases h; assumption
    · cases h
theorem walkR_wk {n : Nat} {bs : List UInt8} {root p : Nat} : walkR n bs root p = match wk n bs root p with | some x => ((x.1 : Int), (x.2 : Int), 0) | none => (0, 0, 90) := by
  obtain ⟨h1, h2⟩ := secR_tab (n := n) (bs := bs) (root := root) (p := p)
  unfold walkR wk
  cases ht : tab n bs root (p / 64) with
  | none => rw [ht] at h1; rw [h1]; simp
  | some q =>
    rw [ht] at h1
    rw [h1, h2 q ht, Int.toNat_natCast, sp_ent]
    simp only [Option.bind_some]
    cases ent (word bs q (p % 64)) <;> simp
theorem walkR_some {n : Nat} {bs : List UInt8} {root p : Nat} {x : Nat × Nat} (h : wk n bs root p = some x) : walkR n bs root p = ((x.1 : Int), (x.2 : Int), 0) := by rw [walkR_wk, h]
theorem walkR_none {n : Nat} {bs : List UInt8} {root p : Nat} (h : wk n bs root p = none) : walkR n bs root p = (0, 0, 90) := by rw [walkR_wk, h]
theorem setR_tab {n : Nat} {bs : List UInt8} {root p e q : Nat} {spare : Int} (h : tab n bs root (p / 64) = some q) : setR n bs root p e spare = (false, 0, stW bs q (p % 64) e) := by
  obtain ⟨h1, h2⟩ := secR_tab (n := n) (bs := bs) (root := root) (p := p)
  unfold setR; rw [h1, h2 q h, h]; simp
theorem setR_new {n : Nat} {bs : List UInt8} {root p e q : Nat} (h : tab n bs root (p / 64) = none) (hq : q < n) : setR n bs root p e q = (true, 0, stW (stW (overB bs (q * 256) (fillB [])) root (p / 64) (entryOf q 0).toNat) q (p % 64) e) := by
  obtain ⟨h1, h2⟩ := secR_tab (n := n) (bs := bs) (root := root) (p := p)
  unfold setR; rw [h1, h, if_neg (by decide), if_pos (by omega), Int.toNat_natCast]
/-- The tables of a root are frames of their own. -/
structure Tree (n : Nat) (bs : List UInt8) (root : Nat) : Prop where
  len : bs.length = n * 256
  rt : root < n
  nr : ∀ g, g < 64 → tab n bs root g ≠ some root
  inj : ∀ g g' q, g < 64 → g' < 64 → tab n bs root g = some q → tab n bs root g' = some q → g = g'
/-- The frame t has the same words in both. -/
def same (bs cs : List UInt8) (t : Nat) : Prop := ∀ i, i < 64 → word cs t i = word bs t i
theorem tab_same {n : Nat} {bs cs : List UInt8} {root g : Nat} (h : same bs cs root) (hg : g < 64) : tab n cs root g = tab n bs root g := by unfold tab; rw [h g hg]
theorem wk_same {n : Nat} {bs cs : List UInt8} {root p : Nat} (h : same bs cs root) (hp : p < 4096) (hs : ∀ q, tab n bs root (p / 64) = some q → same bs cs q) : wk n cs root p = wk n bs root p := by
  unfold wk
  rw [tab_same h (by omega)]
  cases ht : tab n bs root (p / 64) with
  | none => rfl
  | some q => simp only [Option.bind_some]; rw [hs q ht _ (by omega)]
theorem Tree.other {n : Nat} {bs cs : List UInt8} {root : Nat} (T : Tree n bs root) (hl : cs.length = n * 256) (h : same bs cs root) (hs : ∀ g q, g < 64 → tab n bs root g = some q → same bs cs q) :
    Tree n cs root ∧ (∀ g, g < 64 → tab n cs root g = tab n bs root g) ∧ ∀ p, p < 4096 → wk n cs root p = wk n bs root p :=
  ⟨⟨hl, T.rt, fun g hg => by rw [tab_same h hg]; exact T.nr g hg, fun g g' q hg hg' => by rw [tab_same h hg, tab_same h hg']; exact T.inj g g' q hg hg'⟩, fun g hg => tab_same h hg, fun p hp => wk_same h hp fun q hq => hs _ q (by omega) hq⟩
theorem same_st {n : Nat} {bs : List UInt8} {t i v t' : Nat} (hl : bs.length = n * 256) (ht : t < n) (hi : i < 64) (ht' : t' < n) (hne : t' ≠ t) : same bs (stW bs t i v) t' := fun i' hi' => by
  rw [word_st hl ht hi ht' hi', if_neg (by omega)]
theorem same_fill {n : Nat} {bs : List UInt8} {q t' : Nat} (hl : bs.length = n * 256) (hq : q < n) (ht' : t' < n) (hne : t' ≠ q) : same bs (overB bs (q * 256) (fillB [])) t' := fun i' hi' => by
  rw [word_fill hl hq ht' hi', if_neg hne]
/-- A word is stored into a second table. -/
theorem Tree.st {n : Nat} {bs : List UInt8} {root p q : Nat} (T : Tree n bs root) (hp : p < 4096) (hq : tab n bs root (p / 64) = some q) (v : Nat) :
    Tree n (stW bs q (p % 64) v) root ∧ (∀ g, g < 64 → tab n (stW bs q (p % 64) v) root g = tab n bs root g) ∧ ∀ p', p' < 4096 → wk n (stW bs q (p % 64) v) root p' = if p' = p then ent (v % 4294967296) else wk n bs root p' := by
  have hi : p % 64 < 64 := Nat.mod_lt _ (by decide)
  have hqn := tab_lt hq
  have hne : root ≠ q := fun h => T.nr (p / 64) (by omega) (by rw [hq, h])
  have hr := same_st (v := v) T.len hqn hi T.rt hne
  refine ⟨⟨stW_len T.len hqn hi, T.rt, fun g hg => by rw [tab_same hr hg]; exact T.nr g hg, fun g g' q' hg hg' => by rw [tab_same hr hg, tab_same hr hg']; exact T.inj g g' q' hg hg'⟩, fun g hg => tab_same hr hg, fun p' hp' => ?_⟩
  unfold wk
  rw [tab_same hr (by omega)]
  cases ht : tab n bs root (p' / 64) with
  | none => rw [if_neg (by rintro rfl; rw [hq] at ht; cases ht)]; rfl
  | some q' =>
    simp only [Option.bind_some]
    rw [word_st T.len hqn hi (tab_lt ht) (by omega)]
    by_cases h : p' = p
    · subst h
      rw [hq] at ht; cases ht
      rw [if_pos ⟨rfl, rfl⟩, if_pos rfl]
    · rw [if_neg h, if_neg]
      rintro ⟨rfl, h2⟩
      have := T.inj _ _ _ (by omega) (by omega) hq ht
      omega
/-- A second table is laid. -/
theorem Tree.new {n : Nat} {bs : List UInt8} {root p q : Nat} (T : Tree n bs root) (hn : n ≤ 1024) (hp : p < 4096) (hq : tab n bs root (p / 64) = none) (hqn : q < n) (hqr : q ≠ root) (hfr : ∀ g, g < 64 → tab n bs root g ≠ some q) (v : Nat) :
    Tree n (stW (stW (overB bs (q * 256) (fillB [])) root (p / 64) (entryOf q 0).toNat) q (p % 64) v) root ∧
    (∀ g, g < 64 → tab n (stW (stW (overB bs (q * 256) (fillB [])) root (p / 64) (entryOf q 0).toNat) q (p % 64) v) root g = if g = p / 64 then some q else tab n bs root g) ∧
    ∀ p', p' < 4096 → wk n (stW (stW (overB bs (q * 256) (fillB [])) root (p / 64) (entryOf q 0).toNat) q (p % 64) v) root p' = if p' = p then ent (v % 4294967296) else wk n bs root p' := by
  have hi : p / 64 < 64 := by omega
  have hl1 := fill_len T.len hqn
  have hl2 := stW_len (v := (entryOf q 0).toNat) hl1 T.rt hi
  have w1 : ∀ t i, t < n → i < 64 → word (stW (overB bs (q * 256) (fillB [])) root (p / 64) (entryOf q 0).toNat) t i = if t = root ∧ i = p / 64 then (entryOf q 0).toNat else if t = q then 0 else word bs t i := fun t i ht hi' => by
    rw [word_st hl1 T.rt hi ht hi', entry_mod, word_fill T.len hqn ht hi']
  generalize hB : stW (overB bs (q * 256) (fillB [])) root (p / 64) (entryOf q 0).toNat = B at w1 hl2 ⊢
  have ht : ∀ g, g < 64 → tab n B root g = if g = p / 64 then some q else tab n bs root g := fun g hg => by
    unfold tab
    rw [w1 root g T.rt hg]
    by_cases h : g = p / 64
    · rw [if_pos ⟨rfl, h⟩, if_pos h, show (entryOf (q : Int) 0) = entryOf (q : Int) ((0 : Nat) : Int) from rfl, ent_entry (by omega) (by decide)]
      simp [hqn]
    · rw [if_neg (by omega), if_neg (Ne.symm hqr), if_neg h]
  have T2 : Tree n B root := by
    refine ⟨hl2, T.rt, fun g hg => ?_, fun g g' q' hg hg' h1 h2 => ?_⟩
    · rw [ht g hg]; split
      · exact fun h => hqr (Option.some.inj h)
      · exact T.nr g hg
    · rw [ht g hg] at h1; rw [ht g' hg'] at h2
      split at h1 <;> split at h2
      · omega
      · cases h1; exact absurd h2 (hfr g' hg')
      · cases h2; exact absurd h1 (hfr g hg)
      · exact T.inj g g' q' hg hg' h1 h2
  have hw : ∀ p', p' < 4096 → wk n B root p' = wk n bs root p' := fun p' hp' => by
    unfold wk
    rw [ht (p' / 64) (by omega)]
    by_cases h : p' / 64 = p / 64
    · rw [if_pos h, h, hq]
      simp only [Option.bind_some, Option.bind_none]
      rw [w1 q _ hqn (by omega), if_neg (by omega), if_pos rfl, ent_zero]
    · rw [if_neg h]
      cases hq' : tab n bs root (p' / 64) with
      | none => rfl
      | some q' =>
        simp only [Option.bind_some]
        rw [w1 q' _ (tab_lt hq') (by omega), if_neg (fun h => T.nr (p' / 64) (by omega) (by rw [hq', h.1])), if_neg (fun h => hfr (p' / 64) (by omega) (by rw [hq', h]))]
  obtain ⟨a1, a2, a3⟩ := T2.st hp (by rw [ht _ hi, if_pos rfl]) v
  exact ⟨a1, fun g hg => by rw [a2 g hg, ht g hg], fun p' hp' => by rw [a3 p' hp', hw p' hp']⟩
end Go.Proofs.YtphljkplokjonaaGreat.Pg
/- frames.Frames as the list of the frames' owners and the quotas: what each function does. -/
namespace Go.Proofs.YtphljkplokjonaaGreat.Fz
open Go Go.Sl Go.RowKit Go.Proofs Go.Proofs.YtphljkplokjonaaGreat.T
set_option maxRecDepth 100000
/-- Numbers as cells. -/
def iv (l : List Int) : List Value := l.map (Value.int .i64)
theorem iv_len (l : List Int) : (iv l).length = l.length := by simp [iv]
theorem iv_get {l : List Int} {i : Nat} {x : Int} (h : l[i]? = some x) : (iv l)[i]? = some (.int .i64 x) := by simp [iv, h]
theorem iv_ones (l : List Int) : ∀ v ∈ iv l, one v = true := by intro v hv; simp only [iv, List.mem_map] at hv; obtain ⟨x, _, rfl⟩ := hv; rfl
theorem iv_append (a b : List Int) : iv (a ++ b) = iv a ++ iv b := by simp [iv]
theorem iv_set (l : List Int) (i : Nat) (x : Int) : (iv l).set i (.int .i64 x) = iv (l.set i x) := by simp [iv, List.map_set]
abbrev oiv (a : Option Addr) (c : Nat) (xs : List Int) : HProp := osl 3 1 a c xs.length (iv xs)
/-- How many frames somebody owns. -/
def cnt (own : List Int) (p : Int) : Nat := own.count p
/-- What New says to a number of frames and quotas. -/
def nerr (total : Int) (qs : List Int) : Int := if total < 1 ∨ 1024 < total then 2 else if 8 < qs.length then 9 else if ∃ q ∈ qs, q < 0 ∨ 1024 < q then 2 else if total < qs.sum then 141 else 0
/-- The frames are owned as they may be. -/
structure Inv (own qs : List Int) : Prop where
  tot : 1 ≤ own.length ∧ own.length ≤ 1024
  ql : qs.length ≤ 8
  who : ∀ x ∈ own, x = -1 ∨ (0 ≤ x ∧ x < qs.length)
  few : ∀ (k : Nat) (q : Int), qs[k]? = some q → (cnt own k : Int) ≤ q
  sum : qs.sum ≤ own.length
theorem cnt_le (own : List Int) (p : Int) : cnt own p ≤ own.length := List.count_le_length
theorem cnt_pos {own : List Int} {p : Int} {i : Nat} (h : own[i]? = some p) : 0 < cnt own p := List.count_pos_iff.2 (List.mem_of_getElem? h)
theorem cnt_take {own : List Int} {p x : Int} {i : Nat} (h : own[i]? = some x) : cnt (own.take (i + 1)) p = cnt (own.take i) p + if x = p then 1 else 0 := by
  obtain ⟨hi, rfl⟩ := List.getElem?_eq_some_iff.1 h
  unfold cnt
  rw [List.take_succ_eq_append_getElem hi, List.count_append, List.count_singleton]
  by_cases hx : own[i] = p <;> simp [hx]
theorem cnt_set {own : List Int} {i : Nat} {x y p : Int} (h : own[i]? = some x) : cnt (own.set i y) p = cnt own p - (if x = p then 1 else 0) + if y = p then 1 else 0 := by
  obtain ⟨hi, rfl⟩ := List.getElem?_eq_some_iff.1 h
  unfold cnt
  rw [List.count_set hi]
  simp only [beq_iff_eq]
/-- How many are owned by somebody below m. -/
theorem below_sum (own qs : List Int) (hf : ∀ (k : Nat) (q : Int), qs[k]? = some q → (cnt own k : Int) ≤ q) : ∀ m, m ≤ qs.length → ((own.countP fun x => decide (0 ≤ x ∧ x < (m : Int)) : Nat) : Int) ≤ (qs.take m).sum ∧
    ∀ (p : Nat) (q : Int), p < m → qs[p]? = some q → (cnt own p : Int) < q → ((own.countP fun x => decide (0 ≤ x ∧ x < (m : Int)) : Nat) : Int) < (qs.take m).sum
  | 0, _ => by
    have : own.countP (fun x => decide (0 ≤ x ∧ x < ((0 : Nat) : Int))) = 0 := by rw [List.countP_eq_zero]; intro x _; simp only [decide_eq_true_eq]; omega
    rw [this]; exact ⟨by simp, fun p q h => absurd h (Nat.not_lt_zero _)⟩
  | m + 1, hm => by
    obtain ⟨ih1, ih2⟩ := below_sum own qs hf m (by omega)
    have hget : qs[m]? = some qs[m] := by simp [show m < qs.length by omega]
    have e : own.countP (fun x => decide (0 ≤ x ∧ x < ((m + 1 : Nat) : Int))) = own.countP (fun x => decide (0 ≤ x ∧ x < (m : Int))) + cnt own m := by
      clear ih1 ih2 hf
      unfold cnt
      induction own with
      | nil => rfl
      | cons x l ih =>
        rw [List.countP_cons, List.countP_cons, List.count_cons, ih]
        by_cases h1 : 0 ≤ x ∧ x < (m : Int)
        · rw [if_pos (by simp; omega), if_pos (by simp; omega), if_neg (by simp; omega)]; omega
        · by_cases h2 : x = (m : Int)
          · rw [if_pos (by simp; omega), if_neg (by simp; omega), if_pos (by simp; omega)]; omega
          · rw [if_neg (by simp; omega), if_neg (by simp; omega), if_neg (by simp; omega)]; omega
    have es : (qs.take (m + 1)).sum = (qs.take m).sum + qs[m] := by rw [List.take_succ_eq_append_getElem (by omega), List.sum_append]; simp
    have hq := hf m _ hget
    rw [e, es]
    refine ⟨by omega, fun p q hp hpq hc => ?_⟩
    rcases Nat.lt_or_ge p m with h | h
    · have := ih2 p q h hpq hc; omega
    · have : p = m := by omega
      subst this
      rw [hget] at hpq
      have := Option.some.inj hpq
      omega
/-- Who may have more finds a free frame. -/
theorem free_frame {own qs : List Int} (h : Inv own qs) {p : Nat} {q : Int} (hp : qs[p]? = some q) (hc : (cnt own p : Int) < q) : ∃ n, own.findIdx? (fun x => decide (x = -1)) = some n ∧ own[n]? = some (-1) := by
  have hpl := (List.getElem?_eq_some_iff.1 hp).1
  have hb := (below_sum own qs h.few qs.length (Nat.le_refl _)).2 p q hpl hp hc
  rw [List.take_length] at hb
  cases hf : own.findIdx? (fun x => decide (x = -1)) with
  | some n =>
    obtain ⟨h1, h2, _⟩ := List.findIdx?_eq_some_iff_getElem.1 hf
    exact ⟨n, rfl, by simp only [decide_eq_true_eq] at h2; simp [h1, h2]⟩
  | none =>
    exfalso
    have hall : own.countP (fun x => decide (0 ≤ x ∧ x < (qs.length : Int))) = own.length := by
      rw [List.countP_eq_length]
      intro x hx
      have h1 := List.findIdx?_eq_none_iff.1 hf x hx
      have h2 := h.who x hx
      simp only [decide_eq_false_iff_not] at h1
      simp only [decide_eq_true_eq]
      rcases h2 with h2 | h2
      · exact absurd h2 h1
      · exact h2
    rw [hall] at hb
    have := h.sum
    omega
theorem inv_take {own qs : List Int} (h : Inv own qs) {p n : Nat} {q : Int} (hp : qs[p]? = some q) (hc : (cnt own p : Int) < q) (hn : own[n]? = some (-1)) : Inv (own.set n p) qs := by
  have hpl := (List.getElem?_eq_some_iff.1 hp).1
  refine ⟨by rw [List.length_set]; exact h.tot, h.ql, fun x hx => ?_, fun k r hk => ?_, by rw [List.length_set]; exact h.sum⟩
  · rcases List.mem_or_eq_of_mem_set hx with hx | rfl
    · exact h.who x hx
    · exact .inr ⟨by omega, by omega⟩
  · rw [cnt_set hn, if_neg (by omega), Nat.sub_zero]
    have := h.few k r hk
    by_cases hkp : (p : Int) = (k : Int)
    · have : p = k := by omega
      subst this
      rw [hp] at hk; have := Option.some.inj hk
      rw [if_pos rfl]; omega
    · rw [if_neg hkp]; omega
theorem inv_give {own qs : List Int} (h : Inv own qs) {n : Nat} {x : Int} (hn : own[n]? = some x) : Inv (own.set n (-1)) qs := by
  refine ⟨by rw [List.length_set]; exact h.tot, h.ql, fun y hy => ?_, fun k r hk => ?_, by rw [List.length_set]; exact h.sum⟩
  · rcases List.mem_or_eq_of_mem_set hy with hy | rfl
    · exact h.who y hy
    · exact .inl rfl
  · rw [cnt_set hn, if_neg (show ¬ (-1 : Int) = (k : Int) by omega)]
    have := h.few k r hk
    have : cnt own k - (if x = (k : Int) then 1 else 0) ≤ cnt own k := Nat.sub_le _ _
    omega
theorem inv_new {total : Nat} {qs : List Int} (h : nerr total qs = 0) : Inv (List.replicate total (-1)) qs := by
  unfold nerr at h
  split at h
  · cases h
  · split at h
    · cases h
    · split at h
      · cases h
      · split at h
        · cases h
        · rename_i h1 h2 h3 h4
          refine ⟨by rw [List.length_replicate]; omega, by omega, fun x hx => .inl (List.eq_of_mem_replicate hx), fun k q hk => ?_, by rw [List.length_replicate]; omega⟩
          have : cnt (List.replicate total (-1)) k = 0 := by
            unfold cnt; rw [List.count_eq_zero]; intro hm; have := List.eq_of_mem_replicate hm; omega
          rw [this]
          have hm := List.mem_of_getElem? hk
          rcases Int.lt_or_le q 0 with h5 | h5
          · exact absurd ⟨q, hm, .inl h5⟩ h3
          · exact h5
theorem nerr_ok {total : Int} {qs : List Int} (h : nerr total qs = 0) : (1 ≤ total ∧ total ≤ 1024) ∧ qs.length ≤ 8 ∧ (∀ q ∈ qs, 0 ≤ q ∧ q ≤ 1024) ∧ qs.sum ≤ total := by
  unfold nerr at h
  split at h
  · cases h
  · split at h
    · cases h
    · split at h
      · cases h
      · split at h
        · cases h
        · rename_i h1 h2 h3 h4
          refine ⟨by omega, by omega, fun q hq => ?_, by omega⟩
          by_cases h5 : q < 0 ∨ 1024 < q
          · exact absurd ⟨q, hq, h5⟩ h3
          · omega
theorem sum_bound (qs : List Int) (h : ∀ q ∈ qs, 0 ≤ q ∧ q ≤ 1024) : 0 ≤ qs.sum ∧ qs.sum ≤ 1024 * qs.length := by
  induction qs with
  | nil => simp
  | cons q qs ih =>
    have h1 := h q (by simp)
    have h2 := ih fun x hx => h x (by simp [hx])
    rw [List.sum_cons, List.length_cons]; omega
abbrev PA := Option Addr × Nat
/-- The owners, and that the frames behind the last one are nobody's. -/
def owC (own : List Int) : List Value := iv (own ++ List.replicate (1024 - own.length) (-1))
theorem owC_len {own : List Int} (h : own.length ≤ 1024) : (owC own).length = 1024 := by unfold owC; rw [iv_len]; simp; omega
theorem owC_get {own : List Int} {i : Nat} {x : Int} (h : own[i]? = some x) : (owC own)[i]? = some (.int .i64 x) := by
  unfold owC; exact iv_get (by rw [List.getElem?_append_left (List.getElem?_eq_some_iff.1 h).1]; exact h)
theorem owC_set {own : List Int} {i : Nat} (x : Int) (h : i < own.length) : (owC own).set i (.int .i64 x) = owC (own.set i x) := by
  unfold owC; rw [iv_set, List.set_append_left _ _ h, List.length_set]
abbrev fcells (own qs : List Int) (p : PA) : List Value := owC own ++ [.int .i64 own.length, .slice p.1 qs.length p.2]
theorem fc_get {own qs : List Int} {p : PA} {i : Nat} {x : Int} (hl : own.length ≤ 1024) (h : own[i]? = some x) : (fcells own qs p)[i]? = some (.int .i64 x) := by
  have := (List.getElem?_eq_some_iff.1 h).1
  unfold fcells; rw [List.getElem?_append_left (by rw [owC_len hl]; omega)]; exact owC_get h
theorem fc_tot {own qs : List Int} {p : PA} (hl : own.length ≤ 1024) : (fcells own qs p)[1024]? = some (.int .i64 own.length) := by
  unfold fcells; rw [List.getElem?_append_right (by rw [owC_len hl]; omega), owC_len hl]; rfl
theorem fc_qs {own qs : List Int} {p : PA} (hl : own.length ≤ 1024) : (fcells own qs p)[1025]? = some (.slice p.1 qs.length p.2) := by
  unfold fcells; rw [List.getElem?_append_right (by rw [owC_len hl]; omega), owC_len hl]; rfl
theorem fc_set {own qs : List Int} {p : PA} {i : Nat} (x : Int) (hl : own.length ≤ 1024) (h : i < own.length) : (fcells own qs p).set i (.int .i64 x) = fcells (own.set i x) qs p := by
  unfold fcells; rw [List.set_append_left _ _ (by rw [owC_len hl]; omega), owC_set x h, List.length_set]
theorem fc_len {own qs : List Int} {p : PA} (hl : own.length ≤ 1024) : (fcells own qs p).length = 1026 := by unfold fcells; rw [List.length_append, owC_len hl]; rfl
abbrev FO (f : Nat) (own qs : List Int) (p : PA) : List HProp := [blk f (fcells own qs p) 226, oiv p.1 p.2 qs]
/-- At block f lie frames. -/
def F (f : Nat) (own qs : List Int) : HProp := fun h => ∃ p : PA, own.length ≤ 1024 ∧ Star (FO f own qs p) h
theorem f_open {f : Nat} {own qs : List Int} (y : Heaplet) (h : F f own qs y) : ∃ p : PA, own.length ≤ 1024 ∧ Star (FO f own qs p) y := h
theorem f_close {f : Nat} {own qs : List Int} {G : List HProp} (p : PA) (hl : own.length ≤ 1024) : Imp (FO f own qs p ++ G) (F f own qs :: G) :=
  Imp.trans star_close (Imp.head fun y hy => ⟨p, hl, hy⟩)
/-- Is it a partition? -/
abbrev isP (qs : List Int) (p : Int) : Prop := 0 ≤ p ∧ p < qs.length
abbrev isF (own : List Int) (n : Int) : Prop := 0 ≤ n ∧ n < own.length
section
variable (W0 : World) (Fr : List HProp)
theorem part_spec {f : Nat} {own qs : List Int} (p : Int) : Ctr Tryz.prog W0 170 [.pointer (some ⟨f, 0, none⟩), .int .i64 p] (F f own qs :: Fr) (fun _ : Unit => True) (fun _ => .bool (decide (isP qs p))) (fun _ => F f own qs :: Fr) := by
  refine Ctr.ex Ext.here f_open ?_
  rintro ⟨a, c⟩ hl
  refine Ctr.imp star_open ?_
  dsimp only [FO, List.cons_append, List.nil_append]
  refine Ctr.of_body Tryz.func170 rfl Tryz.ntmps170 rfl ?_
  refine CG.seq ?_
  refine CG.region ?_
  refine OG.sg rfl rfl ?_
  refine OG.nil ?_
  refine QG.then ?_
  refine CG.seq ?_
  rcases (show p < 0 ∨ (0 ≤ p ∧ ¬ p < qs.length) ∨ (0 ≤ p ∧ p < qs.length) by omega) with hh | hh | hh
  · skip
    refine CG.region ?_
    refine OG.mv rfl rfl ?_
    refine OG.yield Yield.geqA rfl ?_
    refine OG.mv rfl rfl ?_
    refine OG.gn rfl rfl rfl rfl rfl ?_
    refine OG.gn rfl rfl rfl rfl rfl ?_
    refine OG.gn rfl rfl rfl rfl rfl ?_
    refine OG.gn rfl rfl rfl rfl rfl ?_
    refine OG.gn rfl rfl rfl rfl rfl ?_
    refine OG.gn rfl rfl rfl rfl rfl ?_
    refine OG.gn rfl rfl rfl rfl rfl ?_
    refine OG.yield Yield.pickA rfl ?_
    refine OG.sg rfl rfl ?_
    refine OG.nil ?_
    refine QG.then ?_
    refine CG.ret ?_
    exact QG.ret1 rfl rfl () trivial (by rw [decide_eq_false (by omega)]) (Imp.trans iM (f_close (a, c) hl))
  · skip
    refine CG.region ?_
    refine OG.mv rfl rfl ?_
    refine OG.yield Yield.geqA rfl ?_
    refine OG.mv rfl rfl ?_
    refine OG.gy rfl rfl rfl ?_
    refine OG.mv rfl rfl ?_
    refine OG.gy rfl rfl rfl ?_
    refine OG.mv rfl rfl ?_
    refine OG.gy rfl rfl rfl ?_
    refine OG.yield (Yield.nilCheck rfl) rfl ?_
    refine OG.gy rfl rfl rfl ?_
    refine OG.yield (Yield.fieldAddr fa226_2 rfl) rfl ?_
    refine OG.gy rfl rfl rfl ?_
    refine OG.yield (Yield.load (v := .slice a qs.length c) ti80 rfl (Cel.of_blk (b := f) eX (fc_qs hl))) rfl ?_
    refine OG.gy rfl rfl rfl ?_
    refine OG.yield (Yield.len_slice Tryz.underlying80 rfl rfl) rfl ?_
    refine OG.gy rfl rfl rfl ?_
    refine OG.yield Yield.lssA rfl ?_
    refine OG.yield Yield.pickA rfl ?_
    refine OG.sg rfl rfl ?_
    refine OG.nil ?_
    refine QG.then ?_
    refine CG.ret ?_
    exact QG.ret1 rfl rfl () trivial (by rw [decide_eq_false (by omega)]) (Imp.trans iM (f_close (a, c) hl))
  · skip
    refine CG.region ?_
    refine OG.mv rfl rfl ?_
    refine OG.yield Yield.geqA rfl ?_
    refine OG.mv rfl rfl ?_
    refine OG.gy rfl rfl rfl ?_
    refine OG.mv rfl rfl ?_
    refine OG.gy rfl rfl rfl ?_
    refine OG.mv rfl rfl ?_
    refine OG.gy rfl rfl rfl ?_
    refine OG.yield (Yield.nilCheck rfl) rfl ?_
    refine OG.gy rfl rfl rfl ?_
    refine OG.yield (Yield.fieldAddr fa226_2 rfl) rfl ?_
    refine OG.gy rfl rfl rfl ?_
    refine OG.yield (Yield.load (v := .slice a qs.length c) ti80 rfl (Cel.of_blk (b := f) eX (fc_qs hl))) rfl ?_
    refine OG.gy rfl rfl rfl ?_
    refine OG.yield (Yield.len_slice Tryz.underlying80 rfl rfl) rfl ?_
    refine OG.gy rfl rfl rfl ?_
    refine OG.yield Yield.lssA rfl ?_
    refine OG.yield Yield.pickA rfl ?_
    refine OG.sg rfl rfl ?_
    refine OG.nil ?_
    refine QG.then ?_
    refine CG.ret ?_
    exact QG.ret1 rfl rfl () trivial (by rw [decide_eq_true hh]) (Imp.trans iM (f_close (a, c) hl))
theorem count_open {f : Nat} {own qs : List Int} (p : PA) (hl : own.length ≤ 1024) (who : Int) : Ctr Tryz.prog W0 209 [.pointer (some ⟨f, 0, none⟩), .int .i64 who] (blk f (fcells own qs p) 226 :: oiv p.1 p.2 qs :: Fr) (fun _ : Unit => True) (fun _ => .int .i64 (cnt own who)) (fun _ => blk f (fcells own qs p) 226 :: oiv p.1 p.2 qs :: Fr) := by
  obtain ⟨a, c⟩ := p
  dsimp only
  refine Ctr.of_body Tryz.func209 rfl Tryz.ntmps209 rfl ?_
  refine CG.seq ?_
  refine CG.region ?_
  refine OG.sg rfl rfl ?_
  refine OG.nil ?_
  refine QG.then ?_
  refine CG.seq ?_
  refine CG.region ?_
  refine OG.sg rfl rfl ?_
  refine OG.nil ?_
  refine QG.then ?_
  refine CG.seq ?_
  refine CG.seq ?_
  refine CG.draw (.look 0 1 (.look 1 1 (.look 2 1 (.look 3 1 (.look 4 1 (.look 5 1 (.look 6 1 (.look 7 1 (.look 8 1 (.look 9 1 (.done))))))))))) [] [] ([]) ([]) mixed (by kernel_rfl) (Imp.none _) (Imp.none _) ?_
  refine DG.look rfl rfl (Yield.move rfl) rfl ?_
  refine DG.look rfl rfl (Yield.nilCheck rfl) rfl ?_
  refine DG.look rfl rfl (Yield.fieldAddr fa226_0 rfl) rfl ?_
  refine DG.look rfl rfl (Yield.move rfl) rfl ?_
  refine DG.look rfl rfl (Yield.nilCheck rfl) rfl ?_
  refine DG.look rfl rfl (Yield.fieldAddr fa226_1 rfl) rfl ?_
  refine DG.look rfl rfl (Yield.load (v := .int .i64 own.length) ti3 rfl (Cel.of_blk (b := f) eX (fc_tot hl))) rfl ?_
  refine DG.look rfl rfl (Yield.as (Yield.slice_arr Tryz.underlying224 ti3 rfl Bound.none (Bound.some rfl) (by omega) (by omega) (by omega) (by omega)) (v' := .slice (some ⟨f, 0, none⟩) own.length 1024) (by congr 1)) rfl ?_
  refine DG.look rfl rfl (Yield.len_slice Tryz.underlying80 rfl rfl) rfl ?_
  refine DG.look rfl rfl (Yield.move rfl) rfl ?_
  refine DG.done ?_
  refine QG.then ?_
  refine CG.block ?_
  refine CG.loop (fun i : Nat => i ≤ own.length) (fun i => [(1, .int .i64 who), (5, .int .i64 (cnt (own.take i) who)), (15, .slice (some ⟨f, 0, none⟩) own.length 1024), (16, .int .i64 own.length), (17, .int .i64 i)]) (fun _ => FO f own qs (a, c) ++ Fr) (fun i => own.length - i) 0 (Nat.zero_le _) eS (Imp.refl _) ?_
  intro i hi
  dsimp only [FO, List.cons_append, List.nil_append]
  refine CG.seq ?_
  refine CG.region ?_
  refine OG.yield Yield.lssA rfl ?_
  refine OG.nil ?_
  refine QG.then ?_
  refine CG.seq ?_
  refine CG.cond rfl (fun hc => ?_) (fun hc => ?_)
  · try replace hc := of_decide_eq_true hc
    have hi' : i < own.length := by omega
    have hget : own[i]? = some own[i] := by simp [hi']
    generalize own[i] = x at hget
    have hct := cnt_take (p := who) hget
    have hcl := cnt_le (own.take i) who
    rw [List.length_take] at hcl
    refine CG.skip ?_
    refine QG.then ?_
    refine CG.seq ?_
    refine CG.block ?_
    refine CG.seq ?_
    refine CG.region ?_
    refine OG.yield (Yield.index_slice Tryz.underlying80 ti3 rfl rfl (by omega) (by omega)) rfl ?_
    refine OG.yield (Yield.load (v := .int .i64 x) ti3 rfl (Cel.of_blk (b := f) eX (by rw [show 0 + (i : Int).toNat * 1 = i by omega]; exact fc_get hl hget))) rfl ?_
    refine OG.sg rfl rfl ?_
    refine OG.nil ?_
    refine QG.then ?_
    refine CG.seq ?_
    refine CG.region ?_
    refine OG.mv rfl rfl ?_
    refine OG.mv rfl rfl ?_
    refine OG.yield (Yield.eql rfl rfl) rfl ?_
    refine OG.nil ?_
    refine QG.then ?_
    refine CG.cond rfl (fun hc => ?_) (fun hc => ?_)
    · try replace hc := of_decide_eq_true hc
      refine CG.region ?_
      refine OG.mv rfl rfl ?_
      refine OG.yield (Yield.add rfl rfl (w64 (by omega) (by omega))) rfl ?_
      refine OG.sg rfl rfl ?_
      refine OG.nil ?_
      refine QG.block_normal ?_
      refine QG.then ?_
      refine CG.region ?_
      refine OG.yield (Yield.add rfl rfl (w64 (by omega) (by omega))) rfl ?_
      refine OG.mv rfl rfl ?_
      refine OG.nil ?_
      refine QG.next (i + 1) (show i + 1 ≤ own.length by omega) (show own.length - (i + 1) < own.length - i by omega) ?_ iM
      rw [hct, if_pos hc]; exact eS
    · try replace hc := of_decide_eq_false hc
      refine CG.skip ?_
      refine QG.block_normal ?_
      refine QG.then ?_
      refine CG.region ?_
      refine OG.yield (Yield.add rfl rfl (w64 (by omega) (by omega))) rfl ?_
      refine OG.mv rfl rfl ?_
      refine OG.nil ?_
      refine QG.next (i + 1) (show i + 1 ≤ own.length by omega) (show own.length - (i + 1) < own.length - i by omega) ?_ iM
      rw [hct, if_neg hc]; exact eS
  · try replace hc := of_decide_eq_false hc
    refine CG.exit ?_
    refine QG.pass_exit ?_
    refine QG.pass_exit ?_
    refine QG.block_exit ?_
    refine QG.then ?_
    refine CG.seq ?_
    refine CG.region ?_
    refine OG.mv rfl rfl ?_
    refine OG.sg rfl rfl ?_
    refine OG.nil ?_
    refine QG.then ?_
    refine CG.ret ?_
    have : i = own.length := by omega
    subst this
    rw [List.take_length]
    exact QG.ret1 rfl rfl () trivial rfl iM
theorem count_spec {f : Nat} {own qs : List Int} (who : Int) : Ctr Tryz.prog W0 209 [.pointer (some ⟨f, 0, none⟩), .int .i64 who] (F f own qs :: Fr) (fun _ : Unit => True) (fun _ => .int .i64 (cnt own who)) (fun _ => F f own qs :: Fr) := by
  refine Ctr.ex Ext.here f_open ?_
  rintro p hl
  refine Ctr.imp star_open ?_
  exact Ctr.to (count_open W0 Fr p hl who) id (fun _ h => h) (fun _ => rfl) (fun _ => f_close p hl)
/-- How many more a partition may have. -/
def left (own qs : List Int) (p : Int) : Int := match p with
  | .ofNat k => (match qs[k]? with | some q => q - cnt own k | none => 0)
  | .negSucc _ => 0
theorem left_in {own qs : List Int} {k : Nat} {q : Int} (h : qs[k]? = some q) : left own qs k = q - cnt own k := by
  show (match qs[k]? with | some q => q - (cnt own k : Int) | none => 0) = _; rw [h]
theorem left_out {own qs : List Int} {p : Int} (h : ¬ isP qs p) : left own qs p = 0 := by
  cases p with
  | ofNat k =>
    show (match qs[k]? with | some q => q - (cnt own k : Int) | none => 0) = _
    rw [List.getElem?_eq_none (by unfold isP at h; simp only [Int.ofNat_eq_natCast] at h; omega)]
  | negSucc k => rfl
theorem left_spec {f : Nat} {own qs : List Int} (p : Int) (hq : ∀ q ∈ qs, 0 ≤ q ∧ q ≤ 1024) : Ctr Tryz.prog W0 171 [.pointer (some ⟨f, 0, none⟩), .int .i64 p] (F f own qs :: Fr) (fun _ : Unit => True) (fun _ => .int .i64 (left own qs p)) (fun _ => F f own qs :: Fr) := by
  refine Ctr.of_body Tryz.func171 rfl Tryz.ntmps171 rfl ?_
  refine CG.seq ?_
  refine CG.region ?_
  refine OG.sg rfl rfl ?_
  refine OG.nil ?_
  refine QG.then ?_
  refine CG.seq ?_
  refine CG.seq ?_
  rcases (show isP qs p ∨ ¬ isP qs p by omega) with hh | hh
  · skip
    refine CG.region ?_
    refine OG.mv rfl rfl ?_
    refine OG.mv rfl rfl ?_
    refine OG.callo call170 rfl (Imp.refl _) (part_spec W0 Fr p) rfl ?_
    rintro ⟨⟩ -
    first | rw [decide_eq_true hh] | rw [decide_eq_false hh]
    refine OG.yield (Yield.not rfl) rfl ?_
    refine OG.nil ?_
    refine QG.then ?_
    refine CG.cond_f rfl ?_
    refine CG.skip ?_
    refine QG.then ?_
    refine CG.seq ?_
    obtain ⟨k, rfl⟩ : ∃ k : Nat, p = (k : Int) := ⟨p.toNat, by omega⟩
    have hkl : k < qs.length := by omega
    have hgk : qs[k]? = some qs[k] := by simp [hkl]
    have hqk := hq qs[k] (List.getElem_mem hkl)
    generalize qs[k] = q at hgk hqk
    refine CG.ex (A := F f own qs) eX f_open ?_
    rintro ⟨a, c⟩ hl
    refine CG.imp star_open ?_
    have hcl := cnt_le own k
    dsimp only [FO, List.cons_append, List.nil_append]
    refine CG.pure (fun w hw => SlR.shape (SlR.of_osl (W0 := W0) (E := 3) (sz := 1) (a := a) (c := c) (m := qs.length) (xs := iv qs) eX) (by intro h; have := iv_len qs; rw [h] at this; simp only [List.length_nil] at this; omega) w hw) ?_
    rintro ⟨b, o, rfl⟩
    refine CG.draw (.look 0 0 (.look 1 0 (.look 2 0 (.look 3 0 (.look 4 0 (.look 5 0 (.look 6 0 (.look 7 1 (.look 8 1 (.eff1 9 false (.look 10 1 (.look 11 1 (.done))))))))))))) [9] [] ([blk f (fcells own qs (some ⟨b, o, none⟩, c)) 226, oiv (some ⟨b, o, none⟩) c qs]) ([]) mixed (by kernel_rfl) (iM) (Imp.none _) ?_
    refine DG.look rfl rfl (Yield.move rfl) rfl ?_
    refine DG.look rfl rfl (Yield.nilCheck rfl) rfl ?_
    refine DG.look rfl rfl (Yield.fieldAddr fa226_2 rfl) rfl ?_
    refine DG.look rfl rfl (Yield.load (v := .slice (some ⟨b, o, none⟩) qs.length c) ti80 rfl (Cel.of_blk (b := f) Ext.here (fc_qs hl))) rfl ?_
    refine DG.look rfl rfl (Yield.move rfl) rfl ?_
    refine DG.look rfl rfl (Yield.index_slice Tryz.underlying80 ti3 rfl rfl (by omega) (by omega)) rfl ?_
    refine DG.look rfl rfl (Yield.load (v := .int .i64 q) ti3 rfl (by rw [show o + (k : Int).toNat * 1 = o + k by omega]; exact (SlR.of_osl (E := 3) (Ext.there Ext.here)).cel (iv_get hgk))) rfl ?_
    refine DG.look rfl rfl (Yield.move rfl) rfl ?_
    refine DG.look rfl rfl (Yield.move rfl) rfl ?_
    refine DG.eff1 ?_
    refine Chg.callo rfl rfl call209 rfl (iM) (count_open W0 Fr (f := f) (own := own) (qs := qs) (some ⟨b, o, none⟩, c) hl (k : Int)) rfl (fun _ => iM) (fun _ => Imp.refl _) (fun _ => iM) ?_
    rintro ⟨⟩ -
    refine DG.look rfl rfl (Yield.sub rfl rfl (w64 (by omega) (by omega))) rfl ?_
    refine DG.look rfl rfl (Yield.assign rfl) rfl ?_
    refine DG.done ?_
    refine QG.then ?_
    refine CG.ret ?_
    exact QG.ret1 rfl rfl () trivial (by rw [left_in hgk]) (Imp.trans iM (f_close (some ⟨b, o, none⟩, c) hl))
  · skip
    refine CG.region ?_
    refine OG.mv rfl rfl ?_
    refine OG.mv rfl rfl ?_
    refine OG.callo call170 rfl (Imp.refl _) (part_spec W0 Fr p) rfl ?_
    rintro ⟨⟩ -
    first | rw [decide_eq_true hh] | rw [decide_eq_false hh]
    refine OG.yield (Yield.not rfl) rfl ?_
    refine OG.nil ?_
    refine QG.then ?_
    refine CG.cond_t rfl ?_
    refine CG.seq ?_
    refine CG.region ?_
    refine OG.sg rfl rfl ?_
    refine OG.nil ?_
    refine QG.then ?_
    refine CG.ret ?_
    refine QG.pass_ret ?_
    exact QG.ret1 rfl rfl () trivial (by rw [left_out hh]) iM
theorem fill_new (R : List Value) (hR : R.length = 1024) (x y v u : Value) (hv : one v = true) (hu : one u = true) : fillL [(0, 1024), (1024, 1), (1025, 1)] (R ++ [x, y]) [(1, v), (2, u)] = some (R ++ [v, u]) := by
  have e1 : over (R ++ [x, y]) 1024 [v] = R ++ [v, y] := by
    rw [over_one (by simp; omega), List.set_append_right _ _ (by omega), hR]; rfl
  have e2 : over (R ++ [v, y]) 1025 [u] = R ++ [v, u] := by
    rw [over_one (by simp; omega), List.set_append_right _ _ (by omega), hR]; rfl
  unfold fillL
  simp only [List.getElem?_cons_succ, List.getElem?_cons_zero, ones hv]
  rw [if_pos ⟨rfl, by simp; omega⟩, e1]
  unfold fillL
  simp only [List.getElem?_cons_succ, List.getElem?_cons_zero, ones hu]
  rw [if_pos ⟨rfl, by simp; omega⟩, e2]
  rfl
/-- The cells while New lays the owners. -/
def layC (i : Nat) : List Value := iv (List.replicate i (-1) ++ List.replicate (1024 - i) 0)
theorem layC_len {i : Nat} (h : i ≤ 1024) : (layC i).length = 1024 := by unfold layC; rw [iv_len]; simp; omega
theorem layC_set {i : Nat} (h : i < 1024) (l : List Value) : (layC i ++ l).set i (.int .i64 (-1)) = layC (i + 1) ++ l := by
  rw [List.set_append_left _ _ (by rw [layC_len (by omega)]; exact h)]
  congr 1
  unfold layC
  rw [iv_set]
  congr 1
  rw [List.set_append_right _ _ (by simp), List.length_replicate, Nat.sub_self, List.replicate_succ', List.append_assoc]
  congr 1
  rw [show 1024 - i = (1024 - (i + 1)) + 1 by omega, List.replicate_succ]; rfl
theorem layC_end {total : Nat} (h : total ≤ 1024) : layC 1024 = owC (List.replicate total (-1)) := by
  unfold layC owC
  rw [Nat.sub_self, List.length_replicate, List.replicate_append_replicate, show total + (1024 - total) = 1024 by omega]
  simp
theorem sum_take {qs : List Int} {i : Nat} {q : Int} (h : qs[i]? = some q) : (qs.take (i + 1)).sum = (qs.take i).sum + q := by
  obtain ⟨hi, rfl⟩ := List.getElem?_eq_some_iff.1 h
  rw [List.take_succ_eq_append_getElem hi, List.sum_append]; simp
theorem new_ok {total c : Nat} {a : Option Addr} {qs : List Int} (hr : SlR W0 Fr 1 a qs.length (iv qs)) (he : nerr total qs = 0) : Ctr Tryz.prog W0 51 [.int .i64 total, .slice a qs.length c] Fr (fun _ : Nat => True) (fun f => .tuple #[.pointer (some ⟨f, 0, none⟩), .int .i64 0]) (fun f => F f (List.replicate total (-1)) qs :: Fr) := by
  obtain ⟨ht, hql, hqs, hsum⟩ := nerr_ok he
  have hts : ∀ i, 0 ≤ (qs.take i).sum ∧ (qs.take i).sum ≤ 1024 * 8 := fun i => by
    have h1 := sum_bound (qs.take i) fun q hq => hqs q (List.mem_of_mem_take hq)
    have : (qs.take i).length ≤ 8 := by rw [List.length_take]; omega
    omega
  refine Ctr.of_body Tryz.func51 rfl Tryz.ntmps51 rfl ?_
  refine CG.seq ?_
  refine CG.region ?_
  refine OG.sg rfl rfl ?_
  refine OG.sg rfl rfl ?_
  refine OG.nil ?_
  refine QG.then ?_
  refine CG.seq ?_
  refine CG.seq ?_
  refine CG.region ?_
  refine OG.mv rfl rfl ?_
  refine OG.yield Yield.lssA rfl ?_
  refine OG.mv rfl rfl ?_
  refine OG.gy rfl rfl rfl ?_
  refine OG.mv rfl rfl ?_
  refine OG.gy rfl rfl rfl ?_
  refine OG.yield Yield.gtrA rfl ?_
  refine OG.yield Yield.pickA rfl ?_
  refine OG.nil ?_
  refine QG.then ?_
  refine CG.cond_f rfl ?_
  refine CG.skip ?_
  refine QG.then ?_
  refine CG.seq ?_
  refine CG.seq ?_
  refine CG.region ?_
  refine OG.mv rfl rfl ?_
  refine OG.yield (Yield.len_slice Tryz.underlying80 rfl rfl) rfl ?_
  refine OG.yield Yield.gtrA rfl ?_
  refine OG.nil ?_
  refine QG.then ?_
  refine CG.cond_f rfl ?_
  refine CG.skip ?_
  refine QG.then ?_
  refine CG.seq ?_
  refine CG.region ?_
  refine OG.sg rfl rfl ?_
  refine OG.nil ?_
  refine QG.then ?_
  refine CG.seq ?_
  refine CG.seq ?_
  refine CG.region ?_
  refine OG.mv rfl rfl ?_
  refine OG.yield (Yield.len_slice Tryz.underlying80 rfl rfl) rfl ?_
  refine OG.mv rfl rfl ?_
  refine OG.nil ?_
  refine QG.then ?_
  refine CG.block ?_
  refine CG.loop (fun i : Nat => i ≤ qs.length) (fun i => [(0, .int .i64 total), (1, .slice a qs.length c), (6, .int .i64 (qs.take i).sum), (20, .slice a qs.length c), (21, .int .i64 qs.length), (22, .int .i64 i)]) (fun _ => Fr) (fun i => qs.length - i) 0 (Nat.zero_le _) eS (Imp.refl _) ?_
  intro i hi
  refine CG.seq ?_
  refine CG.region ?_
  refine OG.yield Yield.lssA rfl ?_
  refine OG.nil ?_
  refine QG.then ?_
  refine CG.seq ?_
  refine CG.cond rfl (fun hc => ?_) (fun hc => ?_)
  · try replace hc := of_decide_eq_true hc
    have hi' : i < qs.length := by omega
    have hget : qs[i]? = some qs[i] := by simp [hi']
    have hq := hqs qs[i] (List.getElem_mem hi')
    have hst := hts i
    generalize qs[i] = q at hget hq
    refine CG.pure (fun w hw => SlR.shape hr (by intro h; have := iv_len qs; rw [h] at this; simp only [List.length_nil] at this; omega) w hw) ?_
    rintro ⟨b, o, rfl⟩
    refine CG.skip ?_
    refine QG.then ?_
    refine CG.seq ?_
    refine CG.block ?_
    refine CG.seq ?_
    refine CG.region ?_
    refine OG.yield (Yield.index_slice Tryz.underlying80 ti3 rfl rfl (by omega) (by omega)) rfl ?_
    refine OG.yield (Yield.load (v := .int .i64 q) ti3 rfl (by rw [show o + (i : Int).toNat * 1 = o + i by omega]; exact hr.cel (iv_get hget))) rfl ?_
    refine OG.sg rfl rfl ?_
    refine OG.nil ?_
    refine QG.then ?_
    refine CG.seq ?_
    refine CG.seq ?_
    refine CG.region ?_
    refine OG.mv rfl rfl ?_
    refine OG.yield Yield.lssA rfl ?_
    refine OG.mv rfl rfl ?_
    refine OG.gy rfl rfl rfl ?_
    refine OG.mv rfl rfl ?_
    refine OG.gy rfl rfl rfl ?_
    refine OG.yield Yield.gtrA rfl ?_
    refine OG.yield Yield.pickA rfl ?_
    refine OG.nil ?_
    refine QG.then ?_
    refine CG.cond_f rfl ?_
    refine CG.skip ?_
    refine QG.then ?_
    refine CG.region ?_
    refine OG.mv rfl rfl ?_
    refine OG.mv rfl rfl ?_
    refine OG.yield (Yield.add rfl rfl (w64 (by omega) (by omega))) rfl ?_
    refine OG.sg rfl rfl ?_
    refine OG.nil ?_
    refine QG.block_normal ?_
    refine QG.then ?_
    refine CG.region ?_
    refine OG.yield (Yield.add rfl rfl (w64 (by omega) (by omega))) rfl ?_
    refine OG.mv rfl rfl ?_
    refine OG.nil ?_
    refine QG.next (i + 1) (show i + 1 ≤ qs.length by omega) (show qs.length - (i + 1) < qs.length - i by omega) ?_ iM
    rw [sum_take hget]; exact eS
  · try replace hc := of_decide_eq_false hc
    refine CG.exit ?_
    refine QG.pass_exit ?_
    refine QG.pass_exit ?_
    refine QG.block_exit ?_
    refine QG.then ?_
    have hiq : i = qs.length := by omega
    subst hiq
    rw [List.take_length]
    refine CG.seq ?_
    refine CG.seq ?_
    refine CG.region ?_
    refine OG.mv rfl rfl ?_
    refine OG.mv rfl rfl ?_
    refine OG.yield Yield.gtrA rfl ?_
    refine OG.nil ?_
    refine QG.then ?_
    refine CG.cond_f rfl ?_
    refine CG.skip ?_
    refine QG.then ?_
    refine CG.seq ?_
    refine CG.region ?_
    refine OG.mv rfl rfl ?_
    refine OG.effd (Eff.lit0 Tryz.underlying80 ti3 rfl) rfl ?_
    rintro b40 -
    refine OG.mv rfl rfl ?_
    refine OG.effd (Eff.append0 (k := qs.length) (ys := iv qs) rfl rfl rfl Tryz.underlying80 Tryz.underlying80 ti3 rfl (by decide) fC (hr.imp iM) (iv_ones qs) (by omega)) rfl ?_
    rintro ⟨a42, c42⟩ -
    refine OG.yield (Yield.build (pvs := [(1, .int .i64 total), (2, .slice a42 qs.length c42)]) bu226 ti226 rfl ((congrArg (fun z => fillL _ z _) (show List.replicate 1025 (Value.int .i64 0) ++ [Value.slice none 0 0] = layC 0 ++ [.int .i64 0, .slice none 0 0] by unfold layC iv; rw [List.replicate_succ' (n := 1024)]; simp)).trans (fill_new (layC 0) (layC_len (by omega)) _ _ _ _ rfl rfl))) rfl ?_
    refine OG.effd (Eff.box rfl) rfl ?_
    rintro b44 -
    rw [show (Value.agg (layC 0 ++ [Value.int .i64 total, .slice a42 qs.length c42]).toArray).cells.toList = layC 0 ++ [.int .i64 total, .slice a42 qs.length c42] from rfl]
    refine OG.sg rfl rfl ?_
    refine OG.nil ?_
    refine QG.then ?_
    refine CG.seq ?_
    refine CG.seq ?_
    refine CG.region ?_
    refine OG.mv rfl rfl ?_
    refine OG.nil ?_
    refine QG.then ?_
    refine CG.block ?_
    refine CG.loop (fun i : Nat => i ≤ 1024) (fun i => [(9, .pointer (some ⟨b44, 0, none⟩)), (45, .int .i64 i)]) (fun i => blk b44 (layC i ++ [.int .i64 total, .slice a42 qs.length c42]) 226 :: oiv a42 c42 qs :: Fr) (fun i => 1024 - i) 0 (Nat.zero_le _) eS iM ?_
    intro i hi
    have hll := layC_len hi
    refine CG.seq ?_
    refine CG.region ?_
    refine OG.yield Yield.lssA rfl ?_
    refine OG.nil ?_
    refine QG.then ?_
    refine CG.seq ?_
    refine CG.cond rfl (fun hc => ?_) (fun hc => ?_)
    · try replace hc := of_decide_eq_true hc
      refine CG.skip ?_
      refine QG.then ?_
      refine CG.seq ?_
      refine CG.block ?_
      refine CG.seq ?_
      refine CG.region ?_
      refine OG.mv rfl rfl ?_
      refine OG.sg rfl rfl ?_
      refine OG.nil ?_
      refine QG.then ?_
      refine CG.region ?_
      refine OG.mv rfl rfl ?_
      refine OG.mv rfl rfl ?_
      refine OG.yield (Yield.nilCheck rfl) rfl ?_
      refine OG.yield (Yield.fieldAddr fa226_0 rfl) rfl ?_
      refine OG.yield (Yield.index_array Tryz.underlying224 ti3 rfl rfl (by omega) (by omega)) rfl ?_
      refine OG.eff (Eff.store1 ti3 rfl rfl fC rfl (by rw [List.length_append, hll]; omega)) rfl ?_
      rintro ⟨⟩ -
      rw [show 0 + 0 + (i : Int).toNat * 1 = i by omega, layC_set (by omega)]
      refine OG.nil ?_
      refine QG.block_normal ?_
      refine QG.then ?_
      refine CG.region ?_
      refine OG.yield (Yield.add rfl rfl (w64 (by omega) (by omega))) rfl ?_
      refine OG.mv rfl rfl ?_
      refine OG.nil ?_
      exact QG.next (i + 1) (show i + 1 ≤ 1024 by omega) (show 1024 - (i + 1) < 1024 - i by omega) eS iM
    · try replace hc := of_decide_eq_false hc
      refine CG.exit ?_
      refine QG.pass_exit ?_
      refine QG.pass_exit ?_
      refine QG.block_exit ?_
      refine QG.then ?_
      refine CG.seq ?_
      refine CG.region ?_
      refine OG.mv rfl rfl ?_
      refine OG.sg rfl rfl ?_
      refine OG.sg rfl rfl ?_
      refine OG.nil ?_
      refine QG.then ?_
      refine CG.ret ?_
      have hi : i = 1024 := by omega
      subst hi
      refine QG.ret2 rfl rfl rfl b44 trivial rfl (Imp.trans ?_ (f_close (a42, c42) (by rw [List.length_replicate]; omega)))
      dsimp only [FO, fcells, List.cons_append, List.nil_append]
      rw [List.length_replicate, ← layC_end (by omega)]
      exact iM
theorem free_spec {f : Nat} {own qs : List Int} : Ctr Tryz.prog W0 189 [.pointer (some ⟨f, 0, none⟩)] (F f own qs :: Fr) (fun _ : Unit => True) (fun _ => .int .i64 (cnt own (-1))) (fun _ => F f own qs :: Fr) := by
  refine Ctr.of_body Tryz.func189 rfl Tryz.ntmps189 rfl ?_
  refine CG.seq ?_
  refine CG.region ?_
  refine OG.sg rfl rfl ?_
  refine OG.nil ?_
  refine QG.then ?_
  refine CG.seq ?_
  refine CG.region ?_
  refine OG.mv rfl rfl ?_
  refine OG.callo call209 rfl (Imp.refl _) (count_spec W0 Fr (-1)) rfl ?_
  rintro ⟨⟩ -
  refine OG.sg rfl rfl ?_
  refine OG.nil ?_
  refine QG.then ?_
  refine CG.ret ?_
  exact QG.ret1 rfl rfl () trivial rfl iM
theorem take_ok {f n : Nat} {own qs : List Int} (p : Int) (hq : ∀ q ∈ qs, 0 ≤ q ∧ q ≤ 1024) (hp : isP qs p) (hlf : 0 < left own qs p) (hn : own.findIdx? (fun x => decide (x = -1)) = some n) : Ctr Tryz.prog W0 122 [.pointer (some ⟨f, 0, none⟩), .int .i64 p] (F f own qs :: Fr) (fun _ : Unit => True) (fun _ => .tuple #[.int .i64 n, .int .i64 0]) (fun _ => F f (own.set n p) qs :: Fr) := by
  obtain ⟨hnl, hn1, hn2⟩ := List.findIdx?_eq_some_iff_getElem.1 hn
  refine Ctr.of_body Tryz.func122 rfl Tryz.ntmps122 rfl ?_
  refine CG.seq ?_
  refine CG.region ?_
  refine OG.sg rfl rfl ?_
  refine OG.sg rfl rfl ?_
  refine OG.nil ?_
  refine QG.then ?_
  refine CG.seq ?_
  refine CG.seq ?_
  refine CG.region ?_
  refine OG.mv rfl rfl ?_
  refine OG.mv rfl rfl ?_
  refine OG.callo call170 rfl (Imp.refl _) (part_spec W0 Fr p) rfl ?_
  rintro ⟨⟩ -
  rw [decide_eq_true hp]
  refine OG.yield (Yield.not rfl) rfl ?_
  refine OG.nil ?_
  refine QG.then ?_
  refine CG.cond_f rfl ?_
  refine CG.skip ?_
  refine QG.then ?_
  refine CG.seq ?_
  refine CG.seq ?_
  refine CG.region ?_
  refine OG.mv rfl rfl ?_
  refine OG.mv rfl rfl ?_
  refine OG.callo call171 rfl (Imp.refl _) (left_spec W0 Fr p hq) rfl ?_
  rintro ⟨⟩ -
  refine OG.yield Yield.leqA rfl ?_
  refine OG.nil ?_
  refine QG.then ?_
  refine CG.cond_f rfl ?_
  refine CG.skip ?_
  refine QG.then ?_
  refine CG.ex (A := F f own qs) eX f_open ?_
  rintro ⟨a, c⟩ hl
  refine CG.imp star_open ?_
  dsimp only [FO, List.cons_append, List.nil_append]
  refine CG.seq ?_
  refine CG.seq ?_
  refine CG.region ?_
  refine OG.mv rfl rfl ?_
  refine OG.yield (Yield.nilCheck rfl) rfl ?_
  refine OG.yield (Yield.fieldAddr fa226_1 rfl) rfl ?_
  refine OG.yield (Yield.load (v := .int .i64 own.length) ti3 rfl (Cel.of_blk (b := f) eX (fc_tot hl))) rfl ?_
  refine OG.mv rfl rfl ?_
  refine OG.nil ?_
  refine QG.then ?_
  refine CG.block ?_
  refine CG.loop (fun i : Nat => i ≤ n) (fun i => [(0, .pointer (some ⟨f, 0, none⟩)), (1, .int .i64 p), (18, .int .i64 own.length), (19, .int .i64 i)]) (fun _ => FO f own qs (a, c) ++ Fr) (fun i => n - i) 0 (Nat.zero_le _) eS (Imp.refl _) ?_
  intro i hi
  have hi' : i < own.length := by omega
  have hget : own[i]? = some own[i] := by simp [hi']
  dsimp only [FO, List.cons_append, List.nil_append]
  refine CG.seq ?_
  refine CG.region ?_
  refine OG.yield Yield.lssA rfl ?_
  refine OG.nil ?_
  refine QG.then ?_
  refine CG.seq ?_
  refine CG.cond_t rfl ?_
  refine CG.skip ?_
  refine QG.then ?_
  refine CG.seq ?_
  refine CG.block ?_
  refine CG.seq ?_
  refine CG.region ?_
  refine OG.mv rfl rfl ?_
  refine OG.sg rfl rfl ?_
  refine OG.nil ?_
  refine QG.then ?_
  refine CG.seq ?_
  refine CG.region ?_
  refine OG.mv rfl rfl ?_
  refine OG.mv rfl rfl ?_
  refine OG.yield (Yield.nilCheck rfl) rfl ?_
  refine OG.yield (Yield.fieldAddr fa226_0 rfl) rfl ?_
  refine OG.yield (Yield.index_array Tryz.underlying224 ti3 rfl rfl (by omega) (by omega)) rfl ?_
  refine OG.yield (Yield.load (v := .int .i64 own[i]) ti3 rfl (Cel.of_blk (b := f) eX (by rw [show 0 + 0 + (i : Int).toNat * 1 = i by omega]; exact fc_get hl hget))) rfl ?_
  refine OG.yield (Yield.eql rfl rfl) rfl ?_
  refine OG.nil ?_
  refine QG.then ?_
  refine CG.cond rfl (fun hc => ?_) (fun hc => ?_)
  · try replace hc := of_decide_eq_true hc
    have hin : i = n := by
      rcases Nat.lt_or_ge i n with h | h
      · exact absurd (decide_eq_true hc) (hn2 i h)
      · omega
    subst hin
    refine CG.seq ?_
    refine CG.region ?_
    refine OG.mv rfl rfl ?_
    refine OG.mv rfl rfl ?_
    refine OG.mv rfl rfl ?_
    refine OG.yield (Yield.nilCheck rfl) rfl ?_
    refine OG.yield (Yield.fieldAddr fa226_0 rfl) rfl ?_
    refine OG.yield (Yield.index_array Tryz.underlying224 ti3 rfl rfl (by omega) (by omega)) rfl ?_
    refine OG.eff (Eff.store1 ti3 rfl rfl fC rfl (by rw [fc_len hl]; omega)) rfl ?_
    rintro ⟨⟩ -
    rw [show 0 + 0 + (i : Int).toNat * 1 = i by omega, fc_set _ hl hi']
    refine OG.nil ?_
    refine QG.then ?_
    refine CG.seq ?_
    refine CG.region ?_
    refine OG.mv rfl rfl ?_
    refine OG.sg rfl rfl ?_
    refine OG.sg rfl rfl ?_
    refine OG.nil ?_
    refine QG.then ?_
    refine CG.ret ?_
    refine QG.block_ret ?_
    refine QG.pass_ret ?_
    refine QG.pass_ret ?_
    refine QG.block_ret ?_
    refine QG.pass_ret ?_
    exact QG.ret2 rfl rfl rfl () trivial rfl (Imp.trans iM (f_close (a, c) (by rw [List.length_set]; exact hl)))
  · try replace hc := of_decide_eq_false hc
    have hin : i < n := by
      rcases Nat.lt_or_ge i n with h | h
      · exact h
      · have : i = n := by omega
        subst this
        exact absurd (of_decide_eq_true hn1) hc
    refine CG.skip ?_
    refine QG.block_normal ?_
    refine QG.then ?_
    refine CG.region ?_
    refine OG.yield (Yield.add rfl rfl (w64 (by omega) (by omega))) rfl ?_
    refine OG.mv rfl rfl ?_
    refine OG.nil ?_
    exact QG.next (i + 1) (show i + 1 ≤ n by omega) (show n - (i + 1) < n - i by omega) eS iM
end
end Go.Proofs.YtphljkplokjonaaGreat.Fz
/- frames: Held, Clone, and what any Take or Give comes to. -/
namespace Go.Proofs.YtphljkplokjonaaGreat.Fz
open Go Go.Sl Go.RowKit Go.Proofs Go.Proofs.YtphljkplokjonaaGreat.T
set_option maxRecDepth 100000
section
variable (W0 : World) (Fr : List HProp)
end
end Go.Proofs.YtphljkplokjonaaGreat.Fz
/- tlb.Tlb as a list of slots: what each function does. -/
namespace Go.Proofs.YtphljkplokjonaaGreat.Tl
open Go Go.Sl Go.RowKit Go.Proofs Go.Proofs.YtphljkplokjonaaGreat.T
set_option maxRecDepth 100000
structure Slot where
  used : Bool
  tag : Int
  page : Int
  frame : Int
  perm : Int
deriving DecidableEq
def Slot.cells (s : Slot) : List Value := [.bool s.used, .int .i64 s.tag, .int .i64 s.page, .int .i64 s.frame, .int .i64 s.perm]
theorem Slot.len (s : Slot) : s.cells.length = 5 := rfl
theorem Slot.ones (s : Slot) : ∀ v ∈ s.cells, one v = true := by simp [Slot.cells, one]
def Slot.zero : Slot := ⟨false, 0, 0, 0, 0⟩
/-- Is the slot used for the page? -/
def hitB (tag page : Int) (s : Slot) : Bool := s.used && (s.tag == tag && s.page == page)
def oi : Option Nat → Int
  | some i => i
  | none => -1
abbrev PA := (Nat × Nat) × Nat
abbrev TO (t : Nat) (l : List Slot) (hand hits miss : Nat) (p : PA) : List HProp :=
  [blk t [.slice (some ⟨p.1.1, p.1.2, none⟩) l.length p.2, .int .i64 hand, .int .i64 hits, .int .i64 miss] 229, osl 307 5 (some ⟨p.1.1, p.1.2, none⟩) p.2 l.length ((l.map Slot.cells).flatten)]
/-- At block t lies a table. -/
def T (t : Nat) (l : List Slot) (hand hits miss : Nat) : HProp := fun h => ∃ p, True ∧ Star (TO t l hand hits miss p) h
theorem t_open {t : Nat} {l : List Slot} {hand hits miss : Nat} (y : Heaplet) (h : T t l hand hits miss y) : ∃ p, True ∧ Star (TO t l hand hits miss p) y := h
theorem t_close {t : Nat} {l : List Slot} {hand hits miss : Nat} {G : List HProp} (p : PA) : Imp (TO t l hand hits miss p ++ G) (T t l hand hits miss :: G) :=
  Imp.trans star_close (Imp.head fun y hy => ⟨p, trivial, hy⟩)
theorem zero_cells (n : Nat) : (List.replicate n [Value.bool false, .int .i64 0, .int .i64 0, .int .i64 0, .int .i64 0]).flatten = ((List.replicate n Slot.zero).map Slot.cells).flatten := by
  rw [List.map_replicate]; rfl
section
variable (W0 : World) (Fr : List HProp)
theorem new_spec {n : Nat} (h1 : 1 ≤ n) (h2 : n ≤ 64) : Ctr Tryz.prog W0 52 [.int .i64 n] Fr (fun _ : Nat => True) (fun t => .tuple #[.pointer (some ⟨t, 0, none⟩), .int .i64 0]) (fun t => T t (List.replicate n Slot.zero) 0 0 0 :: Fr) := by
  refine Ctr.of_body Tryz.func52 rfl Tryz.ntmps52 rfl ?_
  refine CG.seq ?_
  refine CG.region ?_
  refine OG.sg rfl rfl ?_
  refine OG.sg rfl rfl ?_
  refine OG.nil ?_
  refine QG.then ?_
  refine CG.seq ?_
  refine CG.seq ?_
  refine CG.region ?_
  refine OG.mv rfl rfl ?_
  refine OG.yield Yield.lssA rfl ?_
  refine OG.mv rfl rfl ?_
  refine OG.gy rfl rfl rfl ?_
  refine OG.mv rfl rfl ?_
  refine OG.gy rfl rfl rfl ?_
  refine OG.yield Yield.gtrA rfl ?_
  refine OG.yield Yield.pickA rfl ?_
  refine OG.nil ?_
  refine QG.then ?_
  refine CG.cond_f rfl ?_
  refine CG.skip ?_
  refine QG.then ?_
  refine CG.seq ?_
  refine CG.region ?_
  refine OG.mv rfl rfl ?_
  refine OG.effd (Eff.makeSlice Tryz.underlying227 ti307 rfl (by decide) rfl (by omega) (by omega) (by omega)) rfl ?_
  rintro b11 -
  refine OG.yield (Yield.build bu229 ti229 rfl (cells := [_, _, _, _]) rfl) rfl ?_
  refine OG.effd (Eff.box rfl) rfl ?_
  rintro b13 -
  refine OG.sg rfl rfl ?_
  refine OG.sg rfl rfl ?_
  refine OG.nil ?_
  refine QG.then ?_
  refine CG.ret ?_
  refine QG.ret2 rfl rfl rfl b13 trivial rfl (Imp.trans ?_ (t_close (l := List.replicate n Slot.zero) ((b11, 0), n)))
  dsimp only [TO]
  rw [List.length_replicate, ← zero_cells]
  exact iM
theorem find_spec {t hand hits miss : Nat} {l : List Slot} (tag page : Int) (hl : l.length ≤ 64) : Ctr Tryz.prog W0 222 [.pointer (some ⟨t, 0, none⟩), .int .i64 tag, .int .i64 page] (T t l hand hits miss :: Fr) (fun _ : Unit => True) (fun _ => .int .i64 (oi (l.findIdx? (hitB tag page)))) (fun _ => T t l hand hits miss :: Fr) := by
  refine Ctr.ex Ext.here t_open ?_
  rintro ⟨⟨b, o⟩, c⟩ -
  refine Ctr.imp star_open ?_
  dsimp only [TO]
  refine Ctr.of_body Tryz.func222 rfl Tryz.ntmps222 rfl ?_
  refine CG.seq ?_
  refine CG.region ?_
  refine OG.sg rfl rfl ?_
  refine OG.nil ?_
  refine QG.then ?_
  refine CG.seq ?_
  refine CG.seq ?_
  refine CG.region ?_
  refine OG.mv rfl rfl ?_
  refine OG.yield (Yield.nilCheck rfl) rfl ?_
  refine OG.yield (Yield.fieldAddr fa229_0 rfl) rfl ?_
  refine OG.yield (Yield.load ti227 rfl (by first | exact Cel.of_blk eX rfl | exact (hrow eX) _ _ rfl)) rfl ?_
  refine OG.yield (Yield.len_slice Tryz.underlying227 rfl rfl) rfl ?_
  refine OG.mv rfl rfl ?_
  refine OG.nil ?_
  refine QG.then ?_
  refine CG.block ?_
  refine CG.loop (fun i : Nat => i ≤ l.length ∧ ∀ j s, l[j]? = some s → j < i → hitB tag page s = false) (fun i => [(1, .int .i64 tag), (2, .int .i64 page), (12, .slice (some ⟨b, o, none⟩) l.length c), (13, .int .i64 l.length), (14, .int .i64 i)]) (fun _ => TO t l hand hits miss ((b, o), c) ++ Fr) (fun i => l.length - i) 0 ⟨Nat.zero_le _, fun j s _ h => absurd h (Nat.not_lt_zero _)⟩ eS (Imp.refl _) ?_
  rintro i ⟨hi, hno⟩
  dsimp only [TO, List.cons_append, List.nil_append]
  refine CG.seq ?_
  refine CG.region ?_
  refine OG.yield Yield.lssA rfl ?_
  refine OG.nil ?_
  refine QG.then ?_
  refine CG.seq ?_
  refine CG.cond rfl (fun hc => ?_) (fun hc => ?_)
  · try replace hc := of_decide_eq_true hc
    have hi' : i < l.length := by omega
    have hget : l[i]? = some l[i] := by simp [hi']
    generalize l[i] = s at hget
    refine CG.skip ?_
    refine QG.then ?_
    refine CG.seq ?_
    refine CG.block ?_
    refine CG.seq ?_
    refine CG.region ?_
    refine OG.mv rfl rfl ?_
    refine OG.yield (Yield.index_slice Tryz.underlying227 ti307 rfl rfl (by omega) (by omega)) rfl ?_
    refine OG.yield (Yield.load_agg ti307 rfl (Slot.len s) ((SlR.of_osl eX).elem Slot.len hget)) rfl ?_
    refine OG.effd (Eff.alloc ti307) rfl ?_
    rintro b8 -
    refine OG.sg rfl rfl ?_
    refine OG.eff (Eff.storeAll ti307 rfl rfl fC (Slot.len s) (Slot.ones s) rfl) rfl ?_
    rintro ⟨⟩ -
    refine OG.nil ?_
    refine QG.then ?_
    refine CG.seq ?_
    refine CG.region ?_
    refine OG.yield (Yield.load_agg ti307 rfl (Slot.len s) (Row.of_blk eX rfl)) rfl ?_
    refine OG.mv rfl rfl ?_
    refine OG.mv rfl rfl ?_
    refine OG.yield (Yield.fieldAddr fa307_1 rfl) rfl ?_
    refine OG.yield (Yield.fieldAddr fa305_2 rfl) rfl ?_
    refine OG.yield (Yield.load ti3 rfl (by first | exact Cel.of_blk eX rfl | exact (hrow eX) _ _ rfl)) rfl ?_
    refine OG.yield (Yield.fieldAddr fa307_1 rfl) rfl ?_
    refine OG.yield (Yield.fieldAddr fa305_3 rfl) rfl ?_
    refine OG.yield (Yield.load ti3 rfl (by first | exact Cel.of_blk eX rfl | exact (hrow eX) _ _ rfl)) rfl ?_
    refine OG.yield (Yield.build bu305 ti305 rfl (cells := [_, _, _, _]) rfl) rfl ?_
    refine OG.yield (Yield.build bu307 ti307 rfl (cells := [_, _, _, _, _]) rfl) rfl ?_
    refine OG.yield (Yield.agg_eql 6 (xs := s.cells) (ys := [.bool true, .int .i64 tag, .int .i64 page, .int .i64 s.frame, .int .i64 s.perm]) (b := hitB tag page s) rfl rfl (by decide) flat307 guard307 rfl rfl (by simp [Slot.cells, eqCells, cellEq, hitB])) rfl ?_
    refine OG.nil ?_
    refine QG.then ?_
    refine CG.cond rfl (fun hc => ?_) (fun hc => ?_)
    · try replace hc := of_decide_eq_true hc
      refine CG.seq ?_
      refine CG.region ?_
      refine OG.mv rfl rfl ?_
      refine OG.sg rfl rfl ?_
      refine OG.nil ?_
      refine QG.then ?_
      refine CG.ret ?_
      refine QG.block_ret ?_
      refine QG.pass_ret ?_
      refine QG.pass_ret ?_
      refine QG.block_ret ?_
      refine QG.pass_ret ?_
      have hx : l.findIdx? (hitB tag page) = some i := by
        rw [List.findIdx?_eq_some_iff_getElem]
        have e := List.getElem?_eq_some_iff.1 hget
        obtain ⟨h3, h4⟩ := e
        exact ⟨h3, by rw [h4]; exact hc, fun j hj => by rw [hno j l[j] (by simp) hj]; decide⟩
      rw [hx]
      exact QG.ret1 rfl rfl () trivial rfl (Imp.trans iM (t_close ((b, o), c)))
    · try replace hc := of_decide_eq_false hc
      have hc2 := hc
      refine CG.skip ?_
      refine QG.block_normal ?_
      refine QG.then ?_
      refine CG.region ?_
      refine OG.yield (Yield.add rfl rfl (w64 (by omega) (by omega))) rfl ?_
      refine OG.mv rfl rfl ?_
      refine OG.nil ?_
      refine QG.next (i + 1) ⟨by omega, fun j s' hj hlt => ?_⟩ (by omega) eS iM
      rcases Nat.lt_or_ge j i with h | h
      · exact hno j s' hj h
      · have : j = i := by omega
        subst this
        rw [hget] at hj; cases hj; exact hc2
  · try replace hc := of_decide_eq_false hc
    refine CG.exit ?_
    refine QG.pass_exit ?_
    refine QG.pass_exit ?_
    refine QG.block_exit ?_
    refine QG.then ?_
    refine CG.seq ?_
    refine CG.region ?_
    refine OG.sg rfl rfl ?_
    refine OG.nil ?_
    refine QG.then ?_
    refine CG.ret ?_
    have hx : l.findIdx? (hitB tag page) = none := by
      rw [List.findIdx?_eq_none_iff]
      intro s hs
      obtain ⟨j, hj, rfl⟩ := List.getElem_of_mem hs
      exact hno j l[j] (by simp [hj]) (by omega)
    rw [hx]
    exact QG.ret1 rfl rfl () trivial rfl (Imp.trans iM (t_close ((b, o), c)))
theorem free_spec {t hand hits miss : Nat} {l : List Slot} (hl : l.length ≤ 64) : Ctr Tryz.prog W0 223 [.pointer (some ⟨t, 0, none⟩)] (T t l hand hits miss :: Fr) (fun _ : Unit => True) (fun _ => .int .i64 (oi (l.findIdx? (fun s => !s.used)))) (fun _ => T t l hand hits miss :: Fr) := by
  refine Ctr.ex Ext.here t_open ?_
  rintro ⟨⟨b, o⟩, c⟩ -
  refine Ctr.imp star_open ?_
  dsimp only [TO]
  refine Ctr.of_body Tryz.func223 rfl Tryz.ntmps223 rfl ?_
  refine CG.seq ?_
  refine CG.region ?_
  refine OG.sg rfl rfl ?_
  refine OG.nil ?_
  refine QG.then ?_
  refine CG.seq ?_
  refine CG.seq ?_
  refine CG.region ?_
  refine OG.mv rfl rfl ?_
  refine OG.yield (Yield.nilCheck rfl) rfl ?_
  refine OG.yield (Yield.fieldAddr fa229_0 rfl) rfl ?_
  refine OG.yield (Yield.load ti227 rfl (by first | exact Cel.of_blk eX rfl | exact (hrow eX) _ _ rfl)) rfl ?_
  refine OG.yield (Yield.len_slice Tryz.underlying227 rfl rfl) rfl ?_
  refine OG.mv rfl rfl ?_
  refine OG.nil ?_
  refine QG.then ?_
  refine CG.block ?_
  refine CG.loop (fun i : Nat => i ≤ l.length ∧ ∀ j s, l[j]? = some s → j < i → (!s.used) = false) (fun i => [(8, .slice (some ⟨b, o, none⟩) l.length c), (9, .int .i64 l.length), (10, .int .i64 i)]) (fun _ => TO t l hand hits miss ((b, o), c) ++ Fr) (fun i => l.length - i) 0 ⟨Nat.zero_le _, fun j s _ h => absurd h (Nat.not_lt_zero _)⟩ eS (Imp.refl _) ?_
  rintro i ⟨hi, hno⟩
  dsimp only [TO, List.cons_append, List.nil_append]
  refine CG.seq ?_
  refine CG.region ?_
  refine OG.yield Yield.lssA rfl ?_
  refine OG.nil ?_
  refine QG.then ?_
  refine CG.seq ?_
  refine CG.cond rfl (fun hc => ?_) (fun hc => ?_)
  · try replace hc := of_decide_eq_true hc
    have hi' : i < l.length := by omega
    have hget : l[i]? = some l[i] := by simp [hi']
    generalize l[i] = s at hget
    refine CG.skip ?_
    refine QG.then ?_
    refine CG.seq ?_
    refine CG.block ?_
    refine CG.seq ?_
    refine CG.region ?_
    refine OG.mv rfl rfl ?_
    refine OG.yield (Yield.index_slice Tryz.underlying227 ti307 rfl rfl (by omega) (by omega)) rfl ?_
    refine OG.yield (Yield.load_agg ti307 rfl (Slot.len s) ((SlR.of_osl eX).elem Slot.len hget)) rfl ?_
    refine OG.effd (Eff.alloc ti307) rfl ?_
    rintro b4 -
    refine OG.sg rfl rfl ?_
    refine OG.eff (Eff.storeAll ti307 rfl rfl fC (Slot.len s) (Slot.ones s) rfl) rfl ?_
    rintro ⟨⟩ -
    refine OG.nil ?_
    refine QG.then ?_
    refine CG.seq ?_
    refine CG.region ?_
    refine OG.yield (Yield.fieldAddr fa307_0 rfl) rfl ?_
    refine OG.yield (Yield.load (v := .bool s.used) ti4 rfl (Cel.of_blk (b := b4) eX rfl)) rfl ?_
    refine OG.yield (Yield.not rfl) rfl ?_
    refine OG.nil ?_
    refine QG.then ?_
    refine CG.cond rfl (fun hc => ?_) (fun hc => ?_)
    · try replace hc := of_decide_eq_true hc
      refine CG.seq ?_
      refine CG.region ?_
      refine OG.mv rfl rfl ?_
      refine OG.sg rfl rfl ?_
      refine OG.nil ?_
      refine QG.then ?_
      refine CG.ret ?_
      refine QG.block_ret ?_
      refine QG.pass_ret ?_
      refine QG.pass_ret ?_
      refine QG.block_ret ?_
      refine QG.pass_ret ?_
      have hx : l.findIdx? (fun s => !s.used) = some i := by
        rw [List.findIdx?_eq_some_iff_getElem]
        have e := List.getElem?_eq_some_iff.1 hget
        obtain ⟨h3, h4⟩ := e
        exact ⟨h3, by rw [h4]; exact hc, fun j hj => by rw [hno j l[j] (by simp) hj]; decide⟩
      rw [hx]
      exact QG.ret1 rfl rfl () trivial rfl (Imp.trans iM (t_close ((b, o), c)))
    · try replace hc := of_decide_eq_false hc
      have hc2 := hc
      refine CG.skip ?_
      refine QG.block_normal ?_
      refine QG.then ?_
      refine CG.region ?_
      refine OG.yield (Yield.add rfl rfl (w64 (by omega) (by omega))) rfl ?_
      refine OG.mv rfl rfl ?_
      refine OG.nil ?_
      refine QG.next (i + 1) ⟨by omega, fun j s' hj hlt => ?_⟩ (by omega) eS iM
      rcases Nat.lt_or_ge j i with h | h
      · exact hno j s' hj h
      · have : j = i := by omega
        subst this
        rw [hget] at hj; cases hj; exact hc2
  · try replace hc := of_decide_eq_false hc
    refine CG.exit ?_
    refine QG.pass_exit ?_
    refine QG.pass_exit ?_
    refine QG.block_exit ?_
    refine QG.then ?_
    refine CG.seq ?_
    refine CG.region ?_
    refine OG.sg rfl rfl ?_
    refine OG.nil ?_
    refine QG.then ?_
    refine CG.ret ?_
    have hx : l.findIdx? (fun s => !s.used) = none := by
      rw [List.findIdx?_eq_none_iff]
      intro s hs
      obtain ⟨j, hj, rfl⟩ := List.getElem_of_mem hs
      exact hno j l[j] (by simp [hj]) (by omega)
    rw [hx]
    exact QG.ret1 rfl rfl () trivial rfl (Imp.trans iM (t_close ((b, o), c)))
/-- What Put makes of the slots and the hand. -/
def putL (l : List Slot) (hand : Nat) (s : Slot) : List Slot × Nat :=
  match l.findIdx? (hitB s.tag s.page) with
  | some i => (l.set i s, hand)
  | none => match l.findIdx? (fun s => !s.used) with
    | some i => (l.set i s, hand)
    | none => (l.set hand s, (hand + 1) % l.length)
theorem put_cases (l : List Slot) (tag page : Int) : (∃ i, l.findIdx? (hitB tag page) = some i ∧ i < l.length) ∨ (l.findIdx? (hitB tag page) = none ∧ ∃ i, l.findIdx? (fun s => !s.used) = some i ∧ i < l.length) ∨ (l.findIdx? (hitB tag page) = none ∧ l.findIdx? (fun s => !s.used) = none) := by
  cases h1 : l.findIdx? (hitB tag page) with
  | some i => exact .inl ⟨i, rfl, (List.findIdx?_eq_some_iff_getElem.1 h1).1⟩
  | none =>
    cases h2 : l.findIdx? (fun s => !s.used) with
    | some i => exact .inr (.inl ⟨rfl, i, rfl, (List.findIdx?_eq_some_iff_getElem.1 h2).1⟩)
    | none => exact .inr (.inr ⟨rfl, rfl⟩)
theorem put_spec {t hand hits miss : Nat} {l : List Slot} (tag page frame perm : Int) (hl : l.length ≤ 64) (hh0 : hand < l.length) : Ctr Tryz.prog W0 196 [.pointer (some ⟨t, 0, none⟩), .int .i64 tag, .int .i64 page, .int .i64 frame, .int .i64 perm] (T t l hand hits miss :: Fr) (fun _ : Unit => True) (fun _ => .tuple #[])
    (fun _ => T t (putL l hand ⟨true, tag, page, frame, perm⟩).1 (putL l hand ⟨true, tag, page, frame, perm⟩).2 hits miss :: Fr) := by
  refine Ctr.of_body Tryz.func196 rfl Tryz.ntmps196 rfl ?_
  refine CG.seq ?_
  refine CG.region ?_
  refine OG.mv rfl rfl ?_
  refine OG.mv rfl rfl ?_
  refine OG.mv rfl rfl ?_
  refine OG.callo call222 rfl (iM) (find_spec W0 Fr tag page hl) rfl ?_
  rintro ⟨⟩ -
  refine OG.sg rfl rfl ?_
  refine OG.nil ?_
  refine QG.then ?_
  refine CG.seq ?_
  refine CG.seq ?_
  rcases put_cases l tag page with hh | hh | hh
  · skip
    obtain ⟨i, hf, hi⟩ := hh
    rw [hf, show oi (some i) = (i : Int) from rfl]
    refine CG.region ?_
    refine OG.mv rfl rfl ?_
    refine OG.yield Yield.lssA rfl ?_
    refine OG.nil ?_
    refine QG.then ?_
    refine CG.cond_f rfl ?_
    refine CG.skip ?_
    refine QG.then ?_
    refine CG.seq ?_
    refine CG.seq ?_
    refine CG.region ?_
    refine OG.mv rfl rfl ?_
    refine OG.yield Yield.lssA rfl ?_
    refine OG.nil ?_
    refine QG.then ?_
    refine CG.cond_f rfl ?_
    refine CG.skip ?_
    refine QG.then ?_
    refine CG.ex (A := T t l hand hits miss) eX t_open ?_
    rintro ⟨⟨b, o⟩, c⟩ -
    refine CG.imp star_open ?_
    dsimp only [TO, List.cons_append, List.nil_append]
    refine CG.region ?_
    refine OG.mv rfl rfl ?_
    refine OG.yield (Yield.nilCheck rfl) rfl ?_
    refine OG.yield (Yield.fieldAddr fa229_0 rfl) rfl ?_
    refine OG.yield (Yield.load ti227 rfl (by first | exact Cel.of_blk eX rfl | exact (hrow eX) _ _ rfl)) rfl ?_
    refine OG.mv rfl rfl ?_
    refine OG.mv rfl rfl ?_
    refine OG.mv rfl rfl ?_
    refine OG.mv rfl rfl ?_
    refine OG.mv rfl rfl ?_
    refine OG.yield (Yield.build bu305 ti305 rfl (cells := [_, _, _, _]) rfl) rfl ?_
    refine OG.yield (Yield.build bu307 ti307 rfl (cells := [_, _, _, _, _]) rfl) rfl ?_
    refine OG.yield (Yield.index_slice Tryz.underlying227 ti307 rfl rfl (by omega) (by omega)) rfl ?_
    refine OG.eff (Eff.storeRec (i := i) (r := ⟨true, tag, page, frame, perm⟩) (rs := l) Slot.len Slot.ones ti307 rfl rfl fC rfl hi) rfl ?_
    rintro ⟨⟩ -
    refine OG.nil ?_
    rw [show putL l hand ⟨true, tag, page, frame, perm⟩ = (l.set i ⟨true, tag, page, frame, perm⟩, hand) by simp [putL, hf]]
    refine QG.end0 rfl () trivial rfl (Imp.trans ?_ (t_close ((b, o), c)))
    dsimp only [TO]
    rw [List.length_set]
    exact iM
  · skip
    obtain ⟨hf, i, hg, hi⟩ := hh
    rw [hf, show oi none = -1 from rfl]
    refine CG.region ?_
    refine OG.mv rfl rfl ?_
    refine OG.yield Yield.lssA rfl ?_
    refine OG.nil ?_
    refine QG.then ?_
    refine CG.cond_t rfl ?_
    refine CG.region ?_
    refine OG.mv rfl rfl ?_
    refine OG.callo call223 rfl (iM) (free_spec W0 Fr hl) rfl ?_
    rintro ⟨⟩ -
    rw [hg, show oi (some i) = (i : Int) from rfl]
    refine OG.sg rfl rfl ?_
    refine OG.nil ?_
    refine QG.then ?_
    refine CG.seq ?_
    refine CG.seq ?_
    refine CG.region ?_
    refine OG.mv rfl rfl ?_
    refine OG.yield Yield.lssA rfl ?_
    refine OG.nil ?_
    refine QG.then ?_
    refine CG.cond_f rfl ?_
    refine CG.skip ?_
    refine QG.then ?_
    refine CG.ex (A := T t l hand hits miss) eX t_open ?_
    rintro ⟨⟨b, o⟩, c⟩ -
    refine CG.imp star_open ?_
    dsimp only [TO, List.cons_append, List.nil_append]
    refine CG.region ?_
    refine OG.mv rfl rfl ?_
    refine OG.yield (Yield.nilCheck rfl) rfl ?_
    refine OG.yield (Yield.fieldAddr fa229_0 rfl) rfl ?_
    refine OG.yield (Yield.load ti227 rfl (by first | exact Cel.of_blk eX rfl | exact (hrow eX) _ _ rfl)) rfl ?_
    refine OG.mv rfl rfl ?_
    refine OG.mv rfl rfl ?_
    refine OG.mv rfl rfl ?_
    refine OG.mv rfl rfl ?_
    refine OG.mv rfl rfl ?_
    refine OG.yield (Yield.build bu305 ti305 rfl (cells := [_, _, _, _]) rfl) rfl ?_
    refine OG.yield (Yield.build bu307 ti307 rfl (cells := [_, _, _, _, _]) rfl) rfl ?_
    refine OG.yield (Yield.index_slice Tryz.underlying227 ti307 rfl rfl (by omega) (by omega)) rfl ?_
    refine OG.eff (Eff.storeRec (i := i) (r := ⟨true, tag, page, frame, perm⟩) (rs := l) Slot.len Slot.ones ti307 rfl rfl fC rfl hi) rfl ?_
    rintro ⟨⟩ -
    refine OG.nil ?_
    rw [show putL l hand ⟨true, tag, page, frame, perm⟩ = (l.set i ⟨true, tag, page, frame, perm⟩, hand) by simp [putL, hf, hg]]
    refine QG.end0 rfl () trivial rfl (Imp.trans ?_ (t_close ((b, o), c)))
    dsimp only [TO]
    rw [List.length_set]
    exact iM
  · skip
    obtain ⟨hf, hg⟩ := hh
    rw [hf, show oi none = -1 from rfl]
    refine CG.region ?_
    refine OG.mv rfl rfl ?_
    refine OG.yield Yield.lssA rfl ?_
    refine OG.nil ?_
    refine QG.then ?_
    refine CG.cond_t rfl ?_
    refine CG.region ?_
    refine OG.mv rfl rfl ?_
    refine OG.callo call223 rfl (iM) (free_spec W0 Fr hl) rfl ?_
    rintro ⟨⟩ -
    rw [hg, show oi none = -1 from rfl]
    refine OG.sg rfl rfl ?_
    refine OG.nil ?_
    refine QG.then ?_
    refine CG.seq ?_
    refine CG.seq ?_
    refine CG.region ?_
    refine OG.mv rfl rfl ?_
    refine OG.yield Yield.lssA rfl ?_
    refine OG.nil ?_
    refine QG.then ?_
    refine CG.cond_t rfl ?_
    refine CG.seq ?_
    refine CG.ex (A := T t l hand hits miss) eX t_open ?_
    rintro ⟨⟨b, o⟩, c⟩ -
    refine CG.imp star_open ?_
    dsimp only [TO, List.cons_append, List.nil_append]
    refine CG.region ?_
    refine OG.mv rfl rfl ?_
    refine OG.yield (Yield.nilCheck rfl) rfl ?_
    refine OG.yield (Yield.fieldAddr fa229_1 rfl) rfl ?_
    refine OG.yield (Yield.load ti3 rfl (by first | exact Cel.of_blk eX rfl | exact (hrow eX) _ _ rfl)) rfl ?_
    refine OG.sg rfl rfl ?_
    refine OG.nil ?_
    refine QG.then ?_
    refine CG.draw (.look 0 1 (.look 1 1 (.look 2 1 (.look 3 1 (.look 4 1 (.look 5 1 (.look 6 1 (.look 7 1 (.look 8 1 (.look 9 1 (.look 10 1 (.look 11 1 (.look 12 1 (.look 13 1 (.eff1 14 false (.done)))))))))))))))) [14] [] ([]) ([]) mixed (by kernel_rfl) (Imp.none _) (Imp.none _) ?_
    refine DG.look rfl rfl (Yield.move rfl) rfl ?_
    refine DG.look rfl rfl (Yield.move rfl) rfl ?_
    refine DG.look rfl rfl (Yield.nilCheck rfl) rfl ?_
    refine DG.look rfl rfl (Yield.fieldAddr fa229_1 rfl) rfl ?_
    refine DG.look rfl rfl (Yield.load ti3 rfl (by first | exact Cel.of_blk eX rfl | exact (hrow eX) _ _ rfl)) rfl ?_
    refine DG.look rfl rfl (Yield.add rfl rfl (w64 (by omega) (by omega))) rfl ?_
    refine DG.look rfl rfl (Yield.move rfl) rfl ?_
    refine DG.look rfl rfl (Yield.nilCheck rfl) rfl ?_
    refine DG.look rfl rfl (Yield.fieldAddr fa229_0 rfl) rfl ?_
    refine DG.look rfl rfl (Yield.load ti227 rfl (by first | exact Cel.of_blk eX rfl | exact (hrow eX) _ _ rfl)) rfl ?_
    refine DG.look rfl rfl (Yield.len_slice Tryz.underlying227 rfl rfl) rfl ?_
    refine DG.look rfl rfl (Yield.rem rfl rfl (by omega) (tmod_pos (by omega) (by omega))) rfl ?_
    refine DG.look rfl rfl (Yield.nilCheck rfl) rfl ?_
    refine DG.look rfl rfl (Yield.fieldAddr fa229_1 rfl) rfl ?_
    refine DG.eff1 ?_
    refine Chg.eff rfl rfl (Eff.store1 ti3 rfl rfl fC rfl (by first | (simp; done) | decide)) rfl (fun _ => iM) (fun _ => Imp.refl _) (fun _ => iM) ?_
    rintro ⟨⟩ -
    refine DG.done ?_
    refine QG.then ?_
    refine CG.region ?_
    refine OG.mv rfl rfl ?_
    refine OG.yield (Yield.nilCheck rfl) rfl ?_
    refine OG.yield (Yield.fieldAddr fa229_0 rfl) rfl ?_
    refine OG.yield (Yield.load ti227 rfl (by first | exact Cel.of_blk eX rfl | exact (hrow eX) _ _ rfl)) rfl ?_
    refine OG.mv rfl rfl ?_
    refine OG.mv rfl rfl ?_
    refine OG.mv rfl rfl ?_
    refine OG.mv rfl rfl ?_
    refine OG.mv rfl rfl ?_
    refine OG.yield (Yield.build bu305 ti305 rfl (cells := [_, _, _, _]) rfl) rfl ?_
    refine OG.yield (Yield.build bu307 ti307 rfl (cells := [_, _, _, _, _]) rfl) rfl ?_
    refine OG.yield (Yield.index_slice Tryz.underlying227 ti307 rfl rfl (by omega) (by omega)) rfl ?_
    refine OG.eff (Eff.storeRec (i := hand) (r := ⟨true, tag, page, frame, perm⟩) (rs := l) Slot.len Slot.ones ti307 rfl rfl fC rfl hh0) rfl ?_
    rintro ⟨⟩ -
    refine OG.nil ?_
    rw [show putL l hand ⟨true, tag, page, frame, perm⟩ = (l.set hand ⟨true, tag, page, frame, perm⟩, (hand + 1) % l.length) by simp [putL, hf, hg]]
    refine QG.end0 rfl () trivial rfl (Imp.trans ?_ (t_close ((b, o), c)))
    dsimp only [TO]
    rw [List.length_set, show (((hand + 1) % l.length : Nat) : Int) = ((hand : Int) + 1) % (l.length : Int) by simp]
    exact iM
theorem look_hit {t hand hits miss : Nat} {l : List Slot} (tag page : Int) (hl : l.length ≤ 64) (hb : hits < 2 ^ 60) {i : Nat} {s : Slot} (hf : l.findIdx? (hitB tag page) = some i) (hs : l[i]? = some s) :
    Ctr Tryz.prog W0 195 [.pointer (some ⟨t, 0, none⟩), .int .i64 tag, .int .i64 page] (T t l hand hits miss :: Fr) (fun _ : Unit => True) (fun _ => .tuple #[.int .i64 s.frame, .int .i64 s.perm, .bool true]) (fun _ => T t l hand (hits + 1) miss :: Fr) := by
  have hi : i < l.length := (List.findIdx?_eq_some_iff_getElem.1 hf).1
  refine Ctr.of_body Tryz.func195 rfl Tryz.ntmps195 rfl ?_
  refine CG.seq ?_
  refine CG.region ?_
  refine OG.sg rfl rfl ?_
  refine OG.sg rfl rfl ?_
  refine OG.sg rfl rfl ?_
  refine OG.nil ?_
  refine QG.then ?_
  refine CG.seq ?_
  refine CG.region ?_
  refine OG.mv rfl rfl ?_
  refine OG.mv rfl rfl ?_
  refine OG.mv rfl rfl ?_
  refine OG.callo call222 rfl (iM) (find_spec W0 Fr tag page hl) rfl ?_
  rintro ⟨⟩ -
  rw [hf, show oi (some i) = (i : Int) from rfl]
  refine OG.sg rfl rfl ?_
  refine OG.nil ?_
  refine QG.then ?_
  refine CG.seq ?_
  refine CG.seq ?_
  refine CG.region ?_
  refine OG.mv rfl rfl ?_
  refine OG.yield Yield.lssA rfl ?_
  refine OG.nil ?_
  refine QG.then ?_
  refine CG.cond_f rfl ?_
  refine CG.skip ?_
  refine QG.then ?_
  refine CG.seq ?_
  refine CG.ex (A := T t l hand hits miss) eX t_open ?_
  rintro ⟨⟨b, o⟩, c⟩ -
  refine CG.imp star_open ?_
  dsimp only [TO, List.cons_append, List.nil_append]
  refine CG.region ?_
  refine OG.mv rfl rfl ?_
  refine OG.yield (Yield.nilCheck rfl) rfl ?_
  refine OG.yield (Yield.fieldAddr fa229_2 rfl) rfl ?_
  refine OG.yield (Yield.load ti3 rfl (by first | exact Cel.of_blk eX rfl | exact (hrow eX) _ _ rfl)) rfl ?_
  refine OG.yield (Yield.add rfl rfl (w64 (by omega) (by omega))) rfl ?_
  refine OG.yield (Yield.nilCheck rfl) rfl ?_
  refine OG.yield (Yield.fieldAddr fa229_2 rfl) rfl ?_
  refine OG.eff (Eff.store1 ti3 rfl rfl fC rfl (by first | (simp; done) | decide)) rfl ?_
  rintro ⟨⟩ -
  refine OG.nil ?_
  refine QG.then ?_
  refine CG.seq ?_
  refine CG.draw (.look 0 1 (.look 1 1 (.look 2 1 (.look 3 1 (.look 4 1 (.look 5 1 (.look 6 1 (.look 7 1 (.look 8 1 (.look 9 1 (.look 10 1 (.look 11 1 (.look 12 1 (.look 13 1 (.look 14 1 (.look 15 1 (.look 16 1 (.look 17 1 (.look 18 1 (.look 19 1 (.look 20 1 (.done)))))))))))))))))))))) [] [] ([]) ([]) mixed (by kernel_rfl) (Imp.none _) (Imp.none _) ?_
  refine DG.look rfl rfl (Yield.move rfl) rfl ?_
  refine DG.look rfl rfl (Yield.nilCheck rfl) rfl ?_
  refine DG.look rfl rfl (Yield.fieldAddr fa229_0 rfl) rfl ?_
  refine DG.look rfl rfl (Yield.load ti227 rfl (by first | exact Cel.of_blk eX rfl | exact (hrow eX) _ _ rfl)) rfl ?_
  refine DG.look rfl rfl (Yield.move rfl) rfl ?_
  refine DG.look rfl rfl (Yield.index_slice Tryz.underlying227 ti307 rfl rfl (by omega) (by omega)) rfl ?_
  refine DG.look rfl rfl (Yield.fieldAddr fa307_1 rfl) rfl ?_
  refine DG.look rfl rfl (Yield.fieldAddr fa305_2 rfl) rfl ?_
  refine DG.look rfl rfl (Yield.load (v := .int .i64 s.frame) ti3 rfl (((SlR.of_osl eX).elem Slot.len hs) 3 _ rfl)) rfl ?_
  refine DG.look rfl rfl (Yield.move rfl) rfl ?_
  refine DG.look rfl rfl (Yield.nilCheck rfl) rfl ?_
  refine DG.look rfl rfl (Yield.fieldAddr fa229_0 rfl) rfl ?_
  refine DG.look rfl rfl (Yield.load ti227 rfl (by first | exact Cel.of_blk eX rfl | exact (hrow eX) _ _ rfl)) rfl ?_
  refine DG.look rfl rfl (Yield.move rfl) rfl ?_
  refine DG.look rfl rfl (Yield.index_slice Tryz.underlying227 ti307 rfl rfl (by omega) (by omega)) rfl ?_
  refine DG.look rfl rfl (Yield.fieldAddr fa307_1 rfl) rfl ?_
  refine DG.look rfl rfl (Yield.fieldAddr fa305_3 rfl) rfl ?_
  refine DG.look rfl rfl (Yield.load (v := .int .i64 s.perm) ti3 rfl (((SlR.of_osl eX).elem Slot.len hs) 4 _ rfl)) rfl ?_
  refine DG.look rfl rfl (Yield.assign rfl) rfl ?_
  refine DG.look rfl rfl (Yield.assign rfl) rfl ?_
  refine DG.look rfl rfl (Yield.assign rfl) rfl ?_
  refine DG.done ?_
  refine QG.then ?_
  refine CG.ret ?_
  exact QG.ret3 rfl rfl rfl rfl () trivial rfl (Imp.trans iM (t_close ((b, o), c)))
theorem look_miss {t hand hits miss : Nat} {l : List Slot} (tag page : Int) (hl : l.length ≤ 64) (hb : miss < 2 ^ 60) (hf : l.findIdx? (hitB tag page) = none) :
    Ctr Tryz.prog W0 195 [.pointer (some ⟨t, 0, none⟩), .int .i64 tag, .int .i64 page] (T t l hand hits miss :: Fr) (fun _ : Unit => True) (fun _ => .tuple #[.int .i64 0, .int .i64 0, .bool false]) (fun _ => T t l hand hits (miss + 1) :: Fr) := by
  refine Ctr.of_body Tryz.func195 rfl Tryz.ntmps195 rfl ?_
  refine CG.seq ?_
  refine CG.region ?_
  refine OG.sg rfl rfl ?_
  refine OG.sg rfl rfl ?_
  refine OG.sg rfl rfl ?_
  refine OG.nil ?_
  refine QG.then ?_
  refine CG.seq ?_
  refine CG.region ?_
  refine OG.mv rfl rfl ?_
  refine OG.mv rfl rfl ?_
  refine OG.mv rfl rfl ?_
  refine OG.callo call222 rfl (iM) (find_spec W0 Fr tag page hl) rfl ?_
  rintro ⟨⟩ -
  rw [hf, show oi none = -1 from rfl]
  refine OG.sg rfl rfl ?_
  refine OG.nil ?_
  refine QG.then ?_
  refine CG.seq ?_
  refine CG.seq ?_
  refine CG.region ?_
  refine OG.mv rfl rfl ?_
  refine OG.yield Yield.lssA rfl ?_
  refine OG.nil ?_
  refine QG.then ?_
  refine CG.cond_t rfl ?_
  refine CG.seq ?_
  refine CG.ex (A := T t l hand hits miss) eX t_open ?_
  rintro ⟨⟨b, o⟩, c⟩ -
  refine CG.imp star_open ?_
  dsimp only [TO, List.cons_append, List.nil_append]
  refine CG.region ?_
  refine OG.mv rfl rfl ?_
  refine OG.yield (Yield.nilCheck rfl) rfl ?_
  refine OG.yield (Yield.fieldAddr fa229_3 rfl) rfl ?_
  refine OG.yield (Yield.load ti3 rfl (by first | exact Cel.of_blk eX rfl | exact (hrow eX) _ _ rfl)) rfl ?_
  refine OG.yield (Yield.add rfl rfl (w64 (by omega) (by omega))) rfl ?_
  refine OG.yield (Yield.nilCheck rfl) rfl ?_
  refine OG.yield (Yield.fieldAddr fa229_3 rfl) rfl ?_
  refine OG.eff (Eff.store1 ti3 rfl rfl fC rfl (by first | (simp; done) | decide)) rfl ?_
  rintro ⟨⟩ -
  refine OG.nil ?_
  refine QG.then ?_
  refine CG.seq ?_
  refine CG.region ?_
  refine OG.sg rfl rfl ?_
  refine OG.sg rfl rfl ?_
  refine OG.sg rfl rfl ?_
  refine OG.nil ?_
  refine QG.then ?_
  refine CG.ret ?_
  refine QG.pass_ret ?_
  exact QG.ret3 rfl rfl rfl rfl () trivial rfl (Imp.trans iM (t_close ((b, o), c)))
/-- What FlushPage makes of the slots. -/
def flushPL (l : List Slot) (tag page : Int) : List Slot := match l.findIdx? (hitB tag page) with | some i => l.set i Slot.zero | none => l
end
end Go.Proofs.YtphljkplokjonaaGreat.Tl
/- Spaces of several partitions in one memory: who has which frame, and what stores do. Plain law, no program in sight. -/
namespace Go.Proofs.YtphljkplokjonaaGreat.Sp
open Go Go.Sl Go.RowKit Go.Proofs Go.Proofs.YtphljkplokjonaaGreat.T Go.Proofs.YtphljkplokjonaaGreat.Me Go.Proofs.YtphljkplokjonaaGreat.Pe Go.Proofs.YtphljkplokjonaaGreat.Pg
open Go.Proofs.YtphljkplokjonaaGreat.Fz (cnt cnt_set)
open Go.Proofs.YtphljkplokjonaaGreat.Tl (Slot hitB putL flushPL put_cases)
set_option maxRecDepth 100000
/-! ### frames of bytes -/
theorem frB_get {bs : List UInt8} {k j : Nat} (hj : j < 256) : (frB bs k)[j]? = bs[k * 256 + j]? := by
  unfold frB; rw [List.getElem?_take, if_pos hj, List.getElem?_drop]
theorem fr_ext {bs cs : List UInt8} {t u : Nat} (h : ∀ j, j < 256 → cs[u * 256 + j]? = bs[t * 256 + j]?) : frB cs u = frB bs t := by
  apply List.ext_getElem?
  intro j
  by_cases hj : j < 256
  · rw [frB_get hj, frB_get hj, h j hj]
  · unfold frB; rw [List.getElem?_take, if_neg hj, List.getElem?_take, if_neg hj]
theorem word_fr (bs : List UInt8) (t i : Nat) (hi : i < 64) : word bs t i = leN (((frB bs t).drop (i * 4)).take 4) := by
  unfold word frB
  rw [List.drop_take, List.drop_drop, List.take_take, show min 4 (256 - i * 4) = 4 by omega]
theorem same_of_fr {bs cs : List UInt8} {t : Nat} (h : frB cs t = frB bs t) : same bs cs t := fun i hi => by rw [word_fr cs t i hi, h, word_fr bs t i hi]
/-- Bytes are written within the frame q alone. -/
structure Only (n : Nat) (bs cs : List UInt8) (q : Nat) : Prop where
  len : cs.length = n * 256
  oth : ∀ t, t < n → t ≠ q → frB cs t = frB bs t
theorem only_over {n : Nat} {bs ys : List UInt8} {q a : Nat} (hl : bs.length = n * 256) (hq : q < n) (ha : q * 256 ≤ a ∧ a + ys.length ≤ q * 256 + 256) : Only n bs (overB bs a ys) q := by
  refine ⟨by rw [overB_len (by omega), hl], fun t ht hne => fr_ext fun j hj => ?_⟩
  rcases (show t * 256 + j < a ∨ a + ys.length ≤ t * 256 + j by rcases Nat.lt_or_gt_of_ne hne with h | h <;> omega) with r | r
  · exact overB_lo r (by omega)
  · exact overB_hi r (by omega)
theorem only_st {n : Nat} {bs : List UInt8} {q i v : Nat} (hl : bs.length = n * 256) (hq : q < n) (hi : i < 64) : Only n bs (stW bs q i v) q := by
  have hp := putB_len v 4
  exact only_over hl hq (by omega)
theorem only_fill {n : Nat} {bs ws : List UInt8} {q : Nat} (hl : bs.length = n * 256) (hq : q < n) (hw : ws.length ≤ 256) : Only n bs (overB bs (q * 256) (fillB ws)) q := by
  have := fillB_len hw
  exact only_over hl hq (by omega)
theorem fr_fill {bs ws : List UInt8} {q : Nat} (h : q * 256 ≤ bs.length) (hw : ws.length ≤ 256) : frB (overB bs (q * 256) (fillB ws)) q = fillB ws := by
  have := overB_at (bs := bs) (ys := fillB ws) (a := q * 256) h
  rw [fillB_len hw] at this; exact this
theorem fr_over {n : Nat} {bs ys : List UInt8} {q o : Nat} (hl : bs.length = n * 256) (hq : q < n) (ho : o + ys.length ≤ 256) : frB (overB bs (q * 256 + o) ys) q = overB (frB bs q) o ys := by
  have hfl : (frB bs q).length = 256 := frB_len hl hq
  apply List.ext_getElem?
  intro j
  by_cases hj : j < 256
  · rw [frB_get hj]
    unfold overB
    by_cases h1 : j < o
    · rw [List.append_assoc, List.append_assoc, List.getElem?_append_left (by rw [List.length_take]; omega), List.getElem?_take, if_pos (by omega), List.getElem?_append_left (by rw [List.length_take]; omega), List.getElem?_take, if_pos h1, frB_get hj]
    · have e1 : (bs.take (q * 256 + o)).length = q * 256 + o := by rw [List.length_take]; omega
      have e2 : ((frB bs q).take o).length = o := by rw [List.length_take]; omega
      have eL : (bs.take (q * 256 + o) ++ ys ++ bs.drop (q * 256 + o + ys.length))[q * 256 + j]? = (ys ++ bs.drop (q * 256 + o + ys.length))[j - o]? := by
        rw [List.append_assoc, List.getElem?_append_right (by omega), e1, show q * 256 + j - (q * 256 + o) = j - o by omega]
      have eR : ((frB bs q).take o ++ ys ++ (frB bs q).drop (o + ys.length))[j]? = (ys ++ (frB bs q).drop (o + ys.length))[j - o]? := by
        rw [List.append_assoc, List.getElem?_append_right (by omega), e2]
      rw [eL, eR]
      by_cases h2 : j - o < ys.length
      · rw [List.getElem?_append_left h2, List.getElem?_append_left h2]
      · rw [List.getElem?_append_right (by omega), List.getElem?_append_right (by omega), List.getElem?_drop, List.getElem?_drop, show o + ys.length + (j - o - ys.length) = j by omega, frB_get hj, show q * 256 + o + ys.length + (j - o - ys.length) = q * 256 + j by omega]
  · have e1 : (overB (frB bs q) o ys).length = 256 := by rw [overB_len (by omega), hfl]
    have e0 : (overB (frB bs q) o ys)[j]? = none := List.getElem?_eq_none (by rw [e1]; omega)
    rw [e0]
    unfold frB; rw [List.getElem?_take, if_neg hj]
/-! ### counting -/
def cN (f : Nat → Bool) : Nat → Nat
  | 0 => 0
  | m + 1 => cN f m + if f m then 1 else 0
theorem cN_congr {f g : Nat → Bool} : ∀ m, (∀ q, q < m → f q = g q) → cN f m = cN g m
  | 0, _ => rfl
  | m + 1, h => by unfold cN; rw [cN_congr m fun q hq => h q (by omega), h m (by omega)]
theorem cN_le (f : Nat → Bool) : ∀ m, cN f m ≤ m
  | 0 => Nat.le_refl _
  | m + 1 => by unfold cN; have := cN_le f m; split <;> omega
theorem cN_upd {f g : Nat → Bool} {i : Nat} (h : ∀ q, q ≠ i → g q = f q) : ∀ m, i < m → cN g m + (if f i then 1 else 0) = cN f m + (if g i then 1 else 0)
  | 0, h0 => by omega
  | m + 1, hm => by
    unfold cN
    by_cases hi : i = m
    · subst hi
      rw [cN_congr i fun q hq => h q (by omega)]; omega
    · have := cN_upd h m (by omega)
      rw [h m (fun q => hi q.symm)]; omega
/-! ### who has which frame -/
structure Ab where
  rt : Nat → Option Nat
  tb : Nat → Nat → Option Nat
  pg : Nat → Nat → Option (Nat × Nat)
  hs : List (Nat × Nat)
inductive Role where
  | root (k : Nat)
  | tab (k g : Nat)
  | page (k p : Nat)
  | hand (f k : Nat)
def Ab.fr (A : Ab) : Role → Option Nat
  | .root k => A.rt k
  | .tab k g => A.tb k g
  | .page k p => (A.pg k p).map (·.1)
  | .hand f k => if (f, k) ∈ A.hs then some f else none
def Role.pt : Role → Nat
  | .root k => k
  | .tab k _ => k
  | .page k _ => k
  | .hand _ k => k
def up2 {α : Type} (h : Nat → Nat → α) (k p : Nat) (v : α) : Nat → Nat → α := fun k' p' => if k' = k ∧ p' = p then v else h k' p'
theorem up2_at {α : Type} {h : Nat → Nat → α} {k p : Nat} {v : α} : up2 h k p v k p = v := if_pos ⟨rfl, rfl⟩
theorem up2_ne {α : Type} {h : Nat → Nat → α} {k p k' p' : Nat} {v : α} (hne : ¬(k' = k ∧ p' = p)) : up2 h k p v k' p' = h k' p' := if_neg hne
structure Rep (n : Nat) (bs : List UInt8) (A : Ab) : Prop where
  len : bs.length = n * 256
  tree : ∀ k r, A.rt k = some r → Tree n bs r ∧ (∀ g, g < 64 → tab n bs r g = A.tb k g) ∧ ∀ p, p < 4096 → wk n bs r p = A.pg k p
  rw : ∀ k r g, A.rt k = some r → g < 64 → (ent (word bs r g)).isSome = (A.tb k g).isSome
  tb0 : ∀ k g q, A.tb k g = some q → g < 64 ∧ ∃ r, A.rt k = some r
  pg0 : ∀ k p x, A.pg k p = some x → p < 4096 ∧ ∃ r, A.rt k = some r
structure Own (own : List Int) (A : Ab) : Prop where
  inj : ∀ ρ ρ' f, A.fr ρ = some f → A.fr ρ' = some f → ρ = ρ'
  ow : ∀ ρ f, A.fr ρ = some f → own[f]? = some ((ρ.pt : Nat) : Int)
  nd : (A.hs.map (·.1)).Nodup
  cnt : ∀ k : Nat, cnt own k = (if (A.rt k).isSome then 1 else 0) + cN (fun g => (A.tb k g).isSome) 64 + cN (fun p => (A.pg k p).isSome) 4096 + (A.hs.filter fun h => decide (h.2 = k)).length
theorem Own.free {own : List Int} {A : Ab} (O : Own own A) {f : Nat} (h : own[f]? = some (-1)) (ρ : Role) : A.fr ρ ≠ some f := fun e => by
  have := O.ow ρ f e
  rw [h] at this
  have := Option.some.inj this
  omega
theorem Own.take {own : List Int} {A : Ab} (O : Own own A) {f : Nat} (k : Nat) (h : own[f]? = some (-1)) : Own (own.set f k) { A with hs := (f, k) :: A.hs } := by
  have hlt : f < own.length := (List.getElem?_eq_some_iff.1 h).1
  have old : ∀ ρ x, ({ A with hs := (f, k) :: A.hs } : Ab).fr ρ = some x → A.fr ρ = some x ∧ x ≠ f ∨ ρ = .hand f k ∧ x = f := fun ρ x hx => by
    have keep : A.fr ρ = some x → A.fr ρ = some x ∧ x ≠ f := fun e => ⟨e, fun q => O.free h ρ (by rw [e, q])⟩
    cases ρ with
    | root _ => exact .inl (keep hx)
    | tab _ _ => exact .inl (keep hx)
    | page _ _ => exact .inl (keep hx)
    | hand f' k' =>
      simp only [Ab.fr, List.mem_cons] at hx
      split at hx
      · rename_i hm
        cases hx
        rcases hm with hm | hm
        · simp only [Prod.mk.injEq] at hm; obtain ⟨rfl, rfl⟩ := hm; exact .inr ⟨rfl, rfl⟩
        · exact .inl (keep (by simp only [Ab.fr]; rw [if_pos hm]))
      · cases hx
  refine ⟨fun ρ ρ' x h1 h2 => ?_, fun ρ x h1 => ?_, ?_, fun k' => ?_⟩
  · rcases old ρ x h1 with ⟨a1, a2⟩ | ⟨rfl, a2⟩ <;> rcases old ρ' x h2 with ⟨b1, b2⟩ | ⟨rfl, b2⟩
    · exact O.inj ρ ρ' x a1 b1
    · exact absurd b2 a2
    · exact absurd a2 b2
    · rfl
  · rcases old ρ x h1 with ⟨a1, a2⟩ | ⟨rfl, rfl⟩
    · rw [List.getElem?_set_ne (fun q => a2 q.symm)]; exact O.ow ρ x a1
    · rw [List.getElem?_set_self hlt]; rfl
  · rw [List.map_cons, List.nodup_cons]
    refine ⟨fun hm => ?_, O.nd⟩
    obtain ⟨⟨f', k'⟩, h1, rfl⟩ := List.mem_map.1 hm
    exact O.free h (.hand f' k') (by simp only [Ab.fr]; rw [if_pos h1])
  · have e1 : ¬ (-1 : Int) = (k' : Int) := by omega
    have e2 : ((k : Int) = (k' : Int)) = (k = k') := propext ⟨fun q => by omega, fun q => by omega⟩
    rw [cnt_set h, O.cnt k', List.filter_cons]
    by_cases hk : k = k'
    · subst hk; simp only [decide_true, if_true, List.length_cons, e1, if_false]; omega
    · simp only [e1, e2, hk, if_false, decide_false]; simp
/-- Roles that are named anew. -/
theorem Own.map {own : List Int} {A A' : Ab} (O : Own own A) (ψ : Role → Role) (h : ∀ ρ x, A'.fr ρ = some x → ∃ ρ0, A.fr ρ0 = some x ∧ ρ0.pt = ρ.pt ∧ ψ ρ0 = ρ) (hn : (A'.hs.map (·.1)).Nodup)
    (hc : ∀ k : Nat, (if (A'.rt k).isSome then 1 else 0) + cN (fun g => (A'.tb k g).isSome) 64 + cN (fun p => (A'.pg k p).isSome) 4096 + (A'.hs.filter fun h => decide (h.2 = k)).length = (if (A.rt k).isSome then 1 else 0) + cN (fun g => (A.tb k g).isSome) 64 + cN (fun p => (A.pg k p).isSome) 4096 + (A.hs.filter fun h => decide (h.2 = k)).length) : Own own A' := by
  refine ⟨fun ρ ρ' f a b => ?_, fun ρ f a => ?_, hn, fun k => by rw [O.cnt k, hc k]⟩
  · obtain ⟨r1, a1, a2, a3⟩ := h ρ f a
    obtain ⟨r2, b1, b2, b3⟩ := h ρ' f b
    rw [← a3, ← b3, O.inj r1 r2 f a1 b1]
  · obtain ⟨r1, a1, a2, a3⟩ := h ρ f a
    rw [← a2]; exact O.ow r1 f a1
theorem mem_ne {hs : List (Nat × Nat)} {f k f' k' : Nat} (h : (((f, k) :: hs).map (·.1)).Nodup) (hm : (f', k') ∈ hs) : f' ≠ f := fun q => by
  rw [List.map_cons, List.nodup_cons] at h
  exact h.1 (q ▸ List.mem_map.2 ⟨_, hm, rfl⟩)
theorem cons_count (hs : List (Nat × Nat)) (f k k' : Nat) : (((f, k) :: hs).filter fun h => decide (h.2 = k')).length = (hs.filter fun h => decide (h.2 = k')).length + if k = k' then 1 else 0 := by
  rw [List.filter_cons]
  by_cases h : k = k' <;> simp [h]
theorem cN_up2 {α : Type} {h : Nat → Nat → Option α} {k p k' m : Nat} {v : Option α} (hp : p < m) : cN (fun q => (up2 h k p v k' q).isSome) m + (if k = k' ∧ (h k p).isSome then 1 else 0) = cN (fun q => (h k' q).isSome) m + (if k = k' ∧ v.isSome then 1 else 0) := by
  by_cases hk : k = k'
  · subst hk
    have := cN_upd (f := fun q => (h k q).isSome) (g := fun q => (up2 h k p v k q).isSome) (i := p) (fun q hq => by show (up2 h k p v k q).isSome = _; rw [up2_ne (by omega)]) m hp
    simp only [up2_at] at this
    simpa using this
  · rw [cN_congr (f := fun q => (up2 h k p v k' q).isSome) (g := fun q => (h k' q).isSome) m fun q _ => by show (up2 h k p v k' q).isSome = _; rw [up2_ne (by omega)]]
    simp [hk]
/-- A frame in hand becomes a page. -/
theorem Own.toPage {own : List Int} {A : Ab} {f k p m : Nat} {hs : List (Nat × Nat)} (O : Own own A) (hA : A.hs = (f, k) :: hs) (hp : p < 4096) (h0 : A.pg k p = none) : Own own { A with pg := up2 A.pg k p (some (f, m)), hs := hs } := by
  have hnd := O.nd
  rw [hA] at hnd
  refine O.map (fun ρ => match ρ with | .hand f' k' => if f' = f then .page k p else .hand f' k' | ρ => ρ) (fun ρ x hx => ?_) (List.nodup_cons.1 hnd).2 fun k' => ?_
  · cases ρ with
    | root k' => exact ⟨.root k', hx, rfl, rfl⟩
    | tab k' g => exact ⟨.tab k' g, hx, rfl, rfl⟩
    | page k' p' =>
      simp only [Ab.fr, up2] at hx
      split at hx
      · rename_i h; obtain ⟨rfl, rfl⟩ := h; cases hx
        exact ⟨.hand f k', by simp only [Ab.fr, hA]; rw [if_pos List.mem_cons_self], rfl, by simp⟩
      · exact ⟨.page k' p', hx, rfl, rfl⟩
    | hand f' k' =>
      simp only [Ab.fr] at hx
      split at hx
      · rename_i h; cases hx
        exact ⟨.hand _ k', by simp only [Ab.fr, hA]; rw [if_pos (List.mem_cons_of_mem _ h)], rfl, by simp [mem_ne hnd h]⟩
      · cases hx
  · have := cN_up2 (h := A.pg) (k := k) (p := p) (k' := k') (v := some (f, m)) hp
    rw [h0] at this
    rw [hA, cons_count]
    simp only [Option.isSome_none, Option.isSome_some, Bool.false_eq_true, and_false, if_false, and_true] at this ⊢
    omega
/-- A frame in hand becomes a second table. -/
theorem Own.toTab {own : List Int} {A : Ab} {f k g : Nat} {hs : List (Nat × Nat)} (O : Own own A) (hA : A.hs = (f, k) :: hs) (hg : g < 64) (h0 : A.tb k g = none) : Own own { A with tb := up2 A.tb k g (some f), hs := hs } := by
  have hnd := O.nd
  rw [hA] at hnd
  refine O.map (fun ρ => match ρ with | .hand f' k' => if f' = f then .tab k g else .hand f' k' | ρ => ρ) (fun ρ x hx => ?_) (List.nodup_cons.1 hnd).2 fun k' => ?_
  · cases ρ with
    | root k' => exact ⟨.root k', hx, rfl, rfl⟩
    | page k' p => exact ⟨.page k' p, hx, rfl, rfl⟩
    | tab k' g' =>
      simp only [Ab.fr, up2] at hx
      split at hx
      · rename_i h; obtain ⟨rfl, rfl⟩ := h; cases hx
        exact ⟨.hand f k', by simp only [Ab.fr, hA]; rw [if_pos List.mem_cons_self], rfl, by simp⟩
      · exact ⟨.tab k' g', hx, rfl, rfl⟩
    | hand f' k' =>
      simp only [Ab.fr] at hx
      split at hx
      · rename_i h; cases hx
        exact ⟨.hand _ k', by simp only [Ab.fr, hA]; rw [if_pos (List.mem_cons_of_mem _ h)], rfl, by simp [mem_ne hnd h]⟩
      · cases hx
  · have := cN_up2 (h := A.tb) (k := k) (p := g) (k' := k') (v := some f) hg
    rw [h0] at this
    rw [hA, cons_count]
    simp only [Option.isSome_none, Option.isSome_some, Bool.false_eq_true, and_false, if_false, and_true] at this ⊢
    omega
/-- A frame in hand becomes a root. -/
theorem Own.toRoot {own : List Int} {A : Ab} {f k : Nat} {hs : List (Nat × Nat)} (O : Own own A) (hA : A.hs = (f, k) :: hs) (h0 : A.rt k = none) : Own own { A with rt := fun k' => if k' = k then some f else A.rt k', hs := hs } := by
  have hnd := O.nd
  rw [hA] at hnd
  refine O.map (fun ρ => match ρ with | .hand f' k' => if f' = f then .root k else .hand f' k' | ρ => ρ) (fun ρ x hx => ?_) (List.nodup_cons.1 hnd).2 fun k' => ?_
  · cases ρ with
    | page k' p => exact ⟨.page k' p, hx, rfl, rfl⟩
    | tab k' g' => exact ⟨.tab k' g', hx, rfl, rfl⟩
    | root k' =>
      simp only [Ab.fr] at hx
      split at hx
      · rename_i h; subst h; cases hx
        exact ⟨.hand f k', by simp only [Ab.fr, hA]; rw [if_pos List.mem_cons_self], rfl, by simp⟩
      · exact ⟨.root k', hx, rfl, rfl⟩
    | hand f' k' =>
      simp only [Ab.fr] at hx
      split at hx
      · rename_i h; cases hx
        exact ⟨.hand _ k', by simp only [Ab.fr, hA]; rw [if_pos (List.mem_cons_of_mem _ h)], rfl, by simp [mem_ne hnd h]⟩
      · cases hx
  · rw [hA, cons_count]
    dsimp only
    by_cases hk : k' = k
    · subst hk; simp [h0]; omega
    · have hk2 : ¬ k = k' := fun q => hk q.symm
      simp [hk, hk2]
/-- A page's rights are changed. -/
theorem Own.perm {own : List Int} {A : Ab} {k p m : Nat} {x : Nat × Nat} (O : Own own A) (hp : p < 4096) (h0 : A.pg k p = some x) : Own own { A with pg := up2 A.pg k p (some (x.1, m)) } := by
  refine O.map id (fun ρ y hx => ⟨ρ, ?_, rfl, rfl⟩) O.nd fun k' => ?_
  · cases ρ with
    | page k' p' =>
      simp only [Ab.fr, up2] at hx ⊢
      split at hx
      · rename_i h; obtain ⟨rfl, rfl⟩ := h; rw [h0]; exact hx
      · exact hx
    | _ => exact hx
  · have := cN_up2 (h := A.pg) (k := k) (p := p) (k' := k') (v := some (x.1, m)) hp
    rw [h0] at this
    simp only [Option.isSome_some, and_true] at this ⊢
    omega
end Go.Proofs.YtphljkplokjonaaGreat.Sp
/- Spaces of several partitions in one memory: what the machine's parts hold of them; each operation as a step. Plain law, no program in sight. -/
namespace Go.Proofs.YtphljkplokjonaaGreat.Sp
open Go Go.Sl Go.RowKit Go.Proofs Go.Proofs.YtphljkplokjonaaGreat.T Go.Proofs.YtphljkplokjonaaGreat.Me Go.Proofs.YtphljkplokjonaaGreat.Pe Go.Proofs.YtphljkplokjonaaGreat.Pg
open Go.Proofs.YtphljkplokjonaaGreat.Fz (cnt cnt_set inv_take inv_give)
open Go.Proofs.YtphljkplokjonaaGreat.Tl (Slot hitB putL flushPL put_cases)
set_option maxRecDepth 100000
section
variable {n : Nat} {bs cs : List UInt8} {A : Ab} {own : List Int}
theorem Rep.rlt (R : Rep n bs A) {k r : Nat} (h : A.rt k = some r) : r < n := (R.tree k r h).1.rt
theorem Rep.tlt (R : Rep n bs A) {k g q : Nat} (h : A.tb k g = some q) : q < n := by
  obtain ⟨hg, r, hr⟩ := R.tb0 k g q h
  have := (R.tree k r hr).2.1 g hg
  rw [h] at this; exact tab_lt this
/-- Bytes are written into a frame that is no table. -/
theorem Rep.only (R : Rep n bs A) {q : Nat} (h : Only n bs cs q) (h1 : ∀ k, A.rt k ≠ some q) (h2 : ∀ k g, A.tb k g ≠ some q) : Rep n cs A := by
  refine ⟨h.len, fun k r hk => ?_, fun k r g hk hg => by rw [(same_of_fr (h.oth r (R.rlt hk) fun e => h1 k (by rw [hk, e]))) g hg]; exact R.rw k r g hk hg, R.tb0, R.pg0⟩
  obtain ⟨t1, t2, t3⟩ := R.tree k r hk
  obtain ⟨a1, a2, a3⟩ := t1.other h.len (same_of_fr (h.oth r t1.rt fun e => h1 k (by rw [hk, e]))) (fun g q' hg hq => same_of_fr (h.oth q' (tab_lt hq) fun e => h2 k g (by rw [← t2 g hg, hq, e])))
  exact ⟨a1, fun g hg => by rw [a2 g hg, t2 g hg], fun p hp => by rw [a3 p hp, t3 p hp]⟩
theorem Rep.entry (R : Rep n bs A) (O : Own own A) {k r p q : Nat} (hk : A.rt k = some r) (hp : p < 4096) (hq : A.tb k (p / 64) = some q) (v : Nat) : Rep n (stW bs q (p % 64) v) { A with pg := up2 A.pg k p (ent (v % 4294967296)) } := by
  have hi : p % 64 < 64 := Nat.mod_lt _ (by decide)
  have hqn := R.tlt hq
  have ho := only_st (v := v) R.len hqn hi
  have hrq : ∀ k' r', A.rt k' = some r' → r' ≠ q := fun k' r' hk' e => by
    have := O.inj (.root k') (.tab k (p / 64)) q (by simp only [Ab.fr]; rw [hk', e]) hq
    cases this
  refine ⟨ho.len, fun k' r' hk' => ?_, fun k' r' g hk' hg => by rw [(same_of_fr (ho.oth r' (R.rlt hk') (hrq k' r' hk'))) g hg]; exact R.rw k' r' g hk' hg, R.tb0, fun k' p' x hx => ?_⟩
  · obtain ⟨t1, t2, t3⟩ := R.tree k' r' hk'
    by_cases hkk : k' = k
    · subst hkk
      rw [hk] at hk'; cases hk'
      obtain ⟨a1, a2, a3⟩ := t1.st hp (by rw [t2 _ (by omega), hq]) v
      refine ⟨a1, fun g hg => by rw [a2 g hg, t2 g hg], fun p' hp' => ?_⟩
      rw [a3 p' hp', t3 p' hp']
      dsimp only
      by_cases h : p' = p
      · subst h; rw [if_pos rfl, up2_at]
      · rw [if_neg h, up2_ne (by omega)]
    · have hne1 : r' ≠ q := fun e => by
        have := O.inj (.root k') (.tab k (p / 64)) q (by simp only [Ab.fr]; rw [hk', e]) hq
        cases this
      obtain ⟨a1, a2, a3⟩ := t1.other ho.len (same_of_fr (ho.oth r' t1.rt hne1)) (fun g q' hg hq' => same_of_fr (ho.oth q' (tab_lt hq') fun e => by
        have := O.inj (.tab k' g) (.tab k (p / 64)) q (by simp only [Ab.fr]; rw [← t2 g hg, hq', e]) hq
        cases this; exact hkk rfl))
      exact ⟨a1, fun g hg => by rw [a2 g hg, t2 g hg], fun p' hp' => by rw [a3 p' hp', t3 p' hp']; exact (up2_ne (fun q => hkk q.1)).symm⟩
  · by_cases h : k' = k ∧ p' = p
    · obtain ⟨rfl, rfl⟩ := h; exact ⟨hp, r, hk⟩
    · dsimp only at hx; rw [up2_ne h] at hx; exact R.pg0 k' p' x hx
theorem only_new {q r i j e v : Nat} (hl : bs.length = n * 256) (hq : q < n) (hr : r < n) (hi : i < 64) (hj : j < 64) : (stW (stW (overB bs (q * 256) (fillB [])) r i e) q j v).length = n * 256 ∧ ∀ t, t < n → t ≠ q → t ≠ r → frB (stW (stW (overB bs (q * 256) (fillB [])) r i e) q j v) t = frB bs t := by
  have o1 := only_fill (bs := bs) (ws := []) hl hq (by decide)
  have o2 := only_st (v := e) o1.len hr hi
  have o3 := only_st (v := v) o2.len hq hj
  exact ⟨o3.len, fun t ht h1 h2 => by rw [o3.oth t ht h1, o2.oth t ht h2, o1.oth t ht h1]⟩
theorem Rep.newTab (R : Rep n bs A) (O : Own own A) (hn : n ≤ 1024) {k r p q : Nat} (hk : A.rt k = some r) (hp : p < 4096) (h0 : A.tb k (p / 64) = none) (hqn : q < n) (h1 : ∀ k, A.rt k ≠ some q) (h2 : ∀ k g, A.tb k g ≠ some q) (v : Nat) :
    Rep n (stW (stW (overB bs (q * 256) (fillB [])) r (p / 64) (entryOf q 0).toNat) q (p % 64) v) { A with tb := up2 A.tb k (p / 64) (some q), pg := up2 A.pg k p (ent (v % 4294967296)) } := by
  have hi : p % 64 < 64 := Nat.mod_lt _ (by decide)
  have hi2 : p / 64 < 64 := by omega
  obtain ⟨ol, oo⟩ := only_new (e := (entryOf q 0).toNat) (v := v) R.len hqn (R.rlt hk) hi2 hi
  refine ⟨ol, fun k' r' hk' => ?_, fun k' r' g hk' hg => ?_, fun k' g q' hx => ?_, fun k' p' x hx => ?_⟩
  · obtain ⟨t1, t2, t3⟩ := R.tree k' r' hk'
    by_cases hkk : k' = k
    · subst hkk
      rw [hk] at hk'; cases hk'
      obtain ⟨a1, a2, a3⟩ := t1.new hn hp (by rw [t2 _ hi2, h0]) hqn (fun e => h1 k' (by rw [hk, e])) (fun g hg e => h2 k' g (by rw [← t2 g hg, e])) v
      refine ⟨a1, fun g hg => ?_, fun p' hp' => ?_⟩
      · rw [a2 g hg, t2 g hg]
        dsimp only
        by_cases h : g = p / 64
        · subst h; rw [if_pos rfl, up2_at]
        · rw [if_neg h, up2_ne (by omega)]
      · rw [a3 p' hp', t3 p' hp']
        dsimp only
        by_cases h : p' = p
        · subst h; rw [if_pos rfl, up2_at]
        · rw [if_neg h, up2_ne (by omega)]
    · have hne1 : r' ≠ r := fun e => by
        have := O.inj (.root k') (.root k) r (by simp only [Ab.fr]; rw [hk', e]) hk
        cases this; exact hkk rfl
      obtain ⟨a1, a2, a3⟩ := t1.other ol (same_of_fr (oo r' t1.rt (fun e => h1 k' (by rw [hk', e])) hne1)) (fun g q' hg hq' => same_of_fr (oo q' (tab_lt hq') (fun e => h2 k' g (by rw [← t2 g hg, hq', e])) fun e => by
        have := O.inj (.tab k' g) (.root k) r (by simp only [Ab.fr]; rw [← t2 g hg, hq', e]) hk
        cases this))
      exact ⟨a1, fun g hg => by rw [a2 g hg, t2 g hg]; exact (up2_ne (fun q => hkk q.1)).symm, fun p' hp' => by rw [a3 p' hp', t3 p' hp']; exact (up2_ne (fun q => hkk q.1)).symm⟩
  · have hq' : r' ≠ q := fun e => h1 k' (by rw [hk', e])
    by_cases hkk : k' = k
    · subst hkk
      rw [hk] at hk'; cases hk'
      have l1 := fill_len R.len hqn
      have l2 := stW_len (v := (entryOf q 0).toNat) l1 (R.rlt hk) hi2
      have hw : word (stW (stW (overB bs (q * 256) (fillB [])) r (p / 64) (entryOf q 0).toNat) q (p % 64) v) r g = if g = p / 64 then (entryOf q 0).toNat else word bs r g := by
        rw [(same_st l2 hqn hi (R.rlt hk) hq') g hg, word_st l1 (R.rlt hk) hi2 (R.rlt hk) hg, entry_mod, (same_fill R.len hqn (R.rlt hk) hq') g hg]
        by_cases h : g = p / 64 <;> simp [h]
      rw [hw]
      dsimp only
      by_cases h : g = p / 64
      · subst h
        rw [if_pos rfl, up2_at, show (entryOf (q : Int) 0) = entryOf (q : Int) ((0 : Nat) : Int) from rfl, ent_entry (by omega) (by decide)]; rfl
      · rw [if_neg h, up2_ne (by omega)]; exact R.rw k' r g hk hg
    · have hne1 : r' ≠ r := fun e => by
        have := O.inj (.root k') (.root k) r (by simp only [Ab.fr]; rw [hk', e]) hk
        cases this; exact hkk rfl
      rw [(same_of_fr (oo r' (R.rlt hk') hq' hne1)) g hg]
      dsimp only
      rw [up2_ne (fun q => hkk q.1)]; exact R.rw k' r' g hk' hg
  · by_cases h : k' = k ∧ g = p / 64
    · obtain ⟨rfl, rfl⟩ := h; exact ⟨hi2, r, hk⟩
    · dsimp only at hx; rw [up2_ne h] at hx; exact R.tb0 k' g q' hx
  · by_cases h : k' = k ∧ p' = p
    · obtain ⟨rfl, rfl⟩ := h; exact ⟨hp, r, hk⟩
    · dsimp only at hx; rw [up2_ne h] at hx; exact R.pg0 k' p' x hx
theorem Rep.root (R : Rep n bs A) {k f : Nat} (hf : f < n) (hz : frB bs f = List.replicate 256 0) (h0 : A.rt k = none) : Rep n bs { A with rt := fun k' => if k' = k then some f else A.rt k' } := by
  have hw : ∀ i, i < 64 → word bs f i = 0 := fun i hi => by rw [word_fr bs f i hi, hz, List.drop_replicate, List.take_replicate, leN_zeros]
  have ht : ∀ g, g < 64 → tab n bs f g = none := fun g hg => by unfold tab; rw [hw g hg, ent_zero]; rfl
  have e1 : ∀ g, A.tb k g = none := fun g => by
    cases h : A.tb k g with
    | none => rfl
    | some q => obtain ⟨_, r, hr⟩ := R.tb0 k g q h; rw [h0] at hr; cases hr
  have e2 : ∀ p, A.pg k p = none := fun p => by
    cases h : A.pg k p with
    | none => rfl
    | some q => obtain ⟨_, r, hr⟩ := R.pg0 k p q h; rw [h0] at hr; cases hr
  refine ⟨R.len, fun k' r' hk' => ?_, fun k' r' g hk' hg => ?_, fun k' g q h => ?_, fun k' p x h => ?_⟩
  · dsimp only at hk'
    split at hk'
    · rename_i hkk; subst hkk; cases hk'
      refine ⟨⟨R.len, hf, fun g hg => by rw [ht g hg]; simp, fun g g' q hg _ h1 _ => by rw [ht g hg] at h1; cases h1⟩, fun g hg => by rw [ht g hg, e1 g], fun p hp => ?_⟩
      rw [e2 p]; unfold wk; rw [ht _ (by omega)]; rfl
    · exact R.tree k' r' hk'
  · dsimp only at hk'
    split at hk'
    · rename_i hkk; subst hkk; cases hk'
      rw [hw g hg, ent_zero, e1 g]; rfl
    · exact R.rw k' r' g hk' hg
  · obtain ⟨h1, r, hr⟩ := R.tb0 k' g q h
    refine ⟨h1, ?_⟩
    dsimp only
    split
    · exact ⟨f, rfl⟩
    · exact ⟨r, hr⟩
  · obtain ⟨h1, r, hr⟩ := R.pg0 k' p x h
    refine ⟨h1, ?_⟩
    dsimp only
    split
    · exact ⟨f, rfl⟩
    · exact ⟨r, hr⟩
end
/-! ### the table of translations -/
def Uniq (l : List Slot) : Prop := ∀ (i j : Nat) (s s' : Slot), l[i]? = some s → l[j]? = some s' → s.used = true → s'.used = true → s.tag = s'.tag → s.page = s'.page → i = j
theorem hit_iff {tag page : Int} {s : Slot} : hitB tag page s = true ↔ s.used = true ∧ s.tag = tag ∧ s.page = page := by simp [hitB]
theorem put_at {l : List Slot} {hand : Nat} {s : Slot} (hu : Uniq l) (hh : hand < l.length) : ∃ i, i < l.length ∧ (putL l hand s).1 = l.set i s ∧ ∀ j s', l[j]? = some s' → hitB s.tag s.page s' = true → j = i := by
  rcases put_cases l s.tag s.page with ⟨i, h1, h2⟩ | ⟨h1, i, h2, h3⟩ | ⟨h1, h2⟩
  · refine ⟨i, h2, by simp [putL, h1], fun j s' hj hs => ?_⟩
    obtain ⟨_, h4, _⟩ := List.findIdx?_eq_some_iff_getElem.1 h1
    have a := hit_iff.1 h4
    have b := hit_iff.1 hs
    exact hu j i s' l[i] hj (by simp [h2]) b.1 a.1 (by rw [a.2.1, b.2.1]) (by rw [a.2.2, b.2.2])
  · refine ⟨i, h3, by simp [putL, h1, h2], fun j s' hj hs => ?_⟩
    have := List.findIdx?_eq_none_iff.1 h1 s' (List.mem_of_getElem? hj)
    rw [this] at hs; cases hs
  · refine ⟨hand, hh, by simp [putL, h1, h2], fun j s' hj hs => ?_⟩
    have := List.findIdx?_eq_none_iff.1 h1 s' (List.mem_of_getElem? hj)
    rw [this] at hs; cases hs
/-- What the table says is so. -/
structure Tru (A : Ab) (l : List Slot) (hand : Nat) : Prop where
  un : Uniq l
  tr : ∀ s ∈ l, s.used = true → ∃ (k p : Nat) (x : Nat × Nat), s.tag = k ∧ s.page = p ∧ A.pg k p = some x ∧ s.frame = x.1 ∧ s.perm = x.2
  ll : l.length ≤ 64
  hh : hand < l.length
theorem putL_len {l : List Slot} {hand : Nat} {s : Slot} : (putL l hand s).1.length = l.length := by
  rcases put_cases l s.tag s.page with ⟨i, h1, h2⟩ | ⟨h1, i, h2, h3⟩ | ⟨h1, h2⟩ <;> simp [putL, h1, h2]
theorem putL_hand {l : List Slot} {hand : Nat} {s : Slot} (h : hand < l.length) : (putL l hand s).2 < l.length := by
  rcases put_cases l s.tag s.page with ⟨i, h1, h2⟩ | ⟨h1, i, h2, h3⟩ | ⟨h1, h2⟩ <;> simp [putL, h1, h2, h]
  exact Nat.mod_lt _ (by omega)
theorem Tru.put {A : Ab} {l : List Slot} {hand k p : Nat} {x : Nat × Nat} (T : Tru A l hand) (h : A.pg k p = some x) : Tru A (putL l hand ⟨true, k, p, x.1, x.2⟩).1 (putL l hand ⟨true, k, p, x.1, x.2⟩).2 := by
  refine ⟨?_, ?_, by rw [putL_len]; exact T.ll, by rw [putL_len]; exact putL_hand T.hh⟩
  all_goals obtain ⟨i, hi, e, hall⟩ := put_at (hand := hand) (s := ⟨true, k, p, x.1, x.2⟩) T.un T.hh
  · rw [e]
    intro j j' s1 s2 h1 h2 u1 u2 t q
    rw [List.getElem?_set] at h1 h2
    by_cases hj : i = j <;> by_cases hk : i = j'
    · omega
    · subst hj; rw [if_pos rfl, if_pos hi] at h1; rw [if_neg hk] at h2; cases h1
      exact (hall j' s2 h2 (hit_iff.2 ⟨u2, t.symm, q.symm⟩)).symm
    · subst hk; rw [if_pos rfl, if_pos hi] at h2; rw [if_neg hj] at h1; cases h2
      exact hall j s1 h1 (hit_iff.2 ⟨u1, t, q⟩)
    · rw [if_neg hj] at h1; rw [if_neg hk] at h2; exact T.un j j' s1 s2 h1 h2 u1 u2 t q
  · rw [e]
    intro s hs hu
    obtain ⟨j, hj⟩ := List.getElem?_of_mem hs
    rw [List.getElem?_set] at hj
    by_cases hij : i = j
    · subst hij; rw [if_pos rfl, if_pos hi] at hj; cases hj
      exact ⟨k, p, x, rfl, rfl, h, rfl, rfl⟩
    · rw [if_neg hij] at hj
      exact T.tr s (List.mem_of_getElem? hj) hu
/-- A hit tells the truth. -/
theorem Tru.hit {A : Ab} {l : List Slot} {hand k p i : Nat} {s : Slot} (T : Tru A l hand) (hf : l.findIdx? (hitB k p) = some i) (hs : l[i]? = some s) : ∃ x, A.pg k p = some x ∧ s.frame = (x.1 : Int) ∧ s.perm = (x.2 : Int) := by
  obtain ⟨hi, h4, _⟩ := List.findIdx?_eq_some_iff_getElem.1 hf
  have e : l[i] = s := by simpa [hi] using hs
  rw [e] at h4
  obtain ⟨a1, a2, a3⟩ := hit_iff.1 h4
  obtain ⟨k', p', x, b1, b2, b3, b4, b5⟩ := T.tr s (List.mem_of_getElem? hs) a1
  obtain rfl : k' = k := by omega
  obtain rfl : p' = p := by omega
  exact ⟨x, b3, b4, b5⟩
/-- A page that was not there is laid: the table knows nothing of it. -/
theorem Tru.lay {A : Ab} {l : List Slot} {hand : Nat} (T : Tru A l hand) (A' : Ab) (h : ∀ k p x, A.pg k p = some x → A'.pg k p = some x) : Tru A' l hand :=
  ⟨T.un, fun s hs hu => by obtain ⟨k, p, x, b1, b2, b3, b4⟩ := T.tr s hs hu; exact ⟨k, p, x, b1, b2, h k p x b3, b4⟩, T.ll, T.hh⟩
end Go.Proofs.YtphljkplokjonaaGreat.Sp
/- Spaces of several partitions in one memory: a good state, and what each operation makes of it. Plain law, no program in sight. -/
namespace Go.Proofs.YtphljkplokjonaaGreat.Sp
open Go Go.Sl Go.RowKit Go.Proofs Go.Proofs.YtphljkplokjonaaGreat.T Go.Proofs.YtphljkplokjonaaGreat.Me Go.Proofs.YtphljkplokjonaaGreat.Pe Go.Proofs.YtphljkplokjonaaGreat.Pg
open Go.Proofs.YtphljkplokjonaaGreat.Fz (cnt cnt_set inv_take inv_give)
open Go.Proofs.YtphljkplokjonaaGreat.Tl (Slot hitB putL flushPL put_cases)
set_option maxRecDepth 100000
/-- What the machine's parts hold. -/
structure St where
  bs : List UInt8
  own : List Int
  l : List Slot
  hand : Nat
  hits : Nat
  miss : Nat
structure Good (n : Nat) (qs : List Int) (A : Ab) (σ : St) : Prop where
  rep : Rep n σ.bs A
  own : Own σ.own A
  inv : Fz.Inv σ.own qs
  ol : σ.own.length = n
  pm : ∀ k p x, A.pg k p = some x → 1 ≤ x.2 ∧ x.2 ≤ 7
  tlb : Tru A σ.l σ.hand
/-- What can be seen of it: pages with their rights and bytes, which second tables there are, how many frames are free. -/
structure Ob where
  vw : Nat → Nat → Option (Nat × List UInt8)
  ts : Nat → Nat → Bool
  fr : Nat
def obs (A : Ab) (σ : St) : Ob := ⟨fun k p => (A.pg k p).map fun x => (x.2, frB σ.bs x.1), fun k g => (A.tb k g).isSome, cnt σ.own (-1)⟩
abbrev zs : List UInt8 := List.replicate 256 0
theorem Ob.ext' {a b : Ob} (h1 : ∀ k p, a.vw k p = b.vw k p) (h2 : ∀ k g, a.ts k g = b.ts k g) (h3 : a.fr = b.fr) : a = b := by
  cases a; cases b
  have e1 := funext fun k => funext (h1 k)
  have e2 := funext fun k => funext (h2 k)
  simp only at e1 e2 h3
  subst e1 e2 h3; rfl
section
variable {n : Nat} {qs : List Int} {A : Ab} {σ : St}
theorem Good.n2 (G : Good n qs A σ) : 1 ≤ n ∧ n ≤ 1024 := by have := G.inv.tot; rw [G.ol] at this; exact this
theorem Good.flt (G : Good n qs A σ) {ρ : Role} {f : Nat} (h : A.fr ρ = some f) : f < n := by
  have := (List.getElem?_eq_some_iff.1 (G.own.ow ρ f h)).1
  rw [G.ol] at this; exact this
theorem Good.pgf {k p : Nat} {x : Nat × Nat} (h : A.pg k p = some x) : A.fr (.page k p) = some x.1 := by simp only [Ab.fr, h]; rfl
theorem Good.plt (G : Good n qs A σ) {k p : Nat} {x : Nat × Nat} (h : A.pg k p = some x) : x.1 < n := G.flt (Good.pgf h)
theorem Good.ent (G : Good n qs A σ) {f m : Nat} (hf : f < n) (hm : m ≤ 7) : Pg.ent ((entryOf f m).toNat % 4294967296) = some (f, m) := by rw [entry_mod]; exact ent_entry (by have := G.n2; omega) hm
theorem Rep.hs {bs : List UInt8} (R : Rep n bs A) (h : List (Nat × Nat)) : Rep n bs { A with hs := h } := ⟨R.len, R.tree, R.rw, R.tb0, R.pg0⟩
theorem Good.nroot (G : Good n qs A σ) {ρ : Role} {f : Nat} (h : A.fr ρ = some f) (hρ : ∀ k, ρ ≠ .root k) (k : Nat) : A.rt k ≠ some f := fun e => hρ k (G.own.inj ρ (.root k) f h e)
theorem Good.ntab (G : Good n qs A σ) {ρ : Role} {f : Nat} (h : A.fr ρ = some f) (hρ : ∀ k g, ρ ≠ .tab k g) (k g : Nat) : A.tb k g ≠ some f := fun e => hρ k g (G.own.inj ρ (.tab k g) f h e)
/-- A lookup is kept in mind. -/
theorem Good.find (G : Good n qs A σ) {k p : Nat} {x : Nat × Nat} (h : A.pg k p = some x) (a b : Nat) : Good n qs A { σ with l := (putL σ.l σ.hand ⟨true, k, p, x.1, x.2⟩).1, hand := (putL σ.l σ.hand ⟨true, k, p, x.1, x.2⟩).2, hits := a, miss := b } :=
  ⟨G.rep, G.own, G.inv, G.ol, G.pm, G.tlb.put h⟩
theorem Good.count (G : Good n qs A σ) (a b : Nat) : Good n qs A { σ with hits := a, miss := b } := ⟨G.rep, G.own, G.inv, G.ol, G.pm, G.tlb⟩
/-- A page over a table that is there. -/
theorem Good.map1 (G : Good n qs A σ) (h0 : A.hs = []) {k r p q f m : Nat} {qk : Int} (hk : A.rt k = some r) (hp : p < 4096) (hq : A.tb k (p / 64) = some q) (hn : A.pg k p = none) (hf : σ.own[f]? = some (-1)) (hm : 1 ≤ m ∧ m ≤ 7) (hqk : qs[k]? = some qk) (hc : (cnt σ.own k : Int) < qk) :
    Good n qs { A with pg := up2 A.pg k p (some (f, m)) } { σ with bs := stW (overB σ.bs (f * 256) (fillB [])) q (p % 64) (entryOf f m).toNat, own := σ.own.set f k } ∧
    obs { A with pg := up2 A.pg k p (some (f, m)) } { σ with bs := stW (overB σ.bs (f * 256) (fillB [])) q (p % 64) (entryOf f m).toNat, own := σ.own.set f k } = ⟨up2 (obs A σ).vw k p (some (m, zs)), (obs A σ).ts, (obs A σ).fr - 1⟩ := by
  have hfn : f < n := by rw [← G.ol]; exact (List.getElem?_eq_some_iff.1 hf).1
  have hi : p % 64 < 64 := Nat.mod_lt _ (by decide)
  have hqn := G.rep.tlt hq
  have o1 := only_fill (bs := σ.bs) (ws := []) G.rep.len hfn (by decide)
  have o2 := only_st (i := p % 64) (v := (entryOf f m).toNat) o1.len hqn hi
  have O1 := G.own.take k hf
  have R1 := (G.rep.only o1 (fun k' e => G.own.free hf (.root k') e) (fun k' g e => G.own.free hf (.tab k' g) e)).hs ((f, k) :: A.hs)
  have R2 := R1.entry O1 hk hp hq (entryOf f m).toNat
  rw [G.ent hfn hm.2] at R2
  have O2 := O1.toPage (m := m) rfl hp hn
  have hqf : f ≠ q := fun e => G.own.free hf (.tab k (p / 64)) (by rw [e]; exact hq)
  refine ⟨⟨R2.hs A.hs, O2, inv_take G.inv hqk hc hf, by rw [List.length_set]; exact G.ol, fun k' p' x hx => ?_, G.tlb.lay _ fun k' p' x hx => ?_⟩, Ob.ext' (fun k' p' => ?_) (fun _ _ => rfl) ?_⟩
  · dsimp only at hx
    by_cases h : k' = k ∧ p' = p
    · obtain ⟨rfl, rfl⟩ := h; rw [up2_at] at hx; cases hx; exact hm
    · rw [up2_ne h] at hx; exact G.pm k' p' x hx
  · dsimp only
    rw [up2_ne (by rintro ⟨rfl, rfl⟩; rw [hn] at hx; cases hx)]; exact hx
  · dsimp only [obs]
    by_cases h : k' = k ∧ p' = p
    · obtain ⟨rfl, rfl⟩ := h
      rw [up2_at, up2_at]
      show some (m, _) = _
      rw [o2.oth f hfn hqf, fr_fill (by rw [G.rep.len]; exact Nat.mul_le_mul_right _ (Nat.le_of_lt hfn)) (by decide)]; rfl
    · rw [up2_ne h, up2_ne h]
      cases hx : A.pg k' p' with
      | none => rfl
      | some x =>
        have hpf := Good.pgf hx
        have h1 : x.1 ≠ q := fun e => by have := G.own.inj (.page k' p') (.tab k (p / 64)) q (by rw [hpf, e]) hq; cases this
        have h2 : x.1 ≠ f := fun e => G.own.free hf (.page k' p') (by rw [hpf, e])
        show some (x.2, _) = some (x.2, _)
        rw [o2.oth _ (G.plt hx) h1, o1.oth _ (G.plt hx) h2]
  · show cnt (σ.own.set f k) (-1) = cnt σ.own (-1) - 1
    rw [cnt_set hf, if_pos rfl, if_neg (show ¬ ((k : Int) = -1) by omega)]; rfl
/-- A page and its table. -/
theorem Good.map2 (G : Good n qs A σ) (h0 : A.hs = []) {k r p q f m : Nat} {qk : Int} (hk : A.rt k = some r) (hp : p < 4096) (hq : A.tb k (p / 64) = none) (hn : A.pg k p = none) (hqf : σ.own[q]? = some (-1)) (hf : (σ.own.set q k)[f]? = some (-1)) (hm : 1 ≤ m ∧ m ≤ 7) (hqk : qs[k]? = some qk) (hc : (cnt σ.own k : Int) + 1 < qk) :
    Good n qs { A with tb := up2 A.tb k (p / 64) (some q), pg := up2 A.pg k p (some (f, m)) } { σ with bs := stW (stW (overB (overB (overB σ.bs (q * 256) (fillB [])) (f * 256) (fillB [])) (q * 256) (fillB [])) r (p / 64) (entryOf q 0).toNat) q (p % 64) (entryOf f m).toNat, own := (σ.own.set q k).set f k } ∧
    obs { A with tb := up2 A.tb k (p / 64) (some q), pg := up2 A.pg k p (some (f, m)) } { σ with bs := stW (stW (overB (overB (overB σ.bs (q * 256) (fillB [])) (f * 256) (fillB [])) (q * 256) (fillB [])) r (p / 64) (entryOf q 0).toNat) q (p % 64) (entryOf f m).toNat, own := (σ.own.set q k).set f k } = ⟨up2 (obs A σ).vw k p (some (m, zs)), up2 (obs A σ).ts k (p / 64) true, (obs A σ).fr - 2⟩ := by
  have hqn : q < n := by rw [← G.ol]; exact (List.getElem?_eq_some_iff.1 hqf).1
  have hfn : f < n := by have := (List.getElem?_eq_some_iff.1 hf).1; rw [List.length_set, G.ol] at this; exact this
  have hi : p % 64 < 64 := Nat.mod_lt _ (by decide)
  have hi2 : p / 64 < 64 := by omega
  have hne : f ≠ q := fun e => by
    subst e
    rw [List.getElem?_set_self (by rw [G.ol]; exact hfn)] at hf
    have := Option.some.inj hf; omega
  have hf0 : σ.own[f]? = some (-1) := by rw [List.getElem?_set_ne (fun e => hne e.symm)] at hf; exact hf
  have o1 := only_fill (bs := σ.bs) (ws := []) G.rep.len hqn (by decide)
  have o2 := only_fill (bs := overB σ.bs (q * 256) (fillB [])) (ws := []) o1.len hfn (by decide)
  have O1 := G.own.take k hqf
  have O2 := O1.take k hf
  have R1 := (G.rep.only o1 (fun k' e => G.own.free hqf (.root k') e) (fun k' g e => G.own.free hqf (.tab k' g) e))
  have R2 := (R1.only o2 (fun k' e => G.own.free hf0 (.root k') e) (fun k' g e => G.own.free hf0 (.tab k' g) e)).hs [(f, k), (q, k)]
  rw [h0] at O2
  have R3 := R2.newTab O2 G.n2.2 hk hp hq hqn (fun k' e => G.own.free hqf (.root k') e) (fun k' g e => G.own.free hqf (.tab k' g) e) (entryOf f m).toNat
  rw [G.ent hfn hm.2] at R3
  obtain ⟨ol, oo⟩ := only_new (bs := overB (overB σ.bs (q * 256) (fillB [])) (f * 256) (fillB [])) (r := r) (i := p / 64) (j := p % 64) (e := (entryOf q 0).toNat) (v := (entryOf f m).toNat) o2.len hqn (G.rep.rlt hk) hi2 hi
  have O3 := (O2.toPage (m := m) rfl hp hn).toTab rfl hi2 hq
  have hrf : f ≠ r := fun e => G.own.free hf0 (.root k) (by rw [e]; exact hk)
  have I1 := inv_take G.inv hqk (by omega) hqf
  have I2 := inv_take I1 hqk (show (cnt (σ.own.set q k) k : Int) < qk by rw [cnt_set hqf, if_neg (show ¬ ((-1 : Int) = k) by omega), if_pos rfl]; omega) hf
  refine ⟨⟨R3.hs A.hs, by rw [h0]; exact O3, I2, by rw [List.length_set, List.length_set]; exact G.ol, fun k' p' x hx => ?_, G.tlb.lay _ fun k' p' x hx => ?_⟩, Ob.ext' (fun k' p' => ?_) (fun k' g => ?_) ?_⟩
  · dsimp only at hx
    by_cases h : k' = k ∧ p' = p
    · obtain ⟨rfl, rfl⟩ := h; rw [up2_at] at hx; cases hx; exact hm
    · rw [up2_ne h] at hx; exact G.pm k' p' x hx
  · dsimp only
    rw [up2_ne (by rintro ⟨rfl, rfl⟩; rw [hn] at hx; cases hx)]; exact hx
  · dsimp only [obs]
    by_cases h : k' = k ∧ p' = p
    · obtain ⟨rfl, rfl⟩ := h
      rw [up2_at, up2_at]
      show some (m, _) = _
      rw [oo f hfn hne hrf, fr_fill (by rw [o1.len]; exact Nat.mul_le_mul_right _ (Nat.le_of_lt hfn)) (by decide)]; rfl
    · rw [up2_ne h, up2_ne h]
      cases hx : A.pg k' p' with
      | none => rfl
      | some x =>
        have hpf := Good.pgf hx
        have h1 : x.1 ≠ q := fun e => G.own.free hqf (.page k' p') (by rw [hpf, e])
        have h2 : x.1 ≠ f := fun e => G.own.free hf0 (.page k' p') (by rw [hpf, e])
        have h3 : x.1 ≠ r := fun e => by have := G.own.inj (.page k' p') (.root k) r (by rw [hpf, e]) hk; cases this
        show some (x.2, _) = some (x.2, _)
        rw [oo _ (G.plt hx) h1 h3, o2.oth _ (G.plt hx) h2, o1.oth _ (G.plt hx) h1]
  · dsimp only [obs]
    by_cases h : k' = k ∧ g = p / 64
    · obtain ⟨rfl, rfl⟩ := h; rw [up2_at, up2_at]; rfl
    · rw [up2_ne h, up2_ne h]
  · show cnt ((σ.own.set q k).set f k) (-1) = cnt σ.own (-1) - 2
    rw [cnt_set hf, cnt_set hqf, if_pos rfl, if_neg (show ¬ ((k : Int) = -1) by omega)]; rfl
/-- Bytes are written into a page. -/
theorem Good.write (G : Good n qs A σ) {k p o : Nat} {x : Nat × Nat} {ys : List UInt8} (hx : A.pg k p = some x) (ho : o + ys.length ≤ 256) :
    Good n qs A { σ with bs := overB σ.bs (x.1 * 256 + o) ys } ∧
    obs A { σ with bs := overB σ.bs (x.1 * 256 + o) ys } = ⟨up2 (obs A σ).vw k p (some (x.2, overB (frB σ.bs x.1) o ys)), (obs A σ).ts, (obs A σ).fr⟩ := by
  have hpf := Good.pgf hx
  have hxn := G.plt hx
  have o1 := only_over (bs := σ.bs) (ys := ys) (q := x.1) (a := x.1 * 256 + o) G.rep.len hxn (by omega)
  have R1 := G.rep.only o1 (fun k' e => G.nroot hpf (fun _ => by simp) k' e) (fun k' g e => G.ntab hpf (fun _ _ => by simp) k' g e)
  refine ⟨⟨R1, G.own, G.inv, G.ol, G.pm, G.tlb⟩, Ob.ext' (fun k' p' => ?_) (fun _ _ => rfl) rfl⟩
  dsimp only [obs]
  by_cases h : k' = k ∧ p' = p
  · obtain ⟨rfl, rfl⟩ := h; rw [up2_at, hx]
    show some (x.2, _) = some (x.2, _)
    rw [fr_over G.rep.len hxn ho]
  · rw [up2_ne h]
    cases hy : A.pg k' p' with
    | none => rfl
    | some y =>
      have h2 : y.1 ≠ x.1 := fun e => by have := G.own.inj (.page k' p') (.page k p) x.1 (by rw [Good.pgf hy, e]) hpf; cases this; exact h ⟨rfl, rfl⟩
      show some (y.2, _) = some (y.2, _)
      rw [o1.oth _ (G.plt hy) h2]
/-- A new space. -/
theorem Good.new (G : Good n qs A σ) (h0 : A.hs = []) {k f : Nat} {qk : Int} (hk : A.rt k = none) (hf : σ.own[f]? = some (-1)) (hqk : qs[k]? = some qk) (hc : (cnt σ.own k : Int) < qk) :
    Good n qs { A with rt := fun k' => if k' = k then some f else A.rt k' } { σ with bs := overB σ.bs (f * 256) (fillB []), own := σ.own.set f k } ∧
    obs { A with rt := fun k' => if k' = k then some f else A.rt k' } { σ with bs := overB σ.bs (f * 256) (fillB []), own := σ.own.set f k } = ⟨(obs A σ).vw, (obs A σ).ts, (obs A σ).fr - 1⟩ := by
  have hfn : f < n := by rw [← G.ol]; exact (List.getElem?_eq_some_iff.1 hf).1
  have o1 := only_fill (bs := σ.bs) (ws := []) G.rep.len hfn (by decide)
  have O1 := G.own.take k hf
  have R1 := (G.rep.only o1 (fun k' e => G.own.free hf (.root k') e) (fun k' g e => G.own.free hf (.tab k' g) e))
  have R2 := R1.root hfn (by rw [fr_fill (by rw [G.rep.len]; exact Nat.mul_le_mul_right _ (Nat.le_of_lt hfn)) (by decide)]; rfl) hk
  have O2 := O1.toRoot rfl hk
  refine ⟨⟨R2, O2, inv_take G.inv hqk hc hf, by rw [List.length_set]; exact G.ol, G.pm, G.tlb.lay _ fun _ _ _ h => h⟩, Ob.ext' (fun k' p' => ?_) (fun _ _ => rfl) ?_⟩
  · dsimp only [obs]
    cases hx : A.pg k' p' with
    | none => rfl
    | some x =>
      have h2 : x.1 ≠ f := fun e => G.own.free hf (.page k' p') (by rw [Good.pgf hx, e])
      show some (x.2, _) = some (x.2, _)
      rw [o1.oth _ (G.plt hx) h2]
  · show cnt (σ.own.set f k) (-1) = cnt σ.own (-1) - 1
    rw [cnt_set hf, if_pos rfl, if_neg (show ¬ ((k : Int) = -1) by omega)]; rfl
/-- At the beginning. -/
theorem Good.start {m : Nat} (h1 : Fz.Inv (List.replicate n (-1)) qs) (h2 : 1 ≤ m ∧ m ≤ 64) : Good n qs ⟨fun _ => none, fun _ _ => none, fun _ _ => none, []⟩ ⟨List.replicate (n * 256) 0, List.replicate n (-1), List.replicate m Slot.zero, 0, 0, 0⟩ ∧
    obs ⟨fun _ => none, fun _ _ => none, fun _ _ => none, []⟩ ⟨List.replicate (n * 256) 0, List.replicate n (-1), List.replicate m Slot.zero, 0, 0, 0⟩ = ⟨fun _ _ => none, fun _ _ => false, n⟩ := by
  have hz : ∀ m, cN (fun _ => false) m = 0 := fun m => by induction m with
    | zero => rfl
    | succ m ih => simp [cN, ih]
  have hfr : ∀ ρ f, Ab.fr ⟨fun _ => none, fun _ _ => none, fun _ _ => none, []⟩ ρ ≠ some f := fun ρ f h => by cases ρ <;> simp [Ab.fr] at h
  refine ⟨⟨⟨by simp, fun k r h => (by cases h), fun k r g h => (by cases h), fun k g q h => (by cases h), fun k p x h => (by cases h)⟩, ⟨fun ρ ρ' f h _ => absurd h (hfr ρ f), fun ρ f h => absurd h (hfr ρ f), by simp, fun k => ?_⟩, h1, by simp, fun k p x h => (by cases h), ⟨fun i j s s' a b u _ _ _ => ?_, fun s hs hu => ?_, by simp; omega, by simp; omega⟩⟩, Ob.ext' (fun _ _ => rfl) (fun _ _ => rfl) ?_⟩
  · simp only [Option.isSome_none, Bool.false_eq_true, if_false, hz]
    unfold cnt
    rw [List.count_replicate]; simp
  · have hs := List.mem_of_getElem? a
    rw [List.mem_replicate] at hs
    rw [hs.2] at u; cases u
  · rw [List.mem_replicate] at hs
    rw [hs.2] at hu; cases hu
  · show cnt (List.replicate n (-1)) (-1) = n
    unfold cnt; rw [List.count_replicate]; simp
end
end Go.Proofs.YtphljkplokjonaaGreat.Sp
/- space.Space over the machine's parts: what each function does to what can be seen. -/
namespace Go.Proofs.YtphljkplokjonaaGreat.Sp
open Go Go.Sl Go.RowKit Go.Proofs Go.Proofs.YtphljkplokjonaaGreat.T Go.Proofs.YtphljkplokjonaaGreat.Me Go.Proofs.YtphljkplokjonaaGreat.Pe Go.Proofs.YtphljkplokjonaaGreat.Pg
open Go.Proofs.YtphljkplokjonaaGreat.Fz (cnt cnt_set inv_take inv_give free_frame isP left left_in)
open Go.Proofs.YtphljkplokjonaaGreat.Tl (Slot hitB putL flushPL put_cases)
set_option maxRecDepth 100000
/-- The machine's parts. -/
abbrev WG (m f t n : Nat) (qs : List Int) (σ : St) (Fr : List HProp) : List HProp := M m n σ.bs :: Fz.F f σ.own qs :: Tl.T t σ.l σ.hand σ.hits σ.miss :: Fr
/-- The space of the partition k with the root r. -/
abbrev sb (s k r m f t : Nat) : HProp := blk s [.int .i64 k, .int .i64 r, .pointer (some ⟨m, 0, none⟩), .pointer (some ⟨f, 0, none⟩), .pointer (some ⟨t, 0, none⟩)] 166
/-- A page of whatever number. -/
def vp (A : Ab) (k : Nat) (p : Int) : Option (Nat × Nat) := if 0 ≤ p ∧ p < 4096 then A.pg k p.toNat else none
theorem vp_in {A : Ab} {k p : Nat} (h : p < 4096) : vp A k p = A.pg k p := by unfold vp; rw [if_pos (by omega), Int.toNat_natCast]
theorem vp_out {A : Ab} {k : Nat} {p : Int} (h : ¬(0 ≤ p ∧ p < 4096)) : vp A k p = none := by unfold vp; rw [if_neg h]
theorem vp_cases (A : Ab) (k : Nat) (p : Int) : (∃ (q : Nat) (x : Nat × Nat), p = q ∧ q < 4096 ∧ A.pg k q = some x ∧ vp A k p = some x) ∨ (∃ q : Nat, p = q ∧ q < 4096 ∧ A.pg k q = none ∧ vp A k p = none) ∨ (¬(0 ≤ p ∧ p < 4096) ∧ vp A k p = none) := by
  by_cases h : 0 ≤ p ∧ p < 4096
  · obtain ⟨q, rfl⟩ := Int.eq_ofNat_of_zero_le h.1
    rw [vp_in (by omega)]
    cases hx : A.pg k q with
    | none => exact .inr (.inl ⟨q, rfl, by omega, hx, rfl⟩)
    | some x => exact .inl ⟨q, x, rfl, by omega, hx, rfl⟩
  · exact .inr (.inr ⟨h, vp_out h⟩)
/-- What a walk tells. -/
def wV (A : Ab) (k : Nat) (p : Int) : Int × Int × Int := match vp A k p with | some x => (x.1, x.2, 0) | none => (0, 0, if 0 ≤ p ∧ p < 4096 then 90 else 2)
section
variable (W0 : World) (Fr : List HProp)
variable {n : Nat} {qs : List Int} {A : Ab} {σ : St} {k r s m f t : Nat}
theorem walk_ab (R : Rep n σ.bs A) (hk : A.rt k = some r) (p : Int) : Ctr Tryz.prog W0 84 [.pointer (some ⟨m, 0, none⟩), .int .i64 r, .int .i64 p] (M m n σ.bs :: Fr) (fun _ : Unit => True) (fun _ => .tuple #[.int .i64 (wV A k p).1, .int .i64 (wV A k p).2.1, .int .i64 (wV A k p).2.2]) (fun _ => M m n σ.bs :: Fr) := by
  obtain ⟨t1, t2, t3⟩ := R.tree k r hk
  rcases vp_cases A k p with ⟨q, x, rfl, hq, hx, hv⟩ | ⟨q, rfl, hq, hx, hv⟩ | ⟨hp, hv⟩
  · have hw := walkR_some (n := n) (bs := σ.bs) (root := r) (p := q) (by rw [t3 q hq, hx])
    have := Pg.walk_spec W0 Fr (m := m) (n := n) (root := r) (p := q) (bs := σ.bs) t1.rt hq
    rw [hw] at this
    unfold wV; rw [hv]; exact this
  · have hw := walkR_none (n := n) (bs := σ.bs) (root := r) (p := q) (by rw [t3 q hq, hx])
    have := Pg.walk_spec W0 Fr (m := m) (n := n) (root := r) (p := q) (bs := σ.bs) t1.rt hq
    rw [hw] at this
    unfold wV; rw [hv, if_pos (by omega)]; exact this
  · unfold wV; rw [hv, if_neg hp]
    exact Pg.walk_bad W0 Fr (.inr hp)
theorem there_spec (R : Rep n σ.bs A) (hk : A.rt k = some r) (p : Int) : Ctr Tryz.prog W0 132 [.pointer (some ⟨s, 0, none⟩), .int .i64 p] (WG m f t n qs σ (sb s k r m f t :: Fr)) (fun _ : Unit => True) (fun _ => .bool (vp A k p).isSome) (fun _ => WG m f t n qs σ (sb s k r m f t :: Fr)) := by
  refine Ctr.of_body Tryz.func132 rfl Tryz.ntmps132 rfl ?_
  refine CG.seq ?_
  refine CG.region ?_
  refine OG.sg rfl rfl ?_
  refine OG.nil ?_
  refine QG.then ?_
  refine CG.seq ?_
  refine CG.draw (.look 0 1 (.look 1 1 (.look 2 1 (.look 3 1 (.look 4 1 (.look 5 1 (.look 6 1 (.look 7 1 (.look 8 1 (.eff1 9 false (.look 10 1 (.look 11 1 (.look 12 1 (.look 13 1 (.look 14 1 (.look 15 1 (.look 16 1 (.done)))))))))))))))))) [9] [] ([]) ([]) mixed (by kernel_rfl) (Imp.none _) (Imp.none _) ?_
  refine DG.look rfl rfl (Yield.move rfl) rfl ?_
  refine DG.look rfl rfl (Yield.nilCheck rfl) rfl ?_
  refine DG.look rfl rfl (Yield.fieldAddr fa166_2 rfl) rfl ?_
  refine DG.look rfl rfl (Yield.load ti111 rfl (by first | exact Cel.of_blk eX rfl | exact (hrow eX) _ _ rfl)) rfl ?_
  refine DG.look rfl rfl (Yield.move rfl) rfl ?_
  refine DG.look rfl rfl (Yield.nilCheck rfl) rfl ?_
  refine DG.look rfl rfl (Yield.fieldAddr fa166_1 rfl) rfl ?_
  refine DG.look rfl rfl (Yield.load ti3 rfl (by first | exact Cel.of_blk eX rfl | exact (hrow eX) _ _ rfl)) rfl ?_
  refine DG.look rfl rfl (Yield.move rfl) rfl ?_
  refine DG.eff1 ?_
  refine Chg.callo rfl rfl call84 rfl (iM) (walk_ab W0 _ (m := m) (n := n) (σ := σ) R hk p) rfl (fun _ => iM) (fun _ => Imp.refl _) (fun _ => iM) ?_
  rintro ⟨⟩ -
  refine DG.look rfl rfl (Yield.move rfl) rfl ?_
  refine DG.look rfl rfl (Yield.extract rfl rfl) rfl ?_
  refine DG.look rfl rfl (Yield.extract rfl rfl) rfl ?_
  refine DG.look rfl rfl (Yield.extract rfl rfl) rfl ?_
  refine DG.look rfl rfl (Yield.assign rfl) rfl ?_
  refine DG.look rfl rfl (Yield.assign rfl) rfl ?_
  refine DG.look rfl rfl (Yield.assign rfl) rfl ?_
  refine DG.done ?_
  refine QG.then ?_
  refine CG.seq ?_
  refine CG.region ?_
  refine OG.mv rfl rfl ?_
  refine OG.yield (Yield.as (Yield.eql rfl rfl) (v' := .bool (vp A k p).isSome) (by unfold wV; cases vp A k p with | some x => rfl | none => simp only; split <;> rfl)) rfl ?_
  refine OG.sg rfl rfl ?_
  refine OG.nil ?_
  refine QG.then ?_
  refine CG.ret ?_
  exact QG.ret1 rfl rfl () trivial rfl iM
theorem table_spec (R : Rep n σ.bs A) (hn : n ≤ 1024) (hk : A.rt k = some r) {p : Nat} (hp : p < 4096) : Ctr Tryz.prog W0 133 [.pointer (some ⟨s, 0, none⟩), .int .i64 p] (WG m f t n qs σ (sb s k r m f t :: Fr)) (fun _ : Unit => True) (fun _ => .bool (A.tb k (p / 64)).isSome) (fun _ => WG m f t n qs σ (sb s k r m f t :: Fr)) := by
  have hi : p / 64 < 64 := by omega
  have hrn := R.rlt hk
  have hw := word_lt σ.bs r (p / 64)
  have hrw := R.rw k r (p / 64) hk hi
  refine Ctr.of_body Tryz.func133 rfl Tryz.ntmps133 rfl ?_
  refine CG.seq ?_
  refine CG.region ?_
  refine OG.sg rfl rfl ?_
  refine OG.nil ?_
  refine QG.then ?_
  refine CG.seq ?_
  refine CG.draw (.look 0 1 (.look 1 1 (.look 2 1 (.look 3 1 (.look 4 1 (.look 5 1 (.look 6 1 (.look 7 1 (.look 8 1 (.look 9 1 (.look 10 1 (.look 11 1 (.look 12 1 (.look 13 1 (.eff1 14 false (.look 15 1 (.look 16 1 (.look 17 1 (.look 18 1 (.look 19 1 (.done))))))))))))))))))))) [14] [] ([]) ([]) mixed (by kernel_rfl) (Imp.none _) (Imp.none _) ?_
  refine DG.look rfl rfl (Yield.move rfl) rfl ?_
  refine DG.look rfl rfl (Yield.nilCheck rfl) rfl ?_
  refine DG.look rfl rfl (Yield.fieldAddr fa166_2 rfl) rfl ?_
  refine DG.look rfl rfl (Yield.load ti111 rfl (by first | exact Cel.of_blk eX rfl | exact (hrow eX) _ _ rfl)) rfl ?_
  refine DG.look rfl rfl (Yield.move rfl) rfl ?_
  refine DG.look rfl rfl (Yield.nilCheck rfl) rfl ?_
  refine DG.look rfl rfl (Yield.fieldAddr fa166_1 rfl) rfl ?_
  refine DG.look rfl rfl (Yield.load ti3 rfl (by first | exact Cel.of_blk eX rfl | exact (hrow eX) _ _ rfl)) rfl ?_
  refine DG.look rfl rfl (Yield.mul rfl rfl (w64 (by omega) (by omega))) rfl ?_
  refine DG.look rfl rfl (Yield.move rfl) rfl ?_
  refine DG.look rfl rfl (Yield.quo (c := ((p / 64 : Nat) : Int)) rfl rfl (by decide) (quo_nat (b := 64) (by decide) (by omega))) rfl ?_
  refine DG.look rfl rfl (Yield.mul rfl rfl (w64 (by omega) (by omega))) rfl ?_
  refine DG.look rfl rfl (Yield.add rfl rfl (w64 (by omega) (by omega))) rfl ?_
  refine DG.look rfl rfl (Yield.conv (c := ((r * 256 + p / 64 * 4 : Nat) : Int)) Tryz.underlying27 rfl rfl (by rw [show (r : Int) * 256 + ((p / 64 : Nat) : Int) * 4 = ((r * 256 + p / 64 * 4 : Nat) : Int) by omega]; exact wu32 (by omega) (by omega))) rfl ?_
  refine DG.eff1 ?_
  refine Chg.callo rfl rfl call187 rfl (iM) (load_ok W0 _ (m := m) (n := n) (a := r * 256 + p / 64 * 4) (s := 4) (bs := σ.bs) (by omega) (by omega) (by omega)) rfl (fun _ => iM) (fun _ => Imp.refl _) (fun _ => iM) ?_
  rintro ⟨⟩ -
  refine DG.look rfl rfl (Yield.move rfl) rfl ?_
  refine DG.look rfl rfl (Yield.extract rfl rfl) rfl ?_
  refine DG.look rfl rfl (Yield.extract rfl rfl) rfl ?_
  refine DG.look rfl rfl (Yield.assign rfl) rfl ?_
  refine DG.look rfl rfl (Yield.assign rfl) rfl ?_
  refine DG.done ?_
  refine QG.then ?_
  refine CG.seq ?_
  refine CG.region ?_
  refine OG.mv rfl rfl ?_
  refine OG.yield (Yield.conv (c := (word σ.bs r (p / 64) : Int)) Tryz.underlying27 rfl rfl (wu32 (by omega) (by show ((word σ.bs r (p / 64) : Nat) : Int) ≤ _; omega))) rfl ?_
  refine OG.callo call188 rfl (iM) (split_spec W0 _ (word σ.bs r (p / 64) : Int) (by omega) (by omega)) rfl ?_
  rintro ⟨⟩ -
  rw [split_sp, sp_ent]
  refine OG.mv rfl rfl ?_
  refine OG.yield (Yield.extract rfl rfl) rfl ?_
  refine OG.yield (Yield.extract rfl rfl) rfl ?_
  refine OG.yield (Yield.extract rfl rfl) rfl ?_
  refine OG.sg rfl rfl ?_
  refine OG.sg rfl rfl ?_
  refine OG.sg rfl rfl ?_
  refine OG.nil ?_
  refine QG.then ?_
  refine CG.seq ?_
  refine CG.region ?_
  refine OG.mv rfl rfl ?_
  refine OG.sg rfl rfl ?_
  refine OG.nil ?_
  refine QG.then ?_
  refine CG.ret ?_
  refine QG.ret1 rfl rfl () trivial ?_ iM
  rw [← hrw]; cases ent (word σ.bs r (p / 64)) <;> rfl
theorem free_two (I : Fz.Inv σ.own qs) {qk : Int} (hqk : qs[k]? = some qk) (hc : (cnt σ.own k : Int) + 1 < qk) : 2 ≤ cnt σ.own (-1) := by
  obtain ⟨q, h1, h2⟩ := free_frame I hqk (by omega)
  have I1 := inv_take I hqk (by omega) h2
  obtain ⟨q2, h3, h4⟩ := free_frame I1 hqk (by rw [cnt_set h2, if_neg (show ¬ ((-1 : Int) = k) by omega), if_pos rfl]; omega)
  have := Fz.cnt_pos h4
  rw [cnt_set h2, if_pos rfl, if_neg (show ¬ ((k : Int) = -1) by omega)] at this
  omega
theorem room_spec (I : Fz.Inv σ.own qs) (hq : ∀ q ∈ qs, 0 ≤ q ∧ q ≤ 1024) {qk : Int} (hqk : qs[k]? = some qk) {d : Nat} (hd : d = 1 ∨ d = 2) : Ctr Tryz.prog W0 134 [.pointer (some ⟨s, 0, none⟩), .int .i64 d] (WG m f t n qs σ (sb s k r m f t :: Fr)) (fun _ : Unit => True) (fun _ => .int .i64 (if qk - cnt σ.own k < d then 141 else 0)) (fun _ => WG m f t n qs σ (sb s k r m f t :: Fr)) := by
  have hl := left_in (own := σ.own) hqk
  have hfr : ¬ qk - cnt σ.own k < d → d ≤ cnt σ.own (-1) := fun h => by
    rcases hd with rfl | rfl
    · obtain ⟨q, h1, h2⟩ := free_frame I hqk (by omega)
      exact Fz.cnt_pos h2
    · exact free_two I hqk (by omega)
  refine Ctr.of_body Tryz.func134 rfl Tryz.ntmps134 rfl ?_
  refine CG.seq ?_
  refine CG.region ?_
  refine OG.sg rfl rfl ?_
  refine OG.nil ?_
  refine QG.then ?_
  refine CG.seq ?_
  refine CG.block ?_
  refine CG.seq ?_
  refine CG.draw (.look 0 1 (.look 1 1 (.look 2 1 (.look 3 1 (.look 4 1 (.look 5 1 (.look 6 1 (.look 7 1 (.look 9 0 (.eff1 8 false (.look 10 1 (.look 11 1 (.done))))))))))))) [8] [] ([]) ([]) mixed (by kernel_rfl) (Imp.none _) (Imp.none _) ?_
  refine DG.look rfl rfl (Yield.move rfl) rfl ?_
  refine DG.look rfl rfl (Yield.nilCheck rfl) rfl ?_
  refine DG.look rfl rfl (Yield.fieldAddr fa166_3 rfl) rfl ?_
  refine DG.look rfl rfl (Yield.load ti114 rfl (by first | exact Cel.of_blk eX rfl | exact (hrow eX) _ _ rfl)) rfl ?_
  refine DG.look rfl rfl (Yield.move rfl) rfl ?_
  refine DG.look rfl rfl (Yield.nilCheck rfl) rfl ?_
  refine DG.look rfl rfl (Yield.fieldAddr fa166_0 rfl) rfl ?_
  refine DG.look rfl rfl (Yield.load ti3 rfl (by first | exact Cel.of_blk eX rfl | exact (hrow eX) _ _ rfl)) rfl ?_
  refine DG.look rfl rfl (Yield.move rfl) rfl ?_
  refine DG.eff1 ?_
  refine Chg.callo rfl rfl call171 rfl (iM) (Fz.left_spec W0 _ (f := f) (own := σ.own) (qs := qs) k hq) rfl (fun _ => iM) (fun _ => Imp.refl _) (fun _ => iM) ?_
  rintro ⟨⟩ -
  rw [hl]
  refine DG.look rfl rfl (Yield.lss rfl rfl) rfl ?_
  refine DG.look rfl rfl (Yield.assign rfl) rfl ?_
  refine DG.done ?_
  refine QG.then ?_
  refine CG.cond rfl (fun hc => ?_) (fun hc => ?_)
  · try replace hc := of_decide_eq_true hc
    refine CG.seq ?_
    refine CG.region ?_
    refine OG.sg rfl rfl ?_
    refine OG.nil ?_
    refine QG.then ?_
    refine CG.ret ?_
    refine QG.block_ret ?_
    refine QG.pass_ret ?_
    exact QG.ret1 rfl rfl () trivial (by rw [if_pos hc]) iM
  · try replace hc := of_decide_eq_false hc
    have hfr' := hfr hc
    refine CG.seq ?_
    refine CG.region ?_
    refine OG.mv rfl rfl ?_
    refine OG.yield (Yield.nilCheck rfl) rfl ?_
    refine OG.yield (Yield.fieldAddr fa166_3 rfl) rfl ?_
    refine OG.yield (Yield.load ti114 rfl (by first | exact Cel.of_blk eX rfl | exact (hrow eX) _ _ rfl)) rfl ?_
    refine OG.callo call189 rfl (iM) (Fz.free_spec W0 _ (f := f) (own := σ.own) (qs := qs)) rfl ?_
    rintro ⟨⟩ -
    refine OG.mv rfl rfl ?_
    refine OG.yield Yield.lssA rfl ?_
    refine OG.sg rfl rfl ?_
    refine OG.nil ?_
    refine QG.then ?_
    refine CG.cond_f rfl ?_
    refine CG.skip ?_
    refine QG.block_normal ?_
    refine QG.then ?_
    refine CG.seq ?_
    refine CG.region ?_
    refine OG.sg rfl rfl ?_
    refine OG.nil ?_
    refine QG.then ?_
    refine CG.ret ?_
    exact QG.ret1 rfl rfl () trivial (by rw [if_neg hc]) iM
theorem good_spec (p q : Int) : Ctr Tryz.prog W0 131 [.int .i64 p, .int .i64 q] Fr (fun _ : Unit => True) (fun _ => .bool (decide ((0 ≤ p ∧ p < 4096) ∧ 1 ≤ q ∧ q ≤ 7))) (fun _ => Fr) := by
  refine Ctr.of_body Tryz.func131 rfl Tryz.ntmps131 rfl ?_
  refine CG.seq ?_
  refine CG.region ?_
  refine OG.sg rfl rfl ?_
  refine OG.nil ?_
  refine QG.then ?_
  refine CG.seq ?_
  rcases (show p < 0 ∨ (0 ≤ p ∧ ¬ p < 4096) ∨ ((0 ≤ p ∧ p < 4096) ∧ ¬ q ≥ 1) ∨ ((0 ≤ p ∧ p < 4096) ∧ q ≥ 1) by omega) with hh | hh | hh | hh
  · skip
    refine CG.region ?_
    refine OG.mv rfl rfl ?_
    refine OG.yield Yield.geqA rfl ?_
    refine OG.mv rfl rfl ?_
    refine OG.gn rfl rfl rfl rfl rfl ?_
    refine OG.gn rfl rfl rfl rfl rfl ?_
    refine OG.yield Yield.pickA rfl ?_
    refine OG.mv rfl rfl ?_
    refine OG.gn rfl rfl rfl rfl rfl ?_
    refine OG.gn rfl rfl rfl rfl rfl ?_
    refine OG.yield Yield.pickA rfl ?_
    refine OG.mv rfl rfl ?_
    refine OG.gn rfl rfl rfl rfl rfl ?_
    refine OG.gn rfl rfl rfl rfl rfl ?_
    refine OG.yield Yield.pickA rfl ?_
    refine OG.sg rfl rfl ?_
    refine OG.nil ?_
    refine QG.then ?_
    refine CG.ret ?_
    exact QG.ret1 rfl rfl () trivial (by rw [decide_eq_false (by omega)]) (Imp.refl _)
  · skip
    refine CG.region ?_
    refine OG.mv rfl rfl ?_
    refine OG.yield Yield.geqA rfl ?_
    refine OG.mv rfl rfl ?_
    refine OG.gy rfl rfl rfl ?_
    refine OG.mv rfl rfl ?_
    refine OG.gy rfl rfl rfl ?_
    refine OG.yield Yield.lssA rfl ?_
    refine OG.yield Yield.pickA rfl ?_
    refine OG.mv rfl rfl ?_
    refine OG.gn rfl rfl rfl rfl rfl ?_
    refine OG.gn rfl rfl rfl rfl rfl ?_
    refine OG.yield Yield.pickA rfl ?_
    refine OG.mv rfl rfl ?_
    refine OG.gn rfl rfl rfl rfl rfl ?_
    refine OG.gn rfl rfl rfl rfl rfl ?_
    refine OG.yield Yield.pickA rfl ?_
    refine OG.sg rfl rfl ?_
    refine OG.nil ?_
    refine QG.then ?_
    refine CG.ret ?_
    exact QG.ret1 rfl rfl () trivial (by rw [decide_eq_false (by omega)]) (Imp.refl _)
  · skip
    refine CG.region ?_
    refine OG.mv rfl rfl ?_
    refine OG.yield Yield.geqA rfl ?_
    refine OG.mv rfl rfl ?_
    refine OG.gy rfl rfl rfl ?_
    refine OG.mv rfl rfl ?_
    refine OG.gy rfl rfl rfl ?_
    refine OG.yield Yield.lssA rfl ?_
    refine OG.yield Yield.pickA rfl ?_
    refine OG.mv rfl rfl ?_
    refine OG.gy rfl rfl rfl ?_
    refine OG.mv rfl rfl ?_
    refine OG.gy rfl rfl rfl ?_
    refine OG.yield Yield.geqA rfl ?_
    refine OG.yield Yield.pickA rfl ?_
    refine OG.mv rfl rfl ?_
    refine OG.gn rfl rfl rfl rfl rfl ?_
    refine OG.gn rfl rfl rfl rfl rfl ?_
    refine OG.yield Yield.pickA rfl ?_
    refine OG.sg rfl rfl ?_
    refine OG.nil ?_
    refine QG.then ?_
    refine CG.ret ?_
    exact QG.ret1 rfl rfl () trivial (by rw [decide_eq_false (by omega)]) (Imp.refl _)
  · skip
    refine CG.region ?_
    refine OG.mv rfl rfl ?_
    refine OG.yield Yield.geqA rfl ?_
    refine OG.mv rfl rfl ?_
    refine OG.gy rfl rfl rfl ?_
    refine OG.mv rfl rfl ?_
    refine OG.gy rfl rfl rfl ?_
    refine OG.yield Yield.lssA rfl ?_
    refine OG.yield Yield.pickA rfl ?_
    refine OG.mv rfl rfl ?_
    refine OG.gy rfl rfl rfl ?_
    refine OG.mv rfl rfl ?_
    refine OG.gy rfl rfl rfl ?_
    refine OG.yield Yield.geqA rfl ?_
    refine OG.yield Yield.pickA rfl ?_
    refine OG.mv rfl rfl ?_
    refine OG.gy rfl rfl rfl ?_
    refine OG.mv rfl rfl ?_
    refine OG.gy rfl rfl rfl ?_
    refine OG.yield (Yield.leq rfl rfl) rfl ?_
    refine OG.yield Yield.pickA rfl ?_
    refine OG.sg rfl rfl ?_
    refine OG.nil ?_
    refine QG.then ?_
    refine CG.ret ?_
    exact QG.ret1 rfl rfl () trivial (by rw [show decide ((0 ≤ p ∧ p < 4096) ∧ 1 ≤ q ∧ q ≤ 7) = decide (q ≤ 7) by simp [hh.1]; omega]) (Imp.refl _)
theorem take_spec (I : Fz.Inv σ.own qs) (hol : σ.own.length = n) (hq : ∀ q ∈ qs, 0 ≤ q ∧ q ≤ 1024) {qk : Int} (hqk : qs[k]? = some qk) (hc : (cnt σ.own k : Int) < qk) : Ctr Tryz.prog W0 135 [.pointer (some ⟨s, 0, none⟩)] (WG m f t n qs σ (sb s k r m f t :: Fr)) (fun q : Nat => σ.own[q]? = some (-1)) (fun q => .int .i64 q) (fun q => WG m f t n qs { σ with bs := overB σ.bs (q * 256) (fillB []), own := σ.own.set q k } (sb s k r m f t :: Fr)) := by
  obtain ⟨q, h1, h2⟩ := free_frame I hqk hc
  have hl := left_in (own := σ.own) hqk
  have hqn : q < n := by rw [← hol]; exact (List.getElem?_eq_some_iff.1 h2).1
  have hkl := (List.getElem?_eq_some_iff.1 hqk).1
  refine Ctr.of_body Tryz.func135 rfl Tryz.ntmps135 rfl ?_
  refine CG.seq ?_
  refine CG.region ?_
  refine OG.sg rfl rfl ?_
  refine OG.nil ?_
  refine QG.then ?_
  refine CG.seq ?_
  refine CG.draw (.look 0 1 (.look 1 1 (.look 2 1 (.look 3 1 (.look 4 1 (.look 5 1 (.look 6 1 (.look 7 1 (.eff1 8 false (.look 9 1 (.look 10 1 (.look 11 1 (.look 12 1 (.look 13 1 (.done))))))))))))))) [8] [] ([]) ([]) mixed (by kernel_rfl) (Imp.none _) (Imp.none _) ?_
  refine DG.look rfl rfl (Yield.move rfl) rfl ?_
  refine DG.look rfl rfl (Yield.nilCheck rfl) rfl ?_
  refine DG.look rfl rfl (Yield.fieldAddr fa166_3 rfl) rfl ?_
  refine DG.look rfl rfl (Yield.load ti114 rfl (by first | exact Cel.of_blk eX rfl | exact (hrow eX) _ _ rfl)) rfl ?_
  refine DG.look rfl rfl (Yield.move rfl) rfl ?_
  refine DG.look rfl rfl (Yield.nilCheck rfl) rfl ?_
  refine DG.look rfl rfl (Yield.fieldAddr fa166_0 rfl) rfl ?_
  refine DG.look rfl rfl (Yield.load ti3 rfl (by first | exact Cel.of_blk eX rfl | exact (hrow eX) _ _ rfl)) rfl ?_
  refine DG.eff1 ?_
  refine Chg.callo rfl rfl call122 rfl (iM) (Fz.take_ok W0 _ (f := f) (own := σ.own) (qs := qs) (n := q) k hq ⟨by omega, by omega⟩ (by rw [hl]; omega) h1) rfl (fun _ => iM) (fun _ => Imp.refl _) (fun _ => iM) ?_
  rintro ⟨⟩ -
  refine DG.look rfl rfl (Yield.move rfl) rfl ?_
  refine DG.look rfl rfl (Yield.extract rfl rfl) rfl ?_
  refine DG.look rfl rfl (Yield.extract rfl rfl) rfl ?_
  refine DG.look rfl rfl (Yield.assign rfl) rfl ?_
  refine DG.look rfl rfl (Yield.assign rfl) rfl ?_
  refine DG.done ?_
  refine QG.then ?_
  refine CG.seq ?_
  refine CG.seq ?_
  refine CG.region ?_
  refine OG.mv rfl rfl ?_
  refine OG.yield Yield.neqA rfl ?_
  refine OG.nil ?_
  refine QG.then ?_
  refine CG.cond_f rfl ?_
  refine CG.skip ?_
  refine QG.then ?_
  refine CG.seq ?_
  refine CG.region ?_
  refine OG.mv rfl rfl ?_
  refine OG.yield (Yield.nilCheck rfl) rfl ?_
  refine OG.yield (Yield.fieldAddr fa166_2 rfl) rfl ?_
  refine OG.yield (Yield.load ti111 rfl (by first | exact Cel.of_blk eX rfl | exact (hrow eX) _ _ rfl)) rfl ?_
  refine OG.mv rfl rfl ?_
  refine OG.callo call90 rfl (iM) (fill_ok W0 _ (m := m) (n := n) (k := q) (bs := σ.bs) (ws := []) (a := none) (c2 := 0) (RdB.of_slR SlR.nil (Nat.le_refl _)) hqn (by decide)) rfl ?_
  rintro ⟨⟩ -
  refine OG.nil ?_
  refine QG.then ?_
  refine CG.seq ?_
  refine CG.region ?_
  refine OG.mv rfl rfl ?_
  refine OG.sg rfl rfl ?_
  refine OG.nil ?_
  refine QG.then ?_
  refine CG.ret ?_
  exact QG.ret1 rfl rfl q h2 rfl iM
end
end Go.Proofs.YtphljkplokjonaaGreat.Sp
