/-
  Facts on the types and the names of the loaded program. (Printed by a program of mine.)
-/
import Derived.Test.YtceeelcijjkefaaGreatWkR
import Derived.Test.YtceeelcijjkefaaGreatChecked
set_option linter.unusedVariables false
set_option linter.unusedSimpArgs false
namespace Go.Wk
open Go.Proofs
theorem Tryz_ty2 : Ty Tryz.prog 2 (.int .i64 0) 1 8 := ⟨by kernel_rfl⟩
theorem Tryz_ty3 : Ty Tryz.prog 3 (.int .i64 0) 1 8 := ⟨by kernel_rfl⟩
theorem Tryz_ty4 : Ty Tryz.prog 4 (.bool false) 1 1 := ⟨by kernel_rfl⟩
theorem Tryz_ty5 : Ty Tryz.prog 5 (.int .u8 0) 1 1 := ⟨by kernel_rfl⟩
theorem Tryz_ty9 : Ty Tryz.prog 9 (.string ⟨#[]⟩) 1 16 := ⟨by kernel_rfl⟩
theorem Tryz_ty12 : Ty Tryz.prog 12 (.int .u64 0) 1 8 := ⟨by kernel_rfl⟩
theorem Tryz_ty13 : Ty Tryz.prog 13 (.agg #[.string ⟨#[]⟩, .int .u64 0]) 2 24 := ⟨by kernel_rfl⟩
theorem Tryz_ty21 : Ty Tryz.prog 21 (.int .i32 0) 1 4 := ⟨by kernel_rfl⟩
theorem Tryz_ty22 : Ty Tryz.prog 22 (.agg #[.int .i64 0, .int .i64 0, .int .i64 0, .int .i64 0, .int .i64 0, .int .i64 0, .int .i64 0, .int .i64 0, .int .i64 0]) 9 72 := ⟨by kernel_rfl⟩
theorem Tryz_ty23 : Ty Tryz.prog 23 (.agg #[.int .i64 0, .int .i64 0, .int .i64 0, .int .i64 0, .int .i64 0, .int .i64 0, .int .i64 0, .int .i64 0, .int .i64 0]) 9 72 := ⟨by kernel_rfl⟩
theorem Tryz_ty24 : Ty Tryz.prog 24 (.slice none 0 0) 1 24 := ⟨by kernel_rfl⟩
theorem Tryz_ty25 : Ty Tryz.prog 25 (.slice none 0 0) 1 24 := ⟨by kernel_rfl⟩
theorem Tryz_ty26 : Ty Tryz.prog 26 (.slice none 0 0) 1 24 := ⟨by kernel_rfl⟩
theorem Tryz_ty27 : Ty Tryz.prog 27 (.agg #[.int .i64 0, .int .i64 0, .int .i64 0, .int .i64 0, .int .i64 0, .int .i64 0, .int .i64 0, .int .i64 0, .int .i64 0, .slice none 0 0, .slice none 0 0, .slice none 0 0, .int .i64 0, .int .i64 0, .bool false]) 15 168 := ⟨by kernel_rfl⟩
theorem Tryz_ty28 : Ty Tryz.prog 28 (.agg #[.int .i64 0, .int .i64 0, .int .i64 0, .int .i64 0, .int .i64 0, .int .i64 0, .int .i64 0, .int .i64 0, .int .i64 0, .slice none 0 0, .slice none 0 0, .slice none 0 0, .int .i64 0, .int .i64 0, .bool false]) 15 168 := ⟨by kernel_rfl⟩
theorem Tryz_ty30 : Ty Tryz.prog 30 (.agg #[.int .i64 0, .int .i64 0]) 2 16 := ⟨by kernel_rfl⟩
theorem Tryz_ty31 : Ty Tryz.prog 31 (.agg #[.int .i64 0, .int .i64 0]) 2 16 := ⟨by kernel_rfl⟩
theorem Tryz_ty33 : Ty Tryz.prog 33 (.agg #[.int .i64 0, .int .i64 0, .int .i64 0, .int .i64 0, .int .i64 0, .int .i64 0, .int .i64 0, .int .i64 0, .int .i64 0]) 9 72 := ⟨by kernel_rfl⟩
theorem Tryz_ty34 : Ty Tryz.prog 34 (.slice none 0 0) 1 24 := ⟨by kernel_rfl⟩
theorem Tryz_ty35 : Ty Tryz.prog 35 (.slice none 0 0) 1 24 := ⟨by kernel_rfl⟩
theorem Tryz_ty36 : Ty Tryz.prog 36 (.agg #[.int .i64 0, .int .i64 0, .int .i64 0, .int .i64 0, .int .i64 0, .int .i64 0, .int .i64 0, .int .i64 0, .int .i64 0, .slice none 0 0, .slice none 0 0, .slice none 0 0, .int .i64 0, .int .i64 0, .bool false]) 15 168 := ⟨by kernel_rfl⟩
theorem Tryz_ty37 : Ty Tryz.prog 37 (.agg #[.int .i64 0, .int .i64 0, .int .i64 0, .int .i64 0, .int .i64 0, .int .i64 0, .int .i64 0, .int .i64 0, .int .i64 0, .slice none 0 0, .slice none 0 0, .slice none 0 0, .int .i64 0, .int .i64 0, .bool false]) 15 168 := ⟨by kernel_rfl⟩
theorem Tryz_ty42 : Ty Tryz.prog 42 (.agg #[.int .i64 0, .slice none 0 0]) 2 32 := ⟨by kernel_rfl⟩
theorem Tryz_ty43 : Ty Tryz.prog 43 (.agg #[.int .i64 0, .slice none 0 0]) 2 32 := ⟨by kernel_rfl⟩
theorem Tryz_ty49 : Ty Tryz.prog 49 (.agg #[.int .i64 0, .slice none 0 0]) 2 32 := ⟨by kernel_rfl⟩
theorem Tryz_ty50 : Ty Tryz.prog 50 (.agg #[.int .i64 0, .slice none 0 0]) 2 32 := ⟨by kernel_rfl⟩
theorem Tryz_ty56 : Ty Tryz.prog 56 (.agg #[.int .i64 0, .int .i64 0, .int .i64 0, .int .i64 0, .int .i64 0, .int .i64 0, .int .i64 0, .int .i64 0, .int .i64 0, .int .i64 0, .slice none 0 0, .slice none 0 0, .slice none 0 0, .int .i64 0, .int .i64 0, .bool false]) 16 176 := ⟨by kernel_rfl⟩
theorem Tryz_ty57 : Ty Tryz.prog 57 (.agg #[.int .i64 0, .int .i64 0, .int .i64 0, .int .i64 0, .int .i64 0, .int .i64 0, .int .i64 0, .int .i64 0, .int .i64 0, .int .i64 0, .slice none 0 0, .slice none 0 0, .slice none 0 0, .int .i64 0, .int .i64 0, .bool false]) 16 176 := ⟨by kernel_rfl⟩
theorem Tryz_ty61 : Ty Tryz.prog 61 (.slice none 0 0) 1 24 := ⟨by kernel_rfl⟩
theorem Tryz_ty62 : Ty Tryz.prog 62 (.agg #[.int .i64 0, .int .i64 0, .string ⟨#[]⟩, .int .i64 0, .int .i64 0, .int .i64 0, .slice none 0 0, .slice none 0 0, .slice none 0 0]) 9 128 := ⟨by kernel_rfl⟩
theorem Tryz_ty63 : Ty Tryz.prog 63 (.agg #[.int .i64 0, .int .i64 0, .string ⟨#[]⟩, .int .i64 0, .int .i64 0, .int .i64 0, .slice none 0 0, .slice none 0 0, .slice none 0 0]) 9 128 := ⟨by kernel_rfl⟩
theorem Tryz_ty66 : Ty Tryz.prog 66 (.agg #[.int .i64 0, .int .i64 0, .string ⟨#[]⟩, .int .i64 0, .int .i64 0, .int .i64 0, .slice none 0 0, .slice none 0 0, .slice none 0 0]) 9 128 := ⟨by kernel_rfl⟩
theorem Tryz_ty71 : Ty Tryz.prog 71 (.agg #[.int .i64 0, .slice none 0 0]) 2 32 := ⟨by kernel_rfl⟩
theorem Tryz_ty72 : Ty Tryz.prog 72 (.agg #[.int .i64 0, .slice none 0 0]) 2 32 := ⟨by kernel_rfl⟩
theorem Tryz_ty82 : Ty Tryz.prog 82 (.slice none 0 0) 1 24 := ⟨by kernel_rfl⟩
theorem Tryz_ty83 : Ty Tryz.prog 83 (.agg #[.int .i64 0, .slice none 0 0]) 2 32 := ⟨by kernel_rfl⟩
theorem Tryz_ty84 : Ty Tryz.prog 84 (.agg #[.int .i64 0, .slice none 0 0]) 2 32 := ⟨by kernel_rfl⟩
theorem Tryz_ty93 : Ty Tryz.prog 93 (.pointer none) 1 8 := ⟨by kernel_rfl⟩
theorem Tryz_ty141 : Ty Tryz.prog 141 (.slice none 0 0) 1 24 := ⟨by kernel_rfl⟩
theorem Tryz_ty143 : Ty Tryz.prog 143 (.slice none 0 0) 1 24 := ⟨by kernel_rfl⟩
theorem Tryz_ty144 : Ty Tryz.prog 144 (.agg #[.bool false, .slice none 0 0]) 2 32 := ⟨by kernel_rfl⟩
theorem Tryz_ty145 : Ty Tryz.prog 145 (.agg #[.bool false, .slice none 0 0]) 2 32 := ⟨by kernel_rfl⟩
theorem Tryz_ty147 : Ty Tryz.prog 147 (.slice none 0 0) 1 24 := ⟨by kernel_rfl⟩
theorem Tryz_ty148 : Ty Tryz.prog 148 (.slice none 0 0) 1 24 := ⟨by kernel_rfl⟩
theorem Tryz_ty149 : Ty Tryz.prog 149 (.agg #[.bool false, .slice none 0 0]) 2 32 := ⟨by kernel_rfl⟩
theorem Tryz_ty150 : Ty Tryz.prog 150 (.agg #[.bool false, .slice none 0 0]) 2 32 := ⟨by kernel_rfl⟩
theorem Tryz_ty151 : Ty Tryz.prog 151 (.agg #[.int .i64 0, .slice none 0 0]) 2 32 := ⟨by kernel_rfl⟩
theorem Tryz_ty152 : Ty Tryz.prog 152 (.agg #[.int .i64 0, .slice none 0 0]) 2 32 := ⟨by kernel_rfl⟩
theorem Tryz_ty154 : Ty Tryz.prog 154 (.agg #[.bool false, .slice none 0 0]) 2 32 := ⟨by kernel_rfl⟩
theorem Tryz_ty155 : Ty Tryz.prog 155 (.agg #[.bool false, .slice none 0 0]) 2 32 := ⟨by kernel_rfl⟩
theorem Tryz_ty163 : Ty Tryz.prog 163 (.slice none 0 0) 1 24 := ⟨by kernel_rfl⟩
theorem Tryz_ty165 : Ty Tryz.prog 165 (.agg #[.int .i64 0, .int .i64 0]) 2 16 := ⟨by kernel_rfl⟩
theorem Tryz_ty166 : Ty Tryz.prog 166 (.agg #[.int .i64 0, .int .i64 0]) 2 16 := ⟨by kernel_rfl⟩
theorem Tryz_ty182 : Ty Tryz.prog 182 (.agg #[.int .i64 0, .int .i64 0]) 2 16 := ⟨by kernel_rfl⟩
theorem Tryz_ty183 : Ty Tryz.prog 183 (.agg #[.int .i64 0, .int .i64 0]) 2 16 := ⟨by kernel_rfl⟩
theorem Tryz_ty199 : Ty Tryz.prog 199 (.slice none 0 0) 1 24 := ⟨by kernel_rfl⟩
theorem Tryz_ty200 : Ty Tryz.prog 200 (.agg #[.bool false, .slice none 0 0]) 2 32 := ⟨by kernel_rfl⟩
theorem Tryz_ty201 : Ty Tryz.prog 201 (.agg #[.bool false, .slice none 0 0]) 2 32 := ⟨by kernel_rfl⟩
theorem Tryz_ty223 : Ty Tryz.prog 223 (.pointer none) 1 8 := ⟨by kernel_rfl⟩
theorem Tryz_ty258 : Ty Tryz.prog 258 (.slice none 0 0) 1 24 := ⟨by kernel_rfl⟩
theorem Tryz_ty260 : Ty Tryz.prog 260 (.agg #[.int .i64 0, .slice none 0 0]) 2 32 := ⟨by kernel_rfl⟩
theorem Tryz_ty264 : Ty Tryz.prog 264 (.int .u64 0) 1 8 := ⟨by kernel_rfl⟩
theorem Tryz_ty275 : Ty Tryz.prog 275 (.int .u32 0) 1 4 := ⟨by kernel_rfl⟩
theorem Tryz_ty279 : Ty Tryz.prog 279 (.pointer none) 1 8 := ⟨by kernel_rfl⟩
theorem Tryz_pl13 : Pl Tryz.prog 13 [.string ⟨#[]⟩, .int .u64 0] [(0, 1), (1, 1)] := ⟨by kernel_rfl⟩
theorem Tryz_pl22 : Pl Tryz.prog 22 [.int .i64 0, .int .i64 0, .int .i64 0, .int .i64 0, .int .i64 0, .int .i64 0, .int .i64 0, .int .i64 0, .int .i64 0] [(0, 1), (1, 1), (2, 1), (3, 1), (4, 1), (5, 1), (6, 1), (7, 1), (8, 1)] := ⟨by kernel_rfl⟩
theorem Tryz_pl23 : Pl Tryz.prog 23 [.int .i64 0, .int .i64 0, .int .i64 0, .int .i64 0, .int .i64 0, .int .i64 0, .int .i64 0, .int .i64 0, .int .i64 0] [(0, 1), (1, 1), (2, 1), (3, 1), (4, 1), (5, 1), (6, 1), (7, 1), (8, 1)] := ⟨by kernel_rfl⟩
theorem Tryz_pl27 : Pl Tryz.prog 27 [.int .i64 0, .int .i64 0, .int .i64 0, .int .i64 0, .int .i64 0, .int .i64 0, .int .i64 0, .int .i64 0, .int .i64 0, .slice none 0 0, .slice none 0 0, .slice none 0 0, .int .i64 0, .int .i64 0, .bool false] [(0, 9), (9, 1), (10, 1), (11, 1), (12, 1), (13, 1), (14, 1)] := ⟨by kernel_rfl⟩
theorem Tryz_pl28 : Pl Tryz.prog 28 [.int .i64 0, .int .i64 0, .int .i64 0, .int .i64 0, .int .i64 0, .int .i64 0, .int .i64 0, .int .i64 0, .int .i64 0, .slice none 0 0, .slice none 0 0, .slice none 0 0, .int .i64 0, .int .i64 0, .bool false] [(0, 9), (9, 1), (10, 1), (11, 1), (12, 1), (13, 1), (14, 1)] := ⟨by kernel_rfl⟩
theorem Tryz_pl30 : Pl Tryz.prog 30 [.int .i64 0, .int .i64 0] [(0, 1), (1, 1)] := ⟨by kernel_rfl⟩
theorem Tryz_pl31 : Pl Tryz.prog 31 [.int .i64 0, .int .i64 0] [(0, 1), (1, 1)] := ⟨by kernel_rfl⟩
theorem Tryz_pl33 : Pl Tryz.prog 33 [.int .i64 0, .int .i64 0, .int .i64 0, .int .i64 0, .int .i64 0, .int .i64 0, .int .i64 0, .int .i64 0, .int .i64 0] [(0, 1), (1, 1), (2, 1), (3, 1), (4, 1), (5, 1), (6, 1), (7, 1), (8, 1)] := ⟨by kernel_rfl⟩
theorem Tryz_pl36 : Pl Tryz.prog 36 [.int .i64 0, .int .i64 0, .int .i64 0, .int .i64 0, .int .i64 0, .int .i64 0, .int .i64 0, .int .i64 0, .int .i64 0, .slice none 0 0, .slice none 0 0, .slice none 0 0, .int .i64 0, .int .i64 0, .bool false] [(0, 9), (9, 1), (10, 1), (11, 1), (12, 1), (13, 1), (14, 1)] := ⟨by kernel_rfl⟩
theorem Tryz_pl37 : Pl Tryz.prog 37 [.int .i64 0, .int .i64 0, .int .i64 0, .int .i64 0, .int .i64 0, .int .i64 0, .int .i64 0, .int .i64 0, .int .i64 0, .slice none 0 0, .slice none 0 0, .slice none 0 0, .int .i64 0, .int .i64 0, .bool false] [(0, 9), (9, 1), (10, 1), (11, 1), (12, 1), (13, 1), (14, 1)] := ⟨by kernel_rfl⟩
theorem Tryz_pl42 : Pl Tryz.prog 42 [.int .i64 0, .slice none 0 0] [(0, 1), (1, 1)] := ⟨by kernel_rfl⟩
theorem Tryz_pl43 : Pl Tryz.prog 43 [.int .i64 0, .slice none 0 0] [(0, 1), (1, 1)] := ⟨by kernel_rfl⟩
theorem Tryz_pl49 : Pl Tryz.prog 49 [.int .i64 0, .slice none 0 0] [(0, 1), (1, 1)] := ⟨by kernel_rfl⟩
theorem Tryz_pl50 : Pl Tryz.prog 50 [.int .i64 0, .slice none 0 0] [(0, 1), (1, 1)] := ⟨by kernel_rfl⟩
theorem Tryz_pl56 : Pl Tryz.prog 56 [.int .i64 0, .int .i64 0, .int .i64 0, .int .i64 0, .int .i64 0, .int .i64 0, .int .i64 0, .int .i64 0, .int .i64 0, .int .i64 0, .slice none 0 0, .slice none 0 0, .slice none 0 0, .int .i64 0, .int .i64 0, .bool false] [(0, 1), (1, 15)] := ⟨by kernel_rfl⟩
theorem Tryz_pl57 : Pl Tryz.prog 57 [.int .i64 0, .int .i64 0, .int .i64 0, .int .i64 0, .int .i64 0, .int .i64 0, .int .i64 0, .int .i64 0, .int .i64 0, .int .i64 0, .slice none 0 0, .slice none 0 0, .slice none 0 0, .int .i64 0, .int .i64 0, .bool false] [(0, 1), (1, 15)] := ⟨by kernel_rfl⟩
theorem Tryz_pl62 : Pl Tryz.prog 62 [.int .i64 0, .int .i64 0, .string ⟨#[]⟩, .int .i64 0, .int .i64 0, .int .i64 0, .slice none 0 0, .slice none 0 0, .slice none 0 0] [(0, 1), (1, 1), (2, 1), (3, 1), (4, 1), (5, 1), (6, 1), (7, 1), (8, 1)] := ⟨by kernel_rfl⟩
theorem Tryz_pl63 : Pl Tryz.prog 63 [.int .i64 0, .int .i64 0, .string ⟨#[]⟩, .int .i64 0, .int .i64 0, .int .i64 0, .slice none 0 0, .slice none 0 0, .slice none 0 0] [(0, 1), (1, 1), (2, 1), (3, 1), (4, 1), (5, 1), (6, 1), (7, 1), (8, 1)] := ⟨by kernel_rfl⟩
theorem Tryz_pl66 : Pl Tryz.prog 66 [.int .i64 0, .int .i64 0, .string ⟨#[]⟩, .int .i64 0, .int .i64 0, .int .i64 0, .slice none 0 0, .slice none 0 0, .slice none 0 0] [(0, 1), (1, 1), (2, 1), (3, 1), (4, 1), (5, 1), (6, 1), (7, 1), (8, 1)] := ⟨by kernel_rfl⟩
theorem Tryz_pl71 : Pl Tryz.prog 71 [.int .i64 0, .slice none 0 0] [(0, 1), (1, 1)] := ⟨by kernel_rfl⟩
theorem Tryz_pl72 : Pl Tryz.prog 72 [.int .i64 0, .slice none 0 0] [(0, 1), (1, 1)] := ⟨by kernel_rfl⟩
theorem Tryz_pl83 : Pl Tryz.prog 83 [.int .i64 0, .slice none 0 0] [(0, 1), (1, 1)] := ⟨by kernel_rfl⟩
theorem Tryz_pl84 : Pl Tryz.prog 84 [.int .i64 0, .slice none 0 0] [(0, 1), (1, 1)] := ⟨by kernel_rfl⟩
theorem Tryz_pl144 : Pl Tryz.prog 144 [.bool false, .slice none 0 0] [(0, 1), (1, 1)] := ⟨by kernel_rfl⟩
theorem Tryz_pl145 : Pl Tryz.prog 145 [.bool false, .slice none 0 0] [(0, 1), (1, 1)] := ⟨by kernel_rfl⟩
theorem Tryz_pl149 : Pl Tryz.prog 149 [.bool false, .slice none 0 0] [(0, 1), (1, 1)] := ⟨by kernel_rfl⟩
theorem Tryz_pl150 : Pl Tryz.prog 150 [.bool false, .slice none 0 0] [(0, 1), (1, 1)] := ⟨by kernel_rfl⟩
theorem Tryz_pl151 : Pl Tryz.prog 151 [.int .i64 0, .slice none 0 0] [(0, 1), (1, 1)] := ⟨by kernel_rfl⟩
theorem Tryz_pl152 : Pl Tryz.prog 152 [.int .i64 0, .slice none 0 0] [(0, 1), (1, 1)] := ⟨by kernel_rfl⟩
theorem Tryz_pl154 : Pl Tryz.prog 154 [.bool false, .slice none 0 0] [(0, 1), (1, 1)] := ⟨by kernel_rfl⟩
theorem Tryz_pl155 : Pl Tryz.prog 155 [.bool false, .slice none 0 0] [(0, 1), (1, 1)] := ⟨by kernel_rfl⟩
theorem Tryz_pl165 : Pl Tryz.prog 165 [.int .i64 0, .int .i64 0] [(0, 1), (1, 1)] := ⟨by kernel_rfl⟩
theorem Tryz_pl166 : Pl Tryz.prog 166 [.int .i64 0, .int .i64 0] [(0, 1), (1, 1)] := ⟨by kernel_rfl⟩
theorem Tryz_pl182 : Pl Tryz.prog 182 [.int .i64 0, .int .i64 0] [(0, 1), (1, 1)] := ⟨by kernel_rfl⟩
theorem Tryz_pl183 : Pl Tryz.prog 183 [.int .i64 0, .int .i64 0] [(0, 1), (1, 1)] := ⟨by kernel_rfl⟩
theorem Tryz_pl200 : Pl Tryz.prog 200 [.bool false, .slice none 0 0] [(0, 1), (1, 1)] := ⟨by kernel_rfl⟩
theorem Tryz_pl201 : Pl Tryz.prog 201 [.bool false, .slice none 0 0] [(0, 1), (1, 1)] := ⟨by kernel_rfl⟩
theorem Tryz_pl260 : Pl Tryz.prog 260 [.int .i64 0, .slice none 0 0] [(0, 1), (1, 1)] := ⟨by kernel_rfl⟩
theorem Tryz_nm3 : (Tryz.f3.name == "runtime.NumGoroutine") = false := by decide
theorem Tryz_nm4 : (Tryz.f4.name == "runtime.NumGoroutine") = false := by decide
theorem Tryz_nm5 : (Tryz.f5.name == "runtime.NumGoroutine") = false := by decide
theorem Tryz_nm6 : (Tryz.f6.name == "runtime.NumGoroutine") = false := by decide
theorem Tryz_nm7 : (Tryz.f7.name == "runtime.NumGoroutine") = false := by decide
theorem Tryz_nm8 : (Tryz.f8.name == "runtime.NumGoroutine") = false := by decide
theorem Tryz_nm9 : (Tryz.f9.name == "runtime.NumGoroutine") = false := by decide
theorem Tryz_nm10 : (Tryz.f10.name == "runtime.NumGoroutine") = false := by decide
theorem Tryz_nm11 : (Tryz.f11.name == "runtime.NumGoroutine") = false := by decide
theorem Tryz_nm12 : (Tryz.f12.name == "runtime.NumGoroutine") = false := by decide
theorem Tryz_nm13 : (Tryz.f13.name == "runtime.NumGoroutine") = false := by decide
theorem Tryz_nm14 : (Tryz.f14.name == "runtime.NumGoroutine") = false := by decide
theorem Tryz_nm15 : (Tryz.f15.name == "runtime.NumGoroutine") = false := by decide
theorem Tryz_nm16 : (Tryz.f16.name == "runtime.NumGoroutine") = false := by decide
theorem Tryz_nm17 : (Tryz.f17.name == "runtime.NumGoroutine") = false := by decide
theorem Tryz_nm18 : (Tryz.f18.name == "runtime.NumGoroutine") = false := by decide
theorem Tryz_nm19 : (Tryz.f19.name == "runtime.NumGoroutine") = false := by decide
theorem Tryz_nm20 : (Tryz.f20.name == "runtime.NumGoroutine") = false := by decide
theorem Tryz_nm21 : (Tryz.f21.name == "runtime.NumGoroutine") = false := by decide
theorem Tryz_nm22 : (Tryz.f22.name == "runtime.NumGoroutine") = false := by decide
theorem Tryz_nm23 : (Tryz.f23.name == "runtime.NumGoroutine") = false := by decide
theorem Tryz_nm24 : (Tryz.f24.name == "runtime.NumGoroutine") = false := by decide
theorem Tryz_nm25 : (Tryz.f25.name == "runtime.NumGoroutine") = false := by decide
theorem Tryz_nm26 : (Tryz.f26.name == "runtime.NumGoroutine") = false := by decide
theorem Tryz_nm27 : (Tryz.f27.name == "runtime.NumGoroutine") = false := by decide
theorem Tryz_nm28 : (Tryz.f28.name == "runtime.NumGoroutine") = false := by decide
theorem Tryz_nm29 : (Tryz.f29.name == "runtime.NumGoroutine") = false := by decide
theorem Tryz_nm30 : (Tryz.f30.name == "runtime.NumGoroutine") = false := by decide
theorem Tryz_nm31 : (Tryz.f31.name == "runtime.NumGoroutine") = false := by decide
theorem Tryz_nm32 : (Tryz.f32.name == "runtime.NumGoroutine") = false := by decide
theorem Tryz_nm33 : (Tryz.f33.name == "runtime.NumGoroutine") = false := by decide
theorem Tryz_nm34 : (Tryz.f34.name == "runtime.NumGoroutine") = false := by decide
theorem Tryz_nm35 : (Tryz.f35.name == "runtime.NumGoroutine") = false := by decide
theorem Tryz_nm36 : (Tryz.f36.name == "runtime.NumGoroutine") = false := by decide
theorem Tryz_nm37 : (Tryz.f37.name == "runtime.NumGoroutine") = false := by decide
theorem Tryz_nm38 : (Tryz.f38.name == "runtime.NumGoroutine") = false := by decide
theorem Tryz_nm39 : (Tryz.f39.name == "runtime.NumGoroutine") = false := by decide
theorem Tryz_nm40 : (Tryz.f40.name == "runtime.NumGoroutine") = false := by decide
theorem Tryz_nm41 : (Tryz.f41.name == "runtime.NumGoroutine") = false := by decide
theorem Tryz_nm42 : (Tryz.f42.name == "runtime.NumGoroutine") = false := by decide
theorem Tryz_nm43 : (Tryz.f43.name == "runtime.NumGoroutine") = false := by decide
theorem Tryz_nm44 : (Tryz.f44.name == "runtime.NumGoroutine") = false := by decide
theorem Tryz_nm45 : (Tryz.f45.name == "runtime.NumGoroutine") = false := by decide
theorem Tryz_nm46 : (Tryz.f46.name == "runtime.NumGoroutine") = false := by decide
theorem Tryz_nm47 : (Tryz.f47.name == "runtime.NumGoroutine") = false := by decide
theorem Tryz_nm48 : (Tryz.f48.name == "runtime.NumGoroutine") = false := by decide
theorem Tryz_nm49 : (Tryz.f49.name == "runtime.NumGoroutine") = false := by decide
theorem Tryz_nm50 : (Tryz.f50.name == "runtime.NumGoroutine") = false := by decide
theorem Tryz_nm51 : (Tryz.f51.name == "runtime.NumGoroutine") = false := by decide
theorem Tryz_nm52 : (Tryz.f52.name == "runtime.NumGoroutine") = false := by decide
theorem Tryz_nm53 : (Tryz.f53.name == "runtime.NumGoroutine") = false := by decide
theorem Tryz_nm54 : (Tryz.f54.name == "runtime.NumGoroutine") = false := by decide
theorem Tryz_nm55 : (Tryz.f55.name == "runtime.NumGoroutine") = false := by decide
theorem Tryz_nm56 : (Tryz.f56.name == "runtime.NumGoroutine") = false := by decide
theorem Tryz_nm57 : (Tryz.f57.name == "runtime.NumGoroutine") = false := by decide
theorem Tryz_nm58 : (Tryz.f58.name == "runtime.NumGoroutine") = false := by decide
theorem Tryz_nm59 : (Tryz.f59.name == "runtime.NumGoroutine") = false := by decide
theorem Tryz_nm60 : (Tryz.f60.name == "runtime.NumGoroutine") = false := by decide
theorem Tryz_nm61 : (Tryz.f61.name == "runtime.NumGoroutine") = false := by decide
theorem Tryz_nm62 : (Tryz.f62.name == "runtime.NumGoroutine") = false := by decide
theorem Tryz_nm63 : (Tryz.f63.name == "runtime.NumGoroutine") = false := by decide
theorem Tryz_nm64 : (Tryz.f64.name == "runtime.NumGoroutine") = false := by decide
theorem Tryz_nm65 : (Tryz.f65.name == "runtime.NumGoroutine") = false := by decide
theorem Tryz_nm66 : (Tryz.f66.name == "runtime.NumGoroutine") = false := by decide
theorem Tryz_nm67 : (Tryz.f67.name == "runtime.NumGoroutine") = false := by decide
theorem Tryz_nm68 : (Tryz.f68.name == "runtime.NumGoroutine") = false := by decide
theorem Tryz_nm69 : (Tryz.f69.name == "runtime.NumGoroutine") = false := by decide
theorem Tryz_nm70 : (Tryz.f70.name == "runtime.NumGoroutine") = false := by decide
theorem Tryz_nm71 : (Tryz.f71.name == "runtime.NumGoroutine") = false := by decide
theorem Tryz_nm72 : (Tryz.f72.name == "runtime.NumGoroutine") = false := by decide
theorem Tryz_nm73 : (Tryz.f73.name == "runtime.NumGoroutine") = false := by decide
theorem Tryz_nm74 : (Tryz.f74.name == "runtime.NumGoroutine") = false := by decide
theorem Tryz_nm75 : (Tryz.f75.name == "runtime.NumGoroutine") = false := by decide
theorem Tryz_nm76 : (Tryz.f76.name == "runtime.NumGoroutine") = false := by decide
theorem Tryz_nm77 : (Tryz.f77.name == "runtime.NumGoroutine") = false := by decide
theorem Tryz_nm78 : (Tryz.f78.name == "runtime.NumGoroutine") = false := by decide
theorem Tryz_nm79 : (Tryz.f79.name == "runtime.NumGoroutine") = false := by decide
theorem Tryz_nm80 : (Tryz.f80.name == "runtime.NumGoroutine") = false := by decide
theorem Tryz_nm81 : (Tryz.f81.name == "runtime.NumGoroutine") = false := by decide
theorem Tryz_nm82 : (Tryz.f82.name == "runtime.NumGoroutine") = false := by decide
theorem Tryz_nm83 : (Tryz.f83.name == "runtime.NumGoroutine") = false := by decide
theorem Tryz_nm84 : (Tryz.f84.name == "runtime.NumGoroutine") = false := by decide
theorem Tryz_nm85 : (Tryz.f85.name == "runtime.NumGoroutine") = false := by decide
theorem Tryz_nm86 : (Tryz.f86.name == "runtime.NumGoroutine") = false := by decide
theorem Tryz_nm87 : (Tryz.f87.name == "runtime.NumGoroutine") = false := by decide
theorem Tryz_nm88 : (Tryz.f88.name == "runtime.NumGoroutine") = false := by decide
theorem Tryz_nm89 : (Tryz.f89.name == "runtime.NumGoroutine") = false := by decide
theorem Tryz_nm90 : (Tryz.f90.name == "runtime.NumGoroutine") = false := by decide
theorem Tryz_nm91 : (Tryz.f91.name == "runtime.NumGoroutine") = false := by decide
theorem Tryz_nm92 : (Tryz.f92.name == "runtime.NumGoroutine") = false := by decide
theorem Tryz_nm93 : (Tryz.f93.name == "runtime.NumGoroutine") = false := by decide
theorem Tryz_nm94 : (Tryz.f94.name == "runtime.NumGoroutine") = false := by decide
theorem Tryz_nm95 : (Tryz.f95.name == "runtime.NumGoroutine") = false := by decide
theorem Tryz_nm96 : (Tryz.f96.name == "runtime.NumGoroutine") = false := by decide
theorem Tryz_nm97 : (Tryz.f97.name == "runtime.NumGoroutine") = false := by decide
theorem Tryz_nm98 : (Tryz.f98.name == "runtime.NumGoroutine") = false := by decide
theorem Tryz_nm99 : (Tryz.f99.name == "runtime.NumGoroutine") = false := by decide
theorem Tryz_nm100 : (Tryz.f100.name == "runtime.NumGoroutine") = false := by decide
theorem Tryz_nm101 : (Tryz.f101.name == "runtime.NumGoroutine") = false := by decide
theorem Tryz_nm102 : (Tryz.f102.name == "runtime.NumGoroutine") = false := by decide
theorem Tryz_nm103 : (Tryz.f103.name == "runtime.NumGoroutine") = false := by decide
theorem Tryz_nm104 : (Tryz.f104.name == "runtime.NumGoroutine") = false := by decide
theorem Tryz_nm105 : (Tryz.f105.name == "runtime.NumGoroutine") = false := by decide
theorem Tryz_nm106 : (Tryz.f106.name == "runtime.NumGoroutine") = false := by decide
theorem Tryz_nm107 : (Tryz.f107.name == "runtime.NumGoroutine") = false := by decide
theorem Tryz_nm108 : (Tryz.f108.name == "runtime.NumGoroutine") = false := by decide
theorem Tryz_nm109 : (Tryz.f109.name == "runtime.NumGoroutine") = false := by decide
theorem Tryz_nm110 : (Tryz.f110.name == "runtime.NumGoroutine") = false := by decide
theorem Tryz_nm111 : (Tryz.f111.name == "runtime.NumGoroutine") = false := by decide
theorem Tryz_nm112 : (Tryz.f112.name == "runtime.NumGoroutine") = false := by decide
theorem Tryz_nm113 : (Tryz.f113.name == "runtime.NumGoroutine") = false := by decide
theorem Tryz_nm114 : (Tryz.f114.name == "runtime.NumGoroutine") = false := by decide
theorem Tryz_nm115 : (Tryz.f115.name == "runtime.NumGoroutine") = false := by decide
theorem Tryz_nm116 : (Tryz.f116.name == "runtime.NumGoroutine") = false := by decide
theorem Tryz_nm117 : (Tryz.f117.name == "runtime.NumGoroutine") = false := by decide
theorem Tryz_nm118 : (Tryz.f118.name == "runtime.NumGoroutine") = false := by decide
theorem Tryz_nm119 : (Tryz.f119.name == "runtime.NumGoroutine") = false := by decide
theorem Tryz_nm120 : (Tryz.f120.name == "runtime.NumGoroutine") = false := by decide
theorem Tryz_nm121 : (Tryz.f121.name == "runtime.NumGoroutine") = false := by decide
theorem Tryz_nm122 : (Tryz.f122.name == "runtime.NumGoroutine") = false := by decide
theorem Tryz_nm123 : (Tryz.f123.name == "runtime.NumGoroutine") = false := by decide
theorem Tryz_nm124 : (Tryz.f124.name == "runtime.NumGoroutine") = false := by decide
theorem Tryz_nm125 : (Tryz.f125.name == "runtime.NumGoroutine") = false := by decide
theorem Tryz_nm126 : (Tryz.f126.name == "runtime.NumGoroutine") = false := by decide
theorem Tryz_nm127 : (Tryz.f127.name == "runtime.NumGoroutine") = false := by decide
theorem Tryz_nm128 : (Tryz.f128.name == "runtime.NumGoroutine") = false := by decide
theorem Tryz_nm129 : (Tryz.f129.name == "runtime.NumGoroutine") = false := by decide
theorem Tryz_nm130 : (Tryz.f130.name == "runtime.NumGoroutine") = false := by decide
theorem Tryz_nm131 : (Tryz.f131.name == "runtime.NumGoroutine") = false := by decide
theorem Tryz_nm132 : (Tryz.f132.name == "runtime.NumGoroutine") = false := by decide
theorem Tryz_nm133 : (Tryz.f133.name == "runtime.NumGoroutine") = false := by decide
theorem Tryz_nm134 : (Tryz.f134.name == "runtime.NumGoroutine") = false := by decide
theorem Tryz_nm135 : (Tryz.f135.name == "runtime.NumGoroutine") = false := by decide
theorem Tryz_nm136 : (Tryz.f136.name == "runtime.NumGoroutine") = false := by decide
theorem Tryz_nm137 : (Tryz.f137.name == "runtime.NumGoroutine") = false := by decide
theorem Tryz_nm138 : (Tryz.f138.name == "runtime.NumGoroutine") = false := by decide
theorem Tryz_nm139 : (Tryz.f139.name == "runtime.NumGoroutine") = false := by decide
theorem Tryz_nm140 : (Tryz.f140.name == "runtime.NumGoroutine") = false := by decide
theorem Tryz_nm141 : (Tryz.f141.name == "runtime.NumGoroutine") = false := by decide
theorem Tryz_nm142 : (Tryz.f142.name == "runtime.NumGoroutine") = false := by decide
theorem Tryz_nm143 : (Tryz.f143.name == "runtime.NumGoroutine") = false := by decide
theorem Tryz_nm144 : (Tryz.f144.name == "runtime.NumGoroutine") = false := by decide
theorem Tryz_nm145 : (Tryz.f145.name == "runtime.NumGoroutine") = false := by decide
theorem Tryz_nm146 : (Tryz.f146.name == "runtime.NumGoroutine") = false := by decide
theorem Tryz_nm147 : (Tryz.f147.name == "runtime.NumGoroutine") = false := by decide
theorem Tryz_nm148 : (Tryz.f148.name == "runtime.NumGoroutine") = false := by decide
theorem Tryz_nm149 : (Tryz.f149.name == "runtime.NumGoroutine") = false := by decide
theorem Tryz_nm150 : (Tryz.f150.name == "runtime.NumGoroutine") = false := by decide
theorem Tryz_nm151 : (Tryz.f151.name == "runtime.NumGoroutine") = false := by decide
theorem Tryz_nm152 : (Tryz.f152.name == "runtime.NumGoroutine") = false := by decide
theorem Tryz_nm153 : (Tryz.f153.name == "runtime.NumGoroutine") = false := by decide
theorem Tryz_nm154 : (Tryz.f154.name == "runtime.NumGoroutine") = false := by decide
theorem Tryz_nm155 : (Tryz.f155.name == "runtime.NumGoroutine") = false := by decide
theorem Tryz_nm156 : (Tryz.f156.name == "runtime.NumGoroutine") = false := by decide
theorem Tryz_nm157 : (Tryz.f157.name == "runtime.NumGoroutine") = false := by decide
theorem Tryz_nm158 : (Tryz.f158.name == "runtime.NumGoroutine") = false := by decide
theorem Tryz_nm159 : (Tryz.f159.name == "runtime.NumGoroutine") = false := by decide
theorem Tryz_nm160 : (Tryz.f160.name == "runtime.NumGoroutine") = false := by decide
theorem Tryz_nm161 : (Tryz.f161.name == "runtime.NumGoroutine") = false := by decide
theorem Tryz_nm162 : (Tryz.f162.name == "runtime.NumGoroutine") = false := by decide
theorem Tryz_nm163 : (Tryz.f163.name == "runtime.NumGoroutine") = false := by decide
theorem Tryz_nm164 : (Tryz.f164.name == "runtime.NumGoroutine") = false := by decide
theorem Tryz_nm165 : (Tryz.f165.name == "runtime.NumGoroutine") = false := by decide
theorem Tryz_nm166 : (Tryz.f166.name == "runtime.NumGoroutine") = false := by decide
theorem Tryz_nm167 : (Tryz.f167.name == "runtime.NumGoroutine") = false := by decide
theorem Tryz_nm168 : (Tryz.f168.name == "runtime.NumGoroutine") = false := by decide
theorem Tryz_nm169 : (Tryz.f169.name == "runtime.NumGoroutine") = false := by decide
theorem Tryz_nm170 : (Tryz.f170.name == "runtime.NumGoroutine") = false := by decide
theorem Tryz_nm171 : (Tryz.f171.name == "runtime.NumGoroutine") = false := by decide
theorem Tryz_nm172 : (Tryz.f172.name == "runtime.NumGoroutine") = false := by decide
theorem Tryz_nm173 : (Tryz.f173.name == "runtime.NumGoroutine") = false := by decide
theorem Tryz_nm174 : (Tryz.f174.name == "runtime.NumGoroutine") = false := by decide
theorem Tryz_nm175 : (Tryz.f175.name == "runtime.NumGoroutine") = false := by decide
theorem Tryz_nm176 : (Tryz.f176.name == "runtime.NumGoroutine") = false := by decide
theorem Tryz_nm177 : (Tryz.f177.name == "runtime.NumGoroutine") = false := by decide
theorem Tryz_nm178 : (Tryz.f178.name == "runtime.NumGoroutine") = false := by decide
theorem Tryz_nm179 : (Tryz.f179.name == "runtime.NumGoroutine") = false := by decide
theorem Tryz_nm180 : (Tryz.f180.name == "runtime.NumGoroutine") = false := by decide
theorem Tryz_nm181 : (Tryz.f181.name == "runtime.NumGoroutine") = false := by decide
theorem Tryz_nm182 : (Tryz.f182.name == "runtime.NumGoroutine") = false := by decide
theorem Tryz_nm183 : (Tryz.f183.name == "runtime.NumGoroutine") = false := by decide
theorem Tryz_nm184 : (Tryz.f184.name == "runtime.NumGoroutine") = false := by decide
theorem Tryz_nm185 : (Tryz.f185.name == "runtime.NumGoroutine") = false := by decide
theorem Tryz_nm186 : (Tryz.f186.name == "runtime.NumGoroutine") = false := by decide
theorem Tryz_nm187 : (Tryz.f187.name == "runtime.NumGoroutine") = false := by decide
theorem Tryz_nm188 : (Tryz.f188.name == "runtime.NumGoroutine") = false := by decide
theorem Tryz_nm189 : (Tryz.f189.name == "runtime.NumGoroutine") = false := by decide
theorem Tryz_nm190 : (Tryz.f190.name == "runtime.NumGoroutine") = false := by decide
theorem Tryz_nm191 : (Tryz.f191.name == "runtime.NumGoroutine") = false := by decide
theorem Tryz_nm192 : (Tryz.f192.name == "runtime.NumGoroutine") = false := by decide
theorem Tryz_nm193 : (Tryz.f193.name == "runtime.NumGoroutine") = false := by decide
theorem Tryz_nm194 : (Tryz.f194.name == "runtime.NumGoroutine") = false := by decide
theorem Tryz_nm195 : (Tryz.f195.name == "runtime.NumGoroutine") = false := by decide
theorem Tryz_nm196 : (Tryz.f196.name == "runtime.NumGoroutine") = false := by decide
theorem Tryz_nm197 : (Tryz.f197.name == "runtime.NumGoroutine") = false := by decide
theorem Tryz_nm198 : (Tryz.f198.name == "runtime.NumGoroutine") = false := by decide
theorem Tryz_nm199 : (Tryz.f199.name == "runtime.NumGoroutine") = false := by decide
theorem Tryz_nm200 : (Tryz.f200.name == "runtime.NumGoroutine") = false := by decide
theorem Tryz_nm201 : (Tryz.f201.name == "runtime.NumGoroutine") = false := by decide
theorem Tryz_nm202 : (Tryz.f202.name == "runtime.NumGoroutine") = false := by decide
theorem Tryz_nm203 : (Tryz.f203.name == "runtime.NumGoroutine") = false := by decide
theorem Tryz_nm204 : (Tryz.f204.name == "runtime.NumGoroutine") = false := by decide
theorem Tryz_nm205 : (Tryz.f205.name == "runtime.NumGoroutine") = false := by decide
theorem Tryz_nm206 : (Tryz.f206.name == "runtime.NumGoroutine") = false := by decide
theorem Tryz_nm207 : (Tryz.f207.name == "runtime.NumGoroutine") = false := by decide
theorem Tryz_nm208 : (Tryz.f208.name == "runtime.NumGoroutine") = false := by decide
theorem Tryz_nm209 : (Tryz.f209.name == "runtime.NumGoroutine") = false := by decide
theorem Tryz_nm210 : (Tryz.f210.name == "runtime.NumGoroutine") = false := by decide
theorem Tryz_nm211 : (Tryz.f211.name == "runtime.NumGoroutine") = false := by decide
theorem Tryz_nm212 : (Tryz.f212.name == "runtime.NumGoroutine") = false := by decide
theorem Tryz_nm213 : (Tryz.f213.name == "runtime.NumGoroutine") = false := by decide
theorem Tryz_nm214 : (Tryz.f214.name == "runtime.NumGoroutine") = false := by decide
theorem Tryz_nm215 : (Tryz.f215.name == "runtime.NumGoroutine") = false := by decide
theorem Tryz_nm216 : (Tryz.f216.name == "runtime.NumGoroutine") = false := by decide
theorem Tryz_nm217 : (Tryz.f217.name == "runtime.NumGoroutine") = false := by decide
theorem Tryz_nm218 : (Tryz.f218.name == "runtime.NumGoroutine") = false := by decide
theorem Tryz_nm219 : (Tryz.f219.name == "runtime.NumGoroutine") = false := by decide
theorem Tryz_nm220 : (Tryz.f220.name == "runtime.NumGoroutine") = false := by decide
theorem Tryz_nm221 : (Tryz.f221.name == "runtime.NumGoroutine") = false := by decide
theorem Tryz_nm222 : (Tryz.f222.name == "runtime.NumGoroutine") = false := by decide
theorem Tryz_nm223 : (Tryz.f223.name == "runtime.NumGoroutine") = false := by decide
theorem Tryz_nm224 : (Tryz.f224.name == "runtime.NumGoroutine") = false := by decide
theorem Tryz_nm225 : (Tryz.f225.name == "runtime.NumGoroutine") = false := by decide
theorem Tryz_nm226 : (Tryz.f226.name == "runtime.NumGoroutine") = false := by decide
theorem Tryz_nm227 : (Tryz.f227.name == "runtime.NumGoroutine") = false := by decide
theorem Tryz_nm228 : (Tryz.f228.name == "runtime.NumGoroutine") = false := by decide
theorem Tryz_nm229 : (Tryz.f229.name == "runtime.NumGoroutine") = false := by decide
theorem Tryz_nm230 : (Tryz.f230.name == "runtime.NumGoroutine") = false := by decide
theorem Tryz_nm231 : (Tryz.f231.name == "runtime.NumGoroutine") = false := by decide
theorem Tryz_nm232 : (Tryz.f232.name == "runtime.NumGoroutine") = false := by decide
theorem Tryz_nm233 : (Tryz.f233.name == "runtime.NumGoroutine") = false := by decide
theorem Tryz_nm234 : (Tryz.f234.name == "runtime.NumGoroutine") = false := by decide
theorem Tryz_nm235 : (Tryz.f235.name == "runtime.NumGoroutine") = false := by decide
theorem Tryz_nm236 : (Tryz.f236.name == "runtime.NumGoroutine") = false := by decide
theorem Tryz_nm237 : (Tryz.f237.name == "runtime.NumGoroutine") = false := by decide
theorem Tryz_nm238 : (Tryz.f238.name == "runtime.NumGoroutine") = false := by decide
theorem Tryz_nm239 : (Tryz.f239.name == "runtime.NumGoroutine") = false := by decide
theorem Tryz_nm240 : (Tryz.f240.name == "runtime.NumGoroutine") = false := by decide
theorem Tryz_nm241 : (Tryz.f241.name == "runtime.NumGoroutine") = false := by decide
theorem Tryz_nm242 : (Tryz.f242.name == "runtime.NumGoroutine") = false := by decide
theorem Tryz_nm243 : (Tryz.f243.name == "runtime.NumGoroutine") = false := by decide
theorem Tryz_nm244 : (Tryz.f244.name == "runtime.NumGoroutine") = false := by decide
theorem Tryz_nm245 : (Tryz.f245.name == "runtime.NumGoroutine") = false := by decide
theorem Tryz_nm246 : (Tryz.f246.name == "runtime.NumGoroutine") = false := by decide
theorem Tryz_nm247 : (Tryz.f247.name == "runtime.NumGoroutine") = false := by decide
theorem Tryz_nm248 : (Tryz.f248.name == "runtime.NumGoroutine") = false := by decide
theorem Tryz_nm249 : (Tryz.f249.name == "runtime.NumGoroutine") = false := by decide
theorem Tryz_nm250 : (Tryz.f250.name == "runtime.NumGoroutine") = false := by decide
theorem Tryz_nm251 : (Tryz.f251.name == "runtime.NumGoroutine") = false := by decide
theorem Tryz_nm252 : (Tryz.f252.name == "runtime.NumGoroutine") = false := by decide
theorem Tryz_nm253 : (Tryz.f253.name == "runtime.NumGoroutine") = false := by decide
theorem Tryz_nm254 : (Tryz.f254.name == "runtime.NumGoroutine") = false := by decide
theorem Tryz_nm255 : (Tryz.f255.name == "runtime.NumGoroutine") = false := by decide
theorem Tryz_nm256 : (Tryz.f256.name == "runtime.NumGoroutine") = false := by decide
theorem Tryz_nm257 : (Tryz.f257.name == "runtime.NumGoroutine") = false := by decide
theorem Tryz_nm258 : (Tryz.f258.name == "runtime.NumGoroutine") = false := by decide
theorem Tryz_nm259 : (Tryz.f259.name == "runtime.NumGoroutine") = false := by decide
theorem Tryz_nm260 : (Tryz.f260.name == "runtime.NumGoroutine") = false := by decide
theorem Tryz_nm261 : (Tryz.f261.name == "runtime.NumGoroutine") = false := by decide
theorem Tryz_nm262 : (Tryz.f262.name == "runtime.NumGoroutine") = false := by decide
theorem Tryz_nm263 : (Tryz.f263.name == "runtime.NumGoroutine") = false := by decide
theorem Tryz_nm264 : (Tryz.f264.name == "runtime.NumGoroutine") = false := by decide
theorem Tryz_nm265 : (Tryz.f265.name == "runtime.NumGoroutine") = false := by decide
theorem Tryz_nm266 : (Tryz.f266.name == "runtime.NumGoroutine") = false := by decide
theorem Tryz_nm267 : (Tryz.f267.name == "runtime.NumGoroutine") = false := by decide
theorem Tryz_nm268 : (Tryz.f268.name == "runtime.NumGoroutine") = false := by decide
theorem Tryz_nm269 : (Tryz.f269.name == "runtime.NumGoroutine") = false := by decide
theorem Tryz_nm270 : (Tryz.f270.name == "runtime.NumGoroutine") = false := by decide
theorem Tryz_nm271 : (Tryz.f271.name == "runtime.NumGoroutine") = false := by decide
theorem Tryz_nm272 : (Tryz.f272.name == "runtime.NumGoroutine") = false := by decide
theorem Tryz_nm273 : (Tryz.f273.name == "runtime.NumGoroutine") = false := by decide
theorem Tryz_nm274 : (Tryz.f274.name == "runtime.NumGoroutine") = false := by decide
theorem Tryz_nm275 : (Tryz.f275.name == "runtime.NumGoroutine") = false := by decide
theorem Tryz_nm276 : (Tryz.f276.name == "runtime.NumGoroutine") = false := by decide
theorem Tryz_nm277 : (Tryz.f277.name == "runtime.NumGoroutine") = false := by decide
theorem Tryz_nm278 : (Tryz.f278.name == "runtime.NumGoroutine") = false := by decide
theorem Tryz_nm279 : (Tryz.f279.name == "runtime.NumGoroutine") = false := by decide
theorem Tryz_nm280 : (Tryz.f280.name == "runtime.NumGoroutine") = false := by decide
theorem Tryz_nm281 : (Tryz.f281.name == "runtime.NumGoroutine") = false := by decide
theorem Tryz_nm282 : (Tryz.f282.name == "runtime.NumGoroutine") = false := by decide
theorem Tryz_nm283 : (Tryz.f283.name == "runtime.NumGoroutine") = false := by decide
theorem Tryz_nm284 : (Tryz.f284.name == "runtime.NumGoroutine") = false := by decide
theorem Tryz_nm285 : (Tryz.f285.name == "runtime.NumGoroutine") = false := by decide
theorem Tryz_nm286 : (Tryz.f286.name == "runtime.NumGoroutine") = false := by decide
theorem Tryz_nm287 : (Tryz.f287.name == "runtime.NumGoroutine") = false := by decide
theorem Tryz_nm288 : (Tryz.f288.name == "runtime.NumGoroutine") = false := by decide
theorem Tryz_nm289 : (Tryz.f289.name == "runtime.NumGoroutine") = false := by decide
theorem Tryz_nm290 : (Tryz.f290.name == "runtime.NumGoroutine") = false := by decide
theorem Tryz_nm291 : (Tryz.f291.name == "runtime.NumGoroutine") = false := by decide
theorem Tryz_nm292 : (Tryz.f292.name == "runtime.NumGoroutine") = false := by decide
theorem Tryz_nm293 : (Tryz.f293.name == "runtime.NumGoroutine") = false := by decide
theorem Tryz_nm294 : (Tryz.f294.name == "runtime.NumGoroutine") = false := by decide
theorem Tryz_nm295 : (Tryz.f295.name == "runtime.NumGoroutine") = false := by decide
theorem Tryz_nm296 : (Tryz.f296.name == "runtime.NumGoroutine") = false := by decide
theorem Tryz_nm297 : (Tryz.f297.name == "runtime.NumGoroutine") = false := by decide
theorem Tryz_nm298 : (Tryz.f298.name == "runtime.NumGoroutine") = false := by decide
theorem Tryz_nm299 : (Tryz.f299.name == "runtime.NumGoroutine") = false := by decide
theorem Tryz_nm300 : (Tryz.f300.name == "runtime.NumGoroutine") = false := by decide
theorem Tryz_nm301 : (Tryz.f301.name == "runtime.NumGoroutine") = false := by decide
theorem Tryz_nm302 : (Tryz.f302.name == "runtime.NumGoroutine") = false := by decide
theorem Tryz_nm303 : (Tryz.f303.name == "runtime.NumGoroutine") = false := by decide
theorem Tryz_nm304 : (Tryz.f304.name == "runtime.NumGoroutine") = false := by decide
theorem Tryz_nm305 : (Tryz.f305.name == "runtime.NumGoroutine") = false := by decide
theorem Tryz_nm306 : (Tryz.f306.name == "runtime.NumGoroutine") = false := by decide
theorem Tryz_nm322 : (Tryz.f322.name == "runtime.NumGoroutine") = false := by decide
end Go.Wk
