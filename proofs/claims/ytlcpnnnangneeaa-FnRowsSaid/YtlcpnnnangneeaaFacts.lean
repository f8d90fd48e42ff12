/-
  Facts on the types and the names of the loaded program. (Printed by a program of mine.)
-/
import Derived.Test.YtlcpnnnangneeaaWkR
import Derived.Test.YtlcpnnnangneeaaChecked
namespace Go.Wk
open Go.Proofs
theorem Try_ty2 : Ty Try.prog 2 (.int .i64 0) 1 8 := ⟨by kernel_rfl⟩
theorem Try_ty3 : Ty Try.prog 3 (.int .i64 0) 1 8 := ⟨by kernel_rfl⟩
theorem Try_ty4 : Ty Try.prog 4 (.bool false) 1 1 := ⟨by kernel_rfl⟩
theorem Try_ty5 : Ty Try.prog 5 (.int .u8 0) 1 1 := ⟨by kernel_rfl⟩
theorem Try_ty9 : Ty Try.prog 9 (.string ⟨#[]⟩) 1 16 := ⟨by kernel_rfl⟩
theorem Try_ty12 : Ty Try.prog 12 (.int .u64 0) 1 8 := ⟨by kernel_rfl⟩
theorem Try_ty13 : Ty Try.prog 13 (.agg #[.string ⟨#[]⟩, .int .u64 0]) 2 24 := ⟨by kernel_rfl⟩
theorem Try_ty21 : Ty Try.prog 21 (.int .i32 0) 1 4 := ⟨by kernel_rfl⟩
theorem Try_ty22 : Ty Try.prog 22 (.agg #[.int .i64 0, .int .i64 0, .int .i64 0, .int .i64 0, .int .i64 0, .int .i64 0, .int .i64 0, .int .i64 0, .int .i64 0]) 9 72 := ⟨by kernel_rfl⟩
theorem Try_ty23 : Ty Try.prog 23 (.agg #[.int .i64 0, .int .i64 0, .int .i64 0, .int .i64 0, .int .i64 0, .int .i64 0, .int .i64 0, .int .i64 0, .int .i64 0]) 9 72 := ⟨by kernel_rfl⟩
theorem Try_ty24 : Ty Try.prog 24 (.agg #[.int .i64 0, .int .i64 0, .string ⟨#[]⟩, .int .i64 0]) 4 40 := ⟨by kernel_rfl⟩
theorem Try_ty25 : Ty Try.prog 25 (.agg #[.int .i64 0, .int .i64 0, .string ⟨#[]⟩, .int .i64 0]) 4 40 := ⟨by kernel_rfl⟩
theorem Try_ty28 : Ty Try.prog 28 (.agg #[.int .i64 0, .int .i64 0, .int .i64 0, .int .i64 0, .int .i64 0, .int .i64 0, .int .i64 0, .int .i64 0, .int .i64 0]) 9 72 := ⟨by kernel_rfl⟩
theorem Try_ty30 : Ty Try.prog 30 (.agg #[.int .i64 0, .int .i64 0, .string ⟨#[]⟩, .int .i64 0]) 4 40 := ⟨by kernel_rfl⟩
theorem Try_ty33 : Ty Try.prog 33 (.slice none 0 0) 1 24 := ⟨by kernel_rfl⟩
theorem Try_ty34 : Ty Try.prog 34 (.slice none 0 0) 1 24 := ⟨by kernel_rfl⟩
theorem Try_ty35 : Ty Try.prog 35 (.agg #[.int .i64 0, .int .i64 0, .string ⟨#[]⟩, .int .i64 0, .int .i64 0, .int .i64 0, .slice none 0 0, .slice none 0 0, .slice none 0 0]) 9 128 := ⟨by kernel_rfl⟩
theorem Try_ty36 : Ty Try.prog 36 (.agg #[.int .i64 0, .int .i64 0, .string ⟨#[]⟩, .int .i64 0, .int .i64 0, .int .i64 0, .slice none 0 0, .slice none 0 0, .slice none 0 0]) 9 128 := ⟨by kernel_rfl⟩
theorem Try_ty39 : Ty Try.prog 39 (.agg #[.int .i64 0, .int .i64 0, .string ⟨#[]⟩, .int .i64 0, .int .i64 0, .int .i64 0, .slice none 0 0, .slice none 0 0, .slice none 0 0]) 9 128 := ⟨by kernel_rfl⟩
theorem Try_ty43 : Ty Try.prog 43 (.slice none 0 0) 1 24 := ⟨by kernel_rfl⟩
theorem Try_ty44 : Ty Try.prog 44 (.agg #[.int .i64 0, .slice none 0 0]) 2 32 := ⟨by kernel_rfl⟩
theorem Try_ty45 : Ty Try.prog 45 (.agg #[.int .i64 0, .slice none 0 0]) 2 32 := ⟨by kernel_rfl⟩
theorem Try_ty53 : Ty Try.prog 53 (.slice none 0 0) 1 24 := ⟨by kernel_rfl⟩
theorem Try_ty54 : Ty Try.prog 54 (.slice none 0 0) 1 24 := ⟨by kernel_rfl⟩
theorem Try_ty55 : Ty Try.prog 55 (.slice none 0 0) 1 24 := ⟨by kernel_rfl⟩
theorem Try_ty56 : Ty Try.prog 56 (.agg #[.slice none 0 0, .slice none 0 0, .slice none 0 0, .int .i64 0, .int .i64 0]) 5 88 := ⟨by kernel_rfl⟩
theorem Try_ty57 : Ty Try.prog 57 (.agg #[.slice none 0 0, .slice none 0 0, .slice none 0 0, .int .i64 0, .int .i64 0]) 5 88 := ⟨by kernel_rfl⟩
theorem Try_ty58 : Ty Try.prog 58 (.agg #[.int .i64 0, .slice none 0 0, .slice none 0 0, .slice none 0 0, .int .i64 0, .int .i64 0]) 6 96 := ⟨by kernel_rfl⟩
theorem Try_ty59 : Ty Try.prog 59 (.agg #[.int .i64 0, .slice none 0 0, .slice none 0 0, .slice none 0 0, .int .i64 0, .int .i64 0]) 6 96 := ⟨by kernel_rfl⟩
theorem Try_ty69 : Ty Try.prog 69 (.agg #[.int .i64 0, .slice none 0 0]) 2 32 := ⟨by kernel_rfl⟩
theorem Try_ty70 : Ty Try.prog 70 (.agg #[.int .i64 0, .slice none 0 0]) 2 32 := ⟨by kernel_rfl⟩
theorem Try_ty87 : Ty Try.prog 87 (.slice none 0 0) 1 24 := ⟨by kernel_rfl⟩
theorem Try_ty88 : Ty Try.prog 88 (.slice none 0 0) 1 24 := ⟨by kernel_rfl⟩
theorem Try_ty89 : Ty Try.prog 89 (.slice none 0 0) 1 24 := ⟨by kernel_rfl⟩
theorem Try_ty90 : Ty Try.prog 90 (.agg #[.slice none 0 0, .slice none 0 0, .slice none 0 0, .int .i64 0, .int .i64 0]) 5 88 := ⟨by kernel_rfl⟩
theorem Try_ty91 : Ty Try.prog 91 (.agg #[.slice none 0 0, .slice none 0 0, .slice none 0 0, .int .i64 0, .int .i64 0]) 5 88 := ⟨by kernel_rfl⟩
theorem Try_ty104 : Ty Try.prog 104 (.agg #[.int .i64 0, .int .i64 0]) 2 16 := ⟨by kernel_rfl⟩
theorem Try_ty105 : Ty Try.prog 105 (.agg #[.int .i64 0, .int .i64 0]) 2 16 := ⟨by kernel_rfl⟩
theorem Try_ty111 : Ty Try.prog 111 (.pointer none) 1 8 := ⟨by kernel_rfl⟩
theorem Try_ty138 : Ty Try.prog 138 (.pointer none) 1 8 := ⟨by kernel_rfl⟩
theorem Try_ty158 : Ty Try.prog 158 (.agg #[.slice none 0 0, .int .i64 0]) 2 32 := ⟨by kernel_rfl⟩
theorem Try_ty159 : Ty Try.prog 159 (.agg #[.slice none 0 0, .int .i64 0]) 2 32 := ⟨by kernel_rfl⟩
theorem Try_ty170 : Ty Try.prog 170 (.agg #[.int .i64 0, .int .i64 0, .int .i64 0, .slice none 0 0]) 4 48 := ⟨by kernel_rfl⟩
theorem Try_ty171 : Ty Try.prog 171 (.agg #[.int .i64 0, .int .i64 0, .int .i64 0, .slice none 0 0]) 4 48 := ⟨by kernel_rfl⟩
theorem Try_ty175 : Ty Try.prog 175 (.agg #[.int .i64 0, .int .i64 0, .int .i64 0, .slice none 0 0]) 4 48 := ⟨by kernel_rfl⟩
theorem Try_ty190 : Ty Try.prog 190 (.int .u64 0) 1 8 := ⟨by kernel_rfl⟩
theorem Try_ty204 : Ty Try.prog 204 (.int .u32 0) 1 4 := ⟨by kernel_rfl⟩
theorem Try_ty208 : Ty Try.prog 208 (.pointer none) 1 8 := ⟨by kernel_rfl⟩
theorem Try_pl13 : Pl Try.prog 13 [.string ⟨#[]⟩, .int .u64 0] [(0, 1), (1, 1)] := ⟨by kernel_rfl⟩
theorem Try_pl22 : Pl Try.prog 22 [.int .i64 0, .int .i64 0, .int .i64 0, .int .i64 0, .int .i64 0, .int .i64 0, .int .i64 0, .int .i64 0, .int .i64 0] [(0, 1), (1, 1), (2, 1), (3, 1), (4, 1), (5, 1), (6, 1), (7, 1), (8, 1)] := ⟨by kernel_rfl⟩
theorem Try_pl23 : Pl Try.prog 23 [.int .i64 0, .int .i64 0, .int .i64 0, .int .i64 0, .int .i64 0, .int .i64 0, .int .i64 0, .int .i64 0, .int .i64 0] [(0, 1), (1, 1), (2, 1), (3, 1), (4, 1), (5, 1), (6, 1), (7, 1), (8, 1)] := ⟨by kernel_rfl⟩
theorem Try_pl24 : Pl Try.prog 24 [.int .i64 0, .int .i64 0, .string ⟨#[]⟩, .int .i64 0] [(0, 1), (1, 1), (2, 1), (3, 1)] := ⟨by kernel_rfl⟩
theorem Try_pl25 : Pl Try.prog 25 [.int .i64 0, .int .i64 0, .string ⟨#[]⟩, .int .i64 0] [(0, 1), (1, 1), (2, 1), (3, 1)] := ⟨by kernel_rfl⟩
theorem Try_pl28 : Pl Try.prog 28 [.int .i64 0, .int .i64 0, .int .i64 0, .int .i64 0, .int .i64 0, .int .i64 0, .int .i64 0, .int .i64 0, .int .i64 0] [(0, 1), (1, 1), (2, 1), (3, 1), (4, 1), (5, 1), (6, 1), (7, 1), (8, 1)] := ⟨by kernel_rfl⟩
theorem Try_pl30 : Pl Try.prog 30 [.int .i64 0, .int .i64 0, .string ⟨#[]⟩, .int .i64 0] [(0, 1), (1, 1), (2, 1), (3, 1)] := ⟨by kernel_rfl⟩
theorem Try_pl35 : Pl Try.prog 35 [.int .i64 0, .int .i64 0, .string ⟨#[]⟩, .int .i64 0, .int .i64 0, .int .i64 0, .slice none 0 0, .slice none 0 0, .slice none 0 0] [(0, 1), (1, 1), (2, 1), (3, 1), (4, 1), (5, 1), (6, 1), (7, 1), (8, 1)] := ⟨by kernel_rfl⟩
theorem Try_pl36 : Pl Try.prog 36 [.int .i64 0, .int .i64 0, .string ⟨#[]⟩, .int .i64 0, .int .i64 0, .int .i64 0, .slice none 0 0, .slice none 0 0, .slice none 0 0] [(0, 1), (1, 1), (2, 1), (3, 1), (4, 1), (5, 1), (6, 1), (7, 1), (8, 1)] := ⟨by kernel_rfl⟩
theorem Try_pl39 : Pl Try.prog 39 [.int .i64 0, .int .i64 0, .string ⟨#[]⟩, .int .i64 0, .int .i64 0, .int .i64 0, .slice none 0 0, .slice none 0 0, .slice none 0 0] [(0, 1), (1, 1), (2, 1), (3, 1), (4, 1), (5, 1), (6, 1), (7, 1), (8, 1)] := ⟨by kernel_rfl⟩
theorem Try_pl44 : Pl Try.prog 44 [.int .i64 0, .slice none 0 0] [(0, 1), (1, 1)] := ⟨by kernel_rfl⟩
theorem Try_pl45 : Pl Try.prog 45 [.int .i64 0, .slice none 0 0] [(0, 1), (1, 1)] := ⟨by kernel_rfl⟩
theorem Try_pl56 : Pl Try.prog 56 [.slice none 0 0, .slice none 0 0, .slice none 0 0, .int .i64 0, .int .i64 0] [(0, 1), (1, 1), (2, 1), (3, 1), (4, 1)] := ⟨by kernel_rfl⟩
theorem Try_pl57 : Pl Try.prog 57 [.slice none 0 0, .slice none 0 0, .slice none 0 0, .int .i64 0, .int .i64 0] [(0, 1), (1, 1), (2, 1), (3, 1), (4, 1)] := ⟨by kernel_rfl⟩
theorem Try_pl58 : Pl Try.prog 58 [.int .i64 0, .slice none 0 0, .slice none 0 0, .slice none 0 0, .int .i64 0, .int .i64 0] [(0, 1), (1, 5)] := ⟨by kernel_rfl⟩
theorem Try_pl59 : Pl Try.prog 59 [.int .i64 0, .slice none 0 0, .slice none 0 0, .slice none 0 0, .int .i64 0, .int .i64 0] [(0, 1), (1, 5)] := ⟨by kernel_rfl⟩
theorem Try_pl69 : Pl Try.prog 69 [.int .i64 0, .slice none 0 0] [(0, 1), (1, 1)] := ⟨by kernel_rfl⟩
theorem Try_pl70 : Pl Try.prog 70 [.int .i64 0, .slice none 0 0] [(0, 1), (1, 1)] := ⟨by kernel_rfl⟩
theorem Try_pl90 : Pl Try.prog 90 [.slice none 0 0, .slice none 0 0, .slice none 0 0, .int .i64 0, .int .i64 0] [(0, 1), (1, 1), (2, 1), (3, 1), (4, 1)] := ⟨by kernel_rfl⟩
theorem Try_pl91 : Pl Try.prog 91 [.slice none 0 0, .slice none 0 0, .slice none 0 0, .int .i64 0, .int .i64 0] [(0, 1), (1, 1), (2, 1), (3, 1), (4, 1)] := ⟨by kernel_rfl⟩
theorem Try_pl104 : Pl Try.prog 104 [.int .i64 0, .int .i64 0] [(0, 1), (1, 1)] := ⟨by kernel_rfl⟩
theorem Try_pl105 : Pl Try.prog 105 [.int .i64 0, .int .i64 0] [(0, 1), (1, 1)] := ⟨by kernel_rfl⟩
theorem Try_pl158 : Pl Try.prog 158 [.slice none 0 0, .int .i64 0] [(0, 1), (1, 1)] := ⟨by kernel_rfl⟩
theorem Try_pl159 : Pl Try.prog 159 [.slice none 0 0, .int .i64 0] [(0, 1), (1, 1)] := ⟨by kernel_rfl⟩
theorem Try_pl170 : Pl Try.prog 170 [.int .i64 0, .int .i64 0, .int .i64 0, .slice none 0 0] [(0, 1), (1, 1), (2, 1), (3, 1)] := ⟨by kernel_rfl⟩
theorem Try_pl171 : Pl Try.prog 171 [.int .i64 0, .int .i64 0, .int .i64 0, .slice none 0 0] [(0, 1), (1, 1), (2, 1), (3, 1)] := ⟨by kernel_rfl⟩
theorem Try_pl175 : Pl Try.prog 175 [.int .i64 0, .int .i64 0, .int .i64 0, .slice none 0 0] [(0, 1), (1, 1), (2, 1), (3, 1)] := ⟨by kernel_rfl⟩
theorem Try_nm3 : (Try.f3.name == "runtime.NumGoroutine") = false := by decide
theorem Try_nm4 : (Try.f4.name == "runtime.NumGoroutine") = false := by decide
theorem Try_nm5 : (Try.f5.name == "runtime.NumGoroutine") = false := by decide
theorem Try_nm6 : (Try.f6.name == "runtime.NumGoroutine") = false := by decide
theorem Try_nm7 : (Try.f7.name == "runtime.NumGoroutine") = false := by decide
theorem Try_nm8 : (Try.f8.name == "runtime.NumGoroutine") = false := by decide
theorem Try_nm9 : (Try.f9.name == "runtime.NumGoroutine") = false := by decide
theorem Try_nm10 : (Try.f10.name == "runtime.NumGoroutine") = false := by decide
theorem Try_nm11 : (Try.f11.name == "runtime.NumGoroutine") = false := by decide
theorem Try_nm12 : (Try.f12.name == "runtime.NumGoroutine") = false := by decide
theorem Try_nm13 : (Try.f13.name == "runtime.NumGoroutine") = false := by decide
theorem Try_nm14 : (Try.f14.name == "runtime.NumGoroutine") = false := by decide
theorem Try_nm15 : (Try.f15.name == "runtime.NumGoroutine") = false := by decide
theorem Try_nm16 : (Try.f16.name == "runtime.NumGoroutine") = false := by decide
theorem Try_nm17 : (Try.f17.name == "runtime.NumGoroutine") = false := by decide
theorem Try_nm18 : (Try.f18.name == "runtime.NumGoroutine") = false := by decide
theorem Try_nm19 : (Try.f19.name == "runtime.NumGoroutine") = false := by decide
theorem Try_nm20 : (Try.f20.name == "runtime.NumGoroutine") = false := by decide
theorem Try_nm21 : (Try.f21.name == "runtime.NumGoroutine") = false := by decide
theorem Try_nm22 : (Try.f22.name == "runtime.NumGoroutine") = false := by decide
theorem Try_nm23 : (Try.f23.name == "runtime.NumGoroutine") = false := by decide
theorem Try_nm24 : (Try.f24.name == "runtime.NumGoroutine") = false := by decide
theorem Try_nm25 : (Try.f25.name == "runtime.NumGoroutine") = false := by decide
theorem Try_nm26 : (Try.f26.name == "runtime.NumGoroutine") = false := by decide
theorem Try_nm27 : (Try.f27.name == "runtime.NumGoroutine") = false := by decide
theorem Try_nm28 : (Try.f28.name == "runtime.NumGoroutine") = false := by decide
theorem Try_nm29 : (Try.f29.name == "runtime.NumGoroutine") = false := by decide
theorem Try_nm30 : (Try.f30.name == "runtime.NumGoroutine") = false := by decide
theorem Try_nm31 : (Try.f31.name == "runtime.NumGoroutine") = false := by decide
theorem Try_nm32 : (Try.f32.name == "runtime.NumGoroutine") = false := by decide
theorem Try_nm33 : (Try.f33.name == "runtime.NumGoroutine") = false := by decide
theorem Try_nm34 : (Try.f34.name == "runtime.NumGoroutine") = false := by decide
theorem Try_nm35 : (Try.f35.name == "runtime.NumGoroutine") = false := by decide
theorem Try_nm36 : (Try.f36.name == "runtime.NumGoroutine") = false := by decide
theorem Try_nm37 : (Try.f37.name == "runtime.NumGoroutine") = false := by decide
theorem Try_nm38 : (Try.f38.name == "runtime.NumGoroutine") = false := by decide
theorem Try_nm39 : (Try.f39.name == "runtime.NumGoroutine") = false := by decide
theorem Try_nm40 : (Try.f40.name == "runtime.NumGoroutine") = false := by decide
theorem Try_nm41 : (Try.f41.name == "runtime.NumGoroutine") = false := by decide
theorem Try_nm42 : (Try.f42.name == "runtime.NumGoroutine") = false := by decide
theorem Try_nm43 : (Try.f43.name == "runtime.NumGoroutine") = false := by decide
theorem Try_nm44 : (Try.f44.name == "runtime.NumGoroutine") = false := by decide
theorem Try_nm45 : (Try.f45.name == "runtime.NumGoroutine") = false := by decide
theorem Try_nm46 : (Try.f46.name == "runtime.NumGoroutine") = false := by decide
theorem Try_nm47 : (Try.f47.name == "runtime.NumGoroutine") = false := by decide
theorem Try_nm48 : (Try.f48.name == "runtime.NumGoroutine") = false := by decide
theorem Try_nm49 : (Try.f49.name == "runtime.NumGoroutine") = false := by decide
theorem Try_nm50 : (Try.f50.name == "runtime.NumGoroutine") = false := by decide
theorem Try_nm51 : (Try.f51.name == "runtime.NumGoroutine") = false := by decide
theorem Try_nm52 : (Try.f52.name == "runtime.NumGoroutine") = false := by decide
theorem Try_nm53 : (Try.f53.name == "runtime.NumGoroutine") = false := by decide
theorem Try_nm54 : (Try.f54.name == "runtime.NumGoroutine") = false := by decide
theorem Try_nm55 : (Try.f55.name == "runtime.NumGoroutine") = false := by decide
theorem Try_nm56 : (Try.f56.name == "runtime.NumGoroutine") = false := by decide
theorem Try_nm57 : (Try.f57.name == "runtime.NumGoroutine") = false := by decide
theorem Try_nm58 : (Try.f58.name == "runtime.NumGoroutine") = false := by decide
theorem Try_nm59 : (Try.f59.name == "runtime.NumGoroutine") = false := by decide
theorem Try_nm60 : (Try.f60.name == "runtime.NumGoroutine") = false := by decide
theorem Try_nm61 : (Try.f61.name == "runtime.NumGoroutine") = false := by decide
theorem Try_nm62 : (Try.f62.name == "runtime.NumGoroutine") = false := by decide
theorem Try_nm63 : (Try.f63.name == "runtime.NumGoroutine") = false := by decide
theorem Try_nm64 : (Try.f64.name == "runtime.NumGoroutine") = false := by decide
theorem Try_nm65 : (Try.f65.name == "runtime.NumGoroutine") = false := by decide
theorem Try_nm66 : (Try.f66.name == "runtime.NumGoroutine") = false := by decide
theorem Try_nm67 : (Try.f67.name == "runtime.NumGoroutine") = false := by decide
theorem Try_nm68 : (Try.f68.name == "runtime.NumGoroutine") = false := by decide
theorem Try_nm69 : (Try.f69.name == "runtime.NumGoroutine") = false := by decide
theorem Try_nm70 : (Try.f70.name == "runtime.NumGoroutine") = false := by decide
theorem Try_nm71 : (Try.f71.name == "runtime.NumGoroutine") = false := by decide
theorem Try_nm72 : (Try.f72.name == "runtime.NumGoroutine") = false := by decide
theorem Try_nm73 : (Try.f73.name == "runtime.NumGoroutine") = false := by decide
theorem Try_nm74 : (Try.f74.name == "runtime.NumGoroutine") = false := by decide
theorem Try_nm75 : (Try.f75.name == "runtime.NumGoroutine") = false := by decide
theorem Try_nm76 : (Try.f76.name == "runtime.NumGoroutine") = false := by decide
theorem Try_nm77 : (Try.f77.name == "runtime.NumGoroutine") = false := by decide
theorem Try_nm78 : (Try.f78.name == "runtime.NumGoroutine") = false := by decide
theorem Try_nm79 : (Try.f79.name == "runtime.NumGoroutine") = false := by decide
theorem Try_nm80 : (Try.f80.name == "runtime.NumGoroutine") = false := by decide
theorem Try_nm81 : (Try.f81.name == "runtime.NumGoroutine") = false := by decide
theorem Try_nm82 : (Try.f82.name == "runtime.NumGoroutine") = false := by decide
theorem Try_nm83 : (Try.f83.name == "runtime.NumGoroutine") = false := by decide
theorem Try_nm84 : (Try.f84.name == "runtime.NumGoroutine") = false := by decide
theorem Try_nm85 : (Try.f85.name == "runtime.NumGoroutine") = false := by decide
theorem Try_nm86 : (Try.f86.name == "runtime.NumGoroutine") = false := by decide
theorem Try_nm87 : (Try.f87.name == "runtime.NumGoroutine") = false := by decide
theorem Try_nm88 : (Try.f88.name == "runtime.NumGoroutine") = false := by decide
theorem Try_nm89 : (Try.f89.name == "runtime.NumGoroutine") = false := by decide
theorem Try_nm90 : (Try.f90.name == "runtime.NumGoroutine") = false := by decide
theorem Try_nm91 : (Try.f91.name == "runtime.NumGoroutine") = false := by decide
theorem Try_nm92 : (Try.f92.name == "runtime.NumGoroutine") = false := by decide
theorem Try_nm93 : (Try.f93.name == "runtime.NumGoroutine") = false := by decide
theorem Try_nm94 : (Try.f94.name == "runtime.NumGoroutine") = false := by decide
theorem Try_nm95 : (Try.f95.name == "runtime.NumGoroutine") = false := by decide
theorem Try_nm96 : (Try.f96.name == "runtime.NumGoroutine") = false := by decide
theorem Try_nm97 : (Try.f97.name == "runtime.NumGoroutine") = false := by decide
theorem Try_nm98 : (Try.f98.name == "runtime.NumGoroutine") = false := by decide
theorem Try_nm99 : (Try.f99.name == "runtime.NumGoroutine") = false := by decide
theorem Try_nm100 : (Try.f100.name == "runtime.NumGoroutine") = false := by decide
theorem Try_nm101 : (Try.f101.name == "runtime.NumGoroutine") = false := by decide
theorem Try_nm102 : (Try.f102.name == "runtime.NumGoroutine") = false := by decide
theorem Try_nm103 : (Try.f103.name == "runtime.NumGoroutine") = false := by decide
theorem Try_nm104 : (Try.f104.name == "runtime.NumGoroutine") = false := by decide
theorem Try_nm105 : (Try.f105.name == "runtime.NumGoroutine") = false := by decide
theorem Try_nm106 : (Try.f106.name == "runtime.NumGoroutine") = false := by decide
theorem Try_nm107 : (Try.f107.name == "runtime.NumGoroutine") = false := by decide
theorem Try_nm108 : (Try.f108.name == "runtime.NumGoroutine") = false := by decide
theorem Try_nm109 : (Try.f109.name == "runtime.NumGoroutine") = false := by decide
theorem Try_nm110 : (Try.f110.name == "runtime.NumGoroutine") = false := by decide
theorem Try_nm111 : (Try.f111.name == "runtime.NumGoroutine") = false := by decide
theorem Try_nm112 : (Try.f112.name == "runtime.NumGoroutine") = false := by decide
theorem Try_nm113 : (Try.f113.name == "runtime.NumGoroutine") = false := by decide
theorem Try_nm114 : (Try.f114.name == "runtime.NumGoroutine") = false := by decide
theorem Try_nm115 : (Try.f115.name == "runtime.NumGoroutine") = false := by decide
theorem Try_nm116 : (Try.f116.name == "runtime.NumGoroutine") = false := by decide
theorem Try_nm117 : (Try.f117.name == "runtime.NumGoroutine") = false := by decide
theorem Try_nm118 : (Try.f118.name == "runtime.NumGoroutine") = false := by decide
theorem Try_nm119 : (Try.f119.name == "runtime.NumGoroutine") = false := by decide
theorem Try_nm120 : (Try.f120.name == "runtime.NumGoroutine") = false := by decide
theorem Try_nm121 : (Try.f121.name == "runtime.NumGoroutine") = false := by decide
theorem Try_nm122 : (Try.f122.name == "runtime.NumGoroutine") = false := by decide
theorem Try_nm123 : (Try.f123.name == "runtime.NumGoroutine") = false := by decide
theorem Try_nm124 : (Try.f124.name == "runtime.NumGoroutine") = false := by decide
theorem Try_nm125 : (Try.f125.name == "runtime.NumGoroutine") = false := by decide
theorem Try_nm126 : (Try.f126.name == "runtime.NumGoroutine") = false := by decide
theorem Try_nm127 : (Try.f127.name == "runtime.NumGoroutine") = false := by decide
theorem Try_nm128 : (Try.f128.name == "runtime.NumGoroutine") = false := by decide
theorem Try_nm129 : (Try.f129.name == "runtime.NumGoroutine") = false := by decide
theorem Try_nm130 : (Try.f130.name == "runtime.NumGoroutine") = false := by decide
theorem Try_nm131 : (Try.f131.name == "runtime.NumGoroutine") = false := by decide
theorem Try_nm132 : (Try.f132.name == "runtime.NumGoroutine") = false := by decide
theorem Try_nm133 : (Try.f133.name == "runtime.NumGoroutine") = false := by decide
theorem Try_nm134 : (Try.f134.name == "runtime.NumGoroutine") = false := by decide
theorem Try_nm135 : (Try.f135.name == "runtime.NumGoroutine") = false := by decide
theorem Try_nm136 : (Try.f136.name == "runtime.NumGoroutine") = false := by decide
theorem Try_nm137 : (Try.f137.name == "runtime.NumGoroutine") = false := by decide
theorem Try_nm138 : (Try.f138.name == "runtime.NumGoroutine") = false := by decide
theorem Try_nm139 : (Try.f139.name == "runtime.NumGoroutine") = false := by decide
theorem Try_nm140 : (Try.f140.name == "runtime.NumGoroutine") = false := by decide
theorem Try_nm141 : (Try.f141.name == "runtime.NumGoroutine") = false := by decide
theorem Try_nm142 : (Try.f142.name == "runtime.NumGoroutine") = false := by decide
theorem Try_nm143 : (Try.f143.name == "runtime.NumGoroutine") = false := by decide
theorem Try_nm144 : (Try.f144.name == "runtime.NumGoroutine") = false := by decide
theorem Try_nm145 : (Try.f145.name == "runtime.NumGoroutine") = false := by decide
theorem Try_nm146 : (Try.f146.name == "runtime.NumGoroutine") = false := by decide
theorem Try_nm147 : (Try.f147.name == "runtime.NumGoroutine") = false := by decide
theorem Try_nm148 : (Try.f148.name == "runtime.NumGoroutine") = false := by decide
theorem Try_nm149 : (Try.f149.name == "runtime.NumGoroutine") = false := by decide
theorem Try_nm150 : (Try.f150.name == "runtime.NumGoroutine") = false := by decide
theorem Try_nm151 : (Try.f151.name == "runtime.NumGoroutine") = false := by decide
theorem Try_nm152 : (Try.f152.name == "runtime.NumGoroutine") = false := by decide
theorem Try_nm153 : (Try.f153.name == "runtime.NumGoroutine") = false := by decide
theorem Try_nm154 : (Try.f154.name == "runtime.NumGoroutine") = false := by decide
theorem Try_nm155 : (Try.f155.name == "runtime.NumGoroutine") = false := by decide
theorem Try_nm156 : (Try.f156.name == "runtime.NumGoroutine") = false := by decide
theorem Try_nm157 : (Try.f157.name == "runtime.NumGoroutine") = false := by decide
theorem Try_nm158 : (Try.f158.name == "runtime.NumGoroutine") = false := by decide
theorem Try_nm159 : (Try.f159.name == "runtime.NumGoroutine") = false := by decide
theorem Try_nm160 : (Try.f160.name == "runtime.NumGoroutine") = false := by decide
theorem Try_nm161 : (Try.f161.name == "runtime.NumGoroutine") = false := by decide
theorem Try_nm162 : (Try.f162.name == "runtime.NumGoroutine") = false := by decide
theorem Try_nm163 : (Try.f163.name == "runtime.NumGoroutine") = false := by decide
theorem Try_nm164 : (Try.f164.name == "runtime.NumGoroutine") = false := by decide
theorem Try_nm165 : (Try.f165.name == "runtime.NumGoroutine") = false := by decide
theorem Try_nm166 : (Try.f166.name == "runtime.NumGoroutine") = false := by decide
theorem Try_nm167 : (Try.f167.name == "runtime.NumGoroutine") = false := by decide
theorem Try_nm168 : (Try.f168.name == "runtime.NumGoroutine") = false := by decide
theorem Try_nm169 : (Try.f169.name == "runtime.NumGoroutine") = false := by decide
theorem Try_nm170 : (Try.f170.name == "runtime.NumGoroutine") = false := by decide
theorem Try_nm171 : (Try.f171.name == "runtime.NumGoroutine") = false := by decide
theorem Try_nm172 : (Try.f172.name == "runtime.NumGoroutine") = false := by decide
theorem Try_nm173 : (Try.f173.name == "runtime.NumGoroutine") = false := by decide
theorem Try_nm174 : (Try.f174.name == "runtime.NumGoroutine") = false := by decide
theorem Try_nm175 : (Try.f175.name == "runtime.NumGoroutine") = false := by decide
theorem Try_nm176 : (Try.f176.name == "runtime.NumGoroutine") = false := by decide
theorem Try_nm177 : (Try.f177.name == "runtime.NumGoroutine") = false := by decide
theorem Try_nm178 : (Try.f178.name == "runtime.NumGoroutine") = false := by decide
theorem Try_nm179 : (Try.f179.name == "runtime.NumGoroutine") = false := by decide
theorem Try_nm180 : (Try.f180.name == "runtime.NumGoroutine") = false := by decide
theorem Try_nm181 : (Try.f181.name == "runtime.NumGoroutine") = false := by decide
theorem Try_nm182 : (Try.f182.name == "runtime.NumGoroutine") = false := by decide
theorem Try_nm183 : (Try.f183.name == "runtime.NumGoroutine") = false := by decide
theorem Try_nm184 : (Try.f184.name == "runtime.NumGoroutine") = false := by decide
theorem Try_nm185 : (Try.f185.name == "runtime.NumGoroutine") = false := by decide
theorem Try_nm186 : (Try.f186.name == "runtime.NumGoroutine") = false := by decide
theorem Try_nm187 : (Try.f187.name == "runtime.NumGoroutine") = false := by decide
theorem Try_nm188 : (Try.f188.name == "runtime.NumGoroutine") = false := by decide
theorem Try_nm189 : (Try.f189.name == "runtime.NumGoroutine") = false := by decide
theorem Try_nm190 : (Try.f190.name == "runtime.NumGoroutine") = false := by decide
theorem Try_nm191 : (Try.f191.name == "runtime.NumGoroutine") = false := by decide
theorem Try_nm192 : (Try.f192.name == "runtime.NumGoroutine") = false := by decide
theorem Try_nm208 : (Try.f208.name == "runtime.NumGoroutine") = false := by decide
theorem Try_nm209 : (Try.f209.name == "runtime.NumGoroutine") = false := by decide
end Go.Wk
