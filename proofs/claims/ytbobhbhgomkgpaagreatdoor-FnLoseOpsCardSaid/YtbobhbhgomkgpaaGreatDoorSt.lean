/- What the symbolic steps need of the translation's types: printed by gentys.py of this session, checked by the kernel. -/
import Derived.Test.YtbobhbhgomkgpaaGreatDoorA2
import Derived.Test.YtbobhbhgomkgpaaGreatDoorProg
namespace Go.Proofs.YtbobhbhgomkgpaaGreatDoor.S
set_option linter.all false
open Go Go.Proofs

theorem ty2 : tyI Tryz.prog 2 = { tk := .int .i64, agg := false, sz := 1, bytes := 8, zero := [.int .i64 0], ek := 1 } := by kernel_rfl
theorem ty3 : tyI Tryz.prog 3 = { tk := .int .i64, agg := false, sz := 1, bytes := 8, zero := [.int .i64 0], ek := 1 } := by kernel_rfl
theorem ty4 : tyI Tryz.prog 4 = { tk := .bool, agg := false, sz := 1, bytes := 1, zero := [.bool false], ek := 2 } := by kernel_rfl
theorem ty5 : tyI Tryz.prog 5 = { tk := .int .u8, agg := false, sz := 1, bytes := 1, zero := [.int .u8 0], ek := 3 } := by kernel_rfl
theorem ty7 : tyI Tryz.prog 7 = { tk := .struct [(0, 1), (1, 1), (2, 1), (3, 1)], agg := true, sz := 4, bytes := 24, zero := [.int .i64 0, .int .i64 0, .bool false, .int .u8 0], ek := 0 } := by kernel_rfl
theorem ty9 : tyI Tryz.prog 9 = { tk := .str, agg := false, sz := 1, bytes := 16, zero := [.str ⟨#[]⟩], ek := 4 } := by kernel_rfl
theorem ty12 : tyI Tryz.prog 12 = { tk := .int .u64, agg := false, sz := 1, bytes := 8, zero := [.int .u64 0], ek := 0 } := by kernel_rfl
theorem ty13 : tyI Tryz.prog 13 = { tk := .struct [(0, 1), (1, 1)], agg := true, sz := 2, bytes := 24, zero := [.str ⟨#[]⟩, .int .u64 0], ek := 0 } := by kernel_rfl
theorem ty17 : tyI Tryz.prog 17 = { tk := .other, agg := false, sz := 1, bytes := 8, zero := [.any], ek := 0 } := by kernel_rfl
theorem ty21 : tyI Tryz.prog 21 = { tk := .int .i32, agg := false, sz := 1, bytes := 4, zero := [.int .i32 0], ek := 0 } := by kernel_rfl
theorem ty22 : tyI Tryz.prog 22 = { tk := .slice 5, agg := false, sz := 1, bytes := 24, zero := [.emp], ek := 0 } := by kernel_rfl
theorem ty23 : tyI Tryz.prog 23 = { tk := .slice 3, agg := false, sz := 1, bytes := 24, zero := [.emp], ek := 0 } := by kernel_rfl
theorem ty24 : tyI Tryz.prog 24 = { tk := .struct [(0, 1), (1, 1), (2, 1)], agg := true, sz := 3, bytes := 72, zero := [.emp, .emp, .emp], ek := 0 } := by kernel_rfl
theorem ty25 : tyI Tryz.prog 25 = { tk := .struct [(0, 1), (1, 1), (2, 1)], agg := true, sz := 3, bytes := 72, zero := [.emp, .emp, .emp], ek := 0 } := by kernel_rfl
theorem ty26 : tyI Tryz.prog 26 = { tk := .struct [(0, 3), (3, 1)], agg := true, sz := 4, bytes := 96, zero := [.emp, .emp, .emp, .emp], ek := 0 } := by kernel_rfl
theorem ty27 : tyI Tryz.prog 27 = { tk := .struct [(0, 3), (3, 1)], agg := true, sz := 4, bytes := 96, zero := [.emp, .emp, .emp, .emp], ek := 0 } := by kernel_rfl
theorem ty28 : tyI Tryz.prog 28 = { tk := .struct [(0, 1), (1, 1), (2, 1)], agg := true, sz := 3, bytes := 40, zero := [.int .i64 0, .emp, .int .i64 0], ek := 0 } := by kernel_rfl
theorem ty29 : tyI Tryz.prog 29 = { tk := .struct [(0, 1), (1, 1), (2, 1)], agg := true, sz := 3, bytes := 40, zero := [.int .i64 0, .emp, .int .i64 0], ek := 0 } := by kernel_rfl
theorem ty30 : tyI Tryz.prog 30 = { tk := .slice 83, agg := false, sz := 1, bytes := 24, zero := [.emp], ek := 0 } := by kernel_rfl
theorem ty31 : tyI Tryz.prog 31 = { tk := .struct [(0, 4), (4, 3), (7, 1), (8, 1), (9, 1)], agg := true, sz := 10, bytes := 176, zero := [.emp, .emp, .emp, .emp, .int .i64 0, .emp, .int .i64 0, .emp, .int .i64 0, .bool false], ek := 0 } := by kernel_rfl
theorem ty32 : tyI Tryz.prog 32 = { tk := .struct [(0, 4), (4, 3), (7, 1), (8, 1), (9, 1)], agg := true, sz := 10, bytes := 176, zero := [.emp, .emp, .emp, .emp, .int .i64 0, .emp, .int .i64 0, .emp, .int .i64 0, .bool false], ek := 0 } := by kernel_rfl
theorem ty45 : tyI Tryz.prog 45 = { tk := .struct [(0, 1), (1, 1), (2, 1)], agg := true, sz := 3, bytes := 72, zero := [.emp, .emp, .emp], ek := 0 } := by kernel_rfl
theorem ty46 : tyI Tryz.prog 46 = { tk := .struct [(0, 3), (3, 1)], agg := true, sz := 4, bytes := 96, zero := [.emp, .emp, .emp, .emp], ek := 0 } := by kernel_rfl
theorem ty47 : tyI Tryz.prog 47 = { tk := .struct [(0, 3), (3, 1)], agg := true, sz := 4, bytes := 96, zero := [.emp, .emp, .emp, .emp], ek := 0 } := by kernel_rfl
theorem ty48 : tyI Tryz.prog 48 = { tk := .struct [(0, 1), (1, 1), (2, 1)], agg := true, sz := 3, bytes := 40, zero := [.int .i64 0, .emp, .int .i64 0], ek := 0 } := by kernel_rfl
theorem ty49 : tyI Tryz.prog 49 = { tk := .slice 124, agg := false, sz := 1, bytes := 24, zero := [.emp], ek := 0 } := by kernel_rfl
theorem ty50 : tyI Tryz.prog 50 = { tk := .struct [(0, 4), (4, 3), (7, 1), (8, 1), (9, 1)], agg := true, sz := 10, bytes := 176, zero := [.emp, .emp, .emp, .emp, .int .i64 0, .emp, .int .i64 0, .emp, .int .i64 0, .bool false], ek := 0 } := by kernel_rfl
theorem ty51 : tyI Tryz.prog 51 = { tk := .struct [(0, 4), (4, 3), (7, 1), (8, 1), (9, 1)], agg := true, sz := 10, bytes := 176, zero := [.emp, .emp, .emp, .emp, .int .i64 0, .emp, .int .i64 0, .emp, .int .i64 0, .bool false], ek := 0 } := by kernel_rfl
theorem ty56 : tyI Tryz.prog 56 = { tk := .slice 72, agg := false, sz := 1, bytes := 24, zero := [.emp], ek := 0 } := by kernel_rfl
theorem ty59 : tyI Tryz.prog 59 = { tk := .slice 74, agg := false, sz := 1, bytes := 24, zero := [.emp], ek := 0 } := by kernel_rfl
theorem ty65 : tyI Tryz.prog 65 = { tk := .slice 4, agg := false, sz := 1, bytes := 24, zero := [.emp], ek := 0 } := by kernel_rfl
theorem ty71 : tyI Tryz.prog 71 = { tk := .struct [(0, 10), (10, 1)], agg := true, sz := 11, bytes := 192, zero := [.emp, .emp, .emp, .emp, .int .i64 0, .emp, .int .i64 0, .emp, .int .i64 0, .bool false, .str ⟨#[]⟩], ek := 0 } := by kernel_rfl
theorem ty72 : tyI Tryz.prog 72 = { tk := .struct [(0, 10), (10, 1)], agg := true, sz := 11, bytes := 192, zero := [.emp, .emp, .emp, .emp, .int .i64 0, .emp, .int .i64 0, .emp, .int .i64 0, .bool false, .str ⟨#[]⟩], ek := 0 } := by kernel_rfl
theorem ty73 : tyI Tryz.prog 73 = { tk := .struct [(0, 10), (10, 1)], agg := true, sz := 11, bytes := 192, zero := [.emp, .emp, .emp, .emp, .int .i64 0, .emp, .int .i64 0, .emp, .int .i64 0, .bool false, .str ⟨#[]⟩], ek := 0 } := by kernel_rfl
theorem ty74 : tyI Tryz.prog 74 = { tk := .struct [(0, 10), (10, 1)], agg := true, sz := 11, bytes := 192, zero := [.emp, .emp, .emp, .emp, .int .i64 0, .emp, .int .i64 0, .emp, .int .i64 0, .bool false, .str ⟨#[]⟩], ek := 0 } := by kernel_rfl
theorem ty82 : tyI Tryz.prog 82 = { tk := .struct [(0, 1), (1, 1), (2, 1)], agg := true, sz := 3, bytes := 24, zero := [.int .i64 0, .int .i64 0, .int .i64 0], ek := 5 } := by kernel_rfl
theorem ty83 : tyI Tryz.prog 83 = { tk := .struct [(0, 1), (1, 1), (2, 1)], agg := true, sz := 3, bytes := 24, zero := [.int .i64 0, .int .i64 0, .int .i64 0], ek := 5 } := by kernel_rfl
theorem ty93 : tyI Tryz.prog 93 = { tk := .other, agg := false, sz := 1, bytes := 8, zero := [.any], ek := 0 } := by kernel_rfl
theorem ty98 : tyI Tryz.prog 98 = { tk := .other, agg := false, sz := 1, bytes := 8, zero := [.any], ek := 0 } := by kernel_rfl
theorem ty124 : tyI Tryz.prog 124 = { tk := .struct [(0, 1), (1, 1), (2, 1)], agg := true, sz := 3, bytes := 24, zero := [.int .i64 0, .int .i64 0, .int .i64 0], ek := 5 } := by kernel_rfl
theorem ty128 : tyI Tryz.prog 128 = { tk := .struct [(0, 1), (1, 1)], agg := true, sz := 2, bytes := 32, zero := [.emp, .int .i64 0], ek := 0 } := by kernel_rfl
theorem ty129 : tyI Tryz.prog 129 = { tk := .struct [(0, 1), (1, 1)], agg := true, sz := 2, bytes := 32, zero := [.emp, .int .i64 0], ek := 0 } := by kernel_rfl
theorem ty138 : tyI Tryz.prog 138 = { tk := .slice 9, agg := false, sz := 1, bytes := 24, zero := [.emp], ek := 0 } := by kernel_rfl
theorem ty142 : tyI Tryz.prog 142 = { tk := .slice 23, agg := false, sz := 1, bytes := 24, zero := [.emp], ek := 0 } := by kernel_rfl
theorem ty144 : tyI Tryz.prog 144 = { tk := .other, agg := false, sz := 1, bytes := 8, zero := [.any], ek := 0 } := by kernel_rfl
theorem ty156 : tyI Tryz.prog 156 = { tk := .struct [(0, 3), (3, 1)], agg := true, sz := 4, bytes := 96, zero := [.emp, .emp, .emp, .emp], ek := 0 } := by kernel_rfl
theorem ty157 : tyI Tryz.prog 157 = { tk := .struct [(0, 3), (3, 1)], agg := true, sz := 4, bytes := 96, zero := [.emp, .emp, .emp, .emp], ek := 0 } := by kernel_rfl
theorem ty173 : tyI Tryz.prog 173 = { tk := .int .u64, agg := false, sz := 1, bytes := 8, zero := [.int .u64 0], ek := 0 } := by kernel_rfl
theorem ty183 : tyI Tryz.prog 183 = { tk := .int .u32, agg := false, sz := 1, bytes := 4, zero := [.int .u32 0], ek := 0 } := by kernel_rfl
theorem ty185 : tyI Tryz.prog 185 = { tk := .int .u64, agg := false, sz := 1, bytes := 8, zero := [.int .u64 0], ek := 0 } := by kernel_rfl
theorem ty200 : tyI Tryz.prog 200 = { tk := .other, agg := false, sz := 1, bytes := 8, zero := [.any], ek := 0 } := by kernel_rfl
theorem fd7_0 : fldI Tryz.prog 7 0 = some 0 := by kernel_rfl
theorem fd7_1 : fldI Tryz.prog 7 1 = some 1 := by kernel_rfl
theorem fd7_2 : fldI Tryz.prog 7 2 = some 2 := by kernel_rfl
theorem fd7_3 : fldI Tryz.prog 7 3 = some 3 := by kernel_rfl
theorem fd8_0 : fldI Tryz.prog 8 0 = some 0 := by kernel_rfl
theorem fd8_1 : fldI Tryz.prog 8 1 = some 1 := by kernel_rfl
theorem fd8_2 : fldI Tryz.prog 8 2 = some 2 := by kernel_rfl
theorem fd8_3 : fldI Tryz.prog 8 3 = some 3 := by kernel_rfl
theorem fd13_0 : fldI Tryz.prog 13 0 = some 0 := by kernel_rfl
theorem fd13_1 : fldI Tryz.prog 13 1 = some 1 := by kernel_rfl
theorem fd14_0 : fldI Tryz.prog 14 0 = some 0 := by kernel_rfl
theorem fd14_1 : fldI Tryz.prog 14 1 = some 1 := by kernel_rfl
theorem fd24_0 : fldI Tryz.prog 24 0 = some 0 := by kernel_rfl
theorem fd24_1 : fldI Tryz.prog 24 1 = some 1 := by kernel_rfl
theorem fd24_2 : fldI Tryz.prog 24 2 = some 2 := by kernel_rfl
theorem fd25_0 : fldI Tryz.prog 25 0 = some 0 := by kernel_rfl
theorem fd25_1 : fldI Tryz.prog 25 1 = some 1 := by kernel_rfl
theorem fd25_2 : fldI Tryz.prog 25 2 = some 2 := by kernel_rfl
theorem fd26_1 : fldI Tryz.prog 26 1 = some 3 := by kernel_rfl
theorem fd27_1 : fldI Tryz.prog 27 1 = some 3 := by kernel_rfl
theorem fd28_0 : fldI Tryz.prog 28 0 = some 0 := by kernel_rfl
theorem fd28_1 : fldI Tryz.prog 28 1 = some 1 := by kernel_rfl
theorem fd28_2 : fldI Tryz.prog 28 2 = some 2 := by kernel_rfl
theorem fd29_0 : fldI Tryz.prog 29 0 = some 0 := by kernel_rfl
theorem fd29_1 : fldI Tryz.prog 29 1 = some 1 := by kernel_rfl
theorem fd29_2 : fldI Tryz.prog 29 2 = some 2 := by kernel_rfl
theorem fd31_2 : fldI Tryz.prog 31 2 = some 7 := by kernel_rfl
theorem fd31_3 : fldI Tryz.prog 31 3 = some 8 := by kernel_rfl
theorem fd31_4 : fldI Tryz.prog 31 4 = some 9 := by kernel_rfl
theorem fd32_2 : fldI Tryz.prog 32 2 = some 7 := by kernel_rfl
theorem fd32_3 : fldI Tryz.prog 32 3 = some 8 := by kernel_rfl
theorem fd32_4 : fldI Tryz.prog 32 4 = some 9 := by kernel_rfl
theorem fd45_0 : fldI Tryz.prog 45 0 = some 0 := by kernel_rfl
theorem fd45_1 : fldI Tryz.prog 45 1 = some 1 := by kernel_rfl
theorem fd45_2 : fldI Tryz.prog 45 2 = some 2 := by kernel_rfl
theorem fd46_1 : fldI Tryz.prog 46 1 = some 3 := by kernel_rfl
theorem fd47_1 : fldI Tryz.prog 47 1 = some 3 := by kernel_rfl
theorem fd48_0 : fldI Tryz.prog 48 0 = some 0 := by kernel_rfl
theorem fd48_1 : fldI Tryz.prog 48 1 = some 1 := by kernel_rfl
theorem fd48_2 : fldI Tryz.prog 48 2 = some 2 := by kernel_rfl
theorem fd50_2 : fldI Tryz.prog 50 2 = some 7 := by kernel_rfl
theorem fd50_3 : fldI Tryz.prog 50 3 = some 8 := by kernel_rfl
theorem fd50_4 : fldI Tryz.prog 50 4 = some 9 := by kernel_rfl
theorem fd51_2 : fldI Tryz.prog 51 2 = some 7 := by kernel_rfl
theorem fd51_3 : fldI Tryz.prog 51 3 = some 8 := by kernel_rfl
theorem fd51_4 : fldI Tryz.prog 51 4 = some 9 := by kernel_rfl
theorem fd71_1 : fldI Tryz.prog 71 1 = some 10 := by kernel_rfl
theorem fd72_1 : fldI Tryz.prog 72 1 = some 10 := by kernel_rfl
theorem fd73_1 : fldI Tryz.prog 73 1 = some 10 := by kernel_rfl
theorem fd74_1 : fldI Tryz.prog 74 1 = some 10 := by kernel_rfl
theorem fd82_0 : fldI Tryz.prog 82 0 = some 0 := by kernel_rfl
theorem fd82_1 : fldI Tryz.prog 82 1 = some 1 := by kernel_rfl
theorem fd82_2 : fldI Tryz.prog 82 2 = some 2 := by kernel_rfl
theorem fd83_0 : fldI Tryz.prog 83 0 = some 0 := by kernel_rfl
theorem fd83_1 : fldI Tryz.prog 83 1 = some 1 := by kernel_rfl
theorem fd83_2 : fldI Tryz.prog 83 2 = some 2 := by kernel_rfl
theorem fd124_0 : fldI Tryz.prog 124 0 = some 0 := by kernel_rfl
theorem fd124_1 : fldI Tryz.prog 124 1 = some 1 := by kernel_rfl
theorem fd124_2 : fldI Tryz.prog 124 2 = some 2 := by kernel_rfl
theorem fd128_0 : fldI Tryz.prog 128 0 = some 0 := by kernel_rfl
theorem fd128_1 : fldI Tryz.prog 128 1 = some 1 := by kernel_rfl
theorem fd129_0 : fldI Tryz.prog 129 0 = some 0 := by kernel_rfl
theorem fd129_1 : fldI Tryz.prog 129 1 = some 1 := by kernel_rfl
theorem fd156_1 : fldI Tryz.prog 156 1 = some 3 := by kernel_rfl
theorem fd157_1 : fldI Tryz.prog 157 1 = some 3 := by kernel_rfl
theorem fd191_3 : fldI Tryz.prog 191 3 = some 3 := by kernel_rfl
theorem fd192_3 : fldI Tryz.prog 192 3 = some 3 := by kernel_rfl
theorem fd203_0 : fldI Tryz.prog 203 0 = some 0 := by kernel_rfl
theorem fd203_1 : fldI Tryz.prog 203 1 = some 1 := by kernel_rfl
theorem fd203_2 : fldI Tryz.prog 203 2 = some 2 := by kernel_rfl
theorem fd203_3 : fldI Tryz.prog 203 3 = some 3 := by kernel_rfl
theorem fd203_4 : fldI Tryz.prog 203 4 = some 4 := by kernel_rfl
theorem fd203_5 : fldI Tryz.prog 203 5 = some 5 := by kernel_rfl
theorem fd203_6 : fldI Tryz.prog 203 6 = some 6 := by kernel_rfl
theorem fd203_9 : fldI Tryz.prog 203 9 = some 9 := by kernel_rfl
theorem fd203_10 : fldI Tryz.prog 203 10 = some 10 := by kernel_rfl
theorem fd204_0 : fldI Tryz.prog 204 0 = some 0 := by kernel_rfl
theorem fd204_1 : fldI Tryz.prog 204 1 = some 1 := by kernel_rfl
theorem fd204_2 : fldI Tryz.prog 204 2 = some 2 := by kernel_rfl
theorem fd204_3 : fldI Tryz.prog 204 3 = some 3 := by kernel_rfl
theorem fd204_4 : fldI Tryz.prog 204 4 = some 4 := by kernel_rfl
theorem fd204_5 : fldI Tryz.prog 204 5 = some 5 := by kernel_rfl
theorem fd204_6 : fldI Tryz.prog 204 6 = some 6 := by kernel_rfl
theorem fd204_9 : fldI Tryz.prog 204 9 = some 9 := by kernel_rfl
theorem fd204_10 : fldI Tryz.prog 204 10 = some 10 := by kernel_rfl
theorem eq82 : eq3Ty Tryz.prog 82 = true := by kernel_rfl
theorem eq83 : eq3Ty Tryz.prog 83 = true := by kernel_rfl
theorem mp98 : smapTy Tryz.prog 98 = true := by kernel_rfl
theorem eq124 : eq3Ty Tryz.prog 124 = true := by kernel_rfl
theorem tys : (tyI Tryz.prog 2 = { tk := .int .i64, agg := false, sz := 1, bytes := 8, zero := [.int .i64 0], ek := 1 }) ∧ (tyI Tryz.prog 3 = { tk := .int .i64, agg := false, sz := 1, bytes := 8, zero := [.int .i64 0], ek := 1 }) ∧ (tyI Tryz.prog 4 = { tk := .bool, agg := false, sz := 1, bytes := 1, zero := [.bool false], ek := 2 }) ∧ (tyI Tryz.prog 5 = { tk := .int .u8, agg := false, sz := 1, bytes := 1, zero := [.int .u8 0], ek := 3 }) ∧ (tyI Tryz.prog 7 = { tk := .struct [(0, 1), (1, 1), (2, 1), (3, 1)], agg := true, sz := 4, bytes := 24, zero := [.int .i64 0, .int .i64 0, .bool false, .int .u8 0], ek := 0 }) ∧ (tyI Tryz.prog 9 = { tk := .str, agg := false, sz := 1, bytes := 16, zero := [.str ⟨#[]⟩], ek := 4 }) ∧ (tyI Tryz.prog 12 = { tk := .int .u64, agg := false, sz := 1, bytes := 8, zero := [.int .u64 0], ek := 0 }) ∧ (tyI Tryz.prog 13 = { tk := .struct [(0, 1), (1, 1)], agg := true, sz := 2, bytes := 24, zero := [.str ⟨#[]⟩, .int .u64 0], ek := 0 }) ∧ (tyI Tryz.prog 17 = { tk := .other, agg := false, sz := 1, bytes := 8, zero := [.any], ek := 0 }) ∧ (tyI Tryz.prog 21 = { tk := .int .i32, agg := false, sz := 1, bytes := 4, zero := [.int .i32 0], ek := 0 }) ∧ (tyI Tryz.prog 22 = { tk := .slice 5, agg := false, sz := 1, bytes := 24, zero := [.emp], ek := 0 }) ∧ (tyI Tryz.prog 23 = { tk := .slice 3, agg := false, sz := 1, bytes := 24, zero := [.emp], ek := 0 }) ∧ (tyI Tryz.prog 24 = { tk := .struct [(0, 1), (1, 1), (2, 1)], agg := true, sz := 3, bytes := 72, zero := [.emp, .emp, .emp], ek := 0 }) ∧ (tyI Tryz.prog 25 = { tk := .struct [(0, 1), (1, 1), (2, 1)], agg := true, sz := 3, bytes := 72, zero := [.emp, .emp, .emp], ek := 0 }) ∧ (tyI Tryz.prog 26 = { tk := .struct [(0, 3), (3, 1)], agg := true, sz := 4, bytes := 96, zero := [.emp, .emp, .emp, .emp], ek := 0 }) ∧ (tyI Tryz.prog 27 = { tk := .struct [(0, 3), (3, 1)], agg := true, sz := 4, bytes := 96, zero := [.emp, .emp, .emp, .emp], ek := 0 }) ∧ (tyI Tryz.prog 28 = { tk := .struct [(0, 1), (1, 1), (2, 1)], agg := true, sz := 3, bytes := 40, zero := [.int .i64 0, .emp, .int .i64 0], ek := 0 }) ∧ (tyI Tryz.prog 29 = { tk := .struct [(0, 1), (1, 1), (2, 1)], agg := true, sz := 3, bytes := 40, zero := [.int .i64 0, .emp, .int .i64 0], ek := 0 }) ∧ (tyI Tryz.prog 30 = { tk := .slice 83, agg := false, sz := 1, bytes := 24, zero := [.emp], ek := 0 }) ∧ (tyI Tryz.prog 31 = { tk := .struct [(0, 4), (4, 3), (7, 1), (8, 1), (9, 1)], agg := true, sz := 10, bytes := 176, zero := [.emp, .emp, .emp, .emp, .int .i64 0, .emp, .int .i64 0, .emp, .int .i64 0, .bool false], ek := 0 }) ∧ (tyI Tryz.prog 32 = { tk := .struct [(0, 4), (4, 3), (7, 1), (8, 1), (9, 1)], agg := true, sz := 10, bytes := 176, zero := [.emp, .emp, .emp, .emp, .int .i64 0, .emp, .int .i64 0, .emp, .int .i64 0, .bool false], ek := 0 }) ∧ (tyI Tryz.prog 45 = { tk := .struct [(0, 1), (1, 1), (2, 1)], agg := true, sz := 3, bytes := 72, zero := [.emp, .emp, .emp], ek := 0 }) ∧ (tyI Tryz.prog 46 = { tk := .struct [(0, 3), (3, 1)], agg := true, sz := 4, bytes := 96, zero := [.emp, .emp, .emp, .emp], ek := 0 }) ∧ (tyI Tryz.prog 47 = { tk := .struct [(0, 3), (3, 1)], agg := true, sz := 4, bytes := 96, zero := [.emp, .emp, .emp, .emp], ek := 0 }) ∧ (tyI Tryz.prog 48 = { tk := .struct [(0, 1), (1, 1), (2, 1)], agg := true, sz := 3, bytes := 40, zero := [.int .i64 0, .emp, .int .i64 0], ek := 0 }) ∧ (tyI Tryz.prog 49 = { tk := .slice 124, agg := false, sz := 1, bytes := 24, zero := [.emp], ek := 0 }) ∧ (tyI Tryz.prog 50 = { tk := .struct [(0, 4), (4, 3), (7, 1), (8, 1), (9, 1)], agg := true, sz := 10, bytes := 176, zero := [.emp, .emp, .emp, .emp, .int .i64 0, .emp, .int .i64 0, .emp, .int .i64 0, .bool false], ek := 0 }) ∧ (tyI Tryz.prog 51 = { tk := .struct [(0, 4), (4, 3), (7, 1), (8, 1), (9, 1)], agg := true, sz := 10, bytes := 176, zero := [.emp, .emp, .emp, .emp, .int .i64 0, .emp, .int .i64 0, .emp, .int .i64 0, .bool false], ek := 0 }) ∧ (tyI Tryz.prog 56 = { tk := .slice 72, agg := false, sz := 1, bytes := 24, zero := [.emp], ek := 0 }) ∧ (tyI Tryz.prog 59 = { tk := .slice 74, agg := false, sz := 1, bytes := 24, zero := [.emp], ek := 0 }) ∧ (tyI Tryz.prog 65 = { tk := .slice 4, agg := false, sz := 1, bytes := 24, zero := [.emp], ek := 0 }) ∧ (tyI Tryz.prog 71 = { tk := .struct [(0, 10), (10, 1)], agg := true, sz := 11, bytes := 192, zero := [.emp, .emp, .emp, .emp, .int .i64 0, .emp, .int .i64 0, .emp, .int .i64 0, .bool false, .str ⟨#[]⟩], ek := 0 }) ∧ (tyI Tryz.prog 72 = { tk := .struct [(0, 10), (10, 1)], agg := true, sz := 11, bytes := 192, zero := [.emp, .emp, .emp, .emp, .int .i64 0, .emp, .int .i64 0, .emp, .int .i64 0, .bool false, .str ⟨#[]⟩], ek := 0 }) ∧ (tyI Tryz.prog 73 = { tk := .struct [(0, 10), (10, 1)], agg := true, sz := 11, bytes := 192, zero := [.emp, .emp, .emp, .emp, .int .i64 0, .emp, .int .i64 0, .emp, .int .i64 0, .bool false, .str ⟨#[]⟩], ek := 0 }) ∧ (tyI Tryz.prog 74 = { tk := .struct [(0, 10), (10, 1)], agg := true, sz := 11, bytes := 192, zero := [.emp, .emp, .emp, .emp, .int .i64 0, .emp, .int .i64 0, .emp, .int .i64 0, .bool false, .str ⟨#[]⟩], ek := 0 }) ∧ (tyI Tryz.prog 82 = { tk := .struct [(0, 1), (1, 1), (2, 1)], agg := true, sz := 3, bytes := 24, zero := [.int .i64 0, .int .i64 0, .int .i64 0], ek := 5 }) ∧ (tyI Tryz.prog 83 = { tk := .struct [(0, 1), (1, 1), (2, 1)], agg := true, sz := 3, bytes := 24, zero := [.int .i64 0, .int .i64 0, .int .i64 0], ek := 5 }) ∧ (tyI Tryz.prog 93 = { tk := .other, agg := false, sz := 1, bytes := 8, zero := [.any], ek := 0 }) ∧ (tyI Tryz.prog 98 = { tk := .other, agg := false, sz := 1, bytes := 8, zero := [.any], ek := 0 }) ∧ (tyI Tryz.prog 124 = { tk := .struct [(0, 1), (1, 1), (2, 1)], agg := true, sz := 3, bytes := 24, zero := [.int .i64 0, .int .i64 0, .int .i64 0], ek := 5 }) ∧ (tyI Tryz.prog 128 = { tk := .struct [(0, 1), (1, 1)], agg := true, sz := 2, bytes := 32, zero := [.emp, .int .i64 0], ek := 0 }) ∧ (tyI Tryz.prog 129 = { tk := .struct [(0, 1), (1, 1)], agg := true, sz := 2, bytes := 32, zero := [.emp, .int .i64 0], ek := 0 }) ∧ (tyI Tryz.prog 138 = { tk := .slice 9, agg := false, sz := 1, bytes := 24, zero := [.emp], ek := 0 }) ∧ (tyI Tryz.prog 142 = { tk := .slice 23, agg := false, sz := 1, bytes := 24, zero := [.emp], ek := 0 }) ∧ (tyI Tryz.prog 144 = { tk := .other, agg := false, sz := 1, bytes := 8, zero := [.any], ek := 0 }) ∧ (tyI Tryz.prog 156 = { tk := .struct [(0, 3), (3, 1)], agg := true, sz := 4, bytes := 96, zero := [.emp, .emp, .emp, .emp], ek := 0 }) ∧ (tyI Tryz.prog 157 = { tk := .struct [(0, 3), (3, 1)], agg := true, sz := 4, bytes := 96, zero := [.emp, .emp, .emp, .emp], ek := 0 }) ∧ (tyI Tryz.prog 173 = { tk := .int .u64, agg := false, sz := 1, bytes := 8, zero := [.int .u64 0], ek := 0 }) ∧ (tyI Tryz.prog 183 = { tk := .int .u32, agg := false, sz := 1, bytes := 4, zero := [.int .u32 0], ek := 0 }) ∧ (tyI Tryz.prog 185 = { tk := .int .u64, agg := false, sz := 1, bytes := 8, zero := [.int .u64 0], ek := 0 }) ∧ (tyI Tryz.prog 200 = { tk := .other, agg := false, sz := 1, bytes := 8, zero := [.any], ek := 0 }) ∧ (fldI Tryz.prog 7 0 = some 0) ∧ (fldI Tryz.prog 7 1 = some 1) ∧ (fldI Tryz.prog 7 2 = some 2) ∧ (fldI Tryz.prog 7 3 = some 3) ∧ (fldI Tryz.prog 8 0 = some 0) ∧ (fldI Tryz.prog 8 1 = some 1) ∧ (fldI Tryz.prog 8 2 = some 2) ∧ (fldI Tryz.prog 8 3 = some 3) ∧ (fldI Tryz.prog 13 0 = some 0) ∧ (fldI Tryz.prog 13 1 = some 1) ∧ (fldI Tryz.prog 14 0 = some 0) ∧ (fldI Tryz.prog 14 1 = some 1) ∧ (fldI Tryz.prog 24 0 = some 0) ∧ (fldI Tryz.prog 24 1 = some 1) ∧ (fldI Tryz.prog 24 2 = some 2) ∧ (fldI Tryz.prog 25 0 = some 0) ∧ (fldI Tryz.prog 25 1 = some 1) ∧ (fldI Tryz.prog 25 2 = some 2) ∧ (fldI Tryz.prog 26 1 = some 3) ∧ (fldI Tryz.prog 27 1 = some 3) ∧ (fldI Tryz.prog 28 0 = some 0) ∧ (fldI Tryz.prog 28 1 = some 1) ∧ (fldI Tryz.prog 28 2 = some 2) ∧ (fldI Tryz.prog 29 0 = some 0) ∧ (fldI Tryz.prog 29 1 = some 1) ∧ (fldI Tryz.prog 29 2 = some 2) ∧ (fldI Tryz.prog 31 2 = some 7) ∧ (fldI Tryz.prog 31 3 = some 8) ∧ (fldI Tryz.prog 31 4 = some 9) ∧ (fldI Tryz.prog 32 2 = some 7) ∧ (fldI Tryz.prog 32 3 = some 8) ∧ (fldI Tryz.prog 32 4 = some 9) ∧ (fldI Tryz.prog 45 0 = some 0) ∧ (fldI Tryz.prog 45 1 = some 1) ∧ (fldI Tryz.prog 45 2 = some 2) ∧ (fldI Tryz.prog 46 1 = some 3) ∧ (fldI Tryz.prog 47 1 = some 3) ∧ (fldI Tryz.prog 48 0 = some 0) ∧ (fldI Tryz.prog 48 1 = some 1) ∧ (fldI Tryz.prog 48 2 = some 2) ∧ (fldI Tryz.prog 50 2 = some 7) ∧ (fldI Tryz.prog 50 3 = some 8) ∧ (fldI Tryz.prog 50 4 = some 9) ∧ (fldI Tryz.prog 51 2 = some 7) ∧ (fldI Tryz.prog 51 3 = some 8) ∧ (fldI Tryz.prog 51 4 = some 9) ∧ (fldI Tryz.prog 71 1 = some 10) ∧ (fldI Tryz.prog 72 1 = some 10) ∧ (fldI Tryz.prog 73 1 = some 10) ∧ (fldI Tryz.prog 74 1 = some 10) ∧ (fldI Tryz.prog 82 0 = some 0) ∧ (fldI Tryz.prog 82 1 = some 1) ∧ (fldI Tryz.prog 82 2 = some 2) ∧ (fldI Tryz.prog 83 0 = some 0) ∧ (fldI Tryz.prog 83 1 = some 1) ∧ (fldI Tryz.prog 83 2 = some 2) ∧ (fldI Tryz.prog 124 0 = some 0) ∧ (fldI Tryz.prog 124 1 = some 1) ∧ (fldI Tryz.prog 124 2 = some 2) ∧ (fldI Tryz.prog 128 0 = some 0) ∧ (fldI Tryz.prog 128 1 = some 1) ∧ (fldI Tryz.prog 129 0 = some 0) ∧ (fldI Tryz.prog 129 1 = some 1) ∧ (fldI Tryz.prog 156 1 = some 3) ∧ (fldI Tryz.prog 157 1 = some 3) ∧ (fldI Tryz.prog 191 3 = some 3) ∧ (fldI Tryz.prog 192 3 = some 3) ∧ (fldI Tryz.prog 203 0 = some 0) ∧ (fldI Tryz.prog 203 1 = some 1) ∧ (fldI Tryz.prog 203 2 = some 2) ∧ (fldI Tryz.prog 203 3 = some 3) ∧ (fldI Tryz.prog 203 4 = some 4) ∧ (fldI Tryz.prog 203 5 = some 5) ∧ (fldI Tryz.prog 203 6 = some 6) ∧ (fldI Tryz.prog 203 9 = some 9) ∧ (fldI Tryz.prog 203 10 = some 10) ∧ (fldI Tryz.prog 204 0 = some 0) ∧ (fldI Tryz.prog 204 1 = some 1) ∧ (fldI Tryz.prog 204 2 = some 2) ∧ (fldI Tryz.prog 204 3 = some 3) ∧ (fldI Tryz.prog 204 4 = some 4) ∧ (fldI Tryz.prog 204 5 = some 5) ∧ (fldI Tryz.prog 204 6 = some 6) ∧ (fldI Tryz.prog 204 9 = some 9) ∧ (fldI Tryz.prog 204 10 = some 10) ∧ (eq3Ty Tryz.prog 82 = true) ∧ (eq3Ty Tryz.prog 83 = true) ∧ (smapTy Tryz.prog 98 = true) ∧ (eq3Ty Tryz.prog 124 = true) := ⟨ty2, ty3, ty4, ty5, ty7, ty9, ty12, ty13, ty17, ty21, ty22, ty23, ty24, ty25, ty26, ty27, ty28, ty29, ty30, ty31, ty32, ty45, ty46, ty47, ty48, ty49, ty50, ty51, ty56, ty59, ty65, ty71, ty72, ty73, ty74, ty82, ty83, ty93, ty98, ty124, ty128, ty129, ty138, ty142, ty144, ty156, ty157, ty173, ty183, ty185, ty200, fd7_0, fd7_1, fd7_2, fd7_3, fd8_0, fd8_1, fd8_2, fd8_3, fd13_0, fd13_1, fd14_0, fd14_1, fd24_0, fd24_1, fd24_2, fd25_0, fd25_1, fd25_2, fd26_1, fd27_1, fd28_0, fd28_1, fd28_2, fd29_0, fd29_1, fd29_2, fd31_2, fd31_3, fd31_4, fd32_2, fd32_3, fd32_4, fd45_0, fd45_1, fd45_2, fd46_1, fd47_1, fd48_0, fd48_1, fd48_2, fd50_2, fd50_3, fd50_4, fd51_2, fd51_3, fd51_4, fd71_1, fd72_1, fd73_1, fd74_1, fd82_0, fd82_1, fd82_2, fd83_0, fd83_1, fd83_2, fd124_0, fd124_1, fd124_2, fd128_0, fd128_1, fd129_0, fd129_1, fd156_1, fd157_1, fd191_3, fd192_3, fd203_0, fd203_1, fd203_2, fd203_3, fd203_4, fd203_5, fd203_6, fd203_9, fd203_10, fd204_0, fd204_1, fd204_2, fd204_3, fd204_4, fd204_5, fd204_6, fd204_9, fd204_10, eq82, eq83, mp98, eq124⟩

end Go.Proofs.YtbobhbhgomkgpaaGreatDoor.S
