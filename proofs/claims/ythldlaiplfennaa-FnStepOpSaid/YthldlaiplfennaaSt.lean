/- What the symbolic steps need of the translation's types: printed by gentys.py of this session, checked by the kernel. -/
import Derived.Test.YthldlaiplfennaaA2
import Derived.Test.YthldlaiplfennaaProg
namespace Go.Proofs.Ythldlaiplfennaa.S
set_option linter.all false
open Go Go.Proofs

theorem ty2 : tyI Try.prog 2 = { tk := .int .i64, agg := false, sz := 1, bytes := 8, zero := [.int .i64 0], ek := 1 } := by kernel_rfl
theorem ty3 : tyI Try.prog 3 = { tk := .int .i64, agg := false, sz := 1, bytes := 8, zero := [.int .i64 0], ek := 1 } := by kernel_rfl
theorem ty4 : tyI Try.prog 4 = { tk := .bool, agg := false, sz := 1, bytes := 1, zero := [.bool false], ek := 2 } := by kernel_rfl
theorem ty5 : tyI Try.prog 5 = { tk := .int .u8, agg := false, sz := 1, bytes := 1, zero := [.int .u8 0], ek := 3 } := by kernel_rfl
theorem ty7 : tyI Try.prog 7 = { tk := .struct [(0, 1), (1, 1), (2, 1), (3, 1)], agg := true, sz := 4, bytes := 24, zero := [.int .i64 0, .int .i64 0, .bool false, .int .u8 0], ek := 0 } := by kernel_rfl
theorem ty9 : tyI Try.prog 9 = { tk := .str, agg := false, sz := 1, bytes := 16, zero := [.str ⟨#[]⟩], ek := 4 } := by kernel_rfl
theorem ty12 : tyI Try.prog 12 = { tk := .int .u64, agg := false, sz := 1, bytes := 8, zero := [.int .u64 0], ek := 0 } := by kernel_rfl
theorem ty13 : tyI Try.prog 13 = { tk := .struct [(0, 1), (1, 1)], agg := true, sz := 2, bytes := 24, zero := [.str ⟨#[]⟩, .int .u64 0], ek := 0 } := by kernel_rfl
theorem ty17 : tyI Try.prog 17 = { tk := .other, agg := false, sz := 1, bytes := 8, zero := [.any], ek := 0 } := by kernel_rfl
theorem ty21 : tyI Try.prog 21 = { tk := .int .i32, agg := false, sz := 1, bytes := 4, zero := [.int .i32 0], ek := 0 } := by kernel_rfl
theorem ty22 : tyI Try.prog 22 = { tk := .slice 3, agg := false, sz := 1, bytes := 24, zero := [.emp], ek := 0 } := by kernel_rfl
theorem ty23 : tyI Try.prog 23 = { tk := .struct [(0, 1), (1, 1), (2, 1)], agg := true, sz := 3, bytes := 72, zero := [.emp, .emp, .emp], ek := 0 } := by kernel_rfl
theorem ty24 : tyI Try.prog 24 = { tk := .struct [(0, 1), (1, 1), (2, 1)], agg := true, sz := 3, bytes := 72, zero := [.emp, .emp, .emp], ek := 0 } := by kernel_rfl
theorem ty25 : tyI Try.prog 25 = { tk := .struct [(0, 3), (3, 1)], agg := true, sz := 4, bytes := 96, zero := [.emp, .emp, .emp, .emp], ek := 0 } := by kernel_rfl
theorem ty26 : tyI Try.prog 26 = { tk := .struct [(0, 3), (3, 1)], agg := true, sz := 4, bytes := 96, zero := [.emp, .emp, .emp, .emp], ek := 0 } := by kernel_rfl
theorem ty27 : tyI Try.prog 27 = { tk := .struct [(0, 1), (1, 1), (2, 1)], agg := true, sz := 3, bytes := 40, zero := [.int .i64 0, .emp, .int .i64 0], ek := 0 } := by kernel_rfl
theorem ty28 : tyI Try.prog 28 = { tk := .struct [(0, 1), (1, 1), (2, 1)], agg := true, sz := 3, bytes := 40, zero := [.int .i64 0, .emp, .int .i64 0], ek := 0 } := by kernel_rfl
theorem ty29 : tyI Try.prog 29 = { tk := .slice 99, agg := false, sz := 1, bytes := 24, zero := [.emp], ek := 0 } := by kernel_rfl
theorem ty30 : tyI Try.prog 30 = { tk := .struct [(0, 4), (4, 3), (7, 1), (8, 1), (9, 1)], agg := true, sz := 10, bytes := 176, zero := [.emp, .emp, .emp, .emp, .int .i64 0, .emp, .int .i64 0, .emp, .int .i64 0, .bool false], ek := 0 } := by kernel_rfl
theorem ty31 : tyI Try.prog 31 = { tk := .struct [(0, 4), (4, 3), (7, 1), (8, 1), (9, 1)], agg := true, sz := 10, bytes := 176, zero := [.emp, .emp, .emp, .emp, .int .i64 0, .emp, .int .i64 0, .emp, .int .i64 0, .bool false], ek := 0 } := by kernel_rfl
theorem ty33 : tyI Try.prog 33 = { tk := .struct [(0, 1), (1, 1), (2, 1)], agg := true, sz := 3, bytes := 72, zero := [.emp, .emp, .emp], ek := 0 } := by kernel_rfl
theorem ty34 : tyI Try.prog 34 = { tk := .struct [(0, 3), (3, 1)], agg := true, sz := 4, bytes := 96, zero := [.emp, .emp, .emp, .emp], ek := 0 } := by kernel_rfl
theorem ty35 : tyI Try.prog 35 = { tk := .struct [(0, 3), (3, 1)], agg := true, sz := 4, bytes := 96, zero := [.emp, .emp, .emp, .emp], ek := 0 } := by kernel_rfl
theorem ty36 : tyI Try.prog 36 = { tk := .struct [(0, 1), (1, 1), (2, 1)], agg := true, sz := 3, bytes := 40, zero := [.int .i64 0, .emp, .int .i64 0], ek := 0 } := by kernel_rfl
theorem ty37 : tyI Try.prog 37 = { tk := .slice 55, agg := false, sz := 1, bytes := 24, zero := [.emp], ek := 0 } := by kernel_rfl
theorem ty38 : tyI Try.prog 38 = { tk := .struct [(0, 4), (4, 3), (7, 1), (8, 1), (9, 1)], agg := true, sz := 10, bytes := 176, zero := [.emp, .emp, .emp, .emp, .int .i64 0, .emp, .int .i64 0, .emp, .int .i64 0, .bool false], ek := 0 } := by kernel_rfl
theorem ty39 : tyI Try.prog 39 = { tk := .struct [(0, 4), (4, 3), (7, 1), (8, 1), (9, 1)], agg := true, sz := 10, bytes := 176, zero := [.emp, .emp, .emp, .emp, .int .i64 0, .emp, .int .i64 0, .emp, .int .i64 0, .bool false], ek := 0 } := by kernel_rfl
theorem ty48 : tyI Try.prog 48 = { tk := .slice 5, agg := false, sz := 1, bytes := 24, zero := [.emp], ek := 0 } := by kernel_rfl
theorem ty54 : tyI Try.prog 54 = { tk := .struct [(0, 1), (1, 1), (2, 1)], agg := true, sz := 3, bytes := 24, zero := [.int .i64 0, .int .i64 0, .int .i64 0], ek := 5 } := by kernel_rfl
theorem ty55 : tyI Try.prog 55 = { tk := .struct [(0, 1), (1, 1), (2, 1)], agg := true, sz := 3, bytes := 24, zero := [.int .i64 0, .int .i64 0, .int .i64 0], ek := 5 } := by kernel_rfl
theorem ty74 : tyI Try.prog 74 = { tk := .slice 4, agg := false, sz := 1, bytes := 24, zero := [.emp], ek := 0 } := by kernel_rfl
theorem ty78 : tyI Try.prog 78 = { tk := .other, agg := false, sz := 1, bytes := 8, zero := [.any], ek := 0 } := by kernel_rfl
theorem ty99 : tyI Try.prog 99 = { tk := .struct [(0, 1), (1, 1), (2, 1)], agg := true, sz := 3, bytes := 24, zero := [.int .i64 0, .int .i64 0, .int .i64 0], ek := 5 } := by kernel_rfl
theorem ty113 : tyI Try.prog 113 = { tk := .struct [(0, 1), (1, 1)], agg := true, sz := 2, bytes := 32, zero := [.emp, .int .i64 0], ek := 0 } := by kernel_rfl
theorem ty114 : tyI Try.prog 114 = { tk := .struct [(0, 1), (1, 1)], agg := true, sz := 2, bytes := 32, zero := [.emp, .int .i64 0], ek := 0 } := by kernel_rfl
theorem ty121 : tyI Try.prog 121 = { tk := .struct [(0, 3), (3, 1)], agg := true, sz := 4, bytes := 96, zero := [.emp, .emp, .emp, .emp], ek := 0 } := by kernel_rfl
theorem ty122 : tyI Try.prog 122 = { tk := .struct [(0, 3), (3, 1)], agg := true, sz := 4, bytes := 96, zero := [.emp, .emp, .emp, .emp], ek := 0 } := by kernel_rfl
theorem ty130 : tyI Try.prog 130 = { tk := .slice 22, agg := false, sz := 1, bytes := 24, zero := [.emp], ek := 0 } := by kernel_rfl
theorem ty132 : tyI Try.prog 132 = { tk := .other, agg := false, sz := 1, bytes := 8, zero := [.any], ek := 0 } := by kernel_rfl
theorem ty138 : tyI Try.prog 138 = { tk := .slice 9, agg := false, sz := 1, bytes := 24, zero := [.emp], ek := 0 } := by kernel_rfl
theorem ty165 : tyI Try.prog 165 = { tk := .int .u32, agg := false, sz := 1, bytes := 4, zero := [.int .u32 0], ek := 0 } := by kernel_rfl
theorem ty169 : tyI Try.prog 169 = { tk := .other, agg := false, sz := 1, bytes := 8, zero := [.any], ek := 0 } := by kernel_rfl
theorem ty176 : tyI Try.prog 176 = { tk := .int .u64, agg := false, sz := 1, bytes := 8, zero := [.int .u64 0], ek := 0 } := by kernel_rfl
theorem fd7_0 : fldI Try.prog 7 0 = some 0 := by kernel_rfl
theorem fd7_1 : fldI Try.prog 7 1 = some 1 := by kernel_rfl
theorem fd7_2 : fldI Try.prog 7 2 = some 2 := by kernel_rfl
theorem fd7_3 : fldI Try.prog 7 3 = some 3 := by kernel_rfl
theorem fd8_0 : fldI Try.prog 8 0 = some 0 := by kernel_rfl
theorem fd8_1 : fldI Try.prog 8 1 = some 1 := by kernel_rfl
theorem fd8_2 : fldI Try.prog 8 2 = some 2 := by kernel_rfl
theorem fd8_3 : fldI Try.prog 8 3 = some 3 := by kernel_rfl
theorem fd13_0 : fldI Try.prog 13 0 = some 0 := by kernel_rfl
theorem fd13_1 : fldI Try.prog 13 1 = some 1 := by kernel_rfl
theorem fd14_0 : fldI Try.prog 14 0 = some 0 := by kernel_rfl
theorem fd14_1 : fldI Try.prog 14 1 = some 1 := by kernel_rfl
theorem fd23_0 : fldI Try.prog 23 0 = some 0 := by kernel_rfl
theorem fd23_1 : fldI Try.prog 23 1 = some 1 := by kernel_rfl
theorem fd23_2 : fldI Try.prog 23 2 = some 2 := by kernel_rfl
theorem fd24_0 : fldI Try.prog 24 0 = some 0 := by kernel_rfl
theorem fd24_1 : fldI Try.prog 24 1 = some 1 := by kernel_rfl
theorem fd24_2 : fldI Try.prog 24 2 = some 2 := by kernel_rfl
theorem fd25_1 : fldI Try.prog 25 1 = some 3 := by kernel_rfl
theorem fd26_1 : fldI Try.prog 26 1 = some 3 := by kernel_rfl
theorem fd27_0 : fldI Try.prog 27 0 = some 0 := by kernel_rfl
theorem fd27_1 : fldI Try.prog 27 1 = some 1 := by kernel_rfl
theorem fd27_2 : fldI Try.prog 27 2 = some 2 := by kernel_rfl
theorem fd28_0 : fldI Try.prog 28 0 = some 0 := by kernel_rfl
theorem fd28_1 : fldI Try.prog 28 1 = some 1 := by kernel_rfl
theorem fd28_2 : fldI Try.prog 28 2 = some 2 := by kernel_rfl
theorem fd30_2 : fldI Try.prog 30 2 = some 7 := by kernel_rfl
theorem fd30_3 : fldI Try.prog 30 3 = some 8 := by kernel_rfl
theorem fd30_4 : fldI Try.prog 30 4 = some 9 := by kernel_rfl
theorem fd31_2 : fldI Try.prog 31 2 = some 7 := by kernel_rfl
theorem fd31_3 : fldI Try.prog 31 3 = some 8 := by kernel_rfl
theorem fd31_4 : fldI Try.prog 31 4 = some 9 := by kernel_rfl
theorem fd33_0 : fldI Try.prog 33 0 = some 0 := by kernel_rfl
theorem fd33_1 : fldI Try.prog 33 1 = some 1 := by kernel_rfl
theorem fd33_2 : fldI Try.prog 33 2 = some 2 := by kernel_rfl
theorem fd34_1 : fldI Try.prog 34 1 = some 3 := by kernel_rfl
theorem fd35_1 : fldI Try.prog 35 1 = some 3 := by kernel_rfl
theorem fd36_0 : fldI Try.prog 36 0 = some 0 := by kernel_rfl
theorem fd36_1 : fldI Try.prog 36 1 = some 1 := by kernel_rfl
theorem fd36_2 : fldI Try.prog 36 2 = some 2 := by kernel_rfl
theorem fd38_2 : fldI Try.prog 38 2 = some 7 := by kernel_rfl
theorem fd38_3 : fldI Try.prog 38 3 = some 8 := by kernel_rfl
theorem fd38_4 : fldI Try.prog 38 4 = some 9 := by kernel_rfl
theorem fd39_2 : fldI Try.prog 39 2 = some 7 := by kernel_rfl
theorem fd39_3 : fldI Try.prog 39 3 = some 8 := by kernel_rfl
theorem fd39_4 : fldI Try.prog 39 4 = some 9 := by kernel_rfl
theorem fd54_0 : fldI Try.prog 54 0 = some 0 := by kernel_rfl
theorem fd54_1 : fldI Try.prog 54 1 = some 1 := by kernel_rfl
theorem fd54_2 : fldI Try.prog 54 2 = some 2 := by kernel_rfl
theorem fd55_0 : fldI Try.prog 55 0 = some 0 := by kernel_rfl
theorem fd55_1 : fldI Try.prog 55 1 = some 1 := by kernel_rfl
theorem fd55_2 : fldI Try.prog 55 2 = some 2 := by kernel_rfl
theorem fd99_0 : fldI Try.prog 99 0 = some 0 := by kernel_rfl
theorem fd99_1 : fldI Try.prog 99 1 = some 1 := by kernel_rfl
theorem fd99_2 : fldI Try.prog 99 2 = some 2 := by kernel_rfl
theorem fd113_0 : fldI Try.prog 113 0 = some 0 := by kernel_rfl
theorem fd113_1 : fldI Try.prog 113 1 = some 1 := by kernel_rfl
theorem fd114_0 : fldI Try.prog 114 0 = some 0 := by kernel_rfl
theorem fd114_1 : fldI Try.prog 114 1 = some 1 := by kernel_rfl
theorem fd121_1 : fldI Try.prog 121 1 = some 3 := by kernel_rfl
theorem fd122_1 : fldI Try.prog 122 1 = some 3 := by kernel_rfl
theorem fd159_3 : fldI Try.prog 159 3 = some 3 := by kernel_rfl
theorem fd160_3 : fldI Try.prog 160 3 = some 3 := by kernel_rfl
theorem fd172_0 : fldI Try.prog 172 0 = some 0 := by kernel_rfl
theorem fd172_1 : fldI Try.prog 172 1 = some 1 := by kernel_rfl
theorem fd172_2 : fldI Try.prog 172 2 = some 2 := by kernel_rfl
theorem fd172_3 : fldI Try.prog 172 3 = some 3 := by kernel_rfl
theorem fd172_4 : fldI Try.prog 172 4 = some 4 := by kernel_rfl
theorem fd172_5 : fldI Try.prog 172 5 = some 5 := by kernel_rfl
theorem fd172_6 : fldI Try.prog 172 6 = some 6 := by kernel_rfl
theorem fd172_9 : fldI Try.prog 172 9 = some 9 := by kernel_rfl
theorem fd172_10 : fldI Try.prog 172 10 = some 10 := by kernel_rfl
theorem fd173_0 : fldI Try.prog 173 0 = some 0 := by kernel_rfl
theorem fd173_1 : fldI Try.prog 173 1 = some 1 := by kernel_rfl
theorem fd173_2 : fldI Try.prog 173 2 = some 2 := by kernel_rfl
theorem fd173_3 : fldI Try.prog 173 3 = some 3 := by kernel_rfl
theorem fd173_4 : fldI Try.prog 173 4 = some 4 := by kernel_rfl
theorem fd173_5 : fldI Try.prog 173 5 = some 5 := by kernel_rfl
theorem fd173_6 : fldI Try.prog 173 6 = some 6 := by kernel_rfl
theorem fd173_9 : fldI Try.prog 173 9 = some 9 := by kernel_rfl
theorem fd173_10 : fldI Try.prog 173 10 = some 10 := by kernel_rfl
theorem eq54 : eq3Ty Try.prog 54 = true := by kernel_rfl
theorem eq55 : eq3Ty Try.prog 55 = true := by kernel_rfl
theorem eq99 : eq3Ty Try.prog 99 = true := by kernel_rfl
theorem tys : (tyI Try.prog 2 = { tk := .int .i64, agg := false, sz := 1, bytes := 8, zero := [.int .i64 0], ek := 1 }) ∧ (tyI Try.prog 3 = { tk := .int .i64, agg := false, sz := 1, bytes := 8, zero := [.int .i64 0], ek := 1 }) ∧ (tyI Try.prog 4 = { tk := .bool, agg := false, sz := 1, bytes := 1, zero := [.bool false], ek := 2 }) ∧ (tyI Try.prog 5 = { tk := .int .u8, agg := false, sz := 1, bytes := 1, zero := [.int .u8 0], ek := 3 }) ∧ (tyI Try.prog 7 = { tk := .struct [(0, 1), (1, 1), (2, 1), (3, 1)], agg := true, sz := 4, bytes := 24, zero := [.int .i64 0, .int .i64 0, .bool false, .int .u8 0], ek := 0 }) ∧ (tyI Try.prog 9 = { tk := .str, agg := false, sz := 1, bytes := 16, zero := [.str ⟨#[]⟩], ek := 4 }) ∧ (tyI Try.prog 12 = { tk := .int .u64, agg := false, sz := 1, bytes := 8, zero := [.int .u64 0], ek := 0 }) ∧ (tyI Try.prog 13 = { tk := .struct [(0, 1), (1, 1)], agg := true, sz := 2, bytes := 24, zero := [.str ⟨#[]⟩, .int .u64 0], ek := 0 }) ∧ (tyI Try.prog 17 = { tk := .other, agg := false, sz := 1, bytes := 8, zero := [.any], ek := 0 }) ∧ (tyI Try.prog 21 = { tk := .int .i32, agg := false, sz := 1, bytes := 4, zero := [.int .i32 0], ek := 0 }) ∧ (tyI Try.prog 22 = { tk := .slice 3, agg := false, sz := 1, bytes := 24, zero := [.emp], ek := 0 }) ∧ (tyI Try.prog 23 = { tk := .struct [(0, 1), (1, 1), (2, 1)], agg := true, sz := 3, bytes := 72, zero := [.emp, .emp, .emp], ek := 0 }) ∧ (tyI Try.prog 24 = { tk := .struct [(0, 1), (1, 1), (2, 1)], agg := true, sz := 3, bytes := 72, zero := [.emp, .emp, .emp], ek := 0 }) ∧ (tyI Try.prog 25 = { tk := .struct [(0, 3), (3, 1)], agg := true, sz := 4, bytes := 96, zero := [.emp, .emp, .emp, .emp], ek := 0 }) ∧ (tyI Try.prog 26 = { tk := .struct [(0, 3), (3, 1)], agg := true, sz := 4, bytes := 96, zero := [.emp, .emp, .emp, .emp], ek := 0 }) ∧ (tyI Try.prog 27 = { tk := .struct [(0, 1), (1, 1), (2, 1)], agg := true, sz := 3, bytes := 40, zero := [.int .i64 0, .emp, .int .i64 0], ek := 0 }) ∧ (tyI Try.prog 28 = { tk := .struct [(0, 1), (1, 1), (2, 1)], agg := true, sz := 3, bytes := 40, zero := [.int .i64 0, .emp, .int .i64 0], ek := 0 }) ∧ (tyI Try.prog 29 = { tk := .slice 99, agg := false, sz := 1, bytes := 24, zero := [.emp], ek := 0 }) ∧ (tyI Try.prog 30 = { tk := .struct [(0, 4), (4, 3), (7, 1), (8, 1), (9, 1)], agg := true, sz := 10, bytes := 176, zero := [.emp, .emp, .emp, .emp, .int .i64 0, .emp, .int .i64 0, .emp, .int .i64 0, .bool false], ek := 0 }) ∧ (tyI Try.prog 31 = { tk := .struct [(0, 4), (4, 3), (7, 1), (8, 1), (9, 1)], agg := true, sz := 10, bytes := 176, zero := [.emp, .emp, .emp, .emp, .int .i64 0, .emp, .int .i64 0, .emp, .int .i64 0, .bool false], ek := 0 }) ∧ (tyI Try.prog 33 = { tk := .struct [(0, 1), (1, 1), (2, 1)], agg := true, sz := 3, bytes := 72, zero := [.emp, .emp, .emp], ek := 0 }) ∧ (tyI Try.prog 34 = { tk := .struct [(0, 3), (3, 1)], agg := true, sz := 4, bytes := 96, zero := [.emp, .emp, .emp, .emp], ek := 0 }) ∧ (tyI Try.prog 35 = { tk := .struct [(0, 3), (3, 1)], agg := true, sz := 4, bytes := 96, zero := [.emp, .emp, .emp, .emp], ek := 0 }) ∧ (tyI Try.prog 36 = { tk := .struct [(0, 1), (1, 1), (2, 1)], agg := true, sz := 3, bytes := 40, zero := [.int .i64 0, .emp, .int .i64 0], ek := 0 }) ∧ (tyI Try.prog 37 = { tk := .slice 55, agg := false, sz := 1, bytes := 24, zero := [.emp], ek := 0 }) ∧ (tyI Try.prog 38 = { tk := .struct [(0, 4), (4, 3), (7, 1), (8, 1), (9, 1)], agg := true, sz := 10, bytes := 176, zero := [.emp, .emp, .emp, .emp, .int .i64 0, .emp, .int .i64 0, .emp, .int .i64 0, .bool false], ek := 0 }) ∧ (tyI Try.prog 39 = { tk := .struct [(0, 4), (4, 3), (7, 1), (8, 1), (9, 1)], agg := true, sz := 10, bytes := 176, zero := [.emp, .emp, .emp, .emp, .int .i64 0, .emp, .int .i64 0, .emp, .int .i64 0, .bool false], ek := 0 }) ∧ (tyI Try.prog 48 = { tk := .slice 5, agg := false, sz := 1, bytes := 24, zero := [.emp], ek := 0 }) ∧ (tyI Try.prog 54 = { tk := .struct [(0, 1), (1, 1), (2, 1)], agg := true, sz := 3, bytes := 24, zero := [.int .i64 0, .int .i64 0, .int .i64 0], ek := 5 }) ∧ (tyI Try.prog 55 = { tk := .struct [(0, 1), (1, 1), (2, 1)], agg := true, sz := 3, bytes := 24, zero := [.int .i64 0, .int .i64 0, .int .i64 0], ek := 5 }) ∧ (tyI Try.prog 74 = { tk := .slice 4, agg := false, sz := 1, bytes := 24, zero := [.emp], ek := 0 }) ∧ (tyI Try.prog 78 = { tk := .other, agg := false, sz := 1, bytes := 8, zero := [.any], ek := 0 }) ∧ (tyI Try.prog 99 = { tk := .struct [(0, 1), (1, 1), (2, 1)], agg := true, sz := 3, bytes := 24, zero := [.int .i64 0, .int .i64 0, .int .i64 0], ek := 5 }) ∧ (tyI Try.prog 113 = { tk := .struct [(0, 1), (1, 1)], agg := true, sz := 2, bytes := 32, zero := [.emp, .int .i64 0], ek := 0 }) ∧ (tyI Try.prog 114 = { tk := .struct [(0, 1), (1, 1)], agg := true, sz := 2, bytes := 32, zero := [.emp, .int .i64 0], ek := 0 }) ∧ (tyI Try.prog 121 = { tk := .struct [(0, 3), (3, 1)], agg := true, sz := 4, bytes := 96, zero := [.emp, .emp, .emp, .emp], ek := 0 }) ∧ (tyI Try.prog 122 = { tk := .struct [(0, 3), (3, 1)], agg := true, sz := 4, bytes := 96, zero := [.emp, .emp, .emp, .emp], ek := 0 }) ∧ (tyI Try.prog 130 = { tk := .slice 22, agg := false, sz := 1, bytes := 24, zero := [.emp], ek := 0 }) ∧ (tyI Try.prog 132 = { tk := .other, agg := false, sz := 1, bytes := 8, zero := [.any], ek := 0 }) ∧ (tyI Try.prog 138 = { tk := .slice 9, agg := false, sz := 1, bytes := 24, zero := [.emp], ek := 0 }) ∧ (tyI Try.prog 165 = { tk := .int .u32, agg := false, sz := 1, bytes := 4, zero := [.int .u32 0], ek := 0 }) ∧ (tyI Try.prog 169 = { tk := .other, agg := false, sz := 1, bytes := 8, zero := [.any], ek := 0 }) ∧ (tyI Try.prog 176 = { tk := .int .u64, agg := false, sz := 1, bytes := 8, zero := [.int .u64 0], ek := 0 }) ∧ (fldI Try.prog 7 0 = some 0) ∧ (fldI Try.prog 7 1 = some 1) ∧ (fldI Try.prog 7 2 = some 2) ∧ (fldI Try.prog 7 3 = some 3) ∧ (fldI Try.prog 8 0 = some 0) ∧ (fldI Try.prog 8 1 = some 1) ∧ (fldI Try.prog 8 2 = some 2) ∧ (fldI Try.prog 8 3 = some 3) ∧ (fldI Try.prog 13 0 = some 0) ∧ (fldI Try.prog 13 1 = some 1) ∧ (fldI Try.prog 14 0 = some 0) ∧ (fldI Try.prog 14 1 = some 1) ∧ (fldI Try.prog 23 0 = some 0) ∧ (fldI Try.prog 23 1 = some 1) ∧ (fldI Try.prog 23 2 = some 2) ∧ (fldI Try.prog 24 0 = some 0) ∧ (fldI Try.prog 24 1 = some 1) ∧ (fldI Try.prog 24 2 = some 2) ∧ (fldI Try.prog 25 1 = some 3) ∧ (fldI Try.prog 26 1 = some 3) ∧ (fldI Try.prog 27 0 = some 0) ∧ (fldI Try.prog 27 1 = some 1) ∧ (fldI Try.prog 27 2 = some 2) ∧ (fldI Try.prog 28 0 = some 0) ∧ (fldI Try.prog 28 1 = some 1) ∧ (fldI Try.prog 28 2 = some 2) ∧ (fldI Try.prog 30 2 = some 7) ∧ (fldI Try.prog 30 3 = some 8) ∧ (fldI Try.prog 30 4 = some 9) ∧ (fldI Try.prog 31 2 = some 7) ∧ (fldI Try.prog 31 3 = some 8) ∧ (fldI Try.prog 31 4 = some 9) ∧ (fldI Try.prog 33 0 = some 0) ∧ (fldI Try.prog 33 1 = some 1) ∧ (fldI Try.prog 33 2 = some 2) ∧ (fldI Try.prog 34 1 = some 3) ∧ (fldI Try.prog 35 1 = some 3) ∧ (fldI Try.prog 36 0 = some 0) ∧ (fldI Try.prog 36 1 = some 1) ∧ (fldI Try.prog 36 2 = some 2) ∧ (fldI Try.prog 38 2 = some 7) ∧ (fldI Try.prog 38 3 = some 8) ∧ (fldI Try.prog 38 4 = some 9) ∧ (fldI Try.prog 39 2 = some 7) ∧ (fldI Try.prog 39 3 = some 8) ∧ (fldI Try.prog 39 4 = some 9) ∧ (fldI Try.prog 54 0 = some 0) ∧ (fldI Try.prog 54 1 = some 1) ∧ (fldI Try.prog 54 2 = some 2) ∧ (fldI Try.prog 55 0 = some 0) ∧ (fldI Try.prog 55 1 = some 1) ∧ (fldI Try.prog 55 2 = some 2) ∧ (fldI Try.prog 99 0 = some 0) ∧ (fldI Try.prog 99 1 = some 1) ∧ (fldI Try.prog 99 2 = some 2) ∧ (fldI Try.prog 113 0 = some 0) ∧ (fldI Try.prog 113 1 = some 1) ∧ (fldI Try.prog 114 0 = some 0) ∧ (fldI Try.prog 114 1 = some 1) ∧ (fldI Try.prog 121 1 = some 3) ∧ (fldI Try.prog 122 1 = some 3) ∧ (fldI Try.prog 159 3 = some 3) ∧ (fldI Try.prog 160 3 = some 3) ∧ (fldI Try.prog 172 0 = some 0) ∧ (fldI Try.prog 172 1 = some 1) ∧ (fldI Try.prog 172 2 = some 2) ∧ (fldI Try.prog 172 3 = some 3) ∧ (fldI Try.prog 172 4 = some 4) ∧ (fldI Try.prog 172 5 = some 5) ∧ (fldI Try.prog 172 6 = some 6) ∧ (fldI Try.prog 172 9 = some 9) ∧ (fldI Try.prog 172 10 = some 10) ∧ (fldI Try.prog 173 0 = some 0) ∧ (fldI Try.prog 173 1 = some 1) ∧ (fldI Try.prog 173 2 = some 2) ∧ (fldI Try.prog 173 3 = some 3) ∧ (fldI Try.prog 173 4 = some 4) ∧ (fldI Try.prog 173 5 = some 5) ∧ (fldI Try.prog 173 6 = some 6) ∧ (fldI Try.prog 173 9 = some 9) ∧ (fldI Try.prog 173 10 = some 10) ∧ (eq3Ty Try.prog 54 = true) ∧ (eq3Ty Try.prog 55 = true) ∧ (eq3Ty Try.prog 99 = true) := ⟨ty2, ty3, ty4, ty5, ty7, ty9, ty12, ty13, ty17, ty21, ty22, ty23, ty24, ty25, ty26, ty27, ty28, ty29, ty30, ty31, ty33, ty34, ty35, ty36, ty37, ty38, ty39, ty48, ty54, ty55, ty74, ty78, ty99, ty113, ty114, ty121, ty122, ty130, ty132, ty138, ty165, ty169, ty176, fd7_0, fd7_1, fd7_2, fd7_3, fd8_0, fd8_1, fd8_2, fd8_3, fd13_0, fd13_1, fd14_0, fd14_1, fd23_0, fd23_1, fd23_2, fd24_0, fd24_1, fd24_2, fd25_1, fd26_1, fd27_0, fd27_1, fd27_2, fd28_0, fd28_1, fd28_2, fd30_2, fd30_3, fd30_4, fd31_2, fd31_3, fd31_4, fd33_0, fd33_1, fd33_2, fd34_1, fd35_1, fd36_0, fd36_1, fd36_2, fd38_2, fd38_3, fd38_4, fd39_2, fd39_3, fd39_4, fd54_0, fd54_1, fd54_2, fd55_0, fd55_1, fd55_2, fd99_0, fd99_1, fd99_2, fd113_0, fd113_1, fd114_0, fd114_1, fd121_1, fd122_1, fd159_3, fd160_3, fd172_0, fd172_1, fd172_2, fd172_3, fd172_4, fd172_5, fd172_6, fd172_9, fd172_10, fd173_0, fd173_1, fd173_2, fd173_3, fd173_4, fd173_5, fd173_6, fd173_9, fd173_10, eq54, eq55, eq99⟩

end Go.Proofs.Ythldlaiplfennaa.S
