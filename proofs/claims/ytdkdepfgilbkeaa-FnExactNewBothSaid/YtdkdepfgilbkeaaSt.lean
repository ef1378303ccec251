/- What the symbolic steps need of the translation's types: printed by gentys.py of this session, checked by the kernel. -/
import Derived.Test.YtdkdepfgilbkeaaA2
import Derived.Test.YtdkdepfgilbkeaaProg
namespace Go.Proofs.Ytdkdepfgilbkeaa.S
set_option linter.all false
open Go Go.Proofs

theorem ty2 : tyI Try.prog 2 = { tk := .int .i64, agg := false, sz := 1, bytes := 8, zero := [.int .i64 0], ek := 1 } := by kernel_rfl
theorem ty3 : tyI Try.prog 3 = { tk := .int .i64, agg := false, sz := 1, bytes := 8, zero := [.int .i64 0], ek := 1 } := by kernel_rfl
theorem ty4 : tyI Try.prog 4 = { tk := .bool, agg := false, sz := 1, bytes := 1, zero := [.bool false], ek := 2 } := by kernel_rfl
theorem ty5 : tyI Try.prog 5 = { tk := .int .u8, agg := false, sz := 1, bytes := 1, zero := [.int .u8 0], ek := 3 } := by kernel_rfl
theorem ty7 : tyI Try.prog 7 = { tk := .struct [(0, 1), (1, 1), (2, 1), (3, 1)], agg := true, sz := 4, bytes := 24, zero := [.int .i64 0, .int .i64 0, .bool false, .int .u8 0], ek := 0 } := by kernel_rfl
theorem ty9 : tyI Try.prog 9 = { tk := .str, agg := false, sz := 1, bytes := 16, zero := [.str ⟨#[]⟩], ek := 4 } := by kernel_rfl
theorem ty12 : tyI Try.prog 12 = { tk := .int .u64, agg := false, sz := 1, bytes := 8, zero := [.int .u64 0], ek := 0 } := by kernel_rfl
theorem ty13 : tyI Try.prog 13 = { tk := .struct [(0, 1), (1, 1)], agg := true, sz := 2, bytes := 24, zero := [.str ⟨#[]⟩, .int .u64 0], ek := 0 } := by kernel_rfl
theorem ty17 : tyI Try.prog 17 = { tk := .other, agg := false, sz := 1, bytes := 8, zero := [.any], ek := 0 } := by kernel_rfl
theorem ty21 : tyI Try.prog 21 = { tk := .int .i32, agg := false, sz := 1, bytes := 4, zero := [.int .i32 0], ek := 0 } := by kernel_rfl
theorem ty22 : tyI Try.prog 22 = { tk := .slice 5, agg := false, sz := 1, bytes := 24, zero := [.emp], ek := 0 } := by kernel_rfl
theorem ty23 : tyI Try.prog 23 = { tk := .slice 3, agg := false, sz := 1, bytes := 24, zero := [.emp], ek := 0 } := by kernel_rfl
theorem ty24 : tyI Try.prog 24 = { tk := .struct [(0, 1), (1, 1), (2, 1)], agg := true, sz := 3, bytes := 72, zero := [.emp, .emp, .emp], ek := 0 } := by kernel_rfl
theorem ty25 : tyI Try.prog 25 = { tk := .struct [(0, 1), (1, 1), (2, 1)], agg := true, sz := 3, bytes := 72, zero := [.emp, .emp, .emp], ek := 0 } := by kernel_rfl
theorem ty26 : tyI Try.prog 26 = { tk := .struct [(0, 3), (3, 1)], agg := true, sz := 4, bytes := 96, zero := [.emp, .emp, .emp, .emp], ek := 0 } := by kernel_rfl
theorem ty27 : tyI Try.prog 27 = { tk := .struct [(0, 3), (3, 1)], agg := true, sz := 4, bytes := 96, zero := [.emp, .emp, .emp, .emp], ek := 0 } := by kernel_rfl
theorem ty28 : tyI Try.prog 28 = { tk := .struct [(0, 4), (4, 1)], agg := true, sz := 5, bytes := 120, zero := [.emp, .emp, .emp, .emp, .emp], ek := 0 } := by kernel_rfl
theorem ty29 : tyI Try.prog 29 = { tk := .struct [(0, 4), (4, 1)], agg := true, sz := 5, bytes := 120, zero := [.emp, .emp, .emp, .emp, .emp], ek := 0 } := by kernel_rfl
theorem ty33 : tyI Try.prog 33 = { tk := .slice 4, agg := false, sz := 1, bytes := 24, zero := [.emp], ek := 0 } := by kernel_rfl
theorem ty44 : tyI Try.prog 44 = { tk := .struct [(0, 1), (1, 1), (2, 1)], agg := true, sz := 3, bytes := 72, zero := [.emp, .emp, .emp], ek := 0 } := by kernel_rfl
theorem ty45 : tyI Try.prog 45 = { tk := .struct [(0, 3), (3, 1)], agg := true, sz := 4, bytes := 96, zero := [.emp, .emp, .emp, .emp], ek := 0 } := by kernel_rfl
theorem ty46 : tyI Try.prog 46 = { tk := .struct [(0, 3), (3, 1)], agg := true, sz := 4, bytes := 96, zero := [.emp, .emp, .emp, .emp], ek := 0 } := by kernel_rfl
theorem ty47 : tyI Try.prog 47 = { tk := .slice 107, agg := false, sz := 1, bytes := 24, zero := [.emp], ek := 0 } := by kernel_rfl
theorem ty50 : tyI Try.prog 50 = { tk := .struct [(0, 1), (1, 1), (2, 1)], agg := true, sz := 3, bytes := 40, zero := [.int .i64 0, .emp, .int .i64 0], ek := 0 } := by kernel_rfl
theorem ty51 : tyI Try.prog 51 = { tk := .struct [(0, 1), (1, 1), (2, 1)], agg := true, sz := 3, bytes := 40, zero := [.int .i64 0, .emp, .int .i64 0], ek := 0 } := by kernel_rfl
theorem ty52 : tyI Try.prog 52 = { tk := .slice 105, agg := false, sz := 1, bytes := 24, zero := [.emp], ek := 0 } := by kernel_rfl
theorem ty53 : tyI Try.prog 53 = { tk := .struct [(0, 4), (4, 3), (7, 1), (8, 1), (9, 1)], agg := true, sz := 10, bytes := 176, zero := [.emp, .emp, .emp, .emp, .int .i64 0, .emp, .int .i64 0, .emp, .int .i64 0, .bool false], ek := 0 } := by kernel_rfl
theorem ty54 : tyI Try.prog 54 = { tk := .struct [(0, 4), (4, 3), (7, 1), (8, 1), (9, 1)], agg := true, sz := 10, bytes := 176, zero := [.emp, .emp, .emp, .emp, .int .i64 0, .emp, .int .i64 0, .emp, .int .i64 0, .bool false], ek := 0 } := by kernel_rfl
theorem ty74 : tyI Try.prog 74 = { tk := .struct [(0, 3), (3, 1)], agg := true, sz := 4, bytes := 96, zero := [.emp, .emp, .emp, .emp], ek := 0 } := by kernel_rfl
theorem ty75 : tyI Try.prog 75 = { tk := .struct [(0, 3), (3, 1)], agg := true, sz := 4, bytes := 96, zero := [.emp, .emp, .emp, .emp], ek := 0 } := by kernel_rfl
theorem ty78 : tyI Try.prog 78 = { tk := .struct [(0, 1), (1, 1), (2, 1)], agg := true, sz := 3, bytes := 40, zero := [.int .i64 0, .emp, .int .i64 0], ek := 0 } := by kernel_rfl
theorem ty104 : tyI Try.prog 104 = { tk := .struct [(0, 1), (1, 1), (2, 1)], agg := true, sz := 3, bytes := 24, zero := [.int .i64 0, .int .i64 0, .int .i64 0], ek := 5 } := by kernel_rfl
theorem ty105 : tyI Try.prog 105 = { tk := .struct [(0, 1), (1, 1), (2, 1)], agg := true, sz := 3, bytes := 24, zero := [.int .i64 0, .int .i64 0, .int .i64 0], ek := 5 } := by kernel_rfl
theorem ty107 : tyI Try.prog 107 = { tk := .struct [(0, 1), (1, 1), (2, 1)], agg := true, sz := 3, bytes := 24, zero := [.int .i64 0, .int .i64 0, .int .i64 0], ek := 5 } := by kernel_rfl
theorem ty121 : tyI Try.prog 121 = { tk := .other, agg := false, sz := 1, bytes := 8, zero := [.any], ek := 0 } := by kernel_rfl
theorem ty126 : tyI Try.prog 126 = { tk := .slice 23, agg := false, sz := 1, bytes := 24, zero := [.emp], ek := 0 } := by kernel_rfl
theorem ty128 : tyI Try.prog 128 = { tk := .other, agg := false, sz := 1, bytes := 8, zero := [.any], ek := 0 } := by kernel_rfl
theorem ty134 : tyI Try.prog 134 = { tk := .other, agg := false, sz := 1, bytes := 8, zero := [.any], ek := 0 } := by kernel_rfl
theorem ty140 : tyI Try.prog 140 = { tk := .struct [(0, 1), (1, 1)], agg := true, sz := 2, bytes := 32, zero := [.emp, .int .i64 0], ek := 0 } := by kernel_rfl
theorem ty141 : tyI Try.prog 141 = { tk := .struct [(0, 1), (1, 1)], agg := true, sz := 2, bytes := 32, zero := [.emp, .int .i64 0], ek := 0 } := by kernel_rfl
theorem ty156 : tyI Try.prog 156 = { tk := .slice 9, agg := false, sz := 1, bytes := 24, zero := [.emp], ek := 0 } := by kernel_rfl
theorem ty167 : tyI Try.prog 167 = { tk := .int .u32, agg := false, sz := 1, bytes := 4, zero := [.int .u32 0], ek := 0 } := by kernel_rfl
theorem ty171 : tyI Try.prog 171 = { tk := .other, agg := false, sz := 1, bytes := 8, zero := [.any], ek := 0 } := by kernel_rfl
theorem ty178 : tyI Try.prog 178 = { tk := .int .u64, agg := false, sz := 1, bytes := 8, zero := [.int .u64 0], ek := 0 } := by kernel_rfl
theorem fd7_0 : fldI Try.prog 7 0 = some 0 := by kernel_rfl
theorem fd7_1 : fldI Try.prog 7 1 = some 1 := by kernel_rfl
theorem fd7_2 : fldI Try.prog 7 2 = some 2 := by kernel_rfl
theorem fd7_3 : fldI Try.prog 7 3 = some 3 := by kernel_rfl
theorem fd8_0 : fldI Try.prog 8 0 = some 0 := by kernel_rfl
theorem fd8_1 : fldI Try.prog 8 1 = some 1 := by kernel_rfl
theorem fd8_2 : fldI Try.prog 8 2 = some 2 := by kernel_rfl
theorem fd8_3 : fldI Try.prog 8 3 = some 3 := by kernel_rfl
theorem fd13_0 : fldI Try.prog 13 0 = some 0 := by kernel_rfl
theorem fd13_1 : fldI Try.prog 13 1 = some 1 := by kernel_rfl
theorem fd14_0 : fldI Try.prog 14 0 = some 0 := by kernel_rfl
theorem fd14_1 : fldI Try.prog 14 1 = some 1 := by kernel_rfl
theorem fd24_0 : fldI Try.prog 24 0 = some 0 := by kernel_rfl
theorem fd24_1 : fldI Try.prog 24 1 = some 1 := by kernel_rfl
theorem fd24_2 : fldI Try.prog 24 2 = some 2 := by kernel_rfl
theorem fd25_0 : fldI Try.prog 25 0 = some 0 := by kernel_rfl
theorem fd25_1 : fldI Try.prog 25 1 = some 1 := by kernel_rfl
theorem fd25_2 : fldI Try.prog 25 2 = some 2 := by kernel_rfl
theorem fd26_1 : fldI Try.prog 26 1 = some 3 := by kernel_rfl
theorem fd27_1 : fldI Try.prog 27 1 = some 3 := by kernel_rfl
theorem fd28_1 : fldI Try.prog 28 1 = some 4 := by kernel_rfl
theorem fd29_1 : fldI Try.prog 29 1 = some 4 := by kernel_rfl
theorem fd44_0 : fldI Try.prog 44 0 = some 0 := by kernel_rfl
theorem fd44_1 : fldI Try.prog 44 1 = some 1 := by kernel_rfl
theorem fd44_2 : fldI Try.prog 44 2 = some 2 := by kernel_rfl
theorem fd45_1 : fldI Try.prog 45 1 = some 3 := by kernel_rfl
theorem fd46_1 : fldI Try.prog 46 1 = some 3 := by kernel_rfl
theorem fd50_0 : fldI Try.prog 50 0 = some 0 := by kernel_rfl
theorem fd50_1 : fldI Try.prog 50 1 = some 1 := by kernel_rfl
theorem fd50_2 : fldI Try.prog 50 2 = some 2 := by kernel_rfl
theorem fd51_0 : fldI Try.prog 51 0 = some 0 := by kernel_rfl
theorem fd51_1 : fldI Try.prog 51 1 = some 1 := by kernel_rfl
theorem fd51_2 : fldI Try.prog 51 2 = some 2 := by kernel_rfl
theorem fd53_2 : fldI Try.prog 53 2 = some 7 := by kernel_rfl
theorem fd53_3 : fldI Try.prog 53 3 = some 8 := by kernel_rfl
theorem fd53_4 : fldI Try.prog 53 4 = some 9 := by kernel_rfl
theorem fd54_2 : fldI Try.prog 54 2 = some 7 := by kernel_rfl
theorem fd54_3 : fldI Try.prog 54 3 = some 8 := by kernel_rfl
theorem fd54_4 : fldI Try.prog 54 4 = some 9 := by kernel_rfl
theorem fd74_1 : fldI Try.prog 74 1 = some 3 := by kernel_rfl
theorem fd75_1 : fldI Try.prog 75 1 = some 3 := by kernel_rfl
theorem fd78_0 : fldI Try.prog 78 0 = some 0 := by kernel_rfl
theorem fd78_1 : fldI Try.prog 78 1 = some 1 := by kernel_rfl
theorem fd78_2 : fldI Try.prog 78 2 = some 2 := by kernel_rfl
theorem fd104_0 : fldI Try.prog 104 0 = some 0 := by kernel_rfl
theorem fd104_1 : fldI Try.prog 104 1 = some 1 := by kernel_rfl
theorem fd104_2 : fldI Try.prog 104 2 = some 2 := by kernel_rfl
theorem fd105_0 : fldI Try.prog 105 0 = some 0 := by kernel_rfl
theorem fd105_1 : fldI Try.prog 105 1 = some 1 := by kernel_rfl
theorem fd105_2 : fldI Try.prog 105 2 = some 2 := by kernel_rfl
theorem fd107_0 : fldI Try.prog 107 0 = some 0 := by kernel_rfl
theorem fd107_1 : fldI Try.prog 107 1 = some 1 := by kernel_rfl
theorem fd107_2 : fldI Try.prog 107 2 = some 2 := by kernel_rfl
theorem fd140_0 : fldI Try.prog 140 0 = some 0 := by kernel_rfl
theorem fd140_1 : fldI Try.prog 140 1 = some 1 := by kernel_rfl
theorem fd141_0 : fldI Try.prog 141 0 = some 0 := by kernel_rfl
theorem fd141_1 : fldI Try.prog 141 1 = some 1 := by kernel_rfl
theorem fd161_3 : fldI Try.prog 161 3 = some 3 := by kernel_rfl
theorem fd162_3 : fldI Try.prog 162 3 = some 3 := by kernel_rfl
theorem fd174_0 : fldI Try.prog 174 0 = some 0 := by kernel_rfl
theorem fd174_1 : fldI Try.prog 174 1 = some 1 := by kernel_rfl
theorem fd174_2 : fldI Try.prog 174 2 = some 2 := by kernel_rfl
theorem fd174_3 : fldI Try.prog 174 3 = some 3 := by kernel_rfl
theorem fd174_4 : fldI Try.prog 174 4 = some 4 := by kernel_rfl
theorem fd174_5 : fldI Try.prog 174 5 = some 5 := by kernel_rfl
theorem fd174_6 : fldI Try.prog 174 6 = some 6 := by kernel_rfl
theorem fd174_9 : fldI Try.prog 174 9 = some 9 := by kernel_rfl
theorem fd174_10 : fldI Try.prog 174 10 = some 10 := by kernel_rfl
theorem fd175_0 : fldI Try.prog 175 0 = some 0 := by kernel_rfl
theorem fd175_1 : fldI Try.prog 175 1 = some 1 := by kernel_rfl
theorem fd175_2 : fldI Try.prog 175 2 = some 2 := by kernel_rfl
theorem fd175_3 : fldI Try.prog 175 3 = some 3 := by kernel_rfl
theorem fd175_4 : fldI Try.prog 175 4 = some 4 := by kernel_rfl
theorem fd175_5 : fldI Try.prog 175 5 = some 5 := by kernel_rfl
theorem fd175_6 : fldI Try.prog 175 6 = some 6 := by kernel_rfl
theorem fd175_9 : fldI Try.prog 175 9 = some 9 := by kernel_rfl
theorem fd175_10 : fldI Try.prog 175 10 = some 10 := by kernel_rfl
theorem tys : (tyI Try.prog 2 = { tk := .int .i64, agg := false, sz := 1, bytes := 8, zero := [.int .i64 0], ek := 1 }) ∧ (tyI Try.prog 3 = { tk := .int .i64, agg := false, sz := 1, bytes := 8, zero := [.int .i64 0], ek := 1 }) ∧ (tyI Try.prog 4 = { tk := .bool, agg := false, sz := 1, bytes := 1, zero := [.bool false], ek := 2 }) ∧ (tyI Try.prog 5 = { tk := .int .u8, agg := false, sz := 1, bytes := 1, zero := [.int .u8 0], ek := 3 }) ∧ (tyI Try.prog 7 = { tk := .struct [(0, 1), (1, 1), (2, 1), (3, 1)], agg := true, sz := 4, bytes := 24, zero := [.int .i64 0, .int .i64 0, .bool false, .int .u8 0], ek := 0 }) ∧ (tyI Try.prog 9 = { tk := .str, agg := false, sz := 1, bytes := 16, zero := [.str ⟨#[]⟩], ek := 4 }) ∧ (tyI Try.prog 12 = { tk := .int .u64, agg := false, sz := 1, bytes := 8, zero := [.int .u64 0], ek := 0 }) ∧ (tyI Try.prog 13 = { tk := .struct [(0, 1), (1, 1)], agg := true, sz := 2, bytes := 24, zero := [.str ⟨#[]⟩, .int .u64 0], ek := 0 }) ∧ (tyI Try.prog 17 = { tk := .other, agg := false, sz := 1, bytes := 8, zero := [.any], ek := 0 }) ∧ (tyI Try.prog 21 = { tk := .int .i32, agg := false, sz := 1, bytes := 4, zero := [.int .i32 0], ek := 0 }) ∧ (tyI Try.prog 22 = { tk := .slice 5, agg := false, sz := 1, bytes := 24, zero := [.emp], ek := 0 }) ∧ (tyI Try.prog 23 = { tk := .slice 3, agg := false, sz := 1, bytes := 24, zero := [.emp], ek := 0 }) ∧ (tyI Try.prog 24 = { tk := .struct [(0, 1), (1, 1), (2, 1)], agg := true, sz := 3, bytes := 72, zero := [.emp, .emp, .emp], ek := 0 }) ∧ (tyI Try.prog 25 = { tk := .struct [(0, 1), (1, 1), (2, 1)], agg := true, sz := 3, bytes := 72, zero := [.emp, .emp, .emp], ek := 0 }) ∧ (tyI Try.prog 26 = { tk := .struct [(0, 3), (3, 1)], agg := true, sz := 4, bytes := 96, zero := [.emp, .emp, .emp, .emp], ek := 0 }) ∧ (tyI Try.prog 27 = { tk := .struct [(0, 3), (3, 1)], agg := true, sz := 4, bytes := 96, zero := [.emp, .emp, .emp, .emp], ek := 0 }) ∧ (tyI Try.prog 28 = { tk := .struct [(0, 4), (4, 1)], agg := true, sz := 5, bytes := 120, zero := [.emp, .emp, .emp, .emp, .emp], ek := 0 }) ∧ (tyI Try.prog 29 = { tk := .struct [(0, 4), (4, 1)], agg := true, sz := 5, bytes := 120, zero := [.emp, .emp, .emp, .emp, .emp], ek := 0 }) ∧ (tyI Try.prog 33 = { tk := .slice 4, agg := false, sz := 1, bytes := 24, zero := [.emp], ek := 0 }) ∧ (tyI Try.prog 44 = { tk := .struct [(0, 1), (1, 1), (2, 1)], agg := true, sz := 3, bytes := 72, zero := [.emp, .emp, .emp], ek := 0 }) ∧ (tyI Try.prog 45 = { tk := .struct [(0, 3), (3, 1)], agg := true, sz := 4, bytes := 96, zero := [.emp, .emp, .emp, .emp], ek := 0 }) ∧ (tyI Try.prog 46 = { tk := .struct [(0, 3), (3, 1)], agg := true, sz := 4, bytes := 96, zero := [.emp, .emp, .emp, .emp], ek := 0 }) ∧ (tyI Try.prog 47 = { tk := .slice 107, agg := false, sz := 1, bytes := 24, zero := [.emp], ek := 0 }) ∧ (tyI Try.prog 50 = { tk := .struct [(0, 1), (1, 1), (2, 1)], agg := true, sz := 3, bytes := 40, zero := [.int .i64 0, .emp, .int .i64 0], ek := 0 }) ∧ (tyI Try.prog 51 = { tk := .struct [(0, 1), (1, 1), (2, 1)], agg := true, sz := 3, bytes := 40, zero := [.int .i64 0, .emp, .int .i64 0], ek := 0 }) ∧ (tyI Try.prog 52 = { tk := .slice 105, agg := false, sz := 1, bytes := 24, zero := [.emp], ek := 0 }) ∧ (tyI Try.prog 53 = { tk := .struct [(0, 4), (4, 3), (7, 1), (8, 1), (9, 1)], agg := true, sz := 10, bytes := 176, zero := [.emp, .emp, .emp, .emp, .int .i64 0, .emp, .int .i64 0, .emp, .int .i64 0, .bool false], ek := 0 }) ∧ (tyI Try.prog 54 = { tk := .struct [(0, 4), (4, 3), (7, 1), (8, 1), (9, 1)], agg := true, sz := 10, bytes := 176, zero := [.emp, .emp, .emp, .emp, .int .i64 0, .emp, .int .i64 0, .emp, .int .i64 0, .bool false], ek := 0 }) ∧ (tyI Try.prog 74 = { tk := .struct [(0, 3), (3, 1)], agg := true, sz := 4, bytes := 96, zero := [.emp, .emp, .emp, .emp], ek := 0 }) ∧ (tyI Try.prog 75 = { tk := .struct [(0, 3), (3, 1)], agg := true, sz := 4, bytes := 96, zero := [.emp, .emp, .emp, .emp], ek := 0 }) ∧ (tyI Try.prog 78 = { tk := .struct [(0, 1), (1, 1), (2, 1)], agg := true, sz := 3, bytes := 40, zero := [.int .i64 0, .emp, .int .i64 0], ek := 0 }) ∧ (tyI Try.prog 104 = { tk := .struct [(0, 1), (1, 1), (2, 1)], agg := true, sz := 3, bytes := 24, zero := [.int .i64 0, .int .i64 0, .int .i64 0], ek := 5 }) ∧ (tyI Try.prog 105 = { tk := .struct [(0, 1), (1, 1), (2, 1)], agg := true, sz := 3, bytes := 24, zero := [.int .i64 0, .int .i64 0, .int .i64 0], ek := 5 }) ∧ (tyI Try.prog 107 = { tk := .struct [(0, 1), (1, 1), (2, 1)], agg := true, sz := 3, bytes := 24, zero := [.int .i64 0, .int .i64 0, .int .i64 0], ek := 5 }) ∧ (tyI Try.prog 121 = { tk := .other, agg := false, sz := 1, bytes := 8, zero := [.any], ek := 0 }) ∧ (tyI Try.prog 126 = { tk := .slice 23, agg := false, sz := 1, bytes := 24, zero := [.emp], ek := 0 }) ∧ (tyI Try.prog 128 = { tk := .other, agg := false, sz := 1, bytes := 8, zero := [.any], ek := 0 }) ∧ (tyI Try.prog 134 = { tk := .other, agg := false, sz := 1, bytes := 8, zero := [.any], ek := 0 }) ∧ (tyI Try.prog 140 = { tk := .struct [(0, 1), (1, 1)], agg := true, sz := 2, bytes := 32, zero := [.emp, .int .i64 0], ek := 0 }) ∧ (tyI Try.prog 141 = { tk := .struct [(0, 1), (1, 1)], agg := true, sz := 2, bytes := 32, zero := [.emp, .int .i64 0], ek := 0 }) ∧ (tyI Try.prog 156 = { tk := .slice 9, agg := false, sz := 1, bytes := 24, zero := [.emp], ek := 0 }) ∧ (tyI Try.prog 167 = { tk := .int .u32, agg := false, sz := 1, bytes := 4, zero := [.int .u32 0], ek := 0 }) ∧ (tyI Try.prog 171 = { tk := .other, agg := false, sz := 1, bytes := 8, zero := [.any], ek := 0 }) ∧ (tyI Try.prog 178 = { tk := .int .u64, agg := false, sz := 1, bytes := 8, zero := [.int .u64 0], ek := 0 }) ∧ (fldI Try.prog 7 0 = some 0) ∧ (fldI Try.prog 7 1 = some 1) ∧ (fldI Try.prog 7 2 = some 2) ∧ (fldI Try.prog 7 3 = some 3) ∧ (fldI Try.prog 8 0 = some 0) ∧ (fldI Try.prog 8 1 = some 1) ∧ (fldI Try.prog 8 2 = some 2) ∧ (fldI Try.prog 8 3 = some 3) ∧ (fldI Try.prog 13 0 = some 0) ∧ (fldI Try.prog 13 1 = some 1) ∧ (fldI Try.prog 14 0 = some 0) ∧ (fldI Try.prog 14 1 = some 1) ∧ (fldI Try.prog 24 0 = some 0) ∧ (fldI Try.prog 24 1 = some 1) ∧ (fldI Try.prog 24 2 = some 2) ∧ (fldI Try.prog 25 0 = some 0) ∧ (fldI Try.prog 25 1 = some 1) ∧ (fldI Try.prog 25 2 = some 2) ∧ (fldI Try.prog 26 1 = some 3) ∧ (fldI Try.prog 27 1 = some 3) ∧ (fldI Try.prog 28 1 = some 4) ∧ (fldI Try.prog 29 1 = some 4) ∧ (fldI Try.prog 44 0 = some 0) ∧ (fldI Try.prog 44 1 = some 1) ∧ (fldI Try.prog 44 2 = some 2) ∧ (fldI Try.prog 45 1 = some 3) ∧ (fldI Try.prog 46 1 = some 3) ∧ (fldI Try.prog 50 0 = some 0) ∧ (fldI Try.prog 50 1 = some 1) ∧ (fldI Try.prog 50 2 = some 2) ∧ (fldI Try.prog 51 0 = some 0) ∧ (fldI Try.prog 51 1 = some 1) ∧ (fldI Try.prog 51 2 = some 2) ∧ (fldI Try.prog 53 2 = some 7) ∧ (fldI Try.prog 53 3 = some 8) ∧ (fldI Try.prog 53 4 = some 9) ∧ (fldI Try.prog 54 2 = some 7) ∧ (fldI Try.prog 54 3 = some 8) ∧ (fldI Try.prog 54 4 = some 9) ∧ (fldI Try.prog 74 1 = some 3) ∧ (fldI Try.prog 75 1 = some 3) ∧ (fldI Try.prog 78 0 = some 0) ∧ (fldI Try.prog 78 1 = some 1) ∧ (fldI Try.prog 78 2 = some 2) ∧ (fldI Try.prog 104 0 = some 0) ∧ (fldI Try.prog 104 1 = some 1) ∧ (fldI Try.prog 104 2 = some 2) ∧ (fldI Try.prog 105 0 = some 0) ∧ (fldI Try.prog 105 1 = some 1) ∧ (fldI Try.prog 105 2 = some 2) ∧ (fldI Try.prog 107 0 = some 0) ∧ (fldI Try.prog 107 1 = some 1) ∧ (fldI Try.prog 107 2 = some 2) ∧ (fldI Try.prog 140 0 = some 0) ∧ (fldI Try.prog 140 1 = some 1) ∧ (fldI Try.prog 141 0 = some 0) ∧ (fldI Try.prog 141 1 = some 1) ∧ (fldI Try.prog 161 3 = some 3) ∧ (fldI Try.prog 162 3 = some 3) ∧ (fldI Try.prog 174 0 = some 0) ∧ (fldI Try.prog 174 1 = some 1) ∧ (fldI Try.prog 174 2 = some 2) ∧ (fldI Try.prog 174 3 = some 3) ∧ (fldI Try.prog 174 4 = some 4) ∧ (fldI Try.prog 174 5 = some 5) ∧ (fldI Try.prog 174 6 = some 6) ∧ (fldI Try.prog 174 9 = some 9) ∧ (fldI Try.prog 174 10 = some 10) ∧ (fldI Try.prog 175 0 = some 0) ∧ (fldI Try.prog 175 1 = some 1) ∧ (fldI Try.prog 175 2 = some 2) ∧ (fldI Try.prog 175 3 = some 3) ∧ (fldI Try.prog 175 4 = some 4) ∧ (fldI Try.prog 175 5 = some 5) ∧ (fldI Try.prog 175 6 = some 6) ∧ (fldI Try.prog 175 9 = some 9) ∧ (fldI Try.prog 175 10 = some 10) := ⟨ty2, ty3, ty4, ty5, ty7, ty9, ty12, ty13, ty17, ty21, ty22, ty23, ty24, ty25, ty26, ty27, ty28, ty29, ty33, ty44, ty45, ty46, ty47, ty50, ty51, ty52, ty53, ty54, ty74, ty75, ty78, ty104, ty105, ty107, ty121, ty126, ty128, ty134, ty140, ty141, ty156, ty167, ty171, ty178, fd7_0, fd7_1, fd7_2, fd7_3, fd8_0, fd8_1, fd8_2, fd8_3, fd13_0, fd13_1, fd14_0, fd14_1, fd24_0, fd24_1, fd24_2, fd25_0, fd25_1, fd25_2, fd26_1, fd27_1, fd28_1, fd29_1, fd44_0, fd44_1, fd44_2, fd45_1, fd46_1, fd50_0, fd50_1, fd50_2, fd51_0, fd51_1, fd51_2, fd53_2, fd53_3, fd53_4, fd54_2, fd54_3, fd54_4, fd74_1, fd75_1, fd78_0, fd78_1, fd78_2, fd104_0, fd104_1, fd104_2, fd105_0, fd105_1, fd105_2, fd107_0, fd107_1, fd107_2, fd140_0, fd140_1, fd141_0, fd141_1, fd161_3, fd162_3, fd174_0, fd174_1, fd174_2, fd174_3, fd174_4, fd174_5, fd174_6, fd174_9, fd174_10, fd175_0, fd175_1, fd175_2, fd175_3, fd175_4, fd175_5, fd175_6, fd175_9, fd175_10⟩

end Go.Proofs.Ytdkdepfgilbkeaa.S
