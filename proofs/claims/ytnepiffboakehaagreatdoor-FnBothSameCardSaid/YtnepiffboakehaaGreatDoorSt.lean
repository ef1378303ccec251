/- What the symbolic steps need of the translation's types: printed by gentys.py of this session, checked by the kernel. -/
import Derived.Test.YtnepiffboakehaaGreatDoorA2
import Derived.Test.YtnepiffboakehaaGreatDoorProg
namespace Go.Proofs.YtnepiffboakehaaGreatDoor.S
set_option linter.all false
open Go Go.Proofs

theorem ty2 : tyI Tryz.prog 2 = { tk := .int .i64, agg := false, sz := 1, bytes := 8, zero := [.int .i64 0], ek := 1 } := by kernel_rfl
theorem ty3 : tyI Tryz.prog 3 = { tk := .int .i64, agg := false, sz := 1, bytes := 8, zero := [.int .i64 0], ek := 1 } := by kernel_rfl
theorem ty4 : tyI Tryz.prog 4 = { tk := .bool, agg := false, sz := 1, bytes := 1, zero := [.bool false], ek := 2 } := by kernel_rfl
theorem ty5 : tyI Tryz.prog 5 = { tk := .int .u8, agg := false, sz := 1, bytes := 1, zero := [.int .u8 0], ek := 3 } := by kernel_rfl
theorem ty7 : tyI Tryz.prog 7 = { tk := .struct [(0, 1), (1, 1), (2, 1), (3, 1)], agg := true, sz := 4, bytes := 24, zero := [.int .i64 0, .int .i64 0, .bool false, .int .u8 0], ek := 0 } := by kernel_rfl
theorem ty9 : tyI Tryz.prog 9 = { tk := .str, agg := false, sz := 1, bytes := 16, zero := [.str ⟨#[]⟩], ek := 4 } := by kernel_rfl
theorem ty12 : tyI Tryz.prog 12 = { tk := .int .u64, agg := false, sz := 1, bytes := 8, zero := [.int .u64 0], ek := 0 } := by kernel_rfl
theorem ty13 : tyI Tryz.prog 13 = { tk := .struct [(0, 1), (1, 1)], agg := true, sz := 2, bytes := 24, zero := [.str ⟨#[]⟩, .int .u64 0], ek := 0 } := by kernel_rfl
theorem ty17 : tyI Tryz.prog 17 = { tk := .other, agg := false, sz := 1, bytes := 8, zero := [.any], ek := 0 } := by kernel_rfl
theorem ty21 : tyI Tryz.prog 21 = { tk := .int .i32, agg := false, sz := 1, bytes := 4, zero := [.int .i32 0], ek := 0 } := by kernel_rfl
theorem ty22 : tyI Tryz.prog 22 = { tk := .slice 5, agg := false, sz := 1, bytes := 24, zero := [.emp], ek := 0 } := by kernel_rfl
theorem ty23 : tyI Tryz.prog 23 = { tk := .slice 3, agg := false, sz := 1, bytes := 24, zero := [.emp], ek := 0 } := by kernel_rfl
theorem ty24 : tyI Tryz.prog 24 = { tk := .struct [(0, 1), (1, 1), (2, 1)], agg := true, sz := 3, bytes := 72, zero := [.emp, .emp, .emp], ek := 0 } := by kernel_rfl
theorem ty25 : tyI Tryz.prog 25 = { tk := .struct [(0, 1), (1, 1), (2, 1)], agg := true, sz := 3, bytes := 72, zero := [.emp, .emp, .emp], ek := 0 } := by kernel_rfl
theorem ty26 : tyI Tryz.prog 26 = { tk := .struct [(0, 3), (3, 1)], agg := true, sz := 4, bytes := 96, zero := [.emp, .emp, .emp, .emp], ek := 0 } := by kernel_rfl
theorem ty27 : tyI Tryz.prog 27 = { tk := .struct [(0, 3), (3, 1)], agg := true, sz := 4, bytes := 96, zero := [.emp, .emp, .emp, .emp], ek := 0 } := by kernel_rfl
theorem ty28 : tyI Tryz.prog 28 = { tk := .struct [(0, 1), (1, 1), (2, 1)], agg := true, sz := 3, bytes := 40, zero := [.int .i64 0, .emp, .int .i64 0], ek := 0 } := by kernel_rfl
theorem ty29 : tyI Tryz.prog 29 = { tk := .struct [(0, 1), (1, 1), (2, 1)], agg := true, sz := 3, bytes := 40, zero := [.int .i64 0, .emp, .int .i64 0], ek := 0 } := by kernel_rfl
theorem ty30 : tyI Tryz.prog 30 = { tk := .slice 62, agg := false, sz := 1, bytes := 24, zero := [.emp], ek := 0 } := by kernel_rfl
theorem ty31 : tyI Tryz.prog 31 = { tk := .struct [(0, 4), (4, 3), (7, 1), (8, 1), (9, 1)], agg := true, sz := 10, bytes := 176, zero := [.emp, .emp, .emp, .emp, .int .i64 0, .emp, .int .i64 0, .emp, .int .i64 0, .bool false], ek := 0 } := by kernel_rfl
theorem ty32 : tyI Tryz.prog 32 = { tk := .struct [(0, 4), (4, 3), (7, 1), (8, 1), (9, 1)], agg := true, sz := 10, bytes := 176, zero := [.emp, .emp, .emp, .emp, .int .i64 0, .emp, .int .i64 0, .emp, .int .i64 0, .bool false], ek := 0 } := by kernel_rfl
theorem ty52 : tyI Tryz.prog 52 = { tk := .other, agg := false, sz := 1, bytes := 8, zero := [.any], ek := 0 } := by kernel_rfl
theorem ty61 : tyI Tryz.prog 61 = { tk := .struct [(0, 1), (1, 1), (2, 1)], agg := true, sz := 3, bytes := 24, zero := [.int .i64 0, .int .i64 0, .int .i64 0], ek := 5 } := by kernel_rfl
theorem ty62 : tyI Tryz.prog 62 = { tk := .struct [(0, 1), (1, 1), (2, 1)], agg := true, sz := 3, bytes := 24, zero := [.int .i64 0, .int .i64 0, .int .i64 0], ek := 5 } := by kernel_rfl
theorem ty73 : tyI Tryz.prog 73 = { tk := .slice 4, agg := false, sz := 1, bytes := 24, zero := [.emp], ek := 0 } := by kernel_rfl
theorem ty78 : tyI Tryz.prog 78 = { tk := .slice 9, agg := false, sz := 1, bytes := 24, zero := [.emp], ek := 0 } := by kernel_rfl
theorem ty80 : tyI Tryz.prog 80 = { tk := .struct [(0, 1), (1, 1)], agg := true, sz := 2, bytes := 32, zero := [.emp, .int .i64 0], ek := 0 } := by kernel_rfl
theorem ty81 : tyI Tryz.prog 81 = { tk := .struct [(0, 1), (1, 1)], agg := true, sz := 2, bytes := 32, zero := [.emp, .int .i64 0], ek := 0 } := by kernel_rfl
theorem ty97 : tyI Tryz.prog 97 = { tk := .other, agg := false, sz := 1, bytes := 8, zero := [.any], ek := 0 } := by kernel_rfl
theorem ty110 : tyI Tryz.prog 110 = { tk := .slice 23, agg := false, sz := 1, bytes := 24, zero := [.emp], ek := 0 } := by kernel_rfl
theorem ty135 : tyI Tryz.prog 135 = { tk := .struct [(0, 3), (3, 1)], agg := true, sz := 4, bytes := 96, zero := [.emp, .emp, .emp, .emp], ek := 0 } := by kernel_rfl
theorem ty136 : tyI Tryz.prog 136 = { tk := .struct [(0, 3), (3, 1)], agg := true, sz := 4, bytes := 96, zero := [.emp, .emp, .emp, .emp], ek := 0 } := by kernel_rfl
theorem ty145 : tyI Tryz.prog 145 = { tk := .other, agg := false, sz := 1, bytes := 8, zero := [.any], ek := 0 } := by kernel_rfl
theorem ty154 : tyI Tryz.prog 154 = { tk := .int .u64, agg := false, sz := 1, bytes := 8, zero := [.int .u64 0], ek := 0 } := by kernel_rfl
theorem ty161 : tyI Tryz.prog 161 = { tk := .int .u64, agg := false, sz := 1, bytes := 8, zero := [.int .u64 0], ek := 0 } := by kernel_rfl
theorem ty162 : tyI Tryz.prog 162 = { tk := .struct [(0, 1), (1, 1)], agg := true, sz := 2, bytes := 2, zero := [.int .u8 0, .int .u8 0], ek := 0 } := by kernel_rfl
theorem ty163 : tyI Tryz.prog 163 = { tk := .struct [(0, 1), (1, 1)], agg := true, sz := 2, bytes := 2, zero := [.int .u8 0, .int .u8 0], ek := 0 } := by kernel_rfl
theorem ty170 : tyI Tryz.prog 170 = { tk := .int .u32, agg := false, sz := 1, bytes := 4, zero := [.int .u32 0], ek := 0 } := by kernel_rfl
theorem ty186 : tyI Tryz.prog 186 = { tk := .other, agg := false, sz := 1, bytes := 8, zero := [.any], ek := 0 } := by kernel_rfl
theorem fd7_0 : fldI Tryz.prog 7 0 = some 0 := by kernel_rfl
theorem fd7_1 : fldI Tryz.prog 7 1 = some 1 := by kernel_rfl
theorem fd7_2 : fldI Tryz.prog 7 2 = some 2 := by kernel_rfl
theorem fd7_3 : fldI Tryz.prog 7 3 = some 3 := by kernel_rfl
theorem fd8_0 : fldI Tryz.prog 8 0 = some 0 := by kernel_rfl
theorem fd8_1 : fldI Tryz.prog 8 1 = some 1 := by kernel_rfl
theorem fd8_2 : fldI Tryz.prog 8 2 = some 2 := by kernel_rfl
theorem fd8_3 : fldI Tryz.prog 8 3 = some 3 := by kernel_rfl
theorem fd13_0 : fldI Tryz.prog 13 0 = some 0 := by kernel_rfl
theorem fd13_1 : fldI Tryz.prog 13 1 = some 1 := by kernel_rfl
theorem fd14_0 : fldI Tryz.prog 14 0 = some 0 := by kernel_rfl
theorem fd14_1 : fldI Tryz.prog 14 1 = some 1 := by kernel_rfl
theorem fd24_0 : fldI Tryz.prog 24 0 = some 0 := by kernel_rfl
theorem fd24_1 : fldI Tryz.prog 24 1 = some 1 := by kernel_rfl
theorem fd24_2 : fldI Tryz.prog 24 2 = some 2 := by kernel_rfl
theorem fd25_0 : fldI Tryz.prog 25 0 = some 0 := by kernel_rfl
theorem fd25_1 : fldI Tryz.prog 25 1 = some 1 := by kernel_rfl
theorem fd25_2 : fldI Tryz.prog 25 2 = some 2 := by kernel_rfl
theorem fd26_1 : fldI Tryz.prog 26 1 = some 3 := by kernel_rfl
theorem fd27_1 : fldI Tryz.prog 27 1 = some 3 := by kernel_rfl
theorem fd28_0 : fldI Tryz.prog 28 0 = some 0 := by kernel_rfl
theorem fd28_1 : fldI Tryz.prog 28 1 = some 1 := by kernel_rfl
theorem fd28_2 : fldI Tryz.prog 28 2 = some 2 := by kernel_rfl
theorem fd29_0 : fldI Tryz.prog 29 0 = some 0 := by kernel_rfl
theorem fd29_1 : fldI Tryz.prog 29 1 = some 1 := by kernel_rfl
theorem fd29_2 : fldI Tryz.prog 29 2 = some 2 := by kernel_rfl
theorem fd31_2 : fldI Tryz.prog 31 2 = some 7 := by kernel_rfl
theorem fd31_3 : fldI Tryz.prog 31 3 = some 8 := by kernel_rfl
theorem fd31_4 : fldI Tryz.prog 31 4 = some 9 := by kernel_rfl
theorem fd32_2 : fldI Tryz.prog 32 2 = some 7 := by kernel_rfl
theorem fd32_3 : fldI Tryz.prog 32 3 = some 8 := by kernel_rfl
theorem fd32_4 : fldI Tryz.prog 32 4 = some 9 := by kernel_rfl
theorem fd61_0 : fldI Tryz.prog 61 0 = some 0 := by kernel_rfl
theorem fd61_1 : fldI Tryz.prog 61 1 = some 1 := by kernel_rfl
theorem fd61_2 : fldI Tryz.prog 61 2 = some 2 := by kernel_rfl
theorem fd62_0 : fldI Tryz.prog 62 0 = some 0 := by kernel_rfl
theorem fd62_1 : fldI Tryz.prog 62 1 = some 1 := by kernel_rfl
theorem fd62_2 : fldI Tryz.prog 62 2 = some 2 := by kernel_rfl
theorem fd80_0 : fldI Tryz.prog 80 0 = some 0 := by kernel_rfl
theorem fd80_1 : fldI Tryz.prog 80 1 = some 1 := by kernel_rfl
theorem fd81_0 : fldI Tryz.prog 81 0 = some 0 := by kernel_rfl
theorem fd81_1 : fldI Tryz.prog 81 1 = some 1 := by kernel_rfl
theorem fd135_1 : fldI Tryz.prog 135 1 = some 3 := by kernel_rfl
theorem fd136_1 : fldI Tryz.prog 136 1 = some 3 := by kernel_rfl
theorem fd162_0 : fldI Tryz.prog 162 0 = some 0 := by kernel_rfl
theorem fd162_1 : fldI Tryz.prog 162 1 = some 1 := by kernel_rfl
theorem fd163_0 : fldI Tryz.prog 163 0 = some 0 := by kernel_rfl
theorem fd163_1 : fldI Tryz.prog 163 1 = some 1 := by kernel_rfl
theorem fd177_3 : fldI Tryz.prog 177 3 = some 3 := by kernel_rfl
theorem fd178_3 : fldI Tryz.prog 178 3 = some 3 := by kernel_rfl
theorem fd189_0 : fldI Tryz.prog 189 0 = some 0 := by kernel_rfl
theorem fd189_1 : fldI Tryz.prog 189 1 = some 1 := by kernel_rfl
theorem fd189_2 : fldI Tryz.prog 189 2 = some 2 := by kernel_rfl
theorem fd189_3 : fldI Tryz.prog 189 3 = some 3 := by kernel_rfl
theorem fd189_4 : fldI Tryz.prog 189 4 = some 4 := by kernel_rfl
theorem fd189_5 : fldI Tryz.prog 189 5 = some 5 := by kernel_rfl
theorem fd189_6 : fldI Tryz.prog 189 6 = some 6 := by kernel_rfl
theorem fd189_9 : fldI Tryz.prog 189 9 = some 9 := by kernel_rfl
theorem fd189_10 : fldI Tryz.prog 189 10 = some 10 := by kernel_rfl
theorem fd190_0 : fldI Tryz.prog 190 0 = some 0 := by kernel_rfl
theorem fd190_1 : fldI Tryz.prog 190 1 = some 1 := by kernel_rfl
theorem fd190_2 : fldI Tryz.prog 190 2 = some 2 := by kernel_rfl
theorem fd190_3 : fldI Tryz.prog 190 3 = some 3 := by kernel_rfl
theorem fd190_4 : fldI Tryz.prog 190 4 = some 4 := by kernel_rfl
theorem fd190_5 : fldI Tryz.prog 190 5 = some 5 := by kernel_rfl
theorem fd190_6 : fldI Tryz.prog 190 6 = some 6 := by kernel_rfl
theorem fd190_9 : fldI Tryz.prog 190 9 = some 9 := by kernel_rfl
theorem fd190_10 : fldI Tryz.prog 190 10 = some 10 := by kernel_rfl
theorem eq61 : eq3Ty Tryz.prog 61 = true := by kernel_rfl
theorem eq62 : eq3Ty Tryz.prog 62 = true := by kernel_rfl
theorem tys : (tyI Tryz.prog 2 = { tk := .int .i64, agg := false, sz := 1, bytes := 8, zero := [.int .i64 0], ek := 1 }) ∧ (tyI Tryz.prog 3 = { tk := .int .i64, agg := false, sz := 1, bytes := 8, zero := [.int .i64 0], ek := 1 }) ∧ (tyI Tryz.prog 4 = { tk := .bool, agg := false, sz := 1, bytes := 1, zero := [.bool false], ek := 2 }) ∧ (tyI Tryz.prog 5 = { tk := .int .u8, agg := false, sz := 1, bytes := 1, zero := [.int .u8 0], ek := 3 }) ∧ (tyI Tryz.prog 7 = { tk := .struct [(0, 1), (1, 1), (2, 1), (3, 1)], agg := true, sz := 4, bytes := 24, zero := [.int .i64 0, .int .i64 0, .bool false, .int .u8 0], ek := 0 }) ∧ (tyI Tryz.prog 9 = { tk := .str, agg := false, sz := 1, bytes := 16, zero := [.str ⟨#[]⟩], ek := 4 }) ∧ (tyI Tryz.prog 12 = { tk := .int .u64, agg := false, sz := 1, bytes := 8, zero := [.int .u64 0], ek := 0 }) ∧ (tyI Tryz.prog 13 = { tk := .struct [(0, 1), (1, 1)], agg := true, sz := 2, bytes := 24, zero := [.str ⟨#[]⟩, .int .u64 0], ek := 0 }) ∧ (tyI Tryz.prog 17 = { tk := .other, agg := false, sz := 1, bytes := 8, zero := [.any], ek := 0 }) ∧ (tyI Tryz.prog 21 = { tk := .int .i32, agg := false, sz := 1, bytes := 4, zero := [.int .i32 0], ek := 0 }) ∧ (tyI Tryz.prog 22 = { tk := .slice 5, agg := false, sz := 1, bytes := 24, zero := [.emp], ek := 0 }) ∧ (tyI Tryz.prog 23 = { tk := .slice 3, agg := false, sz := 1, bytes := 24, zero := [.emp], ek := 0 }) ∧ (tyI Tryz.prog 24 = { tk := .struct [(0, 1), (1, 1), (2, 1)], agg := true, sz := 3, bytes := 72, zero := [.emp, .emp, .emp], ek := 0 }) ∧ (tyI Tryz.prog 25 = { tk := .struct [(0, 1), (1, 1), (2, 1)], agg := true, sz := 3, bytes := 72, zero := [.emp, .emp, .emp], ek := 0 }) ∧ (tyI Tryz.prog 26 = { tk := .struct [(0, 3), (3, 1)], agg := true, sz := 4, bytes := 96, zero := [.emp, .emp, .emp, .emp], ek := 0 }) ∧ (tyI Tryz.prog 27 = { tk := .struct [(0, 3), (3, 1)], agg := true, sz := 4, bytes := 96, zero := [.emp, .emp, .emp, .emp], ek := 0 }) ∧ (tyI Tryz.prog 28 = { tk := .struct [(0, 1), (1, 1), (2, 1)], agg := true, sz := 3, bytes := 40, zero := [.int .i64 0, .emp, .int .i64 0], ek := 0 }) ∧ (tyI Tryz.prog 29 = { tk := .struct [(0, 1), (1, 1), (2, 1)], agg := true, sz := 3, bytes := 40, zero := [.int .i64 0, .emp, .int .i64 0], ek := 0 }) ∧ (tyI Tryz.prog 30 = { tk := .slice 62, agg := false, sz := 1, bytes := 24, zero := [.emp], ek := 0 }) ∧ (tyI Tryz.prog 31 = { tk := .struct [(0, 4), (4, 3), (7, 1), (8, 1), (9, 1)], agg := true, sz := 10, bytes := 176, zero := [.emp, .emp, .emp, .emp, .int .i64 0, .emp, .int .i64 0, .emp, .int .i64 0, .bool false], ek := 0 }) ∧ (tyI Tryz.prog 32 = { tk := .struct [(0, 4), (4, 3), (7, 1), (8, 1), (9, 1)], agg := true, sz := 10, bytes := 176, zero := [.emp, .emp, .emp, .emp, .int .i64 0, .emp, .int .i64 0, .emp, .int .i64 0, .bool false], ek := 0 }) ∧ (tyI Tryz.prog 52 = { tk := .other, agg := false, sz := 1, bytes := 8, zero := [.any], ek := 0 }) ∧ (tyI Tryz.prog 61 = { tk := .struct [(0, 1), (1, 1), (2, 1)], agg := true, sz := 3, bytes := 24, zero := [.int .i64 0, .int .i64 0, .int .i64 0], ek := 5 }) ∧ (tyI Tryz.prog 62 = { tk := .struct [(0, 1), (1, 1), (2, 1)], agg := true, sz := 3, bytes := 24, zero := [.int .i64 0, .int .i64 0, .int .i64 0], ek := 5 }) ∧ (tyI Tryz.prog 73 = { tk := .slice 4, agg := false, sz := 1, bytes := 24, zero := [.emp], ek := 0 }) ∧ (tyI Tryz.prog 78 = { tk := .slice 9, agg := false, sz := 1, bytes := 24, zero := [.emp], ek := 0 }) ∧ (tyI Tryz.prog 80 = { tk := .struct [(0, 1), (1, 1)], agg := true, sz := 2, bytes := 32, zero := [.emp, .int .i64 0], ek := 0 }) ∧ (tyI Tryz.prog 81 = { tk := .struct [(0, 1), (1, 1)], agg := true, sz := 2, bytes := 32, zero := [.emp, .int .i64 0], ek := 0 }) ∧ (tyI Tryz.prog 97 = { tk := .other, agg := false, sz := 1, bytes := 8, zero := [.any], ek := 0 }) ∧ (tyI Tryz.prog 110 = { tk := .slice 23, agg := false, sz := 1, bytes := 24, zero := [.emp], ek := 0 }) ∧ (tyI Tryz.prog 135 = { tk := .struct [(0, 3), (3, 1)], agg := true, sz := 4, bytes := 96, zero := [.emp, .emp, .emp, .emp], ek := 0 }) ∧ (tyI Tryz.prog 136 = { tk := .struct [(0, 3), (3, 1)], agg := true, sz := 4, bytes := 96, zero := [.emp, .emp, .emp, .emp], ek := 0 }) ∧ (tyI Tryz.prog 145 = { tk := .other, agg := false, sz := 1, bytes := 8, zero := [.any], ek := 0 }) ∧ (tyI Tryz.prog 154 = { tk := .int .u64, agg := false, sz := 1, bytes := 8, zero := [.int .u64 0], ek := 0 }) ∧ (tyI Tryz.prog 161 = { tk := .int .u64, agg := false, sz := 1, bytes := 8, zero := [.int .u64 0], ek := 0 }) ∧ (tyI Tryz.prog 162 = { tk := .struct [(0, 1), (1, 1)], agg := true, sz := 2, bytes := 2, zero := [.int .u8 0, .int .u8 0], ek := 0 }) ∧ (tyI Tryz.prog 163 = { tk := .struct [(0, 1), (1, 1)], agg := true, sz := 2, bytes := 2, zero := [.int .u8 0, .int .u8 0], ek := 0 }) ∧ (tyI Tryz.prog 170 = { tk := .int .u32, agg := false, sz := 1, bytes := 4, zero := [.int .u32 0], ek := 0 }) ∧ (tyI Tryz.prog 186 = { tk := .other, agg := false, sz := 1, bytes := 8, zero := [.any], ek := 0 }) ∧ (fldI Tryz.prog 7 0 = some 0) ∧ (fldI Tryz.prog 7 1 = some 1) ∧ (fldI Tryz.prog 7 2 = some 2) ∧ (fldI Tryz.prog 7 3 = some 3) ∧ (fldI Tryz.prog 8 0 = some 0) ∧ (fldI Tryz.prog 8 1 = some 1) ∧ (fldI Tryz.prog 8 2 = some 2) ∧ (fldI Tryz.prog 8 3 = some 3) ∧ (fldI Tryz.prog 13 0 = some 0) ∧ (fldI Tryz.prog 13 1 = some 1) ∧ (fldI Tryz.prog 14 0 = some 0) ∧ (fldI Tryz.prog 14 1 = some 1) ∧ (fldI Tryz.prog 24 0 = some 0) ∧ (fldI Tryz.prog 24 1 = some 1) ∧ (fldI Tryz.prog 24 2 = some 2) ∧ (fldI Tryz.prog 25 0 = some 0) ∧ (fldI Tryz.prog 25 1 = some 1) ∧ (fldI Tryz.prog 25 2 = some 2) ∧ (fldI Tryz.prog 26 1 = some 3) ∧ (fldI Tryz.prog 27 1 = some 3) ∧ (fldI Tryz.prog 28 0 = some 0) ∧ (fldI Tryz.prog 28 1 = some 1) ∧ (fldI Tryz.prog 28 2 = some 2) ∧ (fldI Tryz.prog 29 0 = some 0) ∧ (fldI Tryz.prog 29 1 = some 1) ∧ (fldI Tryz.prog 29 2 = some 2) ∧ (fldI Tryz.prog 31 2 = some 7) ∧ (fldI Tryz.prog 31 3 = some 8) ∧ (fldI Tryz.prog 31 4 = some 9) ∧ (fldI Tryz.prog 32 2 = some 7) ∧ (fldI Tryz.prog 32 3 = some 8) ∧ (fldI Tryz.prog 32 4 = some 9) ∧ (fldI Tryz.prog 61 0 = some 0) ∧ (fldI Tryz.prog 61 1 = some 1) ∧ (fldI Tryz.prog 61 2 = some 2) ∧ (fldI Tryz.prog 62 0 = some 0) ∧ (fldI Tryz.prog 62 1 = some 1) ∧ (fldI Tryz.prog 62 2 = some 2) ∧ (fldI Tryz.prog 80 0 = some 0) ∧ (fldI Tryz.prog 80 1 = some 1) ∧ (fldI Tryz.prog 81 0 = some 0) ∧ (fldI Tryz.prog 81 1 = some 1) ∧ (fldI Tryz.prog 135 1 = some 3) ∧ (fldI Tryz.prog 136 1 = some 3) ∧ (fldI Tryz.prog 162 0 = some 0) ∧ (fldI Tryz.prog 162 1 = some 1) ∧ (fldI Tryz.prog 163 0 = some 0) ∧ (fldI Tryz.prog 163 1 = some 1) ∧ (fldI Tryz.prog 177 3 = some 3) ∧ (fldI Tryz.prog 178 3 = some 3) ∧ (fldI Tryz.prog 189 0 = some 0) ∧ (fldI Tryz.prog 189 1 = some 1) ∧ (fldI Tryz.prog 189 2 = some 2) ∧ (fldI Tryz.prog 189 3 = some 3) ∧ (fldI Tryz.prog 189 4 = some 4) ∧ (fldI Tryz.prog 189 5 = some 5) ∧ (fldI Tryz.prog 189 6 = some 6) ∧ (fldI Tryz.prog 189 9 = some 9) ∧ (fldI Tryz.prog 189 10 = some 10) ∧ (fldI Tryz.prog 190 0 = some 0) ∧ (fldI Tryz.prog 190 1 = some 1) ∧ (fldI Tryz.prog 190 2 = some 2) ∧ (fldI Tryz.prog 190 3 = some 3) ∧ (fldI Tryz.prog 190 4 = some 4) ∧ (fldI Tryz.prog 190 5 = some 5) ∧ (fldI Tryz.prog 190 6 = some 6) ∧ (fldI Tryz.prog 190 9 = some 9) ∧ (fldI Tryz.prog 190 10 = some 10) ∧ (eq3Ty Tryz.prog 61 = true) ∧ (eq3Ty Tryz.prog 62 = true) := ⟨ty2, ty3, ty4, ty5, ty7, ty9, ty12, ty13, ty17, ty21, ty22, ty23, ty24, ty25, ty26, ty27, ty28, ty29, ty30, ty31, ty32, ty52, ty61, ty62, ty73, ty78, ty80, ty81, ty97, ty110, ty135, ty136, ty145, ty154, ty161, ty162, ty163, ty170, ty186, fd7_0, fd7_1, fd7_2, fd7_3, fd8_0, fd8_1, fd8_2, fd8_3, fd13_0, fd13_1, fd14_0, fd14_1, fd24_0, fd24_1, fd24_2, fd25_0, fd25_1, fd25_2, fd26_1, fd27_1, fd28_0, fd28_1, fd28_2, fd29_0, fd29_1, fd29_2, fd31_2, fd31_3, fd31_4, fd32_2, fd32_3, fd32_4, fd61_0, fd61_1, fd61_2, fd62_0, fd62_1, fd62_2, fd80_0, fd80_1, fd81_0, fd81_1, fd135_1, fd136_1, fd162_0, fd162_1, fd163_0, fd163_1, fd177_3, fd178_3, fd189_0, fd189_1, fd189_2, fd189_3, fd189_4, fd189_5, fd189_6, fd189_9, fd189_10, fd190_0, fd190_1, fd190_2, fd190_3, fd190_4, fd190_5, fd190_6, fd190_9, fd190_10, eq61, eq62⟩

end Go.Proofs.YtnepiffboakehaaGreatDoor.S
