/- What the symbolic steps need of the translation's types: printed by gentys.py of this session, checked by the kernel. -/
import Derived.Test.YthldlaiplfennaaGreatA2
import Derived.Test.YthldlaiplfennaaGreatProg
namespace Go.Proofs.YthldlaiplfennaaGreat.S
set_option linter.all false
open Go Go.Proofs

theorem ty2 : tyI Tryz.prog 2 = { tk := .int .i64, agg := false, sz := 1, bytes := 8, zero := [.int .i64 0], ek := 1 } := by kernel_rfl
theorem ty3 : tyI Tryz.prog 3 = { tk := .int .i64, agg := false, sz := 1, bytes := 8, zero := [.int .i64 0], ek := 1 } := by kernel_rfl
theorem ty4 : tyI Tryz.prog 4 = { tk := .bool, agg := false, sz := 1, bytes := 1, zero := [.bool false], ek := 2 } := by kernel_rfl
theorem ty5 : tyI Tryz.prog 5 = { tk := .int .u8, agg := false, sz := 1, bytes := 1, zero := [.int .u8 0], ek := 3 } := by kernel_rfl
theorem ty7 : tyI Tryz.prog 7 = { tk := .struct [(0, 1), (1, 1), (2, 1), (3, 1)], agg := true, sz := 4, bytes := 24, zero := [.int .i64 0, .int .i64 0, .bool false, .int .u8 0], ek := 0 } := by kernel_rfl
theorem ty9 : tyI Tryz.prog 9 = { tk := .str, agg := false, sz := 1, bytes := 16, zero := [.str ⟨#[]⟩], ek := 4 } := by kernel_rfl
theorem ty12 : tyI Tryz.prog 12 = { tk := .int .u64, agg := false, sz := 1, bytes := 8, zero := [.int .u64 0], ek := 0 } := by kernel_rfl
theorem ty13 : tyI Tryz.prog 13 = { tk := .struct [(0, 1), (1, 1)], agg := true, sz := 2, bytes := 24, zero := [.str ⟨#[]⟩, .int .u64 0], ek := 0 } := by kernel_rfl
theorem ty17 : tyI Tryz.prog 17 = { tk := .other, agg := false, sz := 1, bytes := 8, zero := [.any], ek := 0 } := by kernel_rfl
theorem ty21 : tyI Tryz.prog 21 = { tk := .int .i32, agg := false, sz := 1, bytes := 4, zero := [.int .i32 0], ek := 0 } := by kernel_rfl
theorem ty22 : tyI Tryz.prog 22 = { tk := .slice 3, agg := false, sz := 1, bytes := 24, zero := [.emp], ek := 0 } := by kernel_rfl
theorem ty23 : tyI Tryz.prog 23 = { tk := .struct [(0, 1), (1, 1), (2, 1)], agg := true, sz := 3, bytes := 72, zero := [.emp, .emp, .emp], ek := 0 } := by kernel_rfl
theorem ty24 : tyI Tryz.prog 24 = { tk := .struct [(0, 1), (1, 1), (2, 1)], agg := true, sz := 3, bytes := 72, zero := [.emp, .emp, .emp], ek := 0 } := by kernel_rfl
theorem ty25 : tyI Tryz.prog 25 = { tk := .struct [(0, 3), (3, 1)], agg := true, sz := 4, bytes := 96, zero := [.emp, .emp, .emp, .emp], ek := 0 } := by kernel_rfl
theorem ty26 : tyI Tryz.prog 26 = { tk := .struct [(0, 3), (3, 1)], agg := true, sz := 4, bytes := 96, zero := [.emp, .emp, .emp, .emp], ek := 0 } := by kernel_rfl
theorem ty27 : tyI Tryz.prog 27 = { tk := .struct [(0, 1), (1, 1), (2, 1)], agg := true, sz := 3, bytes := 40, zero := [.int .i64 0, .emp, .int .i64 0], ek := 0 } := by kernel_rfl
theorem ty28 : tyI Tryz.prog 28 = { tk := .struct [(0, 1), (1, 1), (2, 1)], agg := true, sz := 3, bytes := 40, zero := [.int .i64 0, .emp, .int .i64 0], ek := 0 } := by kernel_rfl
theorem ty29 : tyI Tryz.prog 29 = { tk := .slice 102, agg := false, sz := 1, bytes := 24, zero := [.emp], ek := 0 } := by kernel_rfl
theorem ty30 : tyI Tryz.prog 30 = { tk := .struct [(0, 4), (4, 3), (7, 1), (8, 1), (9, 1)], agg := true, sz := 10, bytes := 176, zero := [.emp, .emp, .emp, .emp, .int .i64 0, .emp, .int .i64 0, .emp, .int .i64 0, .bool false], ek := 0 } := by kernel_rfl
theorem ty31 : tyI Tryz.prog 31 = { tk := .struct [(0, 4), (4, 3), (7, 1), (8, 1), (9, 1)], agg := true, sz := 10, bytes := 176, zero := [.emp, .emp, .emp, .emp, .int .i64 0, .emp, .int .i64 0, .emp, .int .i64 0, .bool false], ek := 0 } := by kernel_rfl
theorem ty33 : tyI Tryz.prog 33 = { tk := .struct [(0, 1), (1, 1), (2, 1)], agg := true, sz := 3, bytes := 72, zero := [.emp, .emp, .emp], ek := 0 } := by kernel_rfl
theorem ty34 : tyI Tryz.prog 34 = { tk := .struct [(0, 3), (3, 1)], agg := true, sz := 4, bytes := 96, zero := [.emp, .emp, .emp, .emp], ek := 0 } := by kernel_rfl
theorem ty35 : tyI Tryz.prog 35 = { tk := .struct [(0, 3), (3, 1)], agg := true, sz := 4, bytes := 96, zero := [.emp, .emp, .emp, .emp], ek := 0 } := by kernel_rfl
theorem ty36 : tyI Tryz.prog 36 = { tk := .struct [(0, 1), (1, 1), (2, 1)], agg := true, sz := 3, bytes := 40, zero := [.int .i64 0, .emp, .int .i64 0], ek := 0 } := by kernel_rfl
theorem ty37 : tyI Tryz.prog 37 = { tk := .slice 74, agg := false, sz := 1, bytes := 24, zero := [.emp], ek := 0 } := by kernel_rfl
theorem ty38 : tyI Tryz.prog 38 = { tk := .struct [(0, 4), (4, 3), (7, 1), (8, 1), (9, 1)], agg := true, sz := 10, bytes := 176, zero := [.emp, .emp, .emp, .emp, .int .i64 0, .emp, .int .i64 0, .emp, .int .i64 0, .bool false], ek := 0 } := by kernel_rfl
theorem ty39 : tyI Tryz.prog 39 = { tk := .struct [(0, 4), (4, 3), (7, 1), (8, 1), (9, 1)], agg := true, sz := 10, bytes := 176, zero := [.emp, .emp, .emp, .emp, .int .i64 0, .emp, .int .i64 0, .emp, .int .i64 0, .bool false], ek := 0 } := by kernel_rfl
theorem ty46 : tyI Tryz.prog 46 = { tk := .slice 5, agg := false, sz := 1, bytes := 24, zero := [.emp], ek := 0 } := by kernel_rfl
theorem ty50 : tyI Tryz.prog 50 = { tk := .slice 4, agg := false, sz := 1, bytes := 24, zero := [.emp], ek := 0 } := by kernel_rfl
theorem ty71 : tyI Tryz.prog 71 = { tk := .other, agg := false, sz := 1, bytes := 8, zero := [.any], ek := 0 } := by kernel_rfl
theorem ty73 : tyI Tryz.prog 73 = { tk := .struct [(0, 1), (1, 1), (2, 1)], agg := true, sz := 3, bytes := 24, zero := [.int .i64 0, .int .i64 0, .int .i64 0], ek := 5 } := by kernel_rfl
theorem ty74 : tyI Tryz.prog 74 = { tk := .struct [(0, 1), (1, 1), (2, 1)], agg := true, sz := 3, bytes := 24, zero := [.int .i64 0, .int .i64 0, .int .i64 0], ek := 5 } := by kernel_rfl
theorem ty102 : tyI Tryz.prog 102 = { tk := .struct [(0, 1), (1, 1), (2, 1)], agg := true, sz := 3, bytes := 24, zero := [.int .i64 0, .int .i64 0, .int .i64 0], ek := 5 } := by kernel_rfl
theorem ty113 : tyI Tryz.prog 113 = { tk := .struct [(0, 1), (1, 1)], agg := true, sz := 2, bytes := 32, zero := [.emp, .int .i64 0], ek := 0 } := by kernel_rfl
theorem ty114 : tyI Tryz.prog 114 = { tk := .struct [(0, 1), (1, 1)], agg := true, sz := 2, bytes := 32, zero := [.emp, .int .i64 0], ek := 0 } := by kernel_rfl
theorem ty116 : tyI Tryz.prog 116 = { tk := .slice 22, agg := false, sz := 1, bytes := 24, zero := [.emp], ek := 0 } := by kernel_rfl
theorem ty119 : tyI Tryz.prog 119 = { tk := .other, agg := false, sz := 1, bytes := 8, zero := [.any], ek := 0 } := by kernel_rfl
theorem ty122 : tyI Tryz.prog 122 = { tk := .struct [(0, 3), (3, 1)], agg := true, sz := 4, bytes := 96, zero := [.emp, .emp, .emp, .emp], ek := 0 } := by kernel_rfl
theorem ty123 : tyI Tryz.prog 123 = { tk := .struct [(0, 3), (3, 1)], agg := true, sz := 4, bytes := 96, zero := [.emp, .emp, .emp, .emp], ek := 0 } := by kernel_rfl
theorem ty137 : tyI Tryz.prog 137 = { tk := .slice 9, agg := false, sz := 1, bytes := 24, zero := [.emp], ek := 0 } := by kernel_rfl
theorem ty164 : tyI Tryz.prog 164 = { tk := .int .u32, agg := false, sz := 1, bytes := 4, zero := [.int .u32 0], ek := 0 } := by kernel_rfl
theorem ty168 : tyI Tryz.prog 168 = { tk := .other, agg := false, sz := 1, bytes := 8, zero := [.any], ek := 0 } := by kernel_rfl
theorem ty175 : tyI Tryz.prog 175 = { tk := .int .u64, agg := false, sz := 1, bytes := 8, zero := [.int .u64 0], ek := 0 } := by kernel_rfl
theorem fd7_0 : fldI Tryz.prog 7 0 = some 0 := by kernel_rfl
theorem fd7_1 : fldI Tryz.prog 7 1 = some 1 := by kernel_rfl
theorem fd7_2 : fldI Tryz.prog 7 2 = some 2 := by kernel_rfl
theorem fd7_3 : fldI Tryz.prog 7 3 = some 3 := by kernel_rfl
theorem fd8_0 : fldI Tryz.prog 8 0 = some 0 := by kernel_rfl
theorem fd8_1 : fldI Tryz.prog 8 1 = some 1 := by kernel_rfl
theorem fd8_2 : fldI Tryz.prog 8 2 = some 2 := by kernel_rfl
theorem fd8_3 : fldI Tryz.prog 8 3 = some 3 := by kernel_rfl
theorem fd13_0 : fldI Tryz.prog 13 0 = some 0 := by kernel_rfl
theorem fd13_1 : fldI Tryz.prog 13 1 = some 1 := by kernel_rfl
theorem fd14_0 : fldI Tryz.prog 14 0 = some 0 := by kernel_rfl
theorem fd14_1 : fldI Tryz.prog 14 1 = some 1 := by kernel_rfl
theorem fd23_0 : fldI Tryz.prog 23 0 = some 0 := by kernel_rfl
theorem fd23_1 : fldI Tryz.prog 23 1 = some 1 := by kernel_rfl
theorem fd23_2 : fldI Tryz.prog 23 2 = some 2 := by kernel_rfl
theorem fd24_0 : fldI Tryz.prog 24 0 = some 0 := by kernel_rfl
theorem fd24_1 : fldI Tryz.prog 24 1 = some 1 := by kernel_rfl
theorem fd24_2 : fldI Tryz.prog 24 2 = some 2 := by kernel_rfl
theorem fd25_1 : fldI Tryz.prog 25 1 = some 3 := by kernel_rfl
theorem fd26_1 : fldI Tryz.prog 26 1 = some 3 := by kernel_rfl
theorem fd27_0 : fldI Tryz.prog 27 0 = some 0 := by kernel_rfl
theorem fd27_1 : fldI Tryz.prog 27 1 = some 1 := by kernel_rfl
theorem fd27_2 : fldI Tryz.prog 27 2 = some 2 := by kernel_rfl
theorem fd28_0 : fldI Tryz.prog 28 0 = some 0 := by kernel_rfl
theorem fd28_1 : fldI Tryz.prog 28 1 = some 1 := by kernel_rfl
theorem fd28_2 : fldI Tryz.prog 28 2 = some 2 := by kernel_rfl
theorem fd30_2 : fldI Tryz.prog 30 2 = some 7 := by kernel_rfl
theorem fd30_3 : fldI Tryz.prog 30 3 = some 8 := by kernel_rfl
theorem fd30_4 : fldI Tryz.prog 30 4 = some 9 := by kernel_rfl
theorem fd31_2 : fldI Tryz.prog 31 2 = some 7 := by kernel_rfl
theorem fd31_3 : fldI Tryz.prog 31 3 = some 8 := by kernel_rfl
theorem fd31_4 : fldI Tryz.prog 31 4 = some 9 := by kernel_rfl
theorem fd33_0 : fldI Tryz.prog 33 0 = some 0 := by kernel_rfl
theorem fd33_1 : fldI Tryz.prog 33 1 = some 1 := by kernel_rfl
theorem fd33_2 : fldI Tryz.prog 33 2 = some 2 := by kernel_rfl
theorem fd34_1 : fldI Tryz.prog 34 1 = some 3 := by kernel_rfl
theorem fd35_1 : fldI Tryz.prog 35 1 = some 3 := by kernel_rfl
theorem fd36_0 : fldI Tryz.prog 36 0 = some 0 := by kernel_rfl
theorem fd36_1 : fldI Tryz.prog 36 1 = some 1 := by kernel_rfl
theorem fd36_2 : fldI Tryz.prog 36 2 = some 2 := by kernel_rfl
theorem fd38_2 : fldI Tryz.prog 38 2 = some 7 := by kernel_rfl
theorem fd38_3 : fldI Tryz.prog 38 3 = some 8 := by kernel_rfl
theorem fd38_4 : fldI Tryz.prog 38 4 = some 9 := by kernel_rfl
theorem fd39_2 : fldI Tryz.prog 39 2 = some 7 := by kernel_rfl
theorem fd39_3 : fldI Tryz.prog 39 3 = some 8 := by kernel_rfl
theorem fd39_4 : fldI Tryz.prog 39 4 = some 9 := by kernel_rfl
theorem fd73_0 : fldI Tryz.prog 73 0 = some 0 := by kernel_rfl
theorem fd73_1 : fldI Tryz.prog 73 1 = some 1 := by kernel_rfl
theorem fd73_2 : fldI Tryz.prog 73 2 = some 2 := by kernel_rfl
theorem fd74_0 : fldI Tryz.prog 74 0 = some 0 := by kernel_rfl
theorem fd74_1 : fldI Tryz.prog 74 1 = some 1 := by kernel_rfl
theorem fd74_2 : fldI Tryz.prog 74 2 = some 2 := by kernel_rfl
theorem fd102_0 : fldI Tryz.prog 102 0 = some 0 := by kernel_rfl
theorem fd102_1 : fldI Tryz.prog 102 1 = some 1 := by kernel_rfl
theorem fd102_2 : fldI Tryz.prog 102 2 = some 2 := by kernel_rfl
theorem fd113_0 : fldI Tryz.prog 113 0 = some 0 := by kernel_rfl
theorem fd113_1 : fldI Tryz.prog 113 1 = some 1 := by kernel_rfl
theorem fd114_0 : fldI Tryz.prog 114 0 = some 0 := by kernel_rfl
theorem fd114_1 : fldI Tryz.prog 114 1 = some 1 := by kernel_rfl
theorem fd122_1 : fldI Tryz.prog 122 1 = some 3 := by kernel_rfl
theorem fd123_1 : fldI Tryz.prog 123 1 = some 3 := by kernel_rfl
theorem fd158_3 : fldI Tryz.prog 158 3 = some 3 := by kernel_rfl
theorem fd159_3 : fldI Tryz.prog 159 3 = some 3 := by kernel_rfl
theorem fd171_0 : fldI Tryz.prog 171 0 = some 0 := by kernel_rfl
theorem fd171_1 : fldI Tryz.prog 171 1 = some 1 := by kernel_rfl
theorem fd171_2 : fldI Tryz.prog 171 2 = some 2 := by kernel_rfl
theorem fd171_3 : fldI Tryz.prog 171 3 = some 3 := by kernel_rfl
theorem fd171_4 : fldI Tryz.prog 171 4 = some 4 := by kernel_rfl
theorem fd171_5 : fldI Tryz.prog 171 5 = some 5 := by kernel_rfl
theorem fd171_6 : fldI Tryz.prog 171 6 = some 6 := by kernel_rfl
theorem fd171_9 : fldI Tryz.prog 171 9 = some 9 := by kernel_rfl
theorem fd171_10 : fldI Tryz.prog 171 10 = some 10 := by kernel_rfl
theorem fd172_0 : fldI Tryz.prog 172 0 = some 0 := by kernel_rfl
theorem fd172_1 : fldI Tryz.prog 172 1 = some 1 := by kernel_rfl
theorem fd172_2 : fldI Tryz.prog 172 2 = some 2 := by kernel_rfl
theorem fd172_3 : fldI Tryz.prog 172 3 = some 3 := by kernel_rfl
theorem fd172_4 : fldI Tryz.prog 172 4 = some 4 := by kernel_rfl
theorem fd172_5 : fldI Tryz.prog 172 5 = some 5 := by kernel_rfl
theorem fd172_6 : fldI Tryz.prog 172 6 = some 6 := by kernel_rfl
theorem fd172_9 : fldI Tryz.prog 172 9 = some 9 := by kernel_rfl
theorem fd172_10 : fldI Tryz.prog 172 10 = some 10 := by kernel_rfl
theorem eq73 : eq3Ty Tryz.prog 73 = true := by kernel_rfl
theorem eq74 : eq3Ty Tryz.prog 74 = true := by kernel_rfl
theorem eq102 : eq3Ty Tryz.prog 102 = true := by kernel_rfl
theorem tys : (tyI Tryz.prog 2 = { tk := .int .i64, agg := false, sz := 1, bytes := 8, zero := [.int .i64 0], ek := 1 }) ∧ (tyI Tryz.prog 3 = { tk := .int .i64, agg := false, sz := 1, bytes := 8, zero := [.int .i64 0], ek := 1 }) ∧ (tyI Tryz.prog 4 = { tk := .bool, agg := false, sz := 1, bytes := 1, zero := [.bool false], ek := 2 }) ∧ (tyI Tryz.prog 5 = { tk := .int .u8, agg := false, sz := 1, bytes := 1, zero := [.int .u8 0], ek := 3 }) ∧ (tyI Tryz.prog 7 = { tk := .struct [(0, 1), (1, 1), (2, 1), (3, 1)], agg := true, sz := 4, bytes := 24, zero := [.int .i64 0, .int .i64 0, .bool false, .int .u8 0], ek := 0 }) ∧ (tyI Tryz.prog 9 = { tk := .str, agg := false, sz := 1, bytes := 16, zero := [.str ⟨#[]⟩], ek := 4 }) ∧ (tyI Tryz.prog 12 = { tk := .int .u64, agg := false, sz := 1, bytes := 8, zero := [.int .u64 0], ek := 0 }) ∧ (tyI Tryz.prog 13 = { tk := .struct [(0, 1), (1, 1)], agg := true, sz := 2, bytes := 24, zero := [.str ⟨#[]⟩, .int .u64 0], ek := 0 }) ∧ (tyI Tryz.prog 17 = { tk := .other, agg := false, sz := 1, bytes := 8, zero := [.any], ek := 0 }) ∧ (tyI Tryz.prog 21 = { tk := .int .i32, agg := false, sz := 1, bytes := 4, zero := [.int .i32 0], ek := 0 }) ∧ (tyI Tryz.prog 22 = { tk := .slice 3, agg := false, sz := 1, bytes := 24, zero := [.emp], ek := 0 }) ∧ (tyI Tryz.prog 23 = { tk := .struct [(0, 1), (1, 1), (2, 1)], agg := true, sz := 3, bytes := 72, zero := [.emp, .emp, .emp], ek := 0 }) ∧ (tyI Tryz.prog 24 = { tk := .struct [(0, 1), (1, 1), (2, 1)], agg := true, sz := 3, bytes := 72, zero := [.emp, .emp, .emp], ek := 0 }) ∧ (tyI Tryz.prog 25 = { tk := .struct [(0, 3), (3, 1)], agg := true, sz := 4, bytes := 96, zero := [.emp, .emp, .emp, .emp], ek := 0 }) ∧ (tyI Tryz.prog 26 = { tk := .struct [(0, 3), (3, 1)], agg := true, sz := 4, bytes := 96, zero := [.emp, .emp, .emp, .emp], ek := 0 }) ∧ (tyI Tryz.prog 27 = { tk := .struct [(0, 1), (1, 1), (2, 1)], agg := true, sz := 3, bytes := 40, zero := [.int .i64 0, .emp, .int .i64 0], ek := 0 }) ∧ (tyI Tryz.prog 28 = { tk := .struct [(0, 1), (1, 1), (2, 1)], agg := true, sz := 3, bytes := 40, zero := [.int .i64 0, .emp, .int .i64 0], ek := 0 }) ∧ (tyI Tryz.prog 29 = { tk := .slice 102, agg := false, sz := 1, bytes := 24, zero := [.emp], ek := 0 }) ∧ (tyI Tryz.prog 30 = { tk := .struct [(0, 4), (4, 3), (7, 1), (8, 1), (9, 1)], agg := true, sz := 10, bytes := 176, zero := [.emp, .emp, .emp, .emp, .int .i64 0, .emp, .int .i64 0, .emp, .int .i64 0, .bool false], ek := 0 }) ∧ (tyI Tryz.prog 31 = { tk := .struct [(0, 4), (4, 3), (7, 1), (8, 1), (9, 1)], agg := true, sz := 10, bytes := 176, zero := [.emp, .emp, .emp, .emp, .int .i64 0, .emp, .int .i64 0, .emp, .int .i64 0, .bool false], ek := 0 }) ∧ (tyI Tryz.prog 33 = { tk := .struct [(0, 1), (1, 1), (2, 1)], agg := true, sz := 3, bytes := 72, zero := [.emp, .emp, .emp], ek := 0 }) ∧ (tyI Tryz.prog 34 = { tk := .struct [(0, 3), (3, 1)], agg := true, sz := 4, bytes := 96, zero := [.emp, .emp, .emp, .emp], ek := 0 }) ∧ (tyI Tryz.prog 35 = { tk := .struct [(0, 3), (3, 1)], agg := true, sz := 4, bytes := 96, zero := [.emp, .emp, .emp, .emp], ek := 0 }) ∧ (tyI Tryz.prog 36 = { tk := .struct [(0, 1), (1, 1), (2, 1)], agg := true, sz := 3, bytes := 40, zero := [.int .i64 0, .emp, .int .i64 0], ek := 0 }) ∧ (tyI Tryz.prog 37 = { tk := .slice 74, agg := false, sz := 1, bytes := 24, zero := [.emp], ek := 0 }) ∧ (tyI Tryz.prog 38 = { tk := .struct [(0, 4), (4, 3), (7, 1), (8, 1), (9, 1)], agg := true, sz := 10, bytes := 176, zero := [.emp, .emp, .emp, .emp, .int .i64 0, .emp, .int .i64 0, .emp, .int .i64 0, .bool false], ek := 0 }) ∧ (tyI Tryz.prog 39 = { tk := .struct [(0, 4), (4, 3), (7, 1), (8, 1), (9, 1)], agg := true, sz := 10, bytes := 176, zero := [.emp, .emp, .emp, .emp, .int .i64 0, .emp, .int .i64 0, .emp, .int .i64 0, .bool false], ek := 0 }) ∧ (tyI Tryz.prog 46 = { tk := .slice 5, agg := false, sz := 1, bytes := 24, zero := [.emp], ek := 0 }) ∧ (tyI Tryz.prog 50 = { tk := .slice 4, agg := false, sz := 1, bytes := 24, zero := [.emp], ek := 0 }) ∧ (tyI Tryz.prog 71 = { tk := .other, agg := false, sz := 1, bytes := 8, zero := [.any], ek := 0 }) ∧ (tyI Tryz.prog 73 = { tk := .struct [(0, 1), (1, 1), (2, 1)], agg := true, sz := 3, bytes := 24, zero := [.int .i64 0, .int .i64 0, .int .i64 0], ek := 5 }) ∧ (tyI Tryz.prog 74 = { tk := .struct [(0, 1), (1, 1), (2, 1)], agg := true, sz := 3, bytes := 24, zero := [.int .i64 0, .int .i64 0, .int .i64 0], ek := 5 }) ∧ (tyI Tryz.prog 102 = { tk := .struct [(0, 1), (1, 1), (2, 1)], agg := true, sz := 3, bytes := 24, zero := [.int .i64 0, .int .i64 0, .int .i64 0], ek := 5 }) ∧ (tyI Tryz.prog 113 = { tk := .struct [(0, 1), (1, 1)], agg := true, sz := 2, bytes := 32, zero := [.emp, .int .i64 0], ek := 0 }) ∧ (tyI Tryz.prog 114 = { tk := .struct [(0, 1), (1, 1)], agg := true, sz := 2, bytes := 32, zero := [.emp, .int .i64 0], ek := 0 }) ∧ (tyI Tryz.prog 116 = { tk := .slice 22, agg := false, sz := 1, bytes := 24, zero := [.emp], ek := 0 }) ∧ (tyI Tryz.prog 119 = { tk := .other, agg := false, sz := 1, bytes := 8, zero := [.any], ek := 0 }) ∧ (tyI Tryz.prog 122 = { tk := .struct [(0, 3), (3, 1)], agg := true, sz := 4, bytes := 96, zero := [.emp, .emp, .emp, .emp], ek := 0 }) ∧ (tyI Tryz.prog 123 = { tk := .struct [(0, 3), (3, 1)], agg := true, sz := 4, bytes := 96, zero := [.emp, .emp, .emp, .emp], ek := 0 }) ∧ (tyI Tryz.prog 137 = { tk := .slice 9, agg := false, sz := 1, bytes := 24, zero := [.emp], ek := 0 }) ∧ (tyI Tryz.prog 164 = { tk := .int .u32, agg := false, sz := 1, bytes := 4, zero := [.int .u32 0], ek := 0 }) ∧ (tyI Tryz.prog 168 = { tk := .other, agg := false, sz := 1, bytes := 8, zero := [.any], ek := 0 }) ∧ (tyI Tryz.prog 175 = { tk := .int .u64, agg := false, sz := 1, bytes := 8, zero := [.int .u64 0], ek := 0 }) ∧ (fldI Tryz.prog 7 0 = some 0) ∧ (fldI Tryz.prog 7 1 = some 1) ∧ (fldI Tryz.prog 7 2 = some 2) ∧ (fldI Tryz.prog 7 3 = some 3) ∧ (fldI Tryz.prog 8 0 = some 0) ∧ (fldI Tryz.prog 8 1 = some 1) ∧ (fldI Tryz.prog 8 2 = some 2) ∧ (fldI Tryz.prog 8 3 = some 3) ∧ (fldI Tryz.prog 13 0 = some 0) ∧ (fldI Tryz.prog 13 1 = some 1) ∧ (fldI Tryz.prog 14 0 = some 0) ∧ (fldI Tryz.prog 14 1 = some 1) ∧ (fldI Tryz.prog 23 0 = some 0) ∧ (fldI Tryz.prog 23 1 = some 1) ∧ (fldI Tryz.prog 23 2 = some 2) ∧ (fldI Tryz.prog 24 0 = some 0) ∧ (fldI Tryz.prog 24 1 = some 1) ∧ (fldI Tryz.prog 24 2 = some 2) ∧ (fldI Tryz.prog 25 1 = some 3) ∧ (fldI Tryz.prog 26 1 = some 3) ∧ (fldI Tryz.prog 27 0 = some 0) ∧ (fldI Tryz.prog 27 1 = some 1) ∧ (fldI Tryz.prog 27 2 = some 2) ∧ (fldI Tryz.prog 28 0 = some 0) ∧ (fldI Tryz.prog 28 1 = some 1) ∧ (fldI Tryz.prog 28 2 = some 2) ∧ (fldI Tryz.prog 30 2 = some 7) ∧ (fldI Tryz.prog 30 3 = some 8) ∧ (fldI Tryz.prog 30 4 = some 9) ∧ (fldI Tryz.prog 31 2 = some 7) ∧ (fldI Tryz.prog 31 3 = some 8) ∧ (fldI Tryz.prog 31 4 = some 9) ∧ (fldI Tryz.prog 33 0 = some 0) ∧ (fldI Tryz.prog 33 1 = some 1) ∧ (fldI Tryz.prog 33 2 = some 2) ∧ (fldI Tryz.prog 34 1 = some 3) ∧ (fldI Tryz.prog 35 1 = some 3) ∧ (fldI Tryz.prog 36 0 = some 0) ∧ (fldI Tryz.prog 36 1 = some 1) ∧ (fldI Tryz.prog 36 2 = some 2) ∧ (fldI Tryz.prog 38 2 = some 7) ∧ (fldI Tryz.prog 38 3 = some 8) ∧ (fldI Tryz.prog 38 4 = some 9) ∧ (fldI Tryz.prog 39 2 = some 7) ∧ (fldI Tryz.prog 39 3 = some 8) ∧ (fldI Tryz.prog 39 4 = some 9) ∧ (fldI Tryz.prog 73 0 = some 0) ∧ (fldI Tryz.prog 73 1 = some 1) ∧ (fldI Tryz.prog 73 2 = some 2) ∧ (fldI Tryz.prog 74 0 = some 0) ∧ (fldI Tryz.prog 74 1 = some 1) ∧ (fldI Tryz.prog 74 2 = some 2) ∧ (fldI Tryz.prog 102 0 = some 0) ∧ (fldI Tryz.prog 102 1 = some 1) ∧ (fldI Tryz.prog 102 2 = some 2) ∧ (fldI Tryz.prog 113 0 = some 0) ∧ (fldI Tryz.prog 113 1 = some 1) ∧ (fldI Tryz.prog 114 0 = some 0) ∧ (fldI Tryz.prog 114 1 = some 1) ∧ (fldI Tryz.prog 122 1 = some 3) ∧ (fldI Tryz.prog 123 1 = some 3) ∧ (fldI Tryz.prog 158 3 = some 3) ∧ (fldI Tryz.prog 159 3 = some 3) ∧ (fldI Tryz.prog 171 0 = some 0) ∧ (fldI Tryz.prog 171 1 = some 1) ∧ (fldI Tryz.prog 171 2 = some 2) ∧ (fldI Tryz.prog 171 3 = some 3) ∧ (fldI Tryz.prog 171 4 = some 4) ∧ (fldI Tryz.prog 171 5 = some 5) ∧ (fldI Tryz.prog 171 6 = some 6) ∧ (fldI Tryz.prog 171 9 = some 9) ∧ (fldI Tryz.prog 171 10 = some 10) ∧ (fldI Tryz.prog 172 0 = some 0) ∧ (fldI Tryz.prog 172 1 = some 1) ∧ (fldI Tryz.prog 172 2 = some 2) ∧ (fldI Tryz.prog 172 3 = some 3) ∧ (fldI Tryz.prog 172 4 = some 4) ∧ (fldI Tryz.prog 172 5 = some 5) ∧ (fldI Tryz.prog 172 6 = some 6) ∧ (fldI Tryz.prog 172 9 = some 9) ∧ (fldI Tryz.prog 172 10 = some 10) ∧ (eq3Ty Tryz.prog 73 = true) ∧ (eq3Ty Tryz.prog 74 = true) ∧ (eq3Ty Tryz.prog 102 = true) := ⟨ty2, ty3, ty4, ty5, ty7, ty9, ty12, ty13, ty17, ty21, ty22, ty23, ty24, ty25, ty26, ty27, ty28, ty29, ty30, ty31, ty33, ty34, ty35, ty36, ty37, ty38, ty39, ty46, ty50, ty71, ty73, ty74, ty102, ty113, ty114, ty116, ty119, ty122, ty123, ty137, ty164, ty168, ty175, fd7_0, fd7_1, fd7_2, fd7_3, fd8_0, fd8_1, fd8_2, fd8_3, fd13_0, fd13_1, fd14_0, fd14_1, fd23_0, fd23_1, fd23_2, fd24_0, fd24_1, fd24_2, fd25_1, fd26_1, fd27_0, fd27_1, fd27_2, fd28_0, fd28_1, fd28_2, fd30_2, fd30_3, fd30_4, fd31_2, fd31_3, fd31_4, fd33_0, fd33_1, fd33_2, fd34_1, fd35_1, fd36_0, fd36_1, fd36_2, fd38_2, fd38_3, fd38_4, fd39_2, fd39_3, fd39_4, fd73_0, fd73_1, fd73_2, fd74_0, fd74_1, fd74_2, fd102_0, fd102_1, fd102_2, fd113_0, fd113_1, fd114_0, fd114_1, fd122_1, fd123_1, fd158_3, fd159_3, fd171_0, fd171_1, fd171_2, fd171_3, fd171_4, fd171_5, fd171_6, fd171_9, fd171_10, fd172_0, fd172_1, fd172_2, fd172_3, fd172_4, fd172_5, fd172_6, fd172_9, fd172_10, eq73, eq74, eq102⟩

end Go.Proofs.YthldlaiplfennaaGreat.S
