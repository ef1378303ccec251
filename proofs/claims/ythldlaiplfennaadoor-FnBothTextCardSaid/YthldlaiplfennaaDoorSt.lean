/- What the symbolic steps need of the translation's types: printed by gentys.py of this session, checked by the kernel. -/
import Derived.Test.YthldlaiplfennaaDoorA2
import Derived.Test.YthldlaiplfennaaDoorProg
namespace Go.Proofs.YthldlaiplfennaaDoor.S
set_option linter.all false
open Go Go.Proofs

theorem ty2 : tyI Tryd.prog 2 = { tk := .int .i64, agg := false, sz := 1, bytes := 8, zero := [.int .i64 0], ek := 1 } := by kernel_rfl
theorem ty3 : tyI Tryd.prog 3 = { tk := .int .i64, agg := false, sz := 1, bytes := 8, zero := [.int .i64 0], ek := 1 } := by kernel_rfl
theorem ty4 : tyI Tryd.prog 4 = { tk := .bool, agg := false, sz := 1, bytes := 1, zero := [.bool false], ek := 2 } := by kernel_rfl
theorem ty5 : tyI Tryd.prog 5 = { tk := .int .u8, agg := false, sz := 1, bytes := 1, zero := [.int .u8 0], ek := 3 } := by kernel_rfl
theorem ty7 : tyI Tryd.prog 7 = { tk := .struct [(0, 1), (1, 1), (2, 1), (3, 1)], agg := true, sz := 4, bytes := 24, zero := [.int .i64 0, .int .i64 0, .bool false, .int .u8 0], ek := 0 } := by kernel_rfl
theorem ty9 : tyI Tryd.prog 9 = { tk := .str, agg := false, sz := 1, bytes := 16, zero := [.str ⟨#[]⟩], ek := 4 } := by kernel_rfl
theorem ty12 : tyI Tryd.prog 12 = { tk := .int .u64, agg := false, sz := 1, bytes := 8, zero := [.int .u64 0], ek := 0 } := by kernel_rfl
theorem ty13 : tyI Tryd.prog 13 = { tk := .struct [(0, 1), (1, 1)], agg := true, sz := 2, bytes := 24, zero := [.str ⟨#[]⟩, .int .u64 0], ek := 0 } := by kernel_rfl
theorem ty17 : tyI Tryd.prog 17 = { tk := .other, agg := false, sz := 1, bytes := 8, zero := [.any], ek := 0 } := by kernel_rfl
theorem ty21 : tyI Tryd.prog 21 = { tk := .int .i32, agg := false, sz := 1, bytes := 4, zero := [.int .i32 0], ek := 0 } := by kernel_rfl
theorem ty22 : tyI Tryd.prog 22 = { tk := .slice 5, agg := false, sz := 1, bytes := 24, zero := [.emp], ek := 0 } := by kernel_rfl
theorem ty23 : tyI Tryd.prog 23 = { tk := .slice 3, agg := false, sz := 1, bytes := 24, zero := [.emp], ek := 0 } := by kernel_rfl
theorem ty24 : tyI Tryd.prog 24 = { tk := .struct [(0, 1), (1, 1), (2, 1)], agg := true, sz := 3, bytes := 72, zero := [.emp, .emp, .emp], ek := 0 } := by kernel_rfl
theorem ty25 : tyI Tryd.prog 25 = { tk := .struct [(0, 1), (1, 1), (2, 1)], agg := true, sz := 3, bytes := 72, zero := [.emp, .emp, .emp], ek := 0 } := by kernel_rfl
theorem ty26 : tyI Tryd.prog 26 = { tk := .struct [(0, 3), (3, 1)], agg := true, sz := 4, bytes := 96, zero := [.emp, .emp, .emp, .emp], ek := 0 } := by kernel_rfl
theorem ty27 : tyI Tryd.prog 27 = { tk := .struct [(0, 3), (3, 1)], agg := true, sz := 4, bytes := 96, zero := [.emp, .emp, .emp, .emp], ek := 0 } := by kernel_rfl
theorem ty36 : tyI Tryd.prog 36 = { tk := .struct [(0, 1), (1, 1), (2, 1)], agg := true, sz := 3, bytes := 72, zero := [.emp, .emp, .emp], ek := 0 } := by kernel_rfl
theorem ty37 : tyI Tryd.prog 37 = { tk := .struct [(0, 3), (3, 1)], agg := true, sz := 4, bytes := 96, zero := [.emp, .emp, .emp, .emp], ek := 0 } := by kernel_rfl
theorem ty38 : tyI Tryd.prog 38 = { tk := .struct [(0, 3), (3, 1)], agg := true, sz := 4, bytes := 96, zero := [.emp, .emp, .emp, .emp], ek := 0 } := by kernel_rfl
theorem ty42 : tyI Tryd.prog 42 = { tk := .struct [(0, 1), (1, 1), (2, 1)], agg := true, sz := 3, bytes := 40, zero := [.int .i64 0, .emp, .int .i64 0], ek := 0 } := by kernel_rfl
theorem ty43 : tyI Tryd.prog 43 = { tk := .struct [(0, 1), (1, 1), (2, 1)], agg := true, sz := 3, bytes := 40, zero := [.int .i64 0, .emp, .int .i64 0], ek := 0 } := by kernel_rfl
theorem ty44 : tyI Tryd.prog 44 = { tk := .slice 103, agg := false, sz := 1, bytes := 24, zero := [.emp], ek := 0 } := by kernel_rfl
theorem ty45 : tyI Tryd.prog 45 = { tk := .struct [(0, 4), (4, 3), (7, 1), (8, 1), (9, 1)], agg := true, sz := 10, bytes := 176, zero := [.emp, .emp, .emp, .emp, .int .i64 0, .emp, .int .i64 0, .emp, .int .i64 0, .bool false], ek := 0 } := by kernel_rfl
theorem ty46 : tyI Tryd.prog 46 = { tk := .struct [(0, 4), (4, 3), (7, 1), (8, 1), (9, 1)], agg := true, sz := 10, bytes := 176, zero := [.emp, .emp, .emp, .emp, .int .i64 0, .emp, .int .i64 0, .emp, .int .i64 0, .bool false], ek := 0 } := by kernel_rfl
theorem ty49 : tyI Tryd.prog 49 = { tk := .struct [(0, 1), (1, 1), (2, 1)], agg := true, sz := 3, bytes := 40, zero := [.int .i64 0, .emp, .int .i64 0], ek := 0 } := by kernel_rfl
theorem ty50 : tyI Tryd.prog 50 = { tk := .slice 101, agg := false, sz := 1, bytes := 24, zero := [.emp], ek := 0 } := by kernel_rfl
theorem ty51 : tyI Tryd.prog 51 = { tk := .struct [(0, 4), (4, 3), (7, 1), (8, 1), (9, 1)], agg := true, sz := 10, bytes := 176, zero := [.emp, .emp, .emp, .emp, .int .i64 0, .emp, .int .i64 0, .emp, .int .i64 0, .bool false], ek := 0 } := by kernel_rfl
theorem ty52 : tyI Tryd.prog 52 = { tk := .struct [(0, 4), (4, 3), (7, 1), (8, 1), (9, 1)], agg := true, sz := 10, bytes := 176, zero := [.emp, .emp, .emp, .emp, .int .i64 0, .emp, .int .i64 0, .emp, .int .i64 0, .bool false], ek := 0 } := by kernel_rfl
theorem ty58 : tyI Tryd.prog 58 = { tk := .other, agg := false, sz := 1, bytes := 8, zero := [.any], ek := 0 } := by kernel_rfl
theorem ty79 : tyI Tryd.prog 79 = { tk := .slice 9, agg := false, sz := 1, bytes := 24, zero := [.emp], ek := 0 } := by kernel_rfl
theorem ty87 : tyI Tryd.prog 87 = { tk := .struct [(0, 1), (1, 1)], agg := true, sz := 2, bytes := 32, zero := [.emp, .int .i64 0], ek := 0 } := by kernel_rfl
theorem ty88 : tyI Tryd.prog 88 = { tk := .struct [(0, 1), (1, 1)], agg := true, sz := 2, bytes := 32, zero := [.emp, .int .i64 0], ek := 0 } := by kernel_rfl
theorem ty97 : tyI Tryd.prog 97 = { tk := .slice 23, agg := false, sz := 1, bytes := 24, zero := [.emp], ek := 0 } := by kernel_rfl
theorem ty100 : tyI Tryd.prog 100 = { tk := .struct [(0, 1), (1, 1), (2, 1)], agg := true, sz := 3, bytes := 24, zero := [.int .i64 0, .int .i64 0, .int .i64 0], ek := 5 } := by kernel_rfl
theorem ty101 : tyI Tryd.prog 101 = { tk := .struct [(0, 1), (1, 1), (2, 1)], agg := true, sz := 3, bytes := 24, zero := [.int .i64 0, .int .i64 0, .int .i64 0], ek := 5 } := by kernel_rfl
theorem ty103 : tyI Tryd.prog 103 = { tk := .struct [(0, 1), (1, 1), (2, 1)], agg := true, sz := 3, bytes := 24, zero := [.int .i64 0, .int .i64 0, .int .i64 0], ek := 5 } := by kernel_rfl
theorem ty111 : tyI Tryd.prog 111 = { tk := .struct [(0, 3), (3, 1)], agg := true, sz := 4, bytes := 96, zero := [.emp, .emp, .emp, .emp], ek := 0 } := by kernel_rfl
theorem ty112 : tyI Tryd.prog 112 = { tk := .struct [(0, 3), (3, 1)], agg := true, sz := 4, bytes := 96, zero := [.emp, .emp, .emp, .emp], ek := 0 } := by kernel_rfl
theorem ty130 : tyI Tryd.prog 130 = { tk := .slice 4, agg := false, sz := 1, bytes := 24, zero := [.emp], ek := 0 } := by kernel_rfl
theorem ty133 : tyI Tryd.prog 133 = { tk := .int .u64, agg := false, sz := 1, bytes := 8, zero := [.int .u64 0], ek := 0 } := by kernel_rfl
theorem ty154 : tyI Tryd.prog 154 = { tk := .int .u32, agg := false, sz := 1, bytes := 4, zero := [.int .u32 0], ek := 0 } := by kernel_rfl
theorem ty156 : tyI Tryd.prog 156 = { tk := .int .u64, agg := false, sz := 1, bytes := 8, zero := [.int .u64 0], ek := 0 } := by kernel_rfl
theorem ty178 : tyI Tryd.prog 178 = { tk := .other, agg := false, sz := 1, bytes := 8, zero := [.any], ek := 0 } := by kernel_rfl
theorem fd7_0 : fldI Tryd.prog 7 0 = some 0 := by kernel_rfl
theorem fd7_1 : fldI Tryd.prog 7 1 = some 1 := by kernel_rfl
theorem fd7_2 : fldI Tryd.prog 7 2 = some 2 := by kernel_rfl
theorem fd7_3 : fldI Tryd.prog 7 3 = some 3 := by kernel_rfl
theorem fd8_0 : fldI Tryd.prog 8 0 = some 0 := by kernel_rfl
theorem fd8_1 : fldI Tryd.prog 8 1 = some 1 := by kernel_rfl
theorem fd8_2 : fldI Tryd.prog 8 2 = some 2 := by kernel_rfl
theorem fd8_3 : fldI Tryd.prog 8 3 = some 3 := by kernel_rfl
theorem fd13_0 : fldI Tryd.prog 13 0 = some 0 := by kernel_rfl
theorem fd13_1 : fldI Tryd.prog 13 1 = some 1 := by kernel_rfl
theorem fd14_0 : fldI Tryd.prog 14 0 = some 0 := by kernel_rfl
theorem fd14_1 : fldI Tryd.prog 14 1 = some 1 := by kernel_rfl
theorem fd24_0 : fldI Tryd.prog 24 0 = some 0 := by kernel_rfl
theorem fd24_1 : fldI Tryd.prog 24 1 = some 1 := by kernel_rfl
theorem fd24_2 : fldI Tryd.prog 24 2 = some 2 := by kernel_rfl
theorem fd25_0 : fldI Tryd.prog 25 0 = some 0 := by kernel_rfl
theorem fd25_1 : fldI Tryd.prog 25 1 = some 1 := by kernel_rfl
theorem fd25_2 : fldI Tryd.prog 25 2 = some 2 := by kernel_rfl
theorem fd26_1 : fldI Tryd.prog 26 1 = some 3 := by kernel_rfl
theorem fd27_1 : fldI Tryd.prog 27 1 = some 3 := by kernel_rfl
theorem fd36_0 : fldI Tryd.prog 36 0 = some 0 := by kernel_rfl
theorem fd36_1 : fldI Tryd.prog 36 1 = some 1 := by kernel_rfl
theorem fd36_2 : fldI Tryd.prog 36 2 = some 2 := by kernel_rfl
theorem fd37_1 : fldI Tryd.prog 37 1 = some 3 := by kernel_rfl
theorem fd38_1 : fldI Tryd.prog 38 1 = some 3 := by kernel_rfl
theorem fd42_0 : fldI Tryd.prog 42 0 = some 0 := by kernel_rfl
theorem fd42_1 : fldI Tryd.prog 42 1 = some 1 := by kernel_rfl
theorem fd42_2 : fldI Tryd.prog 42 2 = some 2 := by kernel_rfl
theorem fd43_0 : fldI Tryd.prog 43 0 = some 0 := by kernel_rfl
theorem fd43_1 : fldI Tryd.prog 43 1 = some 1 := by kernel_rfl
theorem fd43_2 : fldI Tryd.prog 43 2 = some 2 := by kernel_rfl
theorem fd45_2 : fldI Tryd.prog 45 2 = some 7 := by kernel_rfl
theorem fd45_3 : fldI Tryd.prog 45 3 = some 8 := by kernel_rfl
theorem fd45_4 : fldI Tryd.prog 45 4 = some 9 := by kernel_rfl
theorem fd46_2 : fldI Tryd.prog 46 2 = some 7 := by kernel_rfl
theorem fd46_3 : fldI Tryd.prog 46 3 = some 8 := by kernel_rfl
theorem fd46_4 : fldI Tryd.prog 46 4 = some 9 := by kernel_rfl
theorem fd49_0 : fldI Tryd.prog 49 0 = some 0 := by kernel_rfl
theorem fd49_1 : fldI Tryd.prog 49 1 = some 1 := by kernel_rfl
theorem fd49_2 : fldI Tryd.prog 49 2 = some 2 := by kernel_rfl
theorem fd51_2 : fldI Tryd.prog 51 2 = some 7 := by kernel_rfl
theorem fd51_3 : fldI Tryd.prog 51 3 = some 8 := by kernel_rfl
theorem fd51_4 : fldI Tryd.prog 51 4 = some 9 := by kernel_rfl
theorem fd52_2 : fldI Tryd.prog 52 2 = some 7 := by kernel_rfl
theorem fd52_3 : fldI Tryd.prog 52 3 = some 8 := by kernel_rfl
theorem fd52_4 : fldI Tryd.prog 52 4 = some 9 := by kernel_rfl
theorem fd87_0 : fldI Tryd.prog 87 0 = some 0 := by kernel_rfl
theorem fd87_1 : fldI Tryd.prog 87 1 = some 1 := by kernel_rfl
theorem fd88_0 : fldI Tryd.prog 88 0 = some 0 := by kernel_rfl
theorem fd88_1 : fldI Tryd.prog 88 1 = some 1 := by kernel_rfl
theorem fd100_0 : fldI Tryd.prog 100 0 = some 0 := by kernel_rfl
theorem fd100_1 : fldI Tryd.prog 100 1 = some 1 := by kernel_rfl
theorem fd100_2 : fldI Tryd.prog 100 2 = some 2 := by kernel_rfl
theorem fd101_0 : fldI Tryd.prog 101 0 = some 0 := by kernel_rfl
theorem fd101_1 : fldI Tryd.prog 101 1 = some 1 := by kernel_rfl
theorem fd101_2 : fldI Tryd.prog 101 2 = some 2 := by kernel_rfl
theorem fd103_0 : fldI Tryd.prog 103 0 = some 0 := by kernel_rfl
theorem fd103_1 : fldI Tryd.prog 103 1 = some 1 := by kernel_rfl
theorem fd103_2 : fldI Tryd.prog 103 2 = some 2 := by kernel_rfl
theorem fd111_1 : fldI Tryd.prog 111 1 = some 3 := by kernel_rfl
theorem fd112_1 : fldI Tryd.prog 112 1 = some 3 := by kernel_rfl
theorem fd169_3 : fldI Tryd.prog 169 3 = some 3 := by kernel_rfl
theorem fd170_3 : fldI Tryd.prog 170 3 = some 3 := by kernel_rfl
theorem fd181_0 : fldI Tryd.prog 181 0 = some 0 := by kernel_rfl
theorem fd181_1 : fldI Tryd.prog 181 1 = some 1 := by kernel_rfl
theorem fd181_2 : fldI Tryd.prog 181 2 = some 2 := by kernel_rfl
theorem fd181_3 : fldI Tryd.prog 181 3 = some 3 := by kernel_rfl
theorem fd181_4 : fldI Tryd.prog 181 4 = some 4 := by kernel_rfl
theorem fd181_5 : fldI Tryd.prog 181 5 = some 5 := by kernel_rfl
theorem fd181_6 : fldI Tryd.prog 181 6 = some 6 := by kernel_rfl
theorem fd181_9 : fldI Tryd.prog 181 9 = some 9 := by kernel_rfl
theorem fd181_10 : fldI Tryd.prog 181 10 = some 10 := by kernel_rfl
theorem fd182_0 : fldI Tryd.prog 182 0 = some 0 := by kernel_rfl
theorem fd182_1 : fldI Tryd.prog 182 1 = some 1 := by kernel_rfl
theorem fd182_2 : fldI Tryd.prog 182 2 = some 2 := by kernel_rfl
theorem fd182_3 : fldI Tryd.prog 182 3 = some 3 := by kernel_rfl
theorem fd182_4 : fldI Tryd.prog 182 4 = some 4 := by kernel_rfl
theorem fd182_5 : fldI Tryd.prog 182 5 = some 5 := by kernel_rfl
theorem fd182_6 : fldI Tryd.prog 182 6 = some 6 := by kernel_rfl
theorem fd182_9 : fldI Tryd.prog 182 9 = some 9 := by kernel_rfl
theorem fd182_10 : fldI Tryd.prog 182 10 = some 10 := by kernel_rfl
theorem eq100 : eq3Ty Tryd.prog 100 = true := by kernel_rfl
theorem eq101 : eq3Ty Tryd.prog 101 = true := by kernel_rfl
theorem eq103 : eq3Ty Tryd.prog 103 = true := by kernel_rfl
theorem tys : (tyI Tryd.prog 2 = { tk := .int .i64, agg := false, sz := 1, bytes := 8, zero := [.int .i64 0], ek := 1 }) ∧ (tyI Tryd.prog 3 = { tk := .int .i64, agg := false, sz := 1, bytes := 8, zero := [.int .i64 0], ek := 1 }) ∧ (tyI Tryd.prog 4 = { tk := .bool, agg := false, sz := 1, bytes := 1, zero := [.bool false], ek := 2 }) ∧ (tyI Tryd.prog 5 = { tk := .int .u8, agg := false, sz := 1, bytes := 1, zero := [.int .u8 0], ek := 3 }) ∧ (tyI Tryd.prog 7 = { tk := .struct [(0, 1), (1, 1), (2, 1), (3, 1)], agg := true, sz := 4, bytes := 24, zero := [.int .i64 0, .int .i64 0, .bool false, .int .u8 0], ek := 0 }) ∧ (tyI Tryd.prog 9 = { tk := .str, agg := false, sz := 1, bytes := 16, zero := [.str ⟨#[]⟩], ek := 4 }) ∧ (tyI Tryd.prog 12 = { tk := .int .u64, agg := false, sz := 1, bytes := 8, zero := [.int .u64 0], ek := 0 }) ∧ (tyI Tryd.prog 13 = { tk := .struct [(0, 1), (1, 1)], agg := true, sz := 2, bytes := 24, zero := [.str ⟨#[]⟩, .int .u64 0], ek := 0 }) ∧ (tyI Tryd.prog 17 = { tk := .other, agg := false, sz := 1, bytes := 8, zero := [.any], ek := 0 }) ∧ (tyI Tryd.prog 21 = { tk := .int .i32, agg := false, sz := 1, bytes := 4, zero := [.int .i32 0], ek := 0 }) ∧ (tyI Tryd.prog 22 = { tk := .slice 5, agg := false, sz := 1, bytes := 24, zero := [.emp], ek := 0 }) ∧ (tyI Tryd.prog 23 = { tk := .slice 3, agg := false, sz := 1, bytes := 24, zero := [.emp], ek := 0 }) ∧ (tyI Tryd.prog 24 = { tk := .struct [(0, 1), (1, 1), (2, 1)], agg := true, sz := 3, bytes := 72, zero := [.emp, .emp, .emp], ek := 0 }) ∧ (tyI Tryd.prog 25 = { tk := .struct [(0, 1), (1, 1), (2, 1)], agg := true, sz := 3, bytes := 72, zero := [.emp, .emp, .emp], ek := 0 }) ∧ (tyI Tryd.prog 26 = { tk := .struct [(0, 3), (3, 1)], agg := true, sz := 4, bytes := 96, zero := [.emp, .emp, .emp, .emp], ek := 0 }) ∧ (tyI Tryd.prog 27 = { tk := .struct [(0, 3), (3, 1)], agg := true, sz := 4, bytes := 96, zero := [.emp, .emp, .emp, .emp], ek := 0 }) ∧ (tyI Tryd.prog 36 = { tk := .struct [(0, 1), (1, 1), (2, 1)], agg := true, sz := 3, bytes := 72, zero := [.emp, .emp, .emp], ek := 0 }) ∧ (tyI Tryd.prog 37 = { tk := .struct [(0, 3), (3, 1)], agg := true, sz := 4, bytes := 96, zero := [.emp, .emp, .emp, .emp], ek := 0 }) ∧ (tyI Tryd.prog 38 = { tk := .struct [(0, 3), (3, 1)], agg := true, sz := 4, bytes := 96, zero := [.emp, .emp, .emp, .emp], ek := 0 }) ∧ (tyI Tryd.prog 42 = { tk := .struct [(0, 1), (1, 1), (2, 1)], agg := true, sz := 3, bytes := 40, zero := [.int .i64 0, .emp, .int .i64 0], ek := 0 }) ∧ (tyI Tryd.prog 43 = { tk := .struct [(0, 1), (1, 1), (2, 1)], agg := true, sz := 3, bytes := 40, zero := [.int .i64 0, .emp, .int .i64 0], ek := 0 }) ∧ (tyI Tryd.prog 44 = { tk := .slice 103, agg := false, sz := 1, bytes := 24, zero := [.emp], ek := 0 }) ∧ (tyI Tryd.prog 45 = { tk := .struct [(0, 4), (4, 3), (7, 1), (8, 1), (9, 1)], agg := true, sz := 10, bytes := 176, zero := [.emp, .emp, .emp, .emp, .int .i64 0, .emp, .int .i64 0, .emp, .int .i64 0, .bool false], ek := 0 }) ∧ (tyI Tryd.prog 46 = { tk := .struct [(0, 4), (4, 3), (7, 1), (8, 1), (9, 1)], agg := true, sz := 10, bytes := 176, zero := [.emp, .emp, .emp, .emp, .int .i64 0, .emp, .int .i64 0, .emp, .int .i64 0, .bool false], ek := 0 }) ∧ (tyI Tryd.prog 49 = { tk := .struct [(0, 1), (1, 1), (2, 1)], agg := true, sz := 3, bytes := 40, zero := [.int .i64 0, .emp, .int .i64 0], ek := 0 }) ∧ (tyI Tryd.prog 50 = { tk := .slice 101, agg := false, sz := 1, bytes := 24, zero := [.emp], ek := 0 }) ∧ (tyI Tryd.prog 51 = { tk := .struct [(0, 4), (4, 3), (7, 1), (8, 1), (9, 1)], agg := true, sz := 10, bytes := 176, zero := [.emp, .emp, .emp, .emp, .int .i64 0, .emp, .int .i64 0, .emp, .int .i64 0, .bool false], ek := 0 }) ∧ (tyI Tryd.prog 52 = { tk := .struct [(0, 4), (4, 3), (7, 1), (8, 1), (9, 1)], agg := true, sz := 10, bytes := 176, zero := [.emp, .emp, .emp, .emp, .int .i64 0, .emp, .int .i64 0, .emp, .int .i64 0, .bool false], ek := 0 }) ∧ (tyI Tryd.prog 58 = { tk := .other, agg := false, sz := 1, bytes := 8, zero := [.any], ek := 0 }) ∧ (tyI Tryd.prog 79 = { tk := .slice 9, agg := false, sz := 1, bytes := 24, zero := [.emp], ek := 0 }) ∧ (tyI Tryd.prog 87 = { tk := .struct [(0, 1), (1, 1)], agg := true, sz := 2, bytes := 32, zero := [.emp, .int .i64 0], ek := 0 }) ∧ (tyI Tryd.prog 88 = { tk := .struct [(0, 1), (1, 1)], agg := true, sz := 2, bytes := 32, zero := [.emp, .int .i64 0], ek := 0 }) ∧ (tyI Tryd.prog 97 = { tk := .slice 23, agg := false, sz := 1, bytes := 24, zero := [.emp], ek := 0 }) ∧ (tyI Tryd.prog 100 = { tk := .struct [(0, 1), (1, 1), (2, 1)], agg := true, sz := 3, bytes := 24, zero := [.int .i64 0, .int .i64 0, .int .i64 0], ek := 5 }) ∧ (tyI Tryd.prog 101 = { tk := .struct [(0, 1), (1, 1), (2, 1)], agg := true, sz := 3, bytes := 24, zero := [.int .i64 0, .int .i64 0, .int .i64 0], ek := 5 }) ∧ (tyI Tryd.prog 103 = { tk := .struct [(0, 1), (1, 1), (2, 1)], agg := true, sz := 3, bytes := 24, zero := [.int .i64 0, .int .i64 0, .int .i64 0], ek := 5 }) ∧ (tyI Tryd.prog 111 = { tk := .struct [(0, 3), (3, 1)], agg := true, sz := 4, bytes := 96, zero := [.emp, .emp, .emp, .emp], ek := 0 }) ∧ (tyI Tryd.prog 112 = { tk := .struct [(0, 3), (3, 1)], agg := true, sz := 4, bytes := 96, zero := [.emp, .emp, .emp, .emp], ek := 0 }) ∧ (tyI Tryd.prog 130 = { tk := .slice 4, agg := false, sz := 1, bytes := 24, zero := [.emp], ek := 0 }) ∧ (tyI Tryd.prog 133 = { tk := .int .u64, agg := false, sz := 1, bytes := 8, zero := [.int .u64 0], ek := 0 }) ∧ (tyI Tryd.prog 154 = { tk := .int .u32, agg := false, sz := 1, bytes := 4, zero := [.int .u32 0], ek := 0 }) ∧ (tyI Tryd.prog 156 = { tk := .int .u64, agg := false, sz := 1, bytes := 8, zero := [.int .u64 0], ek := 0 }) ∧ (tyI Tryd.prog 178 = { tk := .other, agg := false, sz := 1, bytes := 8, zero := [.any], ek := 0 }) ∧ (fldI Tryd.prog 7 0 = some 0) ∧ (fldI Tryd.prog 7 1 = some 1) ∧ (fldI Tryd.prog 7 2 = some 2) ∧ (fldI Tryd.prog 7 3 = some 3) ∧ (fldI Tryd.prog 8 0 = some 0) ∧ (fldI Tryd.prog 8 1 = some 1) ∧ (fldI Tryd.prog 8 2 = some 2) ∧ (fldI Tryd.prog 8 3 = some 3) ∧ (fldI Tryd.prog 13 0 = some 0) ∧ (fldI Tryd.prog 13 1 = some 1) ∧ (fldI Tryd.prog 14 0 = some 0) ∧ (fldI Tryd.prog 14 1 = some 1) ∧ (fldI Tryd.prog 24 0 = some 0) ∧ (fldI Tryd.prog 24 1 = some 1) ∧ (fldI Tryd.prog 24 2 = some 2) ∧ (fldI Tryd.prog 25 0 = some 0) ∧ (fldI Tryd.prog 25 1 = some 1) ∧ (fldI Tryd.prog 25 2 = some 2) ∧ (fldI Tryd.prog 26 1 = some 3) ∧ (fldI Tryd.prog 27 1 = some 3) ∧ (fldI Tryd.prog 36 0 = some 0) ∧ (fldI Tryd.prog 36 1 = some 1) ∧ (fldI Tryd.prog 36 2 = some 2) ∧ (fldI Tryd.prog 37 1 = some 3) ∧ (fldI Tryd.prog 38 1 = some 3) ∧ (fldI Tryd.prog 42 0 = some 0) ∧ (fldI Tryd.prog 42 1 = some 1) ∧ (fldI Tryd.prog 42 2 = some 2) ∧ (fldI Tryd.prog 43 0 = some 0) ∧ (fldI Tryd.prog 43 1 = some 1) ∧ (fldI Tryd.prog 43 2 = some 2) ∧ (fldI Tryd.prog 45 2 = some 7) ∧ (fldI Tryd.prog 45 3 = some 8) ∧ (fldI Tryd.prog 45 4 = some 9) ∧ (fldI Tryd.prog 46 2 = some 7) ∧ (fldI Tryd.prog 46 3 = some 8) ∧ (fldI Tryd.prog 46 4 = some 9) ∧ (fldI Tryd.prog 49 0 = some 0) ∧ (fldI Tryd.prog 49 1 = some 1) ∧ (fldI Tryd.prog 49 2 = some 2) ∧ (fldI Tryd.prog 51 2 = some 7) ∧ (fldI Tryd.prog 51 3 = some 8) ∧ (fldI Tryd.prog 51 4 = some 9) ∧ (fldI Tryd.prog 52 2 = some 7) ∧ (fldI Tryd.prog 52 3 = some 8) ∧ (fldI Tryd.prog 52 4 = some 9) ∧ (fldI Tryd.prog 87 0 = some 0) ∧ (fldI Tryd.prog 87 1 = some 1) ∧ (fldI Tryd.prog 88 0 = some 0) ∧ (fldI Tryd.prog 88 1 = some 1) ∧ (fldI Tryd.prog 100 0 = some 0) ∧ (fldI Tryd.prog 100 1 = some 1) ∧ (fldI Tryd.prog 100 2 = some 2) ∧ (fldI Tryd.prog 101 0 = some 0) ∧ (fldI Tryd.prog 101 1 = some 1) ∧ (fldI Tryd.prog 101 2 = some 2) ∧ (fldI Tryd.prog 103 0 = some 0) ∧ (fldI Tryd.prog 103 1 = some 1) ∧ (fldI Tryd.prog 103 2 = some 2) ∧ (fldI Tryd.prog 111 1 = some 3) ∧ (fldI Tryd.prog 112 1 = some 3) ∧ (fldI Tryd.prog 169 3 = some 3) ∧ (fldI Tryd.prog 170 3 = some 3) ∧ (fldI Tryd.prog 181 0 = some 0) ∧ (fldI Tryd.prog 181 1 = some 1) ∧ (fldI Tryd.prog 181 2 = some 2) ∧ (fldI Tryd.prog 181 3 = some 3) ∧ (fldI Tryd.prog 181 4 = some 4) ∧ (fldI Tryd.prog 181 5 = some 5) ∧ (fldI Tryd.prog 181 6 = some 6) ∧ (fldI Tryd.prog 181 9 = some 9) ∧ (fldI Tryd.prog 181 10 = some 10) ∧ (fldI Tryd.prog 182 0 = some 0) ∧ (fldI Tryd.prog 182 1 = some 1) ∧ (fldI Tryd.prog 182 2 = some 2) ∧ (fldI Tryd.prog 182 3 = some 3) ∧ (fldI Tryd.prog 182 4 = some 4) ∧ (fldI Tryd.prog 182 5 = some 5) ∧ (fldI Tryd.prog 182 6 = some 6) ∧ (fldI Tryd.prog 182 9 = some 9) ∧ (fldI Tryd.prog 182 10 = some 10) ∧ (eq3Ty Tryd.prog 100 = true) ∧ (eq3Ty Tryd.prog 101 = true) ∧ (eq3Ty Tryd.prog 103 = true) := ⟨ty2, ty3, ty4, ty5, ty7, ty9, ty12, ty13, ty17, ty21, ty22, ty23, ty24, ty25, ty26, ty27, ty36, ty37, ty38, ty42, ty43, ty44, ty45, ty46, ty49, ty50, ty51, ty52, ty58, ty79, ty87, ty88, ty97, ty100, ty101, ty103, ty111, ty112, ty130, ty133, ty154, ty156, ty178, fd7_0, fd7_1, fd7_2, fd7_3, fd8_0, fd8_1, fd8_2, fd8_3, fd13_0, fd13_1, fd14_0, fd14_1, fd24_0, fd24_1, fd24_2, fd25_0, fd25_1, fd25_2, fd26_1, fd27_1, fd36_0, fd36_1, fd36_2, fd37_1, fd38_1, fd42_0, fd42_1, fd42_2, fd43_0, fd43_1, fd43_2, fd45_2, fd45_3, fd45_4, fd46_2, fd46_3, fd46_4, fd49_0, fd49_1, fd49_2, fd51_2, fd51_3, fd51_4, fd52_2, fd52_3, fd52_4, fd87_0, fd87_1, fd88_0, fd88_1, fd100_0, fd100_1, fd100_2, fd101_0, fd101_1, fd101_2, fd103_0, fd103_1, fd103_2, fd111_1, fd112_1, fd169_3, fd170_3, fd181_0, fd181_1, fd181_2, fd181_3, fd181_4, fd181_5, fd181_6, fd181_9, fd181_10, fd182_0, fd182_1, fd182_2, fd182_3, fd182_4, fd182_5, fd182_6, fd182_9, fd182_10, eq100, eq101, eq103⟩

end Go.Proofs.YthldlaiplfennaaDoor.S
