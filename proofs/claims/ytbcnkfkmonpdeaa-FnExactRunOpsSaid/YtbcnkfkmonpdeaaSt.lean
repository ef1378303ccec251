/- What the symbolic steps need of the translation's types: printed by gentys.py of this session, checked by the kernel. -/
import Derived.Test.YtbcnkfkmonpdeaaSo
import Derived.Test.YtbcnkfkmonpdeaaProg
namespace Go.Proofs.Ytbcnkfkmonpdeaa.S
set_option linter.all false
open Go Go.Proofs

theorem ty2 : tyI Try.prog 2 = { tk := .int .i64, agg := false, sz := 1, bytes := 8, zero := [.int .i64 0], ek := 1 } := by kernel_rfl
theorem ty3 : tyI Try.prog 3 = { tk := .int .i64, agg := false, sz := 1, bytes := 8, zero := [.int .i64 0], ek := 1 } := by kernel_rfl
theorem ty4 : tyI Try.prog 4 = { tk := .bool, agg := false, sz := 1, bytes := 1, zero := [.bool false], ek := 2 } := by kernel_rfl
theorem ty5 : tyI Try.prog 5 = { tk := .int .u8, agg := false, sz := 1, bytes := 1, zero := [.int .u8 0], ek := 3 } := by kernel_rfl
theorem ty7 : tyI Try.prog 7 = { tk := .struct [(0, 1), (1, 1), (2, 1), (3, 1)], agg := true, sz := 4, bytes := 24, zero := [.int .i64 0, .int .i64 0, .bool false, .int .u8 0], ek := 0 } := by kernel_rfl
theorem ty9 : tyI Try.prog 9 = { tk := .str, agg := false, sz := 1, bytes := 16, zero := [.str ⟨#[]⟩], ek := 4 } := by kernel_rfl
theorem ty12 : tyI Try.prog 12 = { tk := .int .u64, agg := false, sz := 1, bytes := 8, zero := [.int .u64 0], ek := 0 } := by kernel_rfl
theorem ty13 : tyI Try.prog 13 = { tk := .struct [(0, 1), (1, 1)], agg := true, sz := 2, bytes := 24, zero := [.str ⟨#[]⟩, .int .u64 0], ek := 0 } := by kernel_rfl
theorem ty17 : tyI Try.prog 17 = { tk := .other, agg := false, sz := 1, bytes := 8, zero := [.any], ek := 0 } := by kernel_rfl
theorem ty21 : tyI Try.prog 21 = { tk := .int .i32, agg := false, sz := 1, bytes := 4, zero := [.int .i32 0], ek := 0 } := by kernel_rfl
theorem ty22 : tyI Try.prog 22 = { tk := .slice 5, agg := false, sz := 1, bytes := 24, zero := [.emp], ek := 0 } := by kernel_rfl
theorem ty23 : tyI Try.prog 23 = { tk := .slice 3, agg := false, sz := 1, bytes := 24, zero := [.emp], ek := 0 } := by kernel_rfl
theorem ty24 : tyI Try.prog 24 = { tk := .struct [(0, 1), (1, 1), (2, 1)], agg := true, sz := 3, bytes := 72, zero := [.emp, .emp, .emp], ek := 0 } := by kernel_rfl
theorem ty25 : tyI Try.prog 25 = { tk := .struct [(0, 1), (1, 1), (2, 1)], agg := true, sz := 3, bytes := 72, zero := [.emp, .emp, .emp], ek := 0 } := by kernel_rfl
theorem ty26 : tyI Try.prog 26 = { tk := .struct [(0, 3), (3, 1)], agg := true, sz := 4, bytes := 96, zero := [.emp, .emp, .emp, .emp], ek := 0 } := by kernel_rfl
theorem ty27 : tyI Try.prog 27 = { tk := .struct [(0, 3), (3, 1)], agg := true, sz := 4, bytes := 96, zero := [.emp, .emp, .emp, .emp], ek := 0 } := by kernel_rfl
theorem ty28 : tyI Try.prog 28 = { tk := .struct [(0, 1), (1, 1), (2, 1)], agg := true, sz := 3, bytes := 24, zero := [.int .i64 0, .int .i64 0, .int .i64 0], ek := 5 } := by kernel_rfl
theorem ty29 : tyI Try.prog 29 = { tk := .struct [(0, 1), (1, 1), (2, 1)], agg := true, sz := 3, bytes := 24, zero := [.int .i64 0, .int .i64 0, .int .i64 0], ek := 5 } := by kernel_rfl
theorem ty35 : tyI Try.prog 35 = { tk := .slice 4, agg := false, sz := 1, bytes := 24, zero := [.emp], ek := 0 } := by kernel_rfl
theorem ty49 : tyI Try.prog 49 = { tk := .struct [(0, 1), (1, 1), (2, 1)], agg := true, sz := 3, bytes := 40, zero := [.int .i64 0, .emp, .int .i64 0], ek := 0 } := by kernel_rfl
theorem ty50 : tyI Try.prog 50 = { tk := .struct [(0, 1), (1, 1), (2, 1)], agg := true, sz := 3, bytes := 40, zero := [.int .i64 0, .emp, .int .i64 0], ek := 0 } := by kernel_rfl
theorem ty59 : tyI Try.prog 59 = { tk := .struct [(0, 1), (1, 1), (2, 1)], agg := true, sz := 3, bytes := 72, zero := [.emp, .emp, .emp], ek := 0 } := by kernel_rfl
theorem ty60 : tyI Try.prog 60 = { tk := .struct [(0, 3), (3, 1)], agg := true, sz := 4, bytes := 96, zero := [.emp, .emp, .emp, .emp], ek := 0 } := by kernel_rfl
theorem ty61 : tyI Try.prog 61 = { tk := .struct [(0, 3), (3, 1)], agg := true, sz := 4, bytes := 96, zero := [.emp, .emp, .emp, .emp], ek := 0 } := by kernel_rfl
theorem ty62 : tyI Try.prog 62 = { tk := .struct [(0, 4), (4, 1)], agg := true, sz := 5, bytes := 120, zero := [.emp, .emp, .emp, .emp, .emp], ek := 0 } := by kernel_rfl
theorem ty63 : tyI Try.prog 63 = { tk := .struct [(0, 4), (4, 1)], agg := true, sz := 5, bytes := 120, zero := [.emp, .emp, .emp, .emp, .emp], ek := 0 } := by kernel_rfl
theorem ty65 : tyI Try.prog 65 = { tk := .struct [(0, 4), (4, 1)], agg := true, sz := 5, bytes := 120, zero := [.emp, .emp, .emp, .emp, .emp], ek := 0 } := by kernel_rfl
theorem ty66 : tyI Try.prog 66 = { tk := .struct [(0, 4), (4, 1)], agg := true, sz := 5, bytes := 120, zero := [.emp, .emp, .emp, .emp, .emp], ek := 0 } := by kernel_rfl
theorem ty76 : tyI Try.prog 76 = { tk := .slice 29, agg := false, sz := 1, bytes := 24, zero := [.emp], ek := 0 } := by kernel_rfl
theorem ty80 : tyI Try.prog 80 = { tk := .slice 141, agg := false, sz := 1, bytes := 24, zero := [.emp], ek := 0 } := by kernel_rfl
theorem ty95 : tyI Try.prog 95 = { tk := .struct [(0, 3), (3, 1)], agg := true, sz := 4, bytes := 96, zero := [.emp, .emp, .emp, .emp], ek := 0 } := by kernel_rfl
theorem ty96 : tyI Try.prog 96 = { tk := .struct [(0, 3), (3, 1)], agg := true, sz := 4, bytes := 96, zero := [.emp, .emp, .emp, .emp], ek := 0 } := by kernel_rfl
theorem ty104 : tyI Try.prog 104 = { tk := .struct [(0, 4), (4, 3), (7, 1), (8, 1), (9, 1)], agg := true, sz := 10, bytes := 176, zero := [.emp, .emp, .emp, .emp, .int .i64 0, .emp, .int .i64 0, .emp, .int .i64 0, .bool false], ek := 0 } := by kernel_rfl
theorem ty105 : tyI Try.prog 105 = { tk := .struct [(0, 4), (4, 3), (7, 1), (8, 1), (9, 1)], agg := true, sz := 10, bytes := 176, zero := [.emp, .emp, .emp, .emp, .int .i64 0, .emp, .int .i64 0, .emp, .int .i64 0, .bool false], ek := 0 } := by kernel_rfl
theorem ty110 : tyI Try.prog 110 = { tk := .other, agg := false, sz := 1, bytes := 8, zero := [.any], ek := 0 } := by kernel_rfl
theorem ty141 : tyI Try.prog 141 = { tk := .struct [(0, 1), (1, 1), (2, 1)], agg := true, sz := 3, bytes := 24, zero := [.int .i64 0, .int .i64 0, .int .i64 0], ek := 5 } := by kernel_rfl
theorem ty153 : tyI Try.prog 153 = { tk := .struct [(0, 1), (1, 1)], agg := true, sz := 2, bytes := 32, zero := [.emp, .int .i64 0], ek := 0 } := by kernel_rfl
theorem ty154 : tyI Try.prog 154 = { tk := .struct [(0, 1), (1, 1)], agg := true, sz := 2, bytes := 32, zero := [.emp, .int .i64 0], ek := 0 } := by kernel_rfl
theorem ty159 : tyI Try.prog 159 = { tk := .slice 23, agg := false, sz := 1, bytes := 24, zero := [.emp], ek := 0 } := by kernel_rfl
theorem ty161 : tyI Try.prog 161 = { tk := .other, agg := false, sz := 1, bytes := 8, zero := [.any], ek := 0 } := by kernel_rfl
theorem ty162 : tyI Try.prog 162 = { tk := .other, agg := false, sz := 1, bytes := 8, zero := [.any], ek := 0 } := by kernel_rfl
theorem ty168 : tyI Try.prog 168 = { tk := .slice 9, agg := false, sz := 1, bytes := 24, zero := [.emp], ek := 0 } := by kernel_rfl
theorem ty183 : tyI Try.prog 183 = { tk := .int .u32, agg := false, sz := 1, bytes := 4, zero := [.int .u32 0], ek := 0 } := by kernel_rfl
theorem ty187 : tyI Try.prog 187 = { tk := .other, agg := false, sz := 1, bytes := 8, zero := [.any], ek := 0 } := by kernel_rfl
theorem ty194 : tyI Try.prog 194 = { tk := .int .u64, agg := false, sz := 1, bytes := 8, zero := [.int .u64 0], ek := 0 } := by kernel_rfl
theorem fd7_0 : fldI Try.prog 7 0 = some 0 := by kernel_rfl
theorem fd7_1 : fldI Try.prog 7 1 = some 1 := by kernel_rfl
theorem fd7_2 : fldI Try.prog 7 2 = some 2 := by kernel_rfl
theorem fd7_3 : fldI Try.prog 7 3 = some 3 := by kernel_rfl
theorem fd8_0 : fldI Try.prog 8 0 = some 0 := by kernel_rfl
theorem fd8_1 : fldI Try.prog 8 1 = some 1 := by kernel_rfl
theorem fd8_2 : fldI Try.prog 8 2 = some 2 := by kernel_rfl
theorem fd8_3 : fldI Try.prog 8 3 = some 3 := by kernel_rfl
theorem fd13_0 : fldI Try.prog 13 0 = some 0 := by kernel_rfl
theorem fd13_1 : fldI Try.prog 13 1 = some 1 := by kernel_rfl
theorem fd14_0 : fldI Try.prog 14 0 = some 0 := by kernel_rfl
theorem fd14_1 : fldI Try.prog 14 1 = some 1 := by kernel_rfl
theorem fd24_0 : fldI Try.prog 24 0 = some 0 := by kernel_rfl
theorem fd24_1 : fldI Try.prog 24 1 = some 1 := by kernel_rfl
theorem fd24_2 : fldI Try.prog 24 2 = some 2 := by kernel_rfl
theorem fd25_0 : fldI Try.prog 25 0 = some 0 := by kernel_rfl
theorem fd25_1 : fldI Try.prog 25 1 = some 1 := by kernel_rfl
theorem fd25_2 : fldI Try.prog 25 2 = some 2 := by kernel_rfl
theorem fd26_1 : fldI Try.prog 26 1 = some 3 := by kernel_rfl
theorem fd27_1 : fldI Try.prog 27 1 = some 3 := by kernel_rfl
theorem fd28_0 : fldI Try.prog 28 0 = some 0 := by kernel_rfl
theorem fd28_1 : fldI Try.prog 28 1 = some 1 := by kernel_rfl
theorem fd28_2 : fldI Try.prog 28 2 = some 2 := by kernel_rfl
theorem fd29_0 : fldI Try.prog 29 0 = some 0 := by kernel_rfl
theorem fd29_1 : fldI Try.prog 29 1 = some 1 := by kernel_rfl
theorem fd29_2 : fldI Try.prog 29 2 = some 2 := by kernel_rfl
theorem fd49_0 : fldI Try.prog 49 0 = some 0 := by kernel_rfl
theorem fd49_1 : fldI Try.prog 49 1 = some 1 := by kernel_rfl
theorem fd49_2 : fldI Try.prog 49 2 = some 2 := by kernel_rfl
theorem fd50_0 : fldI Try.prog 50 0 = some 0 := by kernel_rfl
theorem fd50_1 : fldI Try.prog 50 1 = some 1 := by kernel_rfl
theorem fd50_2 : fldI Try.prog 50 2 = some 2 := by kernel_rfl
theorem fd59_0 : fldI Try.prog 59 0 = some 0 := by kernel_rfl
theorem fd59_1 : fldI Try.prog 59 1 = some 1 := by kernel_rfl
theorem fd59_2 : fldI Try.prog 59 2 = some 2 := by kernel_rfl
theorem fd60_1 : fldI Try.prog 60 1 = some 3 := by kernel_rfl
theorem fd61_1 : fldI Try.prog 61 1 = some 3 := by kernel_rfl
theorem fd62_1 : fldI Try.prog 62 1 = some 4 := by kernel_rfl
theorem fd63_1 : fldI Try.prog 63 1 = some 4 := by kernel_rfl
theorem fd65_1 : fldI Try.prog 65 1 = some 4 := by kernel_rfl
theorem fd66_1 : fldI Try.prog 66 1 = some 4 := by kernel_rfl
theorem fd95_1 : fldI Try.prog 95 1 = some 3 := by kernel_rfl
theorem fd96_1 : fldI Try.prog 96 1 = some 3 := by kernel_rfl
theorem fd104_2 : fldI Try.prog 104 2 = some 7 := by kernel_rfl
theorem fd104_3 : fldI Try.prog 104 3 = some 8 := by kernel_rfl
theorem fd104_4 : fldI Try.prog 104 4 = some 9 := by kernel_rfl
theorem fd105_2 : fldI Try.prog 105 2 = some 7 := by kernel_rfl
theorem fd105_3 : fldI Try.prog 105 3 = some 8 := by kernel_rfl
theorem fd105_4 : fldI Try.prog 105 4 = some 9 := by kernel_rfl
theorem fd141_0 : fldI Try.prog 141 0 = some 0 := by kernel_rfl
theorem fd141_1 : fldI Try.prog 141 1 = some 1 := by kernel_rfl
theorem fd141_2 : fldI Try.prog 141 2 = some 2 := by kernel_rfl
theorem fd153_0 : fldI Try.prog 153 0 = some 0 := by kernel_rfl
theorem fd153_1 : fldI Try.prog 153 1 = some 1 := by kernel_rfl
theorem fd154_0 : fldI Try.prog 154 0 = some 0 := by kernel_rfl
theorem fd154_1 : fldI Try.prog 154 1 = some 1 := by kernel_rfl
theorem fd177_3 : fldI Try.prog 177 3 = some 3 := by kernel_rfl
theorem fd178_3 : fldI Try.prog 178 3 = some 3 := by kernel_rfl
theorem fd190_0 : fldI Try.prog 190 0 = some 0 := by kernel_rfl
theorem fd190_1 : fldI Try.prog 190 1 = some 1 := by kernel_rfl
theorem fd190_2 : fldI Try.prog 190 2 = some 2 := by kernel_rfl
theorem fd190_3 : fldI Try.prog 190 3 = some 3 := by kernel_rfl
theorem fd190_4 : fldI Try.prog 190 4 = some 4 := by kernel_rfl
theorem fd190_5 : fldI Try.prog 190 5 = some 5 := by kernel_rfl
theorem fd190_6 : fldI Try.prog 190 6 = some 6 := by kernel_rfl
theorem fd190_9 : fldI Try.prog 190 9 = some 9 := by kernel_rfl
theorem fd190_10 : fldI Try.prog 190 10 = some 10 := by kernel_rfl
theorem fd191_0 : fldI Try.prog 191 0 = some 0 := by kernel_rfl
theorem fd191_1 : fldI Try.prog 191 1 = some 1 := by kernel_rfl
theorem fd191_2 : fldI Try.prog 191 2 = some 2 := by kernel_rfl
theorem fd191_3 : fldI Try.prog 191 3 = some 3 := by kernel_rfl
theorem fd191_4 : fldI Try.prog 191 4 = some 4 := by kernel_rfl
theorem fd191_5 : fldI Try.prog 191 5 = some 5 := by kernel_rfl
theorem fd191_6 : fldI Try.prog 191 6 = some 6 := by kernel_rfl
theorem fd191_9 : fldI Try.prog 191 9 = some 9 := by kernel_rfl
theorem fd191_10 : fldI Try.prog 191 10 = some 10 := by kernel_rfl
theorem tys : (tyI Try.prog 2 = { tk := .int .i64, agg := false, sz := 1, bytes := 8, zero := [.int .i64 0], ek := 1 }) ∧ (tyI Try.prog 3 = { tk := .int .i64, agg := false, sz := 1, bytes := 8, zero := [.int .i64 0], ek := 1 }) ∧ (tyI Try.prog 4 = { tk := .bool, agg := false, sz := 1, bytes := 1, zero := [.bool false], ek := 2 }) ∧ (tyI Try.prog 5 = { tk := .int .u8, agg := false, sz := 1, bytes := 1, zero := [.int .u8 0], ek := 3 }) ∧ (tyI Try.prog 7 = { tk := .struct [(0, 1), (1, 1), (2, 1), (3, 1)], agg := true, sz := 4, bytes := 24, zero := [.int .i64 0, .int .i64 0, .bool false, .int .u8 0], ek := 0 }) ∧ (tyI Try.prog 9 = { tk := .str, agg := false, sz := 1, bytes := 16, zero := [.str ⟨#[]⟩], ek := 4 }) ∧ (tyI Try.prog 12 = { tk := .int .u64, agg := false, sz := 1, bytes := 8, zero := [.int .u64 0], ek := 0 }) ∧ (tyI Try.prog 13 = { tk := .struct [(0, 1), (1, 1)], agg := true, sz := 2, bytes := 24, zero := [.str ⟨#[]⟩, .int .u64 0], ek := 0 }) ∧ (tyI Try.prog 17 = { tk := .other, agg := false, sz := 1, bytes := 8, zero := [.any], ek := 0 }) ∧ (tyI Try.prog 21 = { tk := .int .i32, agg := false, sz := 1, bytes := 4, zero := [.int .i32 0], ek := 0 }) ∧ (tyI Try.prog 22 = { tk := .slice 5, agg := false, sz := 1, bytes := 24, zero := [.emp], ek := 0 }) ∧ (tyI Try.prog 23 = { tk := .slice 3, agg := false, sz := 1, bytes := 24, zero := [.emp], ek := 0 }) ∧ (tyI Try.prog 24 = { tk := .struct [(0, 1), (1, 1), (2, 1)], agg := true, sz := 3, bytes := 72, zero := [.emp, .emp, .emp], ek := 0 }) ∧ (tyI Try.prog 25 = { tk := .struct [(0, 1), (1, 1), (2, 1)], agg := true, sz := 3, bytes := 72, zero := [.emp, .emp, .emp], ek := 0 }) ∧ (tyI Try.prog 26 = { tk := .struct [(0, 3), (3, 1)], agg := true, sz := 4, bytes := 96, zero := [.emp, .emp, .emp, .emp], ek := 0 }) ∧ (tyI Try.prog 27 = { tk := .struct [(0, 3), (3, 1)], agg := true, sz := 4, bytes := 96, zero := [.emp, .emp, .emp, .emp], ek := 0 }) ∧ (tyI Try.prog 28 = { tk := .struct [(0, 1), (1, 1), (2, 1)], agg := true, sz := 3, bytes := 24, zero := [.int .i64 0, .int .i64 0, .int .i64 0], ek := 5 }) ∧ (tyI Try.prog 29 = { tk := .struct [(0, 1), (1, 1), (2, 1)], agg := true, sz := 3, bytes := 24, zero := [.int .i64 0, .int .i64 0, .int .i64 0], ek := 5 }) ∧ (tyI Try.prog 35 = { tk := .slice 4, agg := false, sz := 1, bytes := 24, zero := [.emp], ek := 0 }) ∧ (tyI Try.prog 49 = { tk := .struct [(0, 1), (1, 1), (2, 1)], agg := true, sz := 3, bytes := 40, zero := [.int .i64 0, .emp, .int .i64 0], ek := 0 }) ∧ (tyI Try.prog 50 = { tk := .struct [(0, 1), (1, 1), (2, 1)], agg := true, sz := 3, bytes := 40, zero := [.int .i64 0, .emp, .int .i64 0], ek := 0 }) ∧ (tyI Try.prog 59 = { tk := .struct [(0, 1), (1, 1), (2, 1)], agg := true, sz := 3, bytes := 72, zero := [.emp, .emp, .emp], ek := 0 }) ∧ (tyI Try.prog 60 = { tk := .struct [(0, 3), (3, 1)], agg := true, sz := 4, bytes := 96, zero := [.emp, .emp, .emp, .emp], ek := 0 }) ∧ (tyI Try.prog 61 = { tk := .struct [(0, 3), (3, 1)], agg := true, sz := 4, bytes := 96, zero := [.emp, .emp, .emp, .emp], ek := 0 }) ∧ (tyI Try.prog 62 = { tk := .struct [(0, 4), (4, 1)], agg := true, sz := 5, bytes := 120, zero := [.emp, .emp, .emp, .emp, .emp], ek := 0 }) ∧ (tyI Try.prog 63 = { tk := .struct [(0, 4), (4, 1)], agg := true, sz := 5, bytes := 120, zero := [.emp, .emp, .emp, .emp, .emp], ek := 0 }) ∧ (tyI Try.prog 65 = { tk := .struct [(0, 4), (4, 1)], agg := true, sz := 5, bytes := 120, zero := [.emp, .emp, .emp, .emp, .emp], ek := 0 }) ∧ (tyI Try.prog 66 = { tk := .struct [(0, 4), (4, 1)], agg := true, sz := 5, bytes := 120, zero := [.emp, .emp, .emp, .emp, .emp], ek := 0 }) ∧ (tyI Try.prog 76 = { tk := .slice 29, agg := false, sz := 1, bytes := 24, zero := [.emp], ek := 0 }) ∧ (tyI Try.prog 80 = { tk := .slice 141, agg := false, sz := 1, bytes := 24, zero := [.emp], ek := 0 }) ∧ (tyI Try.prog 95 = { tk := .struct [(0, 3), (3, 1)], agg := true, sz := 4, bytes := 96, zero := [.emp, .emp, .emp, .emp], ek := 0 }) ∧ (tyI Try.prog 96 = { tk := .struct [(0, 3), (3, 1)], agg := true, sz := 4, bytes := 96, zero := [.emp, .emp, .emp, .emp], ek := 0 }) ∧ (tyI Try.prog 104 = { tk := .struct [(0, 4), (4, 3), (7, 1), (8, 1), (9, 1)], agg := true, sz := 10, bytes := 176, zero := [.emp, .emp, .emp, .emp, .int .i64 0, .emp, .int .i64 0, .emp, .int .i64 0, .bool false], ek := 0 }) ∧ (tyI Try.prog 105 = { tk := .struct [(0, 4), (4, 3), (7, 1), (8, 1), (9, 1)], agg := true, sz := 10, bytes := 176, zero := [.emp, .emp, .emp, .emp, .int .i64 0, .emp, .int .i64 0, .emp, .int .i64 0, .bool false], ek := 0 }) ∧ (tyI Try.prog 110 = { tk := .other, agg := false, sz := 1, bytes := 8, zero := [.any], ek := 0 }) ∧ (tyI Try.prog 141 = { tk := .struct [(0, 1), (1, 1), (2, 1)], agg := true, sz := 3, bytes := 24, zero := [.int .i64 0, .int .i64 0, .int .i64 0], ek := 5 }) ∧ (tyI Try.prog 153 = { tk := .struct [(0, 1), (1, 1)], agg := true, sz := 2, bytes := 32, zero := [.emp, .int .i64 0], ek := 0 }) ∧ (tyI Try.prog 154 = { tk := .struct [(0, 1), (1, 1)], agg := true, sz := 2, bytes := 32, zero := [.emp, .int .i64 0], ek := 0 }) ∧ (tyI Try.prog 159 = { tk := .slice 23, agg := false, sz := 1, bytes := 24, zero := [.emp], ek := 0 }) ∧ (tyI Try.prog 161 = { tk := .other, agg := false, sz := 1, bytes := 8, zero := [.any], ek := 0 }) ∧ (tyI Try.prog 162 = { tk := .other, agg := false, sz := 1, bytes := 8, zero := [.any], ek := 0 }) ∧ (tyI Try.prog 168 = { tk := .slice 9, agg := false, sz := 1, bytes := 24, zero := [.emp], ek := 0 }) ∧ (tyI Try.prog 183 = { tk := .int .u32, agg := false, sz := 1, bytes := 4, zero := [.int .u32 0], ek := 0 }) ∧ (tyI Try.prog 187 = { tk := .other, agg := false, sz := 1, bytes := 8, zero := [.any], ek := 0 }) ∧ (tyI Try.prog 194 = { tk := .int .u64, agg := false, sz := 1, bytes := 8, zero := [.int .u64 0], ek := 0 }) ∧ (fldI Try.prog 7 0 = some 0) ∧ (fldI Try.prog 7 1 = some 1) ∧ (fldI Try.prog 7 2 = some 2) ∧ (fldI Try.prog 7 3 = some 3) ∧ (fldI Try.prog 8 0 = some 0) ∧ (fldI Try.prog 8 1 = some 1) ∧ (fldI Try.prog 8 2 = some 2) ∧ (fldI Try.prog 8 3 = some 3) ∧ (fldI Try.prog 13 0 = some 0) ∧ (fldI Try.prog 13 1 = some 1) ∧ (fldI Try.prog 14 0 = some 0) ∧ (fldI Try.prog 14 1 = some 1) ∧ (fldI Try.prog 24 0 = some 0) ∧ (fldI Try.prog 24 1 = some 1) ∧ (fldI Try.prog 24 2 = some 2) ∧ (fldI Try.prog 25 0 = some 0) ∧ (fldI Try.prog 25 1 = some 1) ∧ (fldI Try.prog 25 2 = some 2) ∧ (fldI Try.prog 26 1 = some 3) ∧ (fldI Try.prog 27 1 = some 3) ∧ (fldI Try.prog 28 0 = some 0) ∧ (fldI Try.prog 28 1 = some 1) ∧ (fldI Try.prog 28 2 = some 2) ∧ (fldI Try.prog 29 0 = some 0) ∧ (fldI Try.prog 29 1 = some 1) ∧ (fldI Try.prog 29 2 = some 2) ∧ (fldI Try.prog 49 0 = some 0) ∧ (fldI Try.prog 49 1 = some 1) ∧ (fldI Try.prog 49 2 = some 2) ∧ (fldI Try.prog 50 0 = some 0) ∧ (fldI Try.prog 50 1 = some 1) ∧ (fldI Try.prog 50 2 = some 2) ∧ (fldI Try.prog 59 0 = some 0) ∧ (fldI Try.prog 59 1 = some 1) ∧ (fldI Try.prog 59 2 = some 2) ∧ (fldI Try.prog 60 1 = some 3) ∧ (fldI Try.prog 61 1 = some 3) ∧ (fldI Try.prog 62 1 = some 4) ∧ (fldI Try.prog 63 1 = some 4) ∧ (fldI Try.prog 65 1 = some 4) ∧ (fldI Try.prog 66 1 = some 4) ∧ (fldI Try.prog 95 1 = some 3) ∧ (fldI Try.prog 96 1 = some 3) ∧ (fldI Try.prog 104 2 = some 7) ∧ (fldI Try.prog 104 3 = some 8) ∧ (fldI Try.prog 104 4 = some 9) ∧ (fldI Try.prog 105 2 = some 7) ∧ (fldI Try.prog 105 3 = some 8) ∧ (fldI Try.prog 105 4 = some 9) ∧ (fldI Try.prog 141 0 = some 0) ∧ (fldI Try.prog 141 1 = some 1) ∧ (fldI Try.prog 141 2 = some 2) ∧ (fldI Try.prog 153 0 = some 0) ∧ (fldI Try.prog 153 1 = some 1) ∧ (fldI Try.prog 154 0 = some 0) ∧ (fldI Try.prog 154 1 = some 1) ∧ (fldI Try.prog 177 3 = some 3) ∧ (fldI Try.prog 178 3 = some 3) ∧ (fldI Try.prog 190 0 = some 0) ∧ (fldI Try.prog 190 1 = some 1) ∧ (fldI Try.prog 190 2 = some 2) ∧ (fldI Try.prog 190 3 = some 3) ∧ (fldI Try.prog 190 4 = some 4) ∧ (fldI Try.prog 190 5 = some 5) ∧ (fldI Try.prog 190 6 = some 6) ∧ (fldI Try.prog 190 9 = some 9) ∧ (fldI Try.prog 190 10 = some 10) ∧ (fldI Try.prog 191 0 = some 0) ∧ (fldI Try.prog 191 1 = some 1) ∧ (fldI Try.prog 191 2 = some 2) ∧ (fldI Try.prog 191 3 = some 3) ∧ (fldI Try.prog 191 4 = some 4) ∧ (fldI Try.prog 191 5 = some 5) ∧ (fldI Try.prog 191 6 = some 6) ∧ (fldI Try.prog 191 9 = some 9) ∧ (fldI Try.prog 191 10 = some 10) := ⟨ty2, ty3, ty4, ty5, ty7, ty9, ty12, ty13, ty17, ty21, ty22, ty23, ty24, ty25, ty26, ty27, ty28, ty29, ty35, ty49, ty50, ty59, ty60, ty61, ty62, ty63, ty65, ty66, ty76, ty80, ty95, ty96, ty104, ty105, ty110, ty141, ty153, ty154, ty159, ty161, ty162, ty168, ty183, ty187, ty194, fd7_0, fd7_1, fd7_2, fd7_3, fd8_0, fd8_1, fd8_2, fd8_3, fd13_0, fd13_1, fd14_0, fd14_1, fd24_0, fd24_1, fd24_2, fd25_0, fd25_1, fd25_2, fd26_1, fd27_1, fd28_0, fd28_1, fd28_2, fd29_0, fd29_1, fd29_2, fd49_0, fd49_1, fd49_2, fd50_0, fd50_1, fd50_2, fd59_0, fd59_1, fd59_2, fd60_1, fd61_1, fd62_1, fd63_1, fd65_1, fd66_1, fd95_1, fd96_1, fd104_2, fd104_3, fd104_4, fd105_2, fd105_3, fd105_4, fd141_0, fd141_1, fd141_2, fd153_0, fd153_1, fd154_0, fd154_1, fd177_3, fd178_3, fd190_0, fd190_1, fd190_2, fd190_3, fd190_4, fd190_5, fd190_6, fd190_9, fd190_10, fd191_0, fd191_1, fd191_2, fd191_3, fd191_4, fd191_5, fd191_6, fd191_9, fd191_10⟩

end Go.Proofs.Ytbcnkfkmonpdeaa.S
