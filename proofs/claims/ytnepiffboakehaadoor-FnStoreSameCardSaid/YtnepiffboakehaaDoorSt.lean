/- What the symbolic steps need of the translation's types: printed by gentys.py of this session, checked by the kernel. -/
import Derived.Test.YtnepiffboakehaaDoorA2
import Derived.Test.YtnepiffboakehaaDoorProg
namespace Go.Proofs.YtnepiffboakehaaDoor.S
set_option linter.all false
open Go Go.Proofs

theorem ty2 : tyI Tryd.prog 2 = { tk := .int .i64, agg := false, sz := 1, bytes := 8, zero := [.int .i64 0], ek := 1 } := by kernel_rfl
theorem ty3 : tyI Tryd.prog 3 = { tk := .int .i64, agg := false, sz := 1, bytes := 8, zero := [.int .i64 0], ek := 1 } := by kernel_rfl
theorem ty4 : tyI Tryd.prog 4 = { tk := .bool, agg := false, sz := 1, bytes := 1, zero := [.bool false], ek := 2 } := by kernel_rfl
theorem ty5 : tyI Tryd.prog 5 = { tk := .int .u8, agg := false, sz := 1, bytes := 1, zero := [.int .u8 0], ek := 3 } := by kernel_rfl
theorem ty7 : tyI Tryd.prog 7 = { tk := .struct [(0, 1), (1, 1), (2, 1), (3, 1)], agg := true, sz := 4, bytes := 24, zero := [.int .i64 0, .int .i64 0, .bool false, .int .u8 0], ek := 0 } := by kernel_rfl
theorem ty9 : tyI Tryd.prog 9 = { tk := .str, agg := false, sz := 1, bytes := 16, zero := [.str ⟨#[]⟩], ek := 4 } := by kernel_rfl
theorem ty12 : tyI Tryd.prog 12 = { tk := .int .u64, agg := false, sz := 1, bytes := 8, zero := [.int .u64 0], ek := 0 } := by kernel_rfl
theorem ty13 : tyI Tryd.prog 13 = { tk := .struct [(0, 1), (1, 1)], agg := true, sz := 2, bytes := 24, zero := [.str ⟨#[]⟩, .int .u64 0], ek := 0 } := by kernel_rfl
theorem ty17 : tyI Tryd.prog 17 = { tk := .other, agg := false, sz := 1, bytes := 8, zero := [.any], ek := 0 } := by kernel_rfl
theorem ty21 : tyI Tryd.prog 21 = { tk := .int .i32, agg := false, sz := 1, bytes := 4, zero := [.int .i32 0], ek := 0 } := by kernel_rfl
theorem ty22 : tyI Tryd.prog 22 = { tk := .slice 5, agg := false, sz := 1, bytes := 24, zero := [.emp], ek := 0 } := by kernel_rfl
theorem ty23 : tyI Tryd.prog 23 = { tk := .slice 3, agg := false, sz := 1, bytes := 24, zero := [.emp], ek := 0 } := by kernel_rfl
theorem ty24 : tyI Tryd.prog 24 = { tk := .struct [(0, 1), (1, 1), (2, 1)], agg := true, sz := 3, bytes := 72, zero := [.emp, .emp, .emp], ek := 0 } := by kernel_rfl
theorem ty25 : tyI Tryd.prog 25 = { tk := .struct [(0, 1), (1, 1), (2, 1)], agg := true, sz := 3, bytes := 72, zero := [.emp, .emp, .emp], ek := 0 } := by kernel_rfl
theorem ty26 : tyI Tryd.prog 26 = { tk := .struct [(0, 3), (3, 1)], agg := true, sz := 4, bytes := 96, zero := [.emp, .emp, .emp, .emp], ek := 0 } := by kernel_rfl
theorem ty27 : tyI Tryd.prog 27 = { tk := .struct [(0, 3), (3, 1)], agg := true, sz := 4, bytes := 96, zero := [.emp, .emp, .emp, .emp], ek := 0 } := by kernel_rfl
theorem ty33 : tyI Tryd.prog 33 = { tk := .other, agg := false, sz := 1, bytes := 8, zero := [.any], ek := 0 } := by kernel_rfl
theorem ty43 : tyI Tryd.prog 43 = { tk := .struct [(0, 1), (1, 1)], agg := true, sz := 2, bytes := 32, zero := [.emp, .int .i64 0], ek := 0 } := by kernel_rfl
theorem ty44 : tyI Tryd.prog 44 = { tk := .struct [(0, 1), (1, 1)], agg := true, sz := 2, bytes := 32, zero := [.emp, .int .i64 0], ek := 0 } := by kernel_rfl
theorem ty59 : tyI Tryd.prog 59 = { tk := .slice 23, agg := false, sz := 1, bytes := 24, zero := [.emp], ek := 0 } := by kernel_rfl
theorem ty68 : tyI Tryd.prog 68 = { tk := .int .u64, agg := false, sz := 1, bytes := 8, zero := [.int .u64 0], ek := 0 } := by kernel_rfl
theorem ty75 : tyI Tryd.prog 75 = { tk := .int .u32, agg := false, sz := 1, bytes := 4, zero := [.int .u32 0], ek := 0 } := by kernel_rfl
theorem ty78 : tyI Tryd.prog 78 = { tk := .int .u64, agg := false, sz := 1, bytes := 8, zero := [.int .u64 0], ek := 0 } := by kernel_rfl
theorem ty93 : tyI Tryd.prog 93 = { tk := .other, agg := false, sz := 1, bytes := 8, zero := [.any], ek := 0 } := by kernel_rfl
theorem fd7_0 : fldI Tryd.prog 7 0 = some 0 := by kernel_rfl
theorem fd7_1 : fldI Tryd.prog 7 1 = some 1 := by kernel_rfl
theorem fd7_2 : fldI Tryd.prog 7 2 = some 2 := by kernel_rfl
theorem fd7_3 : fldI Tryd.prog 7 3 = some 3 := by kernel_rfl
theorem fd8_0 : fldI Tryd.prog 8 0 = some 0 := by kernel_rfl
theorem fd8_1 : fldI Tryd.prog 8 1 = some 1 := by kernel_rfl
theorem fd8_2 : fldI Tryd.prog 8 2 = some 2 := by kernel_rfl
theorem fd8_3 : fldI Tryd.prog 8 3 = some 3 := by kernel_rfl
theorem fd13_0 : fldI Tryd.prog 13 0 = some 0 := by kernel_rfl
theorem fd13_1 : fldI Tryd.prog 13 1 = some 1 := by kernel_rfl
theorem fd14_0 : fldI Tryd.prog 14 0 = some 0 := by kernel_rfl
theorem fd14_1 : fldI Tryd.prog 14 1 = some 1 := by kernel_rfl
theorem fd24_0 : fldI Tryd.prog 24 0 = some 0 := by kernel_rfl
theorem fd24_1 : fldI Tryd.prog 24 1 = some 1 := by kernel_rfl
theorem fd24_2 : fldI Tryd.prog 24 2 = some 2 := by kernel_rfl
theorem fd25_0 : fldI Tryd.prog 25 0 = some 0 := by kernel_rfl
theorem fd25_1 : fldI Tryd.prog 25 1 = some 1 := by kernel_rfl
theorem fd25_2 : fldI Tryd.prog 25 2 = some 2 := by kernel_rfl
theorem fd26_1 : fldI Tryd.prog 26 1 = some 3 := by kernel_rfl
theorem fd27_1 : fldI Tryd.prog 27 1 = some 3 := by kernel_rfl
theorem fd43_0 : fldI Tryd.prog 43 0 = some 0 := by kernel_rfl
theorem fd43_1 : fldI Tryd.prog 43 1 = some 1 := by kernel_rfl
theorem fd44_0 : fldI Tryd.prog 44 0 = some 0 := by kernel_rfl
theorem fd44_1 : fldI Tryd.prog 44 1 = some 1 := by kernel_rfl
theorem fd84_3 : fldI Tryd.prog 84 3 = some 3 := by kernel_rfl
theorem fd85_3 : fldI Tryd.prog 85 3 = some 3 := by kernel_rfl
theorem fd96_0 : fldI Tryd.prog 96 0 = some 0 := by kernel_rfl
theorem fd96_1 : fldI Tryd.prog 96 1 = some 1 := by kernel_rfl
theorem fd96_2 : fldI Tryd.prog 96 2 = some 2 := by kernel_rfl
theorem fd96_3 : fldI Tryd.prog 96 3 = some 3 := by kernel_rfl
theorem fd96_4 : fldI Tryd.prog 96 4 = some 4 := by kernel_rfl
theorem fd96_5 : fldI Tryd.prog 96 5 = some 5 := by kernel_rfl
theorem fd96_6 : fldI Tryd.prog 96 6 = some 6 := by kernel_rfl
theorem fd96_9 : fldI Tryd.prog 96 9 = some 9 := by kernel_rfl
theorem fd96_10 : fldI Tryd.prog 96 10 = some 10 := by kernel_rfl
theorem fd97_0 : fldI Tryd.prog 97 0 = some 0 := by kernel_rfl
theorem fd97_1 : fldI Tryd.prog 97 1 = some 1 := by kernel_rfl
theorem fd97_2 : fldI Tryd.prog 97 2 = some 2 := by kernel_rfl
theorem fd97_3 : fldI Tryd.prog 97 3 = some 3 := by kernel_rfl
theorem fd97_4 : fldI Tryd.prog 97 4 = some 4 := by kernel_rfl
theorem fd97_5 : fldI Tryd.prog 97 5 = some 5 := by kernel_rfl
theorem fd97_6 : fldI Tryd.prog 97 6 = some 6 := by kernel_rfl
theorem fd97_9 : fldI Tryd.prog 97 9 = some 9 := by kernel_rfl
theorem fd97_10 : fldI Tryd.prog 97 10 = some 10 := by kernel_rfl
theorem tys : (tyI Tryd.prog 2 = { tk := .int .i64, agg := false, sz := 1, bytes := 8, zero := [.int .i64 0], ek := 1 }) ∧ (tyI Tryd.prog 3 = { tk := .int .i64, agg := false, sz := 1, bytes := 8, zero := [.int .i64 0], ek := 1 }) ∧ (tyI Tryd.prog 4 = { tk := .bool, agg := false, sz := 1, bytes := 1, zero := [.bool false], ek := 2 }) ∧ (tyI Tryd.prog 5 = { tk := .int .u8, agg := false, sz := 1, bytes := 1, zero := [.int .u8 0], ek := 3 }) ∧ (tyI Tryd.prog 7 = { tk := .struct [(0, 1), (1, 1), (2, 1), (3, 1)], agg := true, sz := 4, bytes := 24, zero := [.int .i64 0, .int .i64 0, .bool false, .int .u8 0], ek := 0 }) ∧ (tyI Tryd.prog 9 = { tk := .str, agg := false, sz := 1, bytes := 16, zero := [.str ⟨#[]⟩], ek := 4 }) ∧ (tyI Tryd.prog 12 = { tk := .int .u64, agg := false, sz := 1, bytes := 8, zero := [.int .u64 0], ek := 0 }) ∧ (tyI Tryd.prog 13 = { tk := .struct [(0, 1), (1, 1)], agg := true, sz := 2, bytes := 24, zero := [.str ⟨#[]⟩, .int .u64 0], ek := 0 }) ∧ (tyI Tryd.prog 17 = { tk := .other, agg := false, sz := 1, bytes := 8, zero := [.any], ek := 0 }) ∧ (tyI Tryd.prog 21 = { tk := .int .i32, agg := false, sz := 1, bytes := 4, zero := [.int .i32 0], ek := 0 }) ∧ (tyI Tryd.prog 22 = { tk := .slice 5, agg := false, sz := 1, bytes := 24, zero := [.emp], ek := 0 }) ∧ (tyI Tryd.prog 23 = { tk := .slice 3, agg := false, sz := 1, bytes := 24, zero := [.emp], ek := 0 }) ∧ (tyI Tryd.prog 24 = { tk := .struct [(0, 1), (1, 1), (2, 1)], agg := true, sz := 3, bytes := 72, zero := [.emp, .emp, .emp], ek := 0 }) ∧ (tyI Tryd.prog 25 = { tk := .struct [(0, 1), (1, 1), (2, 1)], agg := true, sz := 3, bytes := 72, zero := [.emp, .emp, .emp], ek := 0 }) ∧ (tyI Tryd.prog 26 = { tk := .struct [(0, 3), (3, 1)], agg := true, sz := 4, bytes := 96, zero := [.emp, .emp, .emp, .emp], ek := 0 }) ∧ (tyI Tryd.prog 27 = { tk := .struct [(0, 3), (3, 1)], agg := true, sz := 4, bytes := 96, zero := [.emp, .emp, .emp, .emp], ek := 0 }) ∧ (tyI Tryd.prog 33 = { tk := .other, agg := false, sz := 1, bytes := 8, zero := [.any], ek := 0 }) ∧ (tyI Tryd.prog 43 = { tk := .struct [(0, 1), (1, 1)], agg := true, sz := 2, bytes := 32, zero := [.emp, .int .i64 0], ek := 0 }) ∧ (tyI Tryd.prog 44 = { tk := .struct [(0, 1), (1, 1)], agg := true, sz := 2, bytes := 32, zero := [.emp, .int .i64 0], ek := 0 }) ∧ (tyI Tryd.prog 59 = { tk := .slice 23, agg := false, sz := 1, bytes := 24, zero := [.emp], ek := 0 }) ∧ (tyI Tryd.prog 68 = { tk := .int .u64, agg := false, sz := 1, bytes := 8, zero := [.int .u64 0], ek := 0 }) ∧ (tyI Tryd.prog 75 = { tk := .int .u32, agg := false, sz := 1, bytes := 4, zero := [.int .u32 0], ek := 0 }) ∧ (tyI Tryd.prog 78 = { tk := .int .u64, agg := false, sz := 1, bytes := 8, zero := [.int .u64 0], ek := 0 }) ∧ (tyI Tryd.prog 93 = { tk := .other, agg := false, sz := 1, bytes := 8, zero := [.any], ek := 0 }) ∧ (fldI Tryd.prog 7 0 = some 0) ∧ (fldI Tryd.prog 7 1 = some 1) ∧ (fldI Tryd.prog 7 2 = some 2) ∧ (fldI Tryd.prog 7 3 = some 3) ∧ (fldI Tryd.prog 8 0 = some 0) ∧ (fldI Tryd.prog 8 1 = some 1) ∧ (fldI Tryd.prog 8 2 = some 2) ∧ (fldI Tryd.prog 8 3 = some 3) ∧ (fldI Tryd.prog 13 0 = some 0) ∧ (fldI Tryd.prog 13 1 = some 1) ∧ (fldI Tryd.prog 14 0 = some 0) ∧ (fldI Tryd.prog 14 1 = some 1) ∧ (fldI Tryd.prog 24 0 = some 0) ∧ (fldI Tryd.prog 24 1 = some 1) ∧ (fldI Tryd.prog 24 2 = some 2) ∧ (fldI Tryd.prog 25 0 = some 0) ∧ (fldI Tryd.prog 25 1 = some 1) ∧ (fldI Tryd.prog 25 2 = some 2) ∧ (fldI Tryd.prog 26 1 = some 3) ∧ (fldI Tryd.prog 27 1 = some 3) ∧ (fldI Tryd.prog 43 0 = some 0) ∧ (fldI Tryd.prog 43 1 = some 1) ∧ (fldI Tryd.prog 44 0 = some 0) ∧ (fldI Tryd.prog 44 1 = some 1) ∧ (fldI Tryd.prog 84 3 = some 3) ∧ (fldI Tryd.prog 85 3 = some 3) ∧ (fldI Tryd.prog 96 0 = some 0) ∧ (fldI Tryd.prog 96 1 = some 1) ∧ (fldI Tryd.prog 96 2 = some 2) ∧ (fldI Tryd.prog 96 3 = some 3) ∧ (fldI Tryd.prog 96 4 = some 4) ∧ (fldI Tryd.prog 96 5 = some 5) ∧ (fldI Tryd.prog 96 6 = some 6) ∧ (fldI Tryd.prog 96 9 = some 9) ∧ (fldI Tryd.prog 96 10 = some 10) ∧ (fldI Tryd.prog 97 0 = some 0) ∧ (fldI Tryd.prog 97 1 = some 1) ∧ (fldI Tryd.prog 97 2 = some 2) ∧ (fldI Tryd.prog 97 3 = some 3) ∧ (fldI Tryd.prog 97 4 = some 4) ∧ (fldI Tryd.prog 97 5 = some 5) ∧ (fldI Tryd.prog 97 6 = some 6) ∧ (fldI Tryd.prog 97 9 = some 9) ∧ (fldI Tryd.prog 97 10 = some 10) := ⟨ty2, ty3, ty4, ty5, ty7, ty9, ty12, ty13, ty17, ty21, ty22, ty23, ty24, ty25, ty26, ty27, ty33, ty43, ty44, ty59, ty68, ty75, ty78, ty93, fd7_0, fd7_1, fd7_2, fd7_3, fd8_0, fd8_1, fd8_2, fd8_3, fd13_0, fd13_1, fd14_0, fd14_1, fd24_0, fd24_1, fd24_2, fd25_0, fd25_1, fd25_2, fd26_1, fd27_1, fd43_0, fd43_1, fd44_0, fd44_1, fd84_3, fd85_3, fd96_0, fd96_1, fd96_2, fd96_3, fd96_4, fd96_5, fd96_6, fd96_9, fd96_10, fd97_0, fd97_1, fd97_2, fd97_3, fd97_4, fd97_5, fd97_6, fd97_9, fd97_10⟩

end Go.Proofs.YtnepiffboakehaaDoor.S
