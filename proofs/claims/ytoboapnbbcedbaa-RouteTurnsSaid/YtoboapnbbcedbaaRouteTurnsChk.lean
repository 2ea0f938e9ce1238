/- Part of the proof; written by a program out of the texts in wip/. -/
import Derived.Test.YtoboapnbbcedbaaRouteTurnsIR
namespace Go.Eng
open Go Go.Proofs
theorem chk9 : chkF Try.prog 9 i9 = true := by kernel_rfl
theorem chk10 : chkF Try.prog 10 i10 = true := by kernel_rfl
theorem chk13 : chkF Try.prog 13 i13 = true := by kernel_rfl
theorem chk14 : chkF Try.prog 14 i14 = true := by kernel_rfl
theorem chk15 : chkF Try.prog 15 i15 = true := by kernel_rfl
theorem chk16 : chkF Try.prog 16 i16 = true := by kernel_rfl
theorem chk17 : chkF Try.prog 17 i17 = true := by kernel_rfl
theorem chk19 : chkF Try.prog 19 i19 = true := by kernel_rfl
theorem chk21 : chkF Try.prog 21 i21 = true := by kernel_rfl
theorem chk23 : chkF Try.prog 23 i23 = true := by kernel_rfl
theorem chk26 : chkF Try.prog 26 i26 = true := by kernel_rfl
theorem chk28 : chkF Try.prog 28 i28 = true := by kernel_rfl
theorem chk31 : chkF Try.prog 31 i31 = true := by kernel_rfl
theorem chk32 : chkF Try.prog 32 i32 = true := by kernel_rfl
theorem chk33 : chkF Try.prog 33 i33 = true := by kernel_rfl
theorem chk34 : chkF Try.prog 34 i34 = true := by kernel_rfl
theorem chk35 : chkF Try.prog 35 i35 = true := by kernel_rfl
theorem chk36 : chkF Try.prog 36 i36 = true := by kernel_rfl
theorem chk37 : chkF Try.prog 37 i37 = true := by kernel_rfl
theorem chk38 : chkF Try.prog 38 i38 = true := by kernel_rfl
theorem chk39 : chkF Try.prog 39 i39 = true := by kernel_rfl
theorem chk40 : chkF Try.prog 40 i40 = true := by kernel_rfl
theorem chk41 : chkF Try.prog 41 i41 = true := by kernel_rfl
theorem chk42 : chkF Try.prog 42 i42 = true := by kernel_rfl
theorem chk43 : chkF Try.prog 43 i43 = true := by kernel_rfl
theorem chk44 : chkF Try.prog 44 i44 = true := by kernel_rfl
theorem chk45 : chkF Try.prog 45 i45 = true := by kernel_rfl
theorem chk46 : chkF Try.prog 46 i46 = true := by kernel_rfl
theorem chk47 : chkF Try.prog 47 i47 = true := by kernel_rfl
theorem chk50 : chkF Try.prog 50 i50 = true := by kernel_rfl
theorem chk51 : chkF Try.prog 51 i51 = true := by kernel_rfl
theorem chk52 : chkF Try.prog 52 i52 = true := by kernel_rfl
theorem chk53 : chkF Try.prog 53 i53 = true := by kernel_rfl
theorem chk57 : chkF Try.prog 57 i57 = true := by kernel_rfl
theorem chk58 : chkF Try.prog 58 i58 = true := by kernel_rfl
theorem chk59 : chkF Try.prog 59 i59 = true := by kernel_rfl
theorem chk60 : chkF Try.prog 60 i60 = true := by kernel_rfl
theorem chk62 : chkF Try.prog 62 i62 = true := by kernel_rfl
theorem chk64 : chkF Try.prog 64 i64 = true := by kernel_rfl
theorem chk65 : chkF Try.prog 65 i65 = true := by kernel_rfl
theorem chk66 : chkF Try.prog 66 i66 = true := by kernel_rfl
theorem chk67 : chkF Try.prog 67 i67 = true := by kernel_rfl
theorem chk68 : chkF Try.prog 68 i68 = true := by kernel_rfl
theorem chk69 : chkF Try.prog 69 i69 = true := by kernel_rfl
theorem chk70 : chkF Try.prog 70 i70 = true := by kernel_rfl
theorem chk71 : chkF Try.prog 71 i71 = true := by kernel_rfl
theorem chk74 : chkF Try.prog 74 i74 = true := by kernel_rfl
theorem chk75 : chkF Try.prog 75 i75 = true := by kernel_rfl
theorem chk76 : chkF Try.prog 76 i76 = true := by kernel_rfl
theorem chk77 : chkF Try.prog 77 i77 = true := by kernel_rfl
theorem chk78 : chkF Try.prog 78 i78 = true := by kernel_rfl
theorem chk79 : chkF Try.prog 79 i79 = true := by kernel_rfl
theorem chk80 : chkF Try.prog 80 i80 = true := by kernel_rfl
theorem chk81 : chkF Try.prog 81 i81 = true := by kernel_rfl
theorem chk82 : chkF Try.prog 82 i82 = true := by kernel_rfl
theorem chk83 : chkF Try.prog 83 i83 = true := by kernel_rfl
theorem chk84 : chkF Try.prog 84 i84 = true := by kernel_rfl
theorem chk85 : chkF Try.prog 85 i85 = true := by kernel_rfl
theorem chk86 : chkF Try.prog 86 i86 = true := by kernel_rfl
theorem chk87 : chkF Try.prog 87 i87 = true := by kernel_rfl
theorem chk88 : chkF Try.prog 88 i88 = true := by kernel_rfl
end Go.Eng

