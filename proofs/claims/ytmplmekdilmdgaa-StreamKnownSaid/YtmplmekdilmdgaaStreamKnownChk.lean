/- Part of the proof; written by a program out of the texts in wip/. -/
import Derived.Test.YtmplmekdilmdgaaStreamKnownIR
namespace Go.Eng
open Go Go.Proofs
theorem chk7 : chkF Try.prog 7 i7 = true := by kernel_rfl
theorem chk11 : chkF Try.prog 11 i11 = true := by kernel_rfl
theorem chk13 : chkF Try.prog 13 i13 = true := by kernel_rfl
theorem chk16 : chkF Try.prog 16 i16 = true := by kernel_rfl
theorem chk18 : chkF Try.prog 18 i18 = true := by kernel_rfl
theorem chk19 : chkF Try.prog 19 i19 = true := by kernel_rfl
theorem chk20 : chkF Try.prog 20 i20 = true := by kernel_rfl
theorem chk24 : chkF Try.prog 24 i24 = true := by kernel_rfl
theorem chk26 : chkF Try.prog 26 i26 = true := by kernel_rfl
theorem chk27 : chkF Try.prog 27 i27 = true := by kernel_rfl
theorem chk28 : chkF Try.prog 28 i28 = true := by kernel_rfl
theorem chk29 : chkF Try.prog 29 i29 = true := by kernel_rfl
theorem chk32 : chkF Try.prog 32 i32 = true := by kernel_rfl
theorem chk33 : chkF Try.prog 33 i33 = true := by kernel_rfl
theorem chk38 : chkF Try.prog 38 i38 = true := by kernel_rfl
theorem chk39 : chkF Try.prog 39 i39 = true := by kernel_rfl
theorem chk40 : chkF Try.prog 40 i40 = true := by kernel_rfl
theorem chk43 : chkF Try.prog 43 i43 = true := by kernel_rfl
theorem chk44 : chkF Try.prog 44 i44 = true := by kernel_rfl
theorem chk45 : chkF Try.prog 45 i45 = true := by kernel_rfl
theorem chk46 : chkF Try.prog 46 i46 = true := by kernel_rfl
theorem chk53 : chkF Try.prog 53 i53 = true := by kernel_rfl
theorem chk54 : chkF Try.prog 54 i54 = true := by kernel_rfl
theorem chk55 : chkF Try.prog 55 i55 = true := by kernel_rfl
theorem chk56 : chkF Try.prog 56 i56 = true := by kernel_rfl
theorem chk57 : chkF Try.prog 57 i57 = true := by kernel_rfl
theorem chk58 : chkF Try.prog 58 i58 = true := by kernel_rfl
theorem chk59 : chkF Try.prog 59 i59 = true := by kernel_rfl
theorem chk60 : chkF Try.prog 60 i60 = true := by kernel_rfl
theorem chk61 : chkF Try.prog 61 i61 = true := by kernel_rfl
theorem chk62 : chkF Try.prog 62 i62 = true := by kernel_rfl
theorem chk63 : chkF Try.prog 63 i63 = true := by kernel_rfl
theorem chk64 : chkF Try.prog 64 i64 = true := by kernel_rfl
theorem chk65 : chkF Try.prog 65 i65 = true := by kernel_rfl
theorem chk66 : chkF Try.prog 66 i66 = true := by kernel_rfl
theorem chk67 : chkF Try.prog 67 i67 = true := by kernel_rfl
theorem chk71 : chkF Try.prog 71 i71 = true := by kernel_rfl
theorem chk72 : chkF Try.prog 72 i72 = true := by kernel_rfl
theorem chk76 : chkF Try.prog 76 i76 = true := by kernel_rfl
theorem chk77 : chkF Try.prog 77 i77 = true := by kernel_rfl
theorem chk78 : chkF Try.prog 78 i78 = true := by kernel_rfl
theorem chk79 : chkF Try.prog 79 i79 = true := by kernel_rfl
theorem chk80 : chkF Try.prog 80 i80 = true := by kernel_rfl
theorem chk81 : chkF Try.prog 81 i81 = true := by kernel_rfl
theorem chk82 : chkF Try.prog 82 i82 = true := by kernel_rfl
theorem chk83 : chkF Try.prog 83 i83 = true := by kernel_rfl
theorem chk84 : chkF Try.prog 84 i84 = true := by kernel_rfl
theorem chk85 : chkF Try.prog 85 i85 = true := by kernel_rfl
theorem chk86 : chkF Try.prog 86 i86 = true := by kernel_rfl
theorem chk87 : chkF Try.prog 87 i87 = true := by kernel_rfl
theorem chk88 : chkF Try.prog 88 i88 = true := by kernel_rfl
theorem chk91 : chkF Try.prog 91 i91 = true := by kernel_rfl
theorem chk92 : chkF Try.prog 92 i92 = true := by kernel_rfl
theorem chk93 : chkF Try.prog 93 i93 = true := by kernel_rfl
theorem chk94 : chkF Try.prog 94 i94 = true := by kernel_rfl
theorem chk95 : chkF Try.prog 95 i95 = true := by kernel_rfl
theorem chk96 : chkF Try.prog 96 i96 = true := by kernel_rfl
theorem chk97 : chkF Try.prog 97 i97 = true := by kernel_rfl
theorem chk98 : chkF Try.prog 98 i98 = true := by kernel_rfl
theorem chk99 : chkF Try.prog 99 i99 = true := by kernel_rfl
end Go.Eng

