/- The machine's form fits the program. -/
import Derived.Test.YtcbolnjnhiaiiaaIR
namespace Go.Eng
open Go Go.Proofs
theorem chk3 : chkF Try.prog 3 i3 = true := by kernel_rfl
theorem chk4 : chkF Try.prog 4 i4 = true := by kernel_rfl
theorem chk5 : chkF Try.prog 5 i5 = true := by kernel_rfl
theorem chk6 : chkF Try.prog 6 i6 = true := by kernel_rfl
theorem chk7 : chkF Try.prog 7 i7 = true := by kernel_rfl
theorem chk8 : chkF Try.prog 8 i8 = true := by kernel_rfl
theorem chk9 : chkF Try.prog 9 i9 = true := by kernel_rfl
theorem chk10 : chkF Try.prog 10 i10 = true := by kernel_rfl
theorem chk11 : chkF Try.prog 11 i11 = true := by kernel_rfl
theorem chk12 : chkF Try.prog 12 i12 = true := by kernel_rfl
theorem chk13 : chkF Try.prog 13 i13 = true := by kernel_rfl
theorem chk14 : chkF Try.prog 14 i14 = true := by kernel_rfl
theorem chk15 : chkF Try.prog 15 i15 = true := by kernel_rfl
theorem chk16 : chkF Try.prog 16 i16 = true := by kernel_rfl
theorem chk17 : chkF Try.prog 17 i17 = true := by kernel_rfl
theorem chk18 : chkF Try.prog 18 i18 = true := by kernel_rfl
theorem chk19 : chkF Try.prog 19 i19 = true := by kernel_rfl
theorem chk20 : chkF Try.prog 20 i20 = true := by kernel_rfl
theorem chk21 : chkF Try.prog 21 i21 = true := by kernel_rfl
theorem chk22 : chkF Try.prog 22 i22 = true := by kernel_rfl
theorem chk23 : chkF Try.prog 23 i23 = true := by kernel_rfl
theorem chk24 : chkF Try.prog 24 i24 = true := by kernel_rfl
theorem chk25 : chkF Try.prog 25 i25 = true := by kernel_rfl
theorem chk26 : chkF Try.prog 26 i26 = true := by kernel_rfl
theorem chk27 : chkF Try.prog 27 i27 = true := by kernel_rfl
theorem chk28 : chkF Try.prog 28 i28 = true := by kernel_rfl
theorem chk29 : chkF Try.prog 29 i29 = true := by kernel_rfl
theorem chk30 : chkF Try.prog 30 i30 = true := by kernel_rfl
theorem chk31 : chkF Try.prog 31 i31 = true := by kernel_rfl
theorem chk32 : chkF Try.prog 32 i32 = true := by kernel_rfl
theorem chk33 : chkF Try.prog 33 i33 = true := by kernel_rfl
theorem chk34 : chkF Try.prog 34 i34 = true := by kernel_rfl
theorem chk35 : chkF Try.prog 35 i35 = true := by kernel_rfl
theorem chk36 : chkF Try.prog 36 i36 = true := by kernel_rfl
theorem chk37 : chkF Try.prog 37 i37 = true := by kernel_rfl
theorem chk38 : chkF Try.prog 38 i38 = true := by kernel_rfl
theorem chk39 : chkF Try.prog 39 i39 = true := by kernel_rfl
theorem chk40 : chkF Try.prog 40 i40 = true := by kernel_rfl
theorem chk41 : chkF Try.prog 41 i41 = true := by kernel_rfl
theorem chk42 : chkF Try.prog 42 i42 = true := by kernel_rfl
theorem chk43 : chkF Try.prog 43 i43 = true := by kernel_rfl
theorem chk44 : chkF Try.prog 44 i44 = true := by kernel_rfl
theorem chk45 : chkF Try.prog 45 i45 = true := by kernel_rfl
theorem chk46 : chkF Try.prog 46 i46 = true := by kernel_rfl
theorem chk47 : chkF Try.prog 47 i47 = true := by kernel_rfl
theorem chk48 : chkF Try.prog 48 i48 = true := by kernel_rfl
theorem chk49 : chkF Try.prog 49 i49 = true := by kernel_rfl
theorem chk50 : chkF Try.prog 50 i50 = true := by kernel_rfl
theorem chk51 : chkF Try.prog 51 i51 = true := by kernel_rfl
theorem chk52 : chkF Try.prog 52 i52 = true := by kernel_rfl
theorem chk53 : chkF Try.prog 53 i53 = true := by kernel_rfl
end Go.Eng
