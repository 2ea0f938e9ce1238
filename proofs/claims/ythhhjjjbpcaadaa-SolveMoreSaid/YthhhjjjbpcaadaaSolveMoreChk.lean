/- Part of the proof. -/
import Derived.Test.YthhhjjjbpcaadaaSolveMoreIR
set_option linter.all false
namespace Go.Eng
open Go Go.Proofs
theorem chk4:chkF Try.prog 4 i4=true:=by kernel_rfl
theorem chk8:chkF Try.prog 8 i8=true:=by kernel_rfl
theorem chk9:Zna Try.prog 9 d9=true:=by kernel_rfl
theorem ZrJ:chkF Try.prog 11 i11=true:=by kernel_rfl
theorem ZrI:chkF Try.prog 12 i12=true:=by kernel_rfl
theorem ZrH:chkF Try.prog 13 i13=true:=by kernel_rfl
theorem ZrG:chkF Try.prog 14 i14=true:=by kernel_rfl
theorem ZrF:chkF Try.prog 15 i15=true:=by kernel_rfl
theorem ZrE:chkF Try.prog 16 i16=true:=by kernel_rfl
theorem ZrD:chkF Try.prog 21 i21=true:=by kernel_rfl
theorem Znb:chkR Try.prog 22 3 Zqn=true:=by kernel_rfl
theorem ZrC:chkF Try.prog 23 i23=true:=by kernel_rfl
theorem ZrB:chkF Try.prog 26 i26=true:=by kernel_rfl
theorem ZrA:chkF Try.prog 27 i27=true:=by kernel_rfl
theorem Zrz:chkF Try.prog 31 i31=true:=by kernel_rfl
theorem Zry:chkF Try.prog 32 i32=true:=by kernel_rfl
theorem Zrx:chkF Try.prog 33 i33=true:=by kernel_rfl
theorem Zrw:chkF Try.prog 36 i36=true:=by kernel_rfl
theorem Zrv:chkF Try.prog 37 i37=true:=by kernel_rfl
theorem Zru:chkF Try.prog 38 i38=true:=by kernel_rfl
theorem Zrt:chkF Try.prog 44 i44=true:=by kernel_rfl
theorem Zrs:chkF Try.prog 45 i45=true:=by kernel_rfl
theorem Zrr:chkF Try.prog 47 i47=true:=by kernel_rfl
theorem Zrq:chkF Try.prog 48 i48=true:=by kernel_rfl
theorem Zrp:chkF Try.prog 49 i49=true:=by kernel_rfl
theorem Zro:chkF Try.prog 53 i53=true:=by kernel_rfl
theorem Zrn:chkF Try.prog 54 i54=true:=by kernel_rfl
theorem Zrm:chkF Try.prog 55 i55=true:=by kernel_rfl
theorem Zrl:chkF Try.prog 58 i58=true:=by kernel_rfl
theorem Zrk:chkF Try.prog 59 i59=true:=by kernel_rfl
theorem Zrj:chkF Try.prog 60 i60=true:=by kernel_rfl
end Go.Eng

