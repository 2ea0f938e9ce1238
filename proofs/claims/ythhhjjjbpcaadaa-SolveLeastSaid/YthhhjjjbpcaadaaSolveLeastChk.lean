/- Part of the proof. -/
import Derived.Test.YthhhjjjbpcaadaaSolveLeastIR
set_option linter.all false
namespace Go.Eng
open Go Go.Proofs
theorem chk6:chkF Try.prog 6 i6=true:=by kernel_rfl
theorem chk8:chkF Try.prog 8 i8=true:=by kernel_rfl
theorem chk9:ZnZ Try.prog 9 d9=true:=by kernel_rfl
theorem ZtR:chkF Try.prog 11 i11=true:=by kernel_rfl
theorem ZtQ:chkF Try.prog 12 i12=true:=by kernel_rfl
theorem ZtP:chkF Try.prog 13 i13=true:=by kernel_rfl
theorem ZtO:chkF Try.prog 14 i14=true:=by kernel_rfl
theorem ZtN:chkF Try.prog 15 i15=true:=by kernel_rfl
theorem ZtM:chkF Try.prog 16 i16=true:=by kernel_rfl
theorem ZtL:chkF Try.prog 17 i17=true:=by kernel_rfl
theorem ZtK:chkF Try.prog 18 i18=true:=by kernel_rfl
theorem ZtJ:chkF Try.prog 19 i19=true:=by kernel_rfl
theorem ZtI:chkF Try.prog 21 i21=true:=by kernel_rfl
theorem Zn0:chkR Try.prog 22 3 ZrR=true:=by kernel_rfl
theorem ZtH:chkF Try.prog 23 i23=true:=by kernel_rfl
theorem ZtG:chkF Try.prog 26 i26=true:=by kernel_rfl
theorem ZtF:chkF Try.prog 27 i27=true:=by kernel_rfl
theorem ZtE:chkF Try.prog 28 i28=true:=by kernel_rfl
theorem ZtD:chkF Try.prog 31 i31=true:=by kernel_rfl
theorem ZtC:chkF Try.prog 32 i32=true:=by kernel_rfl
theorem ZtB:chkF Try.prog 33 i33=true:=by kernel_rfl
theorem ZtA:chkF Try.prog 36 i36=true:=by kernel_rfl
theorem Ztz:chkF Try.prog 37 i37=true:=by kernel_rfl
theorem Zty:chkF Try.prog 38 i38=true:=by kernel_rfl
theorem Ztx:chkF Try.prog 39 i39=true:=by kernel_rfl
theorem Ztw:chkF Try.prog 44 i44=true:=by kernel_rfl
theorem Ztv:chkF Try.prog 45 i45=true:=by kernel_rfl
theorem Ztu:chkF Try.prog 47 i47=true:=by kernel_rfl
theorem Ztt:chkF Try.prog 48 i48=true:=by kernel_rfl
theorem Zts:chkF Try.prog 49 i49=true:=by kernel_rfl
theorem Ztr:chkF Try.prog 53 i53=true:=by kernel_rfl
theorem Ztq:chkF Try.prog 54 i54=true:=by kernel_rfl
theorem Ztp:chkF Try.prog 55 i55=true:=by kernel_rfl
theorem Zto:chkF Try.prog 58 i58=true:=by kernel_rfl
theorem Ztn:chkF Try.prog 59 i59=true:=by kernel_rfl
theorem Ztm:chkF Try.prog 60 i60=true:=by kernel_rfl
end Go.Eng

