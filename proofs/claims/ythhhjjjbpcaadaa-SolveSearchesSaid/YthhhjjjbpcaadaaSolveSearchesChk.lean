/- Part of the proof. -/
import Derived.Test.YthhhjjjbpcaadaaSolveSearchesIR
set_option linter.all false
namespace Go.Eng
open Go Go.Proofs
theorem chk3:chkF Try.prog 3 i3=true:=by kernel_rfl
theorem chk8:chkF Try.prog 8 i8=true:=by kernel_rfl
theorem chk9:Zor Try.prog 9 d9=true:=by kernel_rfl
theorem Zvf:chkF Try.prog 10 i10=true:=by kernel_rfl
theorem Zve:chkF Try.prog 11 i11=true:=by kernel_rfl
theorem Zvd:chkF Try.prog 12 i12=true:=by kernel_rfl
theorem Zvc:chkF Try.prog 13 i13=true:=by kernel_rfl
theorem Zvb:chkF Try.prog 14 i14=true:=by kernel_rfl
theorem Zva:chkF Try.prog 15 i15=true:=by kernel_rfl
theorem Zu9:chkF Try.prog 16 i16=true:=by kernel_rfl
theorem Zu8:chkF Try.prog 21 i21=true:=by kernel_rfl
theorem Zos:chkR Try.prog 22 3 Ztp=true:=by kernel_rfl
theorem Zu7:chkF Try.prog 23 i23=true:=by kernel_rfl
theorem Zu6:chkF Try.prog 24 i24=true:=by kernel_rfl
theorem Zu5:chkF Try.prog 25 i25=true:=by kernel_rfl
theorem Zu4:chkF Try.prog 26 i26=true:=by kernel_rfl
theorem Zu3:chkF Try.prog 27 i27=true:=by kernel_rfl
theorem Zu2:chkF Try.prog 31 i31=true:=by kernel_rfl
theorem Zu1:chkF Try.prog 32 i32=true:=by kernel_rfl
theorem Zu0:chkF Try.prog 33 i33=true:=by kernel_rfl
theorem ZuZ:chkF Try.prog 34 i34=true:=by kernel_rfl
theorem ZuY:chkF Try.prog 35 i35=true:=by kernel_rfl
theorem ZuX:chkF Try.prog 36 i36=true:=by kernel_rfl
theorem ZuW:chkF Try.prog 37 i37=true:=by kernel_rfl
theorem ZuV:chkF Try.prog 38 i38=true:=by kernel_rfl
theorem ZuU:chkF Try.prog 44 i44=true:=by kernel_rfl
theorem ZuT:chkF Try.prog 45 i45=true:=by kernel_rfl
theorem ZuS:chkF Try.prog 46 i46=true:=by kernel_rfl
theorem ZuR:chkF Try.prog 47 i47=true:=by kernel_rfl
theorem ZuQ:chkF Try.prog 48 i48=true:=by kernel_rfl
theorem ZuP:chkF Try.prog 49 i49=true:=by kernel_rfl
theorem ZuO:chkF Try.prog 53 i53=true:=by kernel_rfl
theorem ZuN:chkF Try.prog 54 i54=true:=by kernel_rfl
theorem ZuM:chkF Try.prog 55 i55=true:=by kernel_rfl
theorem ZuL:chkF Try.prog 56 i56=true:=by kernel_rfl
theorem ZuK:chkF Try.prog 57 i57=true:=by kernel_rfl
theorem ZuJ:chkF Try.prog 58 i58=true:=by kernel_rfl
theorem ZuI:chkF Try.prog 59 i59=true:=by kernel_rfl
theorem ZuH:chkF Try.prog 60 i60=true:=by kernel_rfl
theorem ZuG:chkF Try.prog 61 i61=true:=by kernel_rfl
theorem ZuF:chkF Try.prog 62 i62=true:=by kernel_rfl
end Go.Eng

