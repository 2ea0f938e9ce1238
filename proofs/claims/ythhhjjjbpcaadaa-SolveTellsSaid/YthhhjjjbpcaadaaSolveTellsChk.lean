/- Part of the proof. -/
import Derived.Test.YthhhjjjbpcaadaaSolveTellsIR
set_option linter.all false
namespace Go.Eng
open Go Go.Proofs
theorem chk7:chkF Try.prog 7 i7=true:=by kernel_rfl
theorem chk8:chkF Try.prog 8 i8=true:=by kernel_rfl
theorem chk9:ZpG Try.prog 9 d9=true:=by kernel_rfl
theorem Zw0:chkF Try.prog 11 i11=true:=by kernel_rfl
theorem ZwZ:chkF Try.prog 12 i12=true:=by kernel_rfl
theorem ZwY:chkF Try.prog 13 i13=true:=by kernel_rfl
theorem ZwX:chkF Try.prog 14 i14=true:=by kernel_rfl
theorem ZwW:chkF Try.prog 15 i15=true:=by kernel_rfl
theorem ZwV:chkF Try.prog 16 i16=true:=by kernel_rfl
theorem ZwU:chkF Try.prog 17 i17=true:=by kernel_rfl
theorem ZwT:chkF Try.prog 18 i18=true:=by kernel_rfl
theorem ZwS:chkF Try.prog 20 i20=true:=by kernel_rfl
theorem ZwR:chkF Try.prog 21 i21=true:=by kernel_rfl
theorem ZpH:chkR Try.prog 22 3 ZuN=true:=by kernel_rfl
theorem ZwQ:chkF Try.prog 23 i23=true:=by kernel_rfl
theorem ZwP:chkF Try.prog 26 i26=true:=by kernel_rfl
theorem ZwO:chkF Try.prog 27 i27=true:=by kernel_rfl
theorem ZwN:chkF Try.prog 29 i29=true:=by kernel_rfl
theorem ZwM:chkF Try.prog 30 i30=true:=by kernel_rfl
theorem ZwL:chkF Try.prog 31 i31=true:=by kernel_rfl
theorem ZwK:chkF Try.prog 32 i32=true:=by kernel_rfl
theorem ZwJ:chkF Try.prog 33 i33=true:=by kernel_rfl
theorem ZwI:chkF Try.prog 36 i36=true:=by kernel_rfl
theorem ZwH:chkF Try.prog 37 i37=true:=by kernel_rfl
theorem ZwG:chkF Try.prog 38 i38=true:=by kernel_rfl
theorem ZwF:chkF Try.prog 40 i40=true:=by kernel_rfl
theorem ZwE:chkF Try.prog 41 i41=true:=by kernel_rfl
theorem Zrk:chkF Try.prog 42 i42=true:=by kernel_rfl
theorem ZwD:chkF Try.prog 43 i43=true:=by kernel_rfl
theorem ZwC:chkF Try.prog 44 i44=true:=by kernel_rfl
theorem ZwB:chkF Try.prog 45 i45=true:=by kernel_rfl
theorem ZwA:chkF Try.prog 47 i47=true:=by kernel_rfl
theorem Zwz:chkF Try.prog 48 i48=true:=by kernel_rfl
theorem Zwy:chkF Try.prog 49 i49=true:=by kernel_rfl
theorem Zwx:chkF Try.prog 50 i50=true:=by kernel_rfl
theorem Zww:chkF Try.prog 51 i51=true:=by kernel_rfl
theorem Zwv:chkF Try.prog 52 i52=true:=by kernel_rfl
theorem Zwu:chkF Try.prog 53 i53=true:=by kernel_rfl
theorem Zwt:chkF Try.prog 54 i54=true:=by kernel_rfl
theorem Zws:chkF Try.prog 55 i55=true:=by kernel_rfl
theorem Zwr:chkF Try.prog 58 i58=true:=by kernel_rfl
theorem Zwq:chkF Try.prog 59 i59=true:=by kernel_rfl
theorem Zwp:chkF Try.prog 60 i60=true:=by kernel_rfl
end Go.Eng

