/- Part of the proof. -/
import Derived.Test.YtddgnfnfojoljaaProofChecksIR
set_option linter.all false
namespace Go.Eng
open Go Go.Proofs
theorem chk3:chkF Try.prog 3 i3=true:=by kernel_rfl
theorem chk8:chkF Try.prog 8 i8=true:=by kernel_rfl
theorem chk9:chkF Try.prog 9 i9=true:=by kernel_rfl
theorem Zy4:chkF Try.prog 10 i10=true:=by kernel_rfl
theorem Zy3:chkF Try.prog 11 i11=true:=by kernel_rfl
theorem Zy2:chkF Try.prog 12 i12=true:=by kernel_rfl
theorem Zy1:chkF Try.prog 14 i14=true:=by kernel_rfl
theorem Zy0:chkF Try.prog 16 i16=true:=by kernel_rfl
theorem ZyZ:chkF Try.prog 17 i17=true:=by kernel_rfl
theorem ZyY:chkF Try.prog 18 i18=true:=by kernel_rfl
theorem ZyX:chkF Try.prog 19 i19=true:=by kernel_rfl
theorem ZyW:chkF Try.prog 21 i21=true:=by kernel_rfl
theorem ZyV:chkF Try.prog 22 i22=true:=by kernel_rfl
theorem ZyU:chkF Try.prog 23 i23=true:=by kernel_rfl
theorem ZyT:chkF Try.prog 24 i24=true:=by kernel_rfl
theorem ZyS:chkF Try.prog 25 i25=true:=by kernel_rfl
theorem ZyR:chkF Try.prog 26 i26=true:=by kernel_rfl
theorem ZyQ:chkF Try.prog 27 i27=true:=by kernel_rfl
theorem ZyP:chkF Try.prog 28 i28=true:=by kernel_rfl
theorem ZyO:chkF Try.prog 29 i29=true:=by kernel_rfl
theorem ZyN:chkF Try.prog 30 i30=true:=by kernel_rfl
theorem ZyM:chkF Try.prog 31 i31=true:=by kernel_rfl
theorem ZyL:chkF Try.prog 34 i34=true:=by kernel_rfl
theorem ZyK:chkF Try.prog 35 i35=true:=by kernel_rfl
theorem ZyJ:chkF Try.prog 36 i36=true:=by kernel_rfl
theorem ZyI:chkF Try.prog 37 i37=true:=by kernel_rfl
theorem ZyH:chkF Try.prog 38 i38=true:=by kernel_rfl
theorem ZyG:chkF Try.prog 39 i39=true:=by kernel_rfl
theorem ZrS:chkF Try.prog 40 i40=true:=by kernel_rfl
theorem ZyF:chkF Try.prog 41 i41=true:=by kernel_rfl
theorem ZyE:chkF Try.prog 42 i42=true:=by kernel_rfl
theorem ZyD:chkF Try.prog 43 i43=true:=by kernel_rfl
theorem ZyC:chkF Try.prog 44 i44=true:=by kernel_rfl
theorem ZyB:chkF Try.prog 46 i46=true:=by kernel_rfl
theorem ZyA:chkF Try.prog 47 i47=true:=by kernel_rfl
theorem Zyz:chkF Try.prog 48 i48=true:=by kernel_rfl
theorem Zyy:chkF Try.prog 49 i49=true:=by kernel_rfl
theorem Zyx:chkF Try.prog 50 i50=true:=by kernel_rfl
theorem Zyw:chkF Try.prog 51 i51=true:=by kernel_rfl
theorem Zyv:chkF Try.prog 52 i52=true:=by kernel_rfl
theorem Zyu:chkF Try.prog 53 i53=true:=by kernel_rfl
theorem Zyt:chkF Try.prog 54 i54=true:=by kernel_rfl
theorem Zys:chkF Try.prog 55 i55=true:=by kernel_rfl
theorem Zyr:chkF Try.prog 56 i56=true:=by kernel_rfl
theorem Zyq:chkF Try.prog 57 i57=true:=by kernel_rfl
theorem Zyp:chkF Try.prog 58 i58=true:=by kernel_rfl
theorem Zyo:chkF Try.prog 59 i59=true:=by kernel_rfl
theorem Zyn:chkF Try.prog 60 i60=true:=by kernel_rfl
theorem Zym:chkF Try.prog 61 i61=true:=by kernel_rfl
theorem Zyl:chkF Try.prog 62 i62=true:=by kernel_rfl
theorem Zyk:chkF Try.prog 63 i63=true:=by kernel_rfl
end Go.Eng

