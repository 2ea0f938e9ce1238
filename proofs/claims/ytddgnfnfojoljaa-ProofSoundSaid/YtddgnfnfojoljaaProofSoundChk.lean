/- Part of the proof. -/
import Derived.Test.YtddgnfnfojoljaaProofSoundIR
set_option linter.all false
namespace Go.Eng
open Go Go.Proofs
theorem chk7:chkF Try.prog 7 i7=true:=by kernel_rfl
theorem chk8:chkF Try.prog 8 i8=true:=by kernel_rfl
theorem chk9:chkF Try.prog 9 i9=true:=by kernel_rfl
theorem Zx9:chkF Try.prog 10 i10=true:=by kernel_rfl
theorem Zx8:chkF Try.prog 12 i12=true:=by kernel_rfl
theorem Zx7:chkF Try.prog 13 i13=true:=by kernel_rfl
theorem Zx6:chkF Try.prog 14 i14=true:=by kernel_rfl
theorem Zx5:chkF Try.prog 16 i16=true:=by kernel_rfl
theorem Zx4:chkF Try.prog 17 i17=true:=by kernel_rfl
theorem Zx3:chkF Try.prog 18 i18=true:=by kernel_rfl
theorem Zx2:chkF Try.prog 19 i19=true:=by kernel_rfl
theorem Zx1:chkF Try.prog 20 i20=true:=by kernel_rfl
theorem Zx0:chkF Try.prog 21 i21=true:=by kernel_rfl
theorem ZxZ:chkF Try.prog 22 i22=true:=by kernel_rfl
theorem ZxY:chkF Try.prog 23 i23=true:=by kernel_rfl
theorem ZxX:chkF Try.prog 24 i24=true:=by kernel_rfl
theorem ZxW:chkF Try.prog 25 i25=true:=by kernel_rfl
theorem ZxV:chkF Try.prog 29 i29=true:=by kernel_rfl
theorem ZxU:chkF Try.prog 30 i30=true:=by kernel_rfl
theorem ZxT:chkF Try.prog 31 i31=true:=by kernel_rfl
theorem ZxS:chkF Try.prog 34 i34=true:=by kernel_rfl
theorem ZxR:chkF Try.prog 35 i35=true:=by kernel_rfl
theorem ZxQ:chkF Try.prog 36 i36=true:=by kernel_rfl
theorem ZxP:chkF Try.prog 37 i37=true:=by kernel_rfl
theorem ZxO:chkF Try.prog 38 i38=true:=by kernel_rfl
theorem ZxN:chkF Try.prog 39 i39=true:=by kernel_rfl
theorem ZrH:chkF Try.prog 40 i40=true:=by kernel_rfl
theorem ZxM:chkF Try.prog 41 i41=true:=by kernel_rfl
theorem ZxL:chkF Try.prog 44 i44=true:=by kernel_rfl
theorem ZxK:chkF Try.prog 46 i46=true:=by kernel_rfl
theorem ZxJ:chkF Try.prog 47 i47=true:=by kernel_rfl
theorem ZxI:chkF Try.prog 48 i48=true:=by kernel_rfl
theorem ZxH:chkF Try.prog 49 i49=true:=by kernel_rfl
theorem ZxG:chkF Try.prog 50 i50=true:=by kernel_rfl
theorem ZxF:chkF Try.prog 51 i51=true:=by kernel_rfl
theorem ZxE:chkF Try.prog 52 i52=true:=by kernel_rfl
theorem ZxD:chkF Try.prog 53 i53=true:=by kernel_rfl
theorem ZxC:chkF Try.prog 54 i54=true:=by kernel_rfl
theorem ZxB:chkF Try.prog 55 i55=true:=by kernel_rfl
theorem ZxA:chkF Try.prog 56 i56=true:=by kernel_rfl
theorem Zxz:chkF Try.prog 57 i57=true:=by kernel_rfl
theorem Zxy:chkF Try.prog 58 i58=true:=by kernel_rfl
theorem Zxx:chkF Try.prog 59 i59=true:=by kernel_rfl
theorem Zxw:chkF Try.prog 60 i60=true:=by kernel_rfl
theorem Zxv:chkF Try.prog 61 i61=true:=by kernel_rfl
theorem Zxu:chkF Try.prog 62 i62=true:=by kernel_rfl
theorem Zxt:chkF Try.prog 63 i63=true:=by kernel_rfl
end Go.Eng

