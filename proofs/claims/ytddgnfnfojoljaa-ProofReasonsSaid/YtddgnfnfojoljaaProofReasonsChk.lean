/- Part of the proof. -/
import Derived.Test.YtddgnfnfojoljaaProofReasonsIR
set_option linter.all false
namespace Go.Eng
open Go Go.Proofs
theorem chk4:chkF Try.prog 4 i4=true:=by kernel_rfl
theorem chk8:chkF Try.prog 8 i8=true:=by kernel_rfl
theorem chk9:chkF Try.prog 9 i9=true:=by kernel_rfl
theorem ZAJ:chkF Try.prog 10 i10=true:=by kernel_rfl
theorem ZAI:chkF Try.prog 11 i11=true:=by kernel_rfl
theorem ZAH:chkF Try.prog 12 i12=true:=by kernel_rfl
theorem ZAG:chkF Try.prog 13 i13=true:=by kernel_rfl
theorem ZAF:chkF Try.prog 14 i14=true:=by kernel_rfl
theorem ZAE:chkF Try.prog 15 i15=true:=by kernel_rfl
theorem ZAD:chkF Try.prog 16 i16=true:=by kernel_rfl
theorem ZAC:chkF Try.prog 17 i17=true:=by kernel_rfl
theorem ZAB:chkF Try.prog 18 i18=true:=by kernel_rfl
theorem ZAA:chkF Try.prog 19 i19=true:=by kernel_rfl
theorem ZAz:chkF Try.prog 21 i21=true:=by kernel_rfl
theorem ZAy:chkF Try.prog 22 i22=true:=by kernel_rfl
theorem ZAx:chkF Try.prog 23 i23=true:=by kernel_rfl
theorem ZAw:chkF Try.prog 24 i24=true:=by kernel_rfl
theorem ZAv:chkF Try.prog 25 i25=true:=by kernel_rfl
theorem ZAu:chkF Try.prog 26 i26=true:=by kernel_rfl
theorem ZAt:chkF Try.prog 27 i27=true:=by kernel_rfl
theorem ZAs:chkF Try.prog 28 i28=true:=by kernel_rfl
theorem ZAr:chkF Try.prog 29 i29=true:=by kernel_rfl
theorem ZAq:chkF Try.prog 30 i30=true:=by kernel_rfl
theorem ZAp:chkF Try.prog 31 i31=true:=by kernel_rfl
theorem ZAo:chkF Try.prog 32 i32=true:=by kernel_rfl
theorem ZAn:chkF Try.prog 33 i33=true:=by kernel_rfl
theorem ZAm:chkF Try.prog 34 i34=true:=by kernel_rfl
theorem ZAl:chkF Try.prog 35 i35=true:=by kernel_rfl
theorem ZAk:chkF Try.prog 36 i36=true:=by kernel_rfl
theorem ZAj:chkF Try.prog 37 i37=true:=by kernel_rfl
theorem ZAi:chkF Try.prog 38 i38=true:=by kernel_rfl
theorem ZAh:chkF Try.prog 39 i39=true:=by kernel_rfl
theorem ZsK:chkF Try.prog 40 i40=true:=by kernel_rfl
theorem ZAg:chkF Try.prog 41 i41=true:=by kernel_rfl
theorem ZAf:chkF Try.prog 42 i42=true:=by kernel_rfl
theorem ZAe:chkF Try.prog 43 i43=true:=by kernel_rfl
theorem ZAd:chkF Try.prog 44 i44=true:=by kernel_rfl
theorem ZAc:chkF Try.prog 45 i45=true:=by kernel_rfl
theorem ZAb:chkF Try.prog 46 i46=true:=by kernel_rfl
theorem ZAa:chkF Try.prog 47 i47=true:=by kernel_rfl
theorem Zz9:chkF Try.prog 48 i48=true:=by kernel_rfl
theorem Zz8:chkF Try.prog 49 i49=true:=by kernel_rfl
theorem Zz7:chkF Try.prog 50 i50=true:=by kernel_rfl
theorem Zz6:chkF Try.prog 51 i51=true:=by kernel_rfl
theorem Zz5:chkF Try.prog 52 i52=true:=by kernel_rfl
theorem Zz4:chkF Try.prog 53 i53=true:=by kernel_rfl
theorem Zz3:chkF Try.prog 54 i54=true:=by kernel_rfl
theorem Zz2:chkF Try.prog 55 i55=true:=by kernel_rfl
theorem Zz1:chkF Try.prog 56 i56=true:=by kernel_rfl
theorem Zz0:chkF Try.prog 57 i57=true:=by kernel_rfl
theorem ZzZ:chkF Try.prog 58 i58=true:=by kernel_rfl
theorem ZzY:chkF Try.prog 59 i59=true:=by kernel_rfl
theorem ZzX:chkF Try.prog 60 i60=true:=by kernel_rfl
theorem ZzW:chkF Try.prog 61 i61=true:=by kernel_rfl
theorem ZzV:chkF Try.prog 62 i62=true:=by kernel_rfl
theorem ZzU:chkF Try.prog 63 i63=true:=by kernel_rfl
end Go.Eng

