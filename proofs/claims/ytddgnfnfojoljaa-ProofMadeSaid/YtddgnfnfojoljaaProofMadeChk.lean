/- Part of the proof. -/
import Derived.Test.YtddgnfnfojoljaaProofMadeIR
set_option linter.all false
namespace Go.Eng
open Go Go.Proofs
theorem chk5:chkF Try.prog 5 i5=true:=by kernel_rfl
theorem chk8:chkF Try.prog 8 i8=true:=by kernel_rfl
theorem ZwJ:chkF Try.prog 10 i10=true:=by kernel_rfl
theorem ZwI:chkF Try.prog 12 i12=true:=by kernel_rfl
theorem ZwH:chkF Try.prog 14 i14=true:=by kernel_rfl
theorem ZwG:chkF Try.prog 16 i16=true:=by kernel_rfl
theorem ZwF:chkF Try.prog 17 i17=true:=by kernel_rfl
theorem ZwE:chkF Try.prog 18 i18=true:=by kernel_rfl
theorem ZwD:chkF Try.prog 19 i19=true:=by kernel_rfl
theorem ZwC:chkF Try.prog 21 i21=true:=by kernel_rfl
theorem ZwB:chkF Try.prog 23 i23=true:=by kernel_rfl
theorem ZwA:chkF Try.prog 24 i24=true:=by kernel_rfl
theorem Zwz:chkF Try.prog 25 i25=true:=by kernel_rfl
theorem Zwy:chkF Try.prog 29 i29=true:=by kernel_rfl
theorem Zwx:chkF Try.prog 30 i30=true:=by kernel_rfl
theorem Zww:chkF Try.prog 31 i31=true:=by kernel_rfl
theorem Zwv:chkF Try.prog 34 i34=true:=by kernel_rfl
theorem Zwu:chkF Try.prog 35 i35=true:=by kernel_rfl
theorem Zwt:chkF Try.prog 36 i36=true:=by kernel_rfl
theorem Zws:chkF Try.prog 37 i37=true:=by kernel_rfl
theorem Zwr:chkF Try.prog 38 i38=true:=by kernel_rfl
theorem Zwq:chkF Try.prog 39 i39=true:=by kernel_rfl
theorem ZqX:chkF Try.prog 40 i40=true:=by kernel_rfl
theorem Zwp:chkF Try.prog 41 i41=true:=by kernel_rfl
theorem Zwo:chkF Try.prog 44 i44=true:=by kernel_rfl
theorem Zwn:chkF Try.prog 46 i46=true:=by kernel_rfl
theorem Zwm:chkF Try.prog 47 i47=true:=by kernel_rfl
theorem Zwl:chkF Try.prog 48 i48=true:=by kernel_rfl
theorem Zwk:chkF Try.prog 49 i49=true:=by kernel_rfl
theorem Zwj:chkF Try.prog 50 i50=true:=by kernel_rfl
theorem Zwi:chkF Try.prog 51 i51=true:=by kernel_rfl
theorem Zwh:chkF Try.prog 52 i52=true:=by kernel_rfl
theorem Zwg:chkF Try.prog 53 i53=true:=by kernel_rfl
theorem Zwf:chkF Try.prog 54 i54=true:=by kernel_rfl
theorem Zwe:chkF Try.prog 55 i55=true:=by kernel_rfl
theorem Zwd:chkF Try.prog 56 i56=true:=by kernel_rfl
theorem Zwc:chkF Try.prog 57 i57=true:=by kernel_rfl
theorem Zwb:chkF Try.prog 58 i58=true:=by kernel_rfl
theorem Zwa:chkF Try.prog 59 i59=true:=by kernel_rfl
theorem Zv9:chkF Try.prog 60 i60=true:=by kernel_rfl
theorem Zv8:chkF Try.prog 61 i61=true:=by kernel_rfl
theorem Zv7:chkF Try.prog 62 i62=true:=by kernel_rfl
theorem Zv6:chkF Try.prog 63 i63=true:=by kernel_rfl
end Go.Eng

