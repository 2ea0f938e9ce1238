/- Part of the proof. -/
import Derived.Test.YtddgnfnfojoljaaProofKnownIR
set_option linter.all false
namespace Go.Eng
open Go Go.Proofs
theorem chk6:chkF Try.prog 6 i6=true:=by kernel_rfl
theorem Zpm:chkF Try.prog 10 i10=true:=by kernel_rfl
theorem Zpl:chkF Try.prog 12 i12=true:=by kernel_rfl
theorem Zpk:chkF Try.prog 14 i14=true:=by kernel_rfl
theorem Zpj:chkF Try.prog 18 i18=true:=by kernel_rfl
theorem Zpi:chkF Try.prog 19 i19=true:=by kernel_rfl
theorem Zph:chkF Try.prog 21 i21=true:=by kernel_rfl
theorem Zpg:chkF Try.prog 23 i23=true:=by kernel_rfl
theorem Zpf:chkF Try.prog 24 i24=true:=by kernel_rfl
theorem Zpe:chkF Try.prog 25 i25=true:=by kernel_rfl
theorem Zpd:chkF Try.prog 29 i29=true:=by kernel_rfl
theorem Zpc:chkF Try.prog 30 i30=true:=by kernel_rfl
theorem Zpb:chkF Try.prog 31 i31=true:=by kernel_rfl
theorem Zpa:chkF Try.prog 35 i35=true:=by kernel_rfl
theorem Zo9:chkF Try.prog 36 i36=true:=by kernel_rfl
theorem Zo8:chkF Try.prog 37 i37=true:=by kernel_rfl
theorem Zo7:chkF Try.prog 38 i38=true:=by kernel_rfl
theorem Zo6:chkF Try.prog 39 i39=true:=by kernel_rfl
theorem ZkD:chkF Try.prog 40 i40=true:=by kernel_rfl
theorem Zo5:chkF Try.prog 41 i41=true:=by kernel_rfl
theorem Zo4:chkF Try.prog 46 i46=true:=by kernel_rfl
theorem Zo3:chkF Try.prog 47 i47=true:=by kernel_rfl
theorem Zo2:chkF Try.prog 48 i48=true:=by kernel_rfl
theorem Zo1:chkF Try.prog 49 i49=true:=by kernel_rfl
theorem Zo0:chkF Try.prog 50 i50=true:=by kernel_rfl
theorem ZoZ:chkF Try.prog 51 i51=true:=by kernel_rfl
theorem ZoY:chkF Try.prog 54 i54=true:=by kernel_rfl
theorem ZoX:chkF Try.prog 55 i55=true:=by kernel_rfl
theorem ZoW:chkF Try.prog 56 i56=true:=by kernel_rfl
theorem ZoV:chkF Try.prog 57 i57=true:=by kernel_rfl
theorem ZoU:chkF Try.prog 58 i58=true:=by kernel_rfl
theorem ZoT:chkF Try.prog 61 i61=true:=by kernel_rfl
theorem ZoS:chkF Try.prog 62 i62=true:=by kernel_rfl
theorem ZoR:chkF Try.prog 63 i63=true:=by kernel_rfl
end Go.Eng

