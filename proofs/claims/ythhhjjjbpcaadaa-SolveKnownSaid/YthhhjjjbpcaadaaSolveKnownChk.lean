/- Part of the proof. -/
import Derived.Test.YthhhjjjbpcaadaaSolveKnownIR
set_option linter.all false
namespace Go.Eng
open Go Go.Proofs
theorem chk5:chkF Try.prog 5 i5=true:=by kernel_rfl
theorem chk9:Zkb Try.prog 9 d9=true:=by kernel_rfl
theorem ZoD:chkF Try.prog 11 i11=true:=by kernel_rfl
theorem ZoC:chkF Try.prog 12 i12=true:=by kernel_rfl
theorem ZoB:chkF Try.prog 13 i13=true:=by kernel_rfl
theorem ZoA:chkF Try.prog 14 i14=true:=by kernel_rfl
theorem Zoz:chkF Try.prog 15 i15=true:=by kernel_rfl
theorem Zoy:chkF Try.prog 16 i16=true:=by kernel_rfl
theorem Zox:chkF Try.prog 21 i21=true:=by kernel_rfl
theorem Zkc:chkR Try.prog 22 3 Znh=true:=by kernel_rfl
theorem Zow:chkF Try.prog 23 i23=true:=by kernel_rfl
theorem Zov:chkF Try.prog 26 i26=true:=by kernel_rfl
theorem Zou:chkF Try.prog 27 i27=true:=by kernel_rfl
theorem Zot:chkF Try.prog 31 i31=true:=by kernel_rfl
theorem Zos:chkF Try.prog 32 i32=true:=by kernel_rfl
theorem Zor:chkF Try.prog 33 i33=true:=by kernel_rfl
theorem Zoq:chkF Try.prog 36 i36=true:=by kernel_rfl
theorem Zop:chkF Try.prog 37 i37=true:=by kernel_rfl
theorem Zoo:chkF Try.prog 38 i38=true:=by kernel_rfl
theorem Zon:chkF Try.prog 44 i44=true:=by kernel_rfl
theorem Zom:chkF Try.prog 45 i45=true:=by kernel_rfl
theorem Zol:chkF Try.prog 47 i47=true:=by kernel_rfl
theorem Zok:chkF Try.prog 48 i48=true:=by kernel_rfl
theorem Zoj:chkF Try.prog 49 i49=true:=by kernel_rfl
theorem Zoi:chkF Try.prog 53 i53=true:=by kernel_rfl
theorem Zoh:chkF Try.prog 54 i54=true:=by kernel_rfl
theorem Zog:chkF Try.prog 55 i55=true:=by kernel_rfl
theorem Zof:chkF Try.prog 58 i58=true:=by kernel_rfl
theorem Zoe:chkF Try.prog 59 i59=true:=by kernel_rfl
theorem Zod:chkF Try.prog 60 i60=true:=by kernel_rfl
end Go.Eng

