/- The machine's form of the functions of this seat; written by gen.py, checked by Lean ('chk..'). -/
import Derived.Test.YtcbolnjnhiaiiaaE16
import Derived.Test.YtcbolnjnhiaiiaaProg
import Derived.KernelRfl
namespace Go.Eng
open Go Go.Proofs
set_option maxRecDepth 100000
set_option linter.unusedVariables false
set_option linter.unusedSimpArgs false
/- isochronlaw30.ServiceYields -/
def o3_0 : List IOp := [⟨none, .boxL 4 (.t 0), [], none⟩,
    ⟨none, .boxL 5 (.t 1), [], none⟩,
    ⟨none, .val 8 .mov [.k (.p (.bool false))], [], none⟩]
def r3_0 : IC := (.reg o3_0 [2, 3, 4, 5])
def o3_1 : List IOp := [⟨none, .loadL 17 (.t 4) 2 true, [], none⟩,
    ⟨none, .callP 18 10 [.t 17], [0], none⟩,
    ⟨none, .loadL 19 (.t 5) 2 true, [], none⟩,
    ⟨none, .callP 20 11 [.t 19], [0, 1, 2], none⟩,
    ⟨none, .val 21 (.build [.p (.sl 2 true []), .p (.int .i64 0), .p (.sl 2 true []), .p (.int .i64 0)] [(0, 2), (2, 2)]) [.t 18, .t 20], [0, 1, 2, 3], none⟩,
    ⟨none, .val 22 .mov [.k (.p (.int .i64 0))], [], none⟩]
def r3_1 : IC := (.regD o3_1 [2, 3, 21, 22])
def o3_2 : List IOp := [⟨none, .val 23 (.bin .lss) [.t 22, .k (.p (.int .i64 2))], [], none⟩]
def r3_2 : IC := (.reg o3_2 [2, 3, 21, 22, 23])
def o3_3 : List IOp := [⟨none, .val 24 (.idx 2 2 true) [.t 21, .t 22], [], none⟩,
    ⟨none, .newL 10 [.p (.sl 2 true []), .p (.int .i64 0)], [], none⟩,
    ⟨none, .store (.t 10) (.t 24) 2, [], none⟩]
def r3_3 : IC := (.reg o3_3 [2, 3, 10, 21, 22])
def o3_4 : List IOp := [⟨none, .val 25 .mov [.t 2], [], none⟩,
    ⟨none, .val 26 .mov [.t 3], [], none⟩,
    ⟨none, .val 27 (.build [.p (.int .i64 0), .p (.int .i64 0)] [(0, 1), (1, 1)]) [.t 25, .t 26], [], none⟩,
    ⟨none, .val 28 .mov [.t 2], [], none⟩,
    ⟨none, .val 29 (.conv .u64) [.t 28], [], none⟩,
    ⟨none, .val 30 (.bin .rem) [.t 29, .k (.p (.int .u64 4))], [], none⟩,
    ⟨none, .val 31 (.conv .i64) [.t 30], [], none⟩,
    ⟨none, .val 32 (.bin .add) [.k (.p (.int .i64 1)), .t 31], [], none⟩,
    ⟨none, .val 33 .mov [.t 3], [], none⟩,
    ⟨none, .val 34 (.conv .u64) [.t 33], [], none⟩,
    ⟨none, .val 35 (.bin .rem) [.t 34, .k (.p (.int .u64 100))], [], none⟩,
    ⟨none, .val 36 (.conv .i64) [.t 35], [], none⟩,
    ⟨none, .val 37 (.bin .add) [.k (.p (.int .i64 84)), .t 36], [], none⟩,
    ⟨none, .val 38 (.build [.p (.int .i64 0), .p (.int .i64 0)] [(0, 1), (1, 1)]) [.t 32, .t 37], [], none⟩,
    ⟨none, .val 39 (.build [.p (.int .i64 0), .p (.int .i64 0)] [(0, 1), (1, 1)]) [.k (.p (.int .i64 1)), .k (.p (.int .i64 84))], [], none⟩,
    ⟨none, .val 40 (.build [.p (.int .i64 0), .p (.int .i64 0), .p (.int .i64 0), .p (.int .i64 0), .p (.int .i64 0), .p (.int .i64 0)] [(0, 2), (2, 2), (4, 2)]) [.t 27, .t 38, .t 39], [], none⟩,
    ⟨none, .val 41 .mov [.k (.p (.int .i64 0))], [], none⟩]
def r3_4 : IC := (.reg o3_4 [2, 3, 10, 21, 22, 40, 41])
def o3_5 : List IOp := [⟨none, .val 42 (.bin .lss) [.t 41, .k (.p (.int .i64 3))], [], none⟩]
def r3_5 : IC := (.reg o3_5 [2, 3, 10, 21, 22, 40, 41, 42])
def o3_6 : List IOp := [⟨none, .val 43 (.idx 3 2 true) [.t 40, .t 41], [], none⟩,
    ⟨none, .newL 12 [.p (.int .i64 0), .p (.int .i64 0)], [], none⟩,
    ⟨none, .store (.t 12) (.t 43) 2, [], none⟩]
def r3_6 : IC := (.reg o3_6 [2, 3, 10, 12, 21, 22, 40, 41])
def o3_7 : List IOp := [⟨none, .load 45 (.t 10) 2 true, [], none⟩,
    ⟨none, .val 46 (.iaddr 2 1) [.t 12, .k (.p (.int .i64 0))], [], none⟩,
    ⟨none, .load 47 (.t 46) 1 false, [], none⟩,
    ⟨none, .val 48 (.iaddr 2 1) [.t 12, .k (.p (.int .i64 1))], [], none⟩,
    ⟨none, .load 49 (.t 48) 1 false, [], none⟩,
    ⟨none, .call (some 50) 12 [.t 45, .t 47, .t 49], [], none⟩,
    ⟨none, .val 44 .mov [.t 50], [], none⟩,
    ⟨none, .val 51 (.ext 0) [.t 44], [], none⟩,
    ⟨none, .val 52 (.ext 1) [.t 44], [], none⟩,
    ⟨none, .val 13 .mov [.t 51], [], none⟩,
    ⟨none, .val 14 .mov [.t 52], [], none⟩]
def r3_7 : IC := (.reg o3_7 [2, 3, 10, 12, 13, 14, 21, 22, 40, 41])
def o3_8 : List IOp := [⟨none, .load 54 (.t 10) 2 true, [], none⟩,
    ⟨none, .val 55 (.iaddr 2 1) [.t 12, .k (.p (.int .i64 0))], [], none⟩,
    ⟨none, .load 56 (.t 55) 1 false, [], none⟩,
    ⟨none, .val 57 (.iaddr 2 1) [.t 12, .k (.p (.int .i64 1))], [], none⟩,
    ⟨none, .load 58 (.t 57) 1 false, [], none⟩,
    ⟨none, .call (some 59) 13 [.t 54, .t 56, .t 58], [], none⟩,
    ⟨none, .val 53 .mov [.t 59], [], none⟩,
    ⟨none, .val 60 (.ext 0) [.t 53], [], none⟩,
    ⟨none, .val 61 (.ext 1) [.t 53], [], none⟩,
    ⟨none, .val 15 .mov [.t 60], [], none⟩,
    ⟨none, .val 16 .mov [.t 61], [], none⟩]
def r3_8 : IC := (.reg o3_8 [2, 3, 10, 13, 14, 15, 16, 21, 22, 40, 41])
def o3_9 : List IOp := [⟨none, .val 62 .mov [.t 13], [], none⟩,
    ⟨none, .val 63 .mov [.t 15], [], none⟩,
    ⟨none, .val 64 (.bin .neq) [.t 62, .t 63], [], none⟩,
    ⟨none, .val 65 .mov [.t 64], [], none⟩,
    ⟨(some (65, false)), .val 66 .mov [.t 14], [], none⟩,
    ⟨(some (65, false)), .val 67 .mov [.t 16], [], none⟩,
    ⟨(some (65, false)), .val 68 (.bin .neq) [.t 66, .t 67], [], none⟩,
    ⟨none, .val 69 .pick [.t 65, .k (.p (.bool true)), .t 68], [], none⟩]
def r3_9 : IC := (.reg o3_9 [2, 3, 10, 21, 22, 40, 41, 69])
def o3_10 : List IOp := [⟨none, .val 8 .mov [.k (.p (.bool false))], [], none⟩]
def r3_10 : IC := (.reg o3_10 [8])
def o3_11 : List IOp := [⟨none, .val 70 (.bin .add) [.t 41, .k (.p (.int .i64 1))], [], none⟩,
    ⟨none, .val 41 .mov [.t 70], [], none⟩]
def r3_11 : IC := (.reg o3_11 [2, 3, 10, 21, 22, 40, 41])
def l3_2 : IC := (.seq r3_5 (.seq (.cond (.t 42) .skip (.exit 2)) (.kp [2, 3, 10, 21, 22, 40, 41] (.seq (.block 3 (.seq r3_6 (.seq r3_7 (.seq r3_8 (.seq r3_9 (.cond (.t 69) (.seq r3_10 .ret) .skip)))))) (.kp [2, 3, 10, 21, 22, 40, 41] r3_11)))))
def o3_12 : List IOp := [⟨none, .val 71 (.bin .add) [.t 22, .k (.p (.int .i64 1))], [], none⟩,
    ⟨none, .val 22 .mov [.t 71], [], none⟩]
def r3_12 : IC := (.reg o3_12 [2, 3, 21, 22])
def l3_1 : IC := (.seq r3_2 (.seq (.cond (.t 23) .skip (.exit 0)) (.kp [2, 3, 21, 22] (.seq (.block 1 (.seq r3_3 (.seq r3_4 (.block 2 (.loop l3_2))))) r3_12))))
def o3_13 : List IOp := [⟨none, .call (some 72) 14 [], [], none⟩,
    ⟨none, .val 8 .mov [.t 72], [], none⟩]
def r3_13 : IC := (.reg o3_13 [8])
def b3 : IC := (.seq r3_0 (.seq (.seq r3_1 (.block 0 (.loop l3_1))) (.seq r3_13 .ret)))
def i3 : IFn := ⟨4, 73, b3, [.tmp 8]⟩
/- isochronlaw30.ServiceSends -/
def o4_0 : List IOp := [⟨none, .boxL 5 (.t 0), [], none⟩,
    ⟨none, .boxL 6 (.t 1), [], none⟩,
    ⟨none, .boxL 9 (.t 4), [], none⟩,
    ⟨none, .val 10 .mov [.k (.p (.bool false))], [], none⟩]
def r4_0 : IC := (.reg o4_0 [2, 3, 5, 6, 9])
def o4_1 : List IOp := [⟨none, .loadL 19 (.t 5) 2 true, [], none⟩,
    ⟨none, .callP 20 10 [.t 19], [0], none⟩,
    ⟨none, .loadL 21 (.t 6) 2 true, [], none⟩,
    ⟨none, .callP 22 11 [.t 21], [0, 1, 2], none⟩,
    ⟨none, .val 23 (.build [.p (.sl 2 true []), .p (.int .i64 0), .p (.sl 2 true []), .p (.int .i64 0)] [(0, 2), (2, 2)]) [.t 20, .t 22], [0, 1, 2, 3], none⟩,
    ⟨none, .val 24 .mov [.k (.p (.int .i64 0))], [], none⟩]
def r4_1 : IC := (.regD o4_1 [2, 3, 9, 23, 24])
def o4_2 : List IOp := [⟨none, .val 25 (.bin .lss) [.t 24, .k (.p (.int .i64 2))], [], none⟩]
def r4_2 : IC := (.reg o4_2 [2, 3, 9, 23, 24, 25])
def o4_3 : List IOp := [⟨none, .val 26 (.idx 2 2 true) [.t 23, .t 24], [], none⟩,
    ⟨none, .newL 12 [.p (.sl 2 true []), .p (.int .i64 0)], [], none⟩,
    ⟨none, .store (.t 12) (.t 26) 2, [], none⟩]
def r4_3 : IC := (.reg o4_3 [2, 3, 9, 12, 23, 24])
def o4_4 : List IOp := [⟨none, .val 27 .mov [.t 2], [], none⟩,
    ⟨none, .val 28 .mov [.t 3], [], none⟩,
    ⟨none, .val 29 (.iaddr 2 1) [.t 9, .k (.p (.int .i64 0))], [], none⟩,
    ⟨none, .load 30 (.t 29) 1 false, [], none⟩,
    ⟨none, .val 31 (.iaddr 2 1) [.t 9, .k (.p (.int .i64 1))], [], none⟩,
    ⟨none, .load 32 (.t 31) 1 false, [], none⟩,
    ⟨none, .val 33 (.build [.p (.int .i64 0), .p (.int .i64 0), .p (.int .i64 0), .p (.int .i64 0)] [(0, 1), (1, 1), (2, 1), (3, 1)]) [.t 27, .t 28, .t 30, .t 32], [], none⟩,
    ⟨none, .val 34 .mov [.t 2], [], none⟩,
    ⟨none, .val 35 (.conv .u64) [.t 34], [], none⟩,
    ⟨none, .val 36 (.bin .rem) [.t 35, .k (.p (.int .u64 4))], [], none⟩,
    ⟨none, .val 37 (.conv .i64) [.t 36], [], none⟩,
    ⟨none, .val 38 (.bin .add) [.k (.p (.int .i64 1)), .t 37], [], none⟩,
    ⟨none, .val 39 .mov [.t 3], [], none⟩,
    ⟨none, .val 40 (.conv .u64) [.t 39], [], none⟩,
    ⟨none, .val 41 (.bin .rem) [.t 40, .k (.p (.int .u64 100))], [], none⟩,
    ⟨none, .val 42 (.conv .i64) [.t 41], [], none⟩,
    ⟨none, .val 43 (.bin .add) [.k (.p (.int .i64 84)), .t 42], [], none⟩,
    ⟨none, .val 44 (.iaddr 2 1) [.t 9, .k (.p (.int .i64 0))], [], none⟩,
    ⟨none, .load 45 (.t 44) 1 false, [], none⟩,
    ⟨none, .val 46 (.bin .rem) [.t 45, .k (.p (.int .i64 10000))], [], none⟩,
    ⟨none, .val 47 (.iaddr 2 1) [.t 9, .k (.p (.int .i64 1))], [], none⟩,
    ⟨none, .load 48 (.t 47) 1 false, [], none⟩,
    ⟨none, .val 49 (.conv .u64) [.t 48], [], none⟩,
    ⟨none, .val 50 (.bin .rem) [.t 49, .k (.p (.int .u64 8000))], [], none⟩,
    ⟨none, .val 51 (.conv .i64) [.t 50], [], none⟩,
    ⟨none, .val 52 (.build [.p (.int .i64 0), .p (.int .i64 0), .p (.int .i64 0), .p (.int .i64 0)] [(0, 1), (1, 1), (2, 1), (3, 1)]) [.t 38, .t 43, .t 46, .t 51], [], none⟩,
    ⟨none, .val 53 (.iaddr 2 1) [.t 9, .k (.p (.int .i64 0))], [], none⟩,
    ⟨none, .load 54 (.t 53) 1 false, [], none⟩,
    ⟨none, .val 55 (.bin .rem) [.t 54, .k (.p (.int .i64 3000))], [], none⟩,
    ⟨none, .val 56 (.iaddr 2 1) [.t 9, .k (.p (.int .i64 1))], [], none⟩,
    ⟨none, .load 57 (.t 56) 1 false, [], none⟩,
    ⟨none, .val 58 (.conv .u64) [.t 57], [], none⟩,
    ⟨none, .val 59 (.bin .rem) [.t 58, .k (.p (.int .u64 900))], [], none⟩,
    ⟨none, .val 60 (.conv .i64) [.t 59], [], none⟩,
    ⟨none, .val 61 (.build [.p (.int .i64 0), .p (.int .i64 0), .p (.int .i64 0), .p (.int .i64 0)] [(0, 1), (1, 1), (2, 1), (3, 1)]) [.k (.p (.int .i64 1)), .k (.p (.int .i64 84)), .t 55, .t 60], [], none⟩,
    ⟨none, .val 62 (.build [.p (.int .i64 0), .p (.int .i64 0), .p (.int .i64 0), .p (.int .i64 0), .p (.int .i64 0), .p (.int .i64 0), .p (.int .i64 0), .p (.int .i64 0), .p (.int .i64 0), .p (.int .i64 0), .p (.int .i64 0), .p (.int .i64 0)] [(0, 4), (4, 4), (8, 4)]) [.t 33, .t 52, .t 61], [], none⟩,
    ⟨none, .val 63 .mov [.k (.p (.int .i64 0))], [], none⟩]
def r4_4 : IC := (.reg o4_4 [2, 3, 9, 12, 23, 24, 62, 63])
def o4_5 : List IOp := [⟨none, .val 64 (.bin .lss) [.t 63, .k (.p (.int .i64 3))], [], none⟩]
def r4_5 : IC := (.reg o4_5 [2, 3, 9, 12, 23, 24, 62, 63, 64])
def o4_6 : List IOp := [⟨none, .val 65 (.idx 3 4 true) [.t 62, .t 63], [], none⟩,
    ⟨none, .newL 14 [.p (.int .i64 0), .p (.int .i64 0), .p (.int .i64 0), .p (.int .i64 0)], [], none⟩,
    ⟨none, .store (.t 14) (.t 65) 4, [], none⟩]
def r4_6 : IC := (.reg o4_6 [2, 3, 9, 12, 14, 23, 24, 62, 63])
def o4_7 : List IOp := [⟨none, .load 67 (.t 12) 2 true, [], none⟩,
    ⟨none, .val 68 (.iaddr 4 1) [.t 14, .k (.p (.int .i64 0))], [], none⟩,
    ⟨none, .load 69 (.t 68) 1 false, [], none⟩,
    ⟨none, .val 70 (.iaddr 4 1) [.t 14, .k (.p (.int .i64 1))], [], none⟩,
    ⟨none, .load 71 (.t 70) 1 false, [], none⟩,
    ⟨none, .val 72 (.iaddr 4 1) [.t 14, .k (.p (.int .i64 2))], [], none⟩,
    ⟨none, .load 73 (.t 72) 1 false, [], none⟩,
    ⟨none, .val 74 (.iaddr 4 1) [.t 14, .k (.p (.int .i64 3))], [], none⟩,
    ⟨none, .load 75 (.t 74) 1 false, [], none⟩,
    ⟨none, .call (some 76) 15 [.t 67, .t 69, .t 71, .t 73, .t 75], [], none⟩,
    ⟨none, .val 66 .mov [.t 76], [], none⟩,
    ⟨none, .val 77 (.ext 0) [.t 66], [], none⟩,
    ⟨none, .val 78 (.ext 1) [.t 66], [], none⟩,
    ⟨none, .val 15 .mov [.t 77], [], none⟩,
    ⟨none, .val 16 .mov [.t 78], [], none⟩]
def r4_7 : IC := (.reg o4_7 [2, 3, 9, 12, 14, 15, 16, 23, 24, 62, 63])
def o4_8 : List IOp := [⟨none, .load 80 (.t 12) 2 true, [], none⟩,
    ⟨none, .val 81 (.iaddr 4 1) [.t 14, .k (.p (.int .i64 0))], [], none⟩,
    ⟨none, .load 82 (.t 81) 1 false, [], none⟩,
    ⟨none, .val 83 (.iaddr 4 1) [.t 14, .k (.p (.int .i64 1))], [], none⟩,
    ⟨none, .load 84 (.t 83) 1 false, [], none⟩,
    ⟨none, .val 85 (.iaddr 4 1) [.t 14, .k (.p (.int .i64 2))], [], none⟩,
    ⟨none, .load 86 (.t 85) 1 false, [], none⟩,
    ⟨none, .val 87 (.iaddr 4 1) [.t 14, .k (.p (.int .i64 3))], [], none⟩,
    ⟨none, .load 88 (.t 87) 1 false, [], none⟩,
    ⟨none, .call (some 89) 16 [.t 80, .t 82, .t 84, .t 86, .t 88], [], none⟩,
    ⟨none, .val 79 .mov [.t 89], [], none⟩,
    ⟨none, .val 90 (.ext 0) [.t 79], [], none⟩,
    ⟨none, .val 91 (.ext 1) [.t 79], [], none⟩,
    ⟨none, .val 17 .mov [.t 90], [], none⟩,
    ⟨none, .val 18 .mov [.t 91], [], none⟩]
def r4_8 : IC := (.reg o4_8 [2, 3, 9, 12, 15, 16, 17, 18, 23, 24, 62, 63])
def o4_9 : List IOp := [⟨none, .val 92 .mov [.t 15], [], none⟩,
    ⟨none, .val 93 .mov [.t 17], [], none⟩,
    ⟨none, .val 94 (.bin .neq) [.t 92, .t 93], [], none⟩,
    ⟨none, .val 95 .mov [.t 94], [], none⟩,
    ⟨(some (95, false)), .val 96 .mov [.t 16], [], none⟩,
    ⟨(some (95, false)), .val 97 .mov [.t 18], [], none⟩,
    ⟨(some (95, false)), .val 98 (.bin .neq) [.t 96, .t 97], [], none⟩,
    ⟨none, .val 99 .pick [.t 95, .k (.p (.bool true)), .t 98], [], none⟩]
def r4_9 : IC := (.reg o4_9 [2, 3, 9, 12, 23, 24, 62, 63, 99])
def o4_10 : List IOp := [⟨none, .val 10 .mov [.k (.p (.bool false))], [], none⟩]
def r4_10 : IC := (.reg o4_10 [10])
def o4_11 : List IOp := [⟨none, .val 100 (.bin .add) [.t 63, .k (.p (.int .i64 1))], [], none⟩,
    ⟨none, .val 63 .mov [.t 100], [], none⟩]
def r4_11 : IC := (.reg o4_11 [2, 3, 9, 12, 23, 24, 62, 63])
def l4_2 : IC := (.seq r4_5 (.seq (.cond (.t 64) .skip (.exit 2)) (.kp [2, 3, 9, 12, 23, 24, 62, 63] (.seq (.block 3 (.seq r4_6 (.seq r4_7 (.seq r4_8 (.seq r4_9 (.cond (.t 99) (.seq r4_10 .ret) .skip)))))) (.kp [2, 3, 9, 12, 23, 24, 62, 63] r4_11)))))
def o4_12 : List IOp := [⟨none, .val 101 (.bin .add) [.t 24, .k (.p (.int .i64 1))], [], none⟩,
    ⟨none, .val 24 .mov [.t 101], [], none⟩]
def r4_12 : IC := (.reg o4_12 [2, 3, 9, 23, 24])
def l4_1 : IC := (.seq r4_2 (.seq (.cond (.t 25) .skip (.exit 0)) (.kp [2, 3, 9, 23, 24] (.seq (.block 1 (.seq r4_3 (.seq r4_4 (.block 2 (.loop l4_2))))) r4_12))))
def o4_13 : List IOp := [⟨none, .call (some 102) 14 [], [], none⟩,
    ⟨none, .val 10 .mov [.t 102], [], none⟩]
def r4_13 : IC := (.reg o4_13 [10])
def b4 : IC := (.seq r4_0 (.seq (.seq r4_1 (.block 0 (.loop l4_1))) (.seq r4_13 .ret)))
def i4 : IFn := ⟨5, 103, b4, [.tmp 10]⟩
/- isochronlaw30.ServiceRates -/
def o5_0 : List IOp := [⟨none, .boxL 4 (.t 0), [], none⟩,
    ⟨none, .boxL 5 (.t 1), [], none⟩,
    ⟨none, .val 8 .mov [.k (.p (.bool false))], [], none⟩]
def r5_0 : IC := (.reg o5_0 [2, 3, 4, 5])
def o5_1 : List IOp := [⟨none, .loadL 17 (.t 4) 2 true, [], none⟩,
    ⟨none, .callP 18 10 [.t 17], [0], none⟩,
    ⟨none, .loadL 19 (.t 5) 2 true, [], none⟩,
    ⟨none, .callP 20 11 [.t 19], [0, 1, 2], none⟩,
    ⟨none, .val 21 (.build [.p (.sl 2 true []), .p (.int .i64 0), .p (.sl 2 true []), .p (.int .i64 0)] [(0, 2), (2, 2)]) [.t 18, .t 20], [0, 1, 2, 3], none⟩,
    ⟨none, .val 22 .mov [.k (.p (.int .i64 0))], [], none⟩]
def r5_1 : IC := (.regD o5_1 [2, 3, 21, 22])
def o5_2 : List IOp := [⟨none, .val 23 (.bin .lss) [.t 22, .k (.p (.int .i64 2))], [], none⟩]
def r5_2 : IC := (.reg o5_2 [2, 3, 21, 22, 23])
def o5_3 : List IOp := [⟨none, .val 24 (.idx 2 2 true) [.t 21, .t 22], [], none⟩,
    ⟨none, .newL 10 [.p (.sl 2 true []), .p (.int .i64 0)], [], none⟩,
    ⟨none, .store (.t 10) (.t 24) 2, [], none⟩]
def r5_3 : IC := (.reg o5_3 [2, 3, 10, 21, 22])
def o5_4 : List IOp := [⟨none, .val 25 .mov [.t 2], [], none⟩,
    ⟨none, .val 26 .mov [.t 3], [], none⟩,
    ⟨none, .val 27 (.build [.p (.int .i64 0), .p (.int .i64 0)] [(0, 1), (1, 1)]) [.t 25, .t 26], [], none⟩,
    ⟨none, .val 28 .mov [.t 2], [], none⟩,
    ⟨none, .val 29 (.conv .u64) [.t 28], [], none⟩,
    ⟨none, .val 30 (.bin .rem) [.t 29, .k (.p (.int .u64 4))], [], none⟩,
    ⟨none, .val 31 (.conv .i64) [.t 30], [], none⟩,
    ⟨none, .val 32 (.bin .add) [.k (.p (.int .i64 1)), .t 31], [], none⟩,
    ⟨none, .val 33 .mov [.t 3], [], none⟩,
    ⟨none, .val 34 (.conv .u64) [.t 33], [], none⟩,
    ⟨none, .val 35 (.bin .rem) [.t 34, .k (.p (.int .u64 100))], [], none⟩,
    ⟨none, .val 36 (.conv .i64) [.t 35], [], none⟩,
    ⟨none, .val 37 (.bin .add) [.k (.p (.int .i64 84)), .t 36], [], none⟩,
    ⟨none, .val 38 (.build [.p (.int .i64 0), .p (.int .i64 0)] [(0, 1), (1, 1)]) [.t 32, .t 37], [], none⟩,
    ⟨none, .val 39 (.build [.p (.int .i64 0), .p (.int .i64 0)] [(0, 1), (1, 1)]) [.k (.p (.int .i64 1)), .k (.p (.int .i64 84))], [], none⟩,
    ⟨none, .val 40 (.build [.p (.int .i64 0), .p (.int .i64 0), .p (.int .i64 0), .p (.int .i64 0), .p (.int .i64 0), .p (.int .i64 0)] [(0, 2), (2, 2), (4, 2)]) [.t 27, .t 38, .t 39], [], none⟩,
    ⟨none, .val 41 .mov [.k (.p (.int .i64 0))], [], none⟩]
def r5_4 : IC := (.reg o5_4 [2, 3, 10, 21, 22, 40, 41])
def o5_5 : List IOp := [⟨none, .val 42 (.bin .lss) [.t 41, .k (.p (.int .i64 3))], [], none⟩]
def r5_5 : IC := (.reg o5_5 [2, 3, 10, 21, 22, 40, 41, 42])
def o5_6 : List IOp := [⟨none, .val 43 (.idx 3 2 true) [.t 40, .t 41], [], none⟩,
    ⟨none, .newL 12 [.p (.int .i64 0), .p (.int .i64 0)], [], none⟩,
    ⟨none, .store (.t 12) (.t 43) 2, [], none⟩]
def r5_6 : IC := (.reg o5_6 [2, 3, 10, 12, 21, 22, 40, 41])
def o5_7 : List IOp := [⟨none, .load 45 (.t 10) 2 true, [], none⟩,
    ⟨none, .val 46 (.iaddr 2 1) [.t 12, .k (.p (.int .i64 0))], [], none⟩,
    ⟨none, .load 47 (.t 46) 1 false, [], none⟩,
    ⟨none, .val 48 (.iaddr 2 1) [.t 12, .k (.p (.int .i64 1))], [], none⟩,
    ⟨none, .load 49 (.t 48) 1 false, [], none⟩,
    ⟨none, .call (some 50) 17 [.t 45, .t 47, .t 49], [], none⟩,
    ⟨none, .val 44 .mov [.t 50], [], none⟩,
    ⟨none, .val 51 (.ext 0) [.t 44], [], none⟩,
    ⟨none, .val 52 (.ext 1) [.t 44], [], none⟩,
    ⟨none, .newL 13 [.p (.int .i64 0), .p (.int .i64 0)], [], none⟩,
    ⟨none, .store (.t 13) (.t 51) 2, [], none⟩,
    ⟨none, .val 14 .mov [.t 52], [], none⟩]
def r5_7 : IC := (.reg o5_7 [2, 3, 10, 12, 13, 14, 21, 22, 40, 41])
def o5_8 : List IOp := [⟨none, .load 54 (.t 10) 2 true, [], none⟩,
    ⟨none, .val 55 (.iaddr 2 1) [.t 12, .k (.p (.int .i64 0))], [], none⟩,
    ⟨none, .load 56 (.t 55) 1 false, [], none⟩,
    ⟨none, .val 57 (.iaddr 2 1) [.t 12, .k (.p (.int .i64 1))], [], none⟩,
    ⟨none, .load 58 (.t 57) 1 false, [], none⟩,
    ⟨none, .call (some 59) 18 [.t 54, .t 56, .t 58], [], none⟩,
    ⟨none, .val 53 .mov [.t 59], [], none⟩,
    ⟨none, .val 60 (.ext 0) [.t 53], [], none⟩,
    ⟨none, .val 61 (.ext 1) [.t 53], [], none⟩,
    ⟨none, .newL 15 [.p (.int .i64 0), .p (.int .i64 0)], [], none⟩,
    ⟨none, .store (.t 15) (.t 60) 2, [], none⟩,
    ⟨none, .val 16 .mov [.t 61], [], none⟩]
def r5_8 : IC := (.reg o5_8 [2, 3, 10, 13, 14, 15, 16, 21, 22, 40, 41])
def o5_9 : List IOp := [⟨none, .load 62 (.t 13) 2 true, [], none⟩,
    ⟨none, .load 63 (.t 15) 2 true, [], none⟩,
    ⟨none, .val 64 (.eqS true [true, true]) [.t 62, .t 63], [], none⟩,
    ⟨none, .val 65 .mov [.t 64], [], none⟩,
    ⟨(some (65, false)), .val 66 .mov [.t 14], [], none⟩,
    ⟨(some (65, false)), .val 67 .mov [.t 16], [], none⟩,
    ⟨(some (65, false)), .val 68 (.bin .neq) [.t 66, .t 67], [], none⟩,
    ⟨none, .val 69 .pick [.t 65, .k (.p (.bool true)), .t 68], [], none⟩]
def r5_9 : IC := (.reg o5_9 [2, 3, 10, 21, 22, 40, 41, 69])
def o5_10 : List IOp := [⟨none, .val 8 .mov [.k (.p (.bool false))], [], none⟩]
def r5_10 : IC := (.reg o5_10 [8])
def o5_11 : List IOp := [⟨none, .val 70 (.bin .add) [.t 41, .k (.p (.int .i64 1))], [], none⟩,
    ⟨none, .val 41 .mov [.t 70], [], none⟩]
def r5_11 : IC := (.reg o5_11 [2, 3, 10, 21, 22, 40, 41])
def l5_2 : IC := (.seq r5_5 (.seq (.cond (.t 42) .skip (.exit 2)) (.kp [2, 3, 10, 21, 22, 40, 41] (.seq (.block 3 (.seq r5_6 (.seq r5_7 (.seq r5_8 (.seq r5_9 (.cond (.t 69) (.seq r5_10 .ret) .skip)))))) (.kp [2, 3, 10, 21, 22, 40, 41] r5_11)))))
def o5_12 : List IOp := [⟨none, .val 71 (.bin .add) [.t 22, .k (.p (.int .i64 1))], [], none⟩,
    ⟨none, .val 22 .mov [.t 71], [], none⟩]
def r5_12 : IC := (.reg o5_12 [2, 3, 21, 22])
def l5_1 : IC := (.seq r5_2 (.seq (.cond (.t 23) .skip (.exit 0)) (.kp [2, 3, 21, 22] (.seq (.block 1 (.seq r5_3 (.seq r5_4 (.block 2 (.loop l5_2))))) r5_12))))
def o5_13 : List IOp := [⟨none, .call (some 72) 14 [], [], none⟩,
    ⟨none, .val 8 .mov [.t 72], [], none⟩]
def r5_13 : IC := (.reg o5_13 [8])
def b5 : IC := (.seq r5_0 (.seq (.seq r5_1 (.block 0 (.loop l5_1))) (.seq r5_13 .ret)))
def i5 : IFn := ⟨4, 73, b5, [.tmp 8]⟩
/- isochronlaw30.ServiceKnown -/
def o6_0 : List IOp := [⟨none, .val 0 .mov [.k (.p (.bool false))], [], none⟩]
def r6_0 : IC := (.reg o6_0 [])
def o6_1 : List IOp := [⟨none, .litP 27 1 [.k (.p (.int .i64 127)), .k (.p (.int .i64 200)), .k (.p (.int .i64 128)), .k (.p (.int .i64 100)), .k (.p (.int .i64 64)), .k (.p (.int .i64 100)), .k (.p (.int .i64 64)), .k (.p (.int .i64 150)), .k (.p (.int .i64 63)), .k (.p (.int .i64 50))], [], none⟩,
    ⟨none, .call (some 28) 19 [.t 27], [], none⟩,
    ⟨none, .newL 1 [.p (.sl 2 true []), .p (.int .i64 0)], [], none⟩,
    ⟨none, .store (.t 1) (.t 28) 2, [], none⟩]
def r6_1 : IC := (.reg o6_1 [1])
def o6_2 : List IOp := [⟨none, .load 30 (.t 1) 2 true, [], none⟩,
    ⟨none, .call (some 31) 12 [.t 30, .k (.p (.int .i64 1)), .k (.p (.int .i64 100))], [], none⟩,
    ⟨none, .val 29 .mov [.t 31], [], none⟩,
    ⟨none, .val 32 (.ext 0) [.t 29], [], none⟩,
    ⟨none, .val 33 (.ext 1) [.t 29], [], none⟩,
    ⟨none, .val 2 .mov [.t 32], [], none⟩,
    ⟨none, .val 3 .mov [.t 33], [], none⟩]
def r6_2 : IC := (.reg o6_2 [1, 2, 3])
def o6_3 : List IOp := [⟨none, .litP 34 1 [.k (.p (.int .i64 64)), .k (.p (.int .i64 100)), .k (.p (.int .i64 0)), .k (.p (.int .i64 300)), .k (.p (.int .i64 65)), .k (.p (.int .i64 100))], [], none⟩,
    ⟨none, .call (some 35) 19 [.t 34], [], none⟩,
    ⟨none, .newL 4 [.p (.sl 2 true []), .p (.int .i64 0)], [], none⟩,
    ⟨none, .store (.t 4) (.t 35) 2, [], none⟩]
def r6_3 : IC := (.reg o6_3 [1, 2, 3, 4])
def o6_4 : List IOp := [⟨none, .load 37 (.t 4) 2 true, [], none⟩,
    ⟨none, .call (some 38) 12 [.t 37, .k (.p (.int .i64 1)), .k (.p (.int .i64 100))], [], none⟩,
    ⟨none, .val 36 .mov [.t 38], [], none⟩,
    ⟨none, .val 39 (.ext 0) [.t 36], [], none⟩,
    ⟨none, .val 40 (.ext 1) [.t 36], [], none⟩,
    ⟨none, .val 5 .mov [.t 39], [], none⟩,
    ⟨none, .val 6 .mov [.t 40], [], none⟩]
def r6_4 : IC := (.reg o6_4 [1, 2, 3, 4, 5, 6])
def o6_5 : List IOp := [⟨none, .val 42 (.build [.p (.sl 2 true []), .p (.int .i64 0)] []) [], [], none⟩,
    ⟨none, .call (some 43) 12 [.t 42, .k (.p (.int .i64 0)), .k (.p (.int .i64 0))], [], none⟩,
    ⟨none, .val 41 .mov [.t 43], [], none⟩,
    ⟨none, .val 44 (.ext 0) [.t 41], [], none⟩,
    ⟨none, .val 45 (.ext 1) [.t 41], [], none⟩,
    ⟨none, .val 7 .mov [.t 44], [], none⟩,
    ⟨none, .val 8 .mov [.t 45], [], none⟩]
def r6_5 : IC := (.reg o6_5 [1, 2, 3, 4, 5, 6, 8])
def o6_6 : List IOp := [⟨none, .load 47 (.t 1) 2 true, [], none⟩,
    ⟨none, .call (some 48) 12 [.t 47, .k (.p (.int .i64 0)), .k (.p (.int .i64 100))], [], none⟩,
    ⟨none, .val 46 .mov [.t 48], [], none⟩,
    ⟨none, .val 49 (.ext 0) [.t 46], [], none⟩,
    ⟨none, .val 50 (.ext 1) [.t 46], [], none⟩,
    ⟨none, .val 9 .mov [.t 49], [], none⟩,
    ⟨none, .val 10 .mov [.t 50], [], none⟩]
def r6_6 : IC := (.reg o6_6 [1, 2, 3, 4, 5, 6, 8, 10])
def o6_7 : List IOp := [⟨none, .load 52 (.t 1) 2 true, [], none⟩,
    ⟨none, .call (some 53) 12 [.t 52, .k (.p (.int .i64 1001)), .k (.p (.int .i64 100))], [], none⟩,
    ⟨none, .val 51 .mov [.t 53], [], none⟩,
    ⟨none, .val 54 (.ext 0) [.t 51], [], none⟩,
    ⟨none, .val 55 (.ext 1) [.t 51], [], none⟩,
    ⟨none, .val 11 .mov [.t 54], [], none⟩,
    ⟨none, .val 12 .mov [.t 55], [], none⟩]
def r6_7 : IC := (.reg o6_7 [1, 2, 3, 4, 5, 6, 8, 10, 12])
def o6_8 : List IOp := [⟨none, .load 57 (.t 1) 2 true, [], none⟩,
    ⟨none, .call (some 58) 17 [.t 57, .k (.p (.int .i64 1)), .k (.p (.int .i64 83))], [], none⟩,
    ⟨none, .val 56 .mov [.t 58], [], none⟩,
    ⟨none, .val 59 (.ext 0) [.t 56], [], none⟩,
    ⟨none, .val 60 (.ext 1) [.t 56], [], none⟩,
    ⟨none, .newL 13 [.p (.int .i64 0), .p (.int .i64 0)], [], none⟩,
    ⟨none, .store (.t 13) (.t 59) 2, [], none⟩,
    ⟨none, .val 14 .mov [.t 60], [], none⟩]
def r6_8 : IC := (.reg o6_8 [1, 2, 3, 4, 5, 6, 8, 10, 12, 14])
def o6_9 : List IOp := [⟨none, .load 62 (.t 1) 2 true, [], none⟩,
    ⟨none, .call (some 63) 17 [.t 62, .k (.p (.int .i64 1)), .k (.p (.int .i64 1543))], [], none⟩,
    ⟨none, .val 61 .mov [.t 63], [], none⟩,
    ⟨none, .val 64 (.ext 0) [.t 61], [], none⟩,
    ⟨none, .val 65 (.ext 1) [.t 61], [], none⟩,
    ⟨none, .newL 15 [.p (.int .i64 0), .p (.int .i64 0)], [], none⟩,
    ⟨none, .store (.t 15) (.t 64) 2, [], none⟩,
    ⟨none, .val 16 .mov [.t 65], [], none⟩]
def r6_9 : IC := (.reg o6_9 [1, 2, 3, 4, 5, 6, 8, 10, 12, 14, 16])
def o6_10 : List IOp := [⟨none, .load 67 (.t 1) 2 true, [], none⟩,
    ⟨none, .call (some 68) 15 [.t 67, .k (.p (.int .i64 1)), .k (.p (.int .i64 100)), .k (.p (.int .i64 1099511627777)), .k (.p (.int .i64 0))], [], none⟩,
    ⟨none, .val 66 .mov [.t 68], [], none⟩,
    ⟨none, .val 69 (.ext 0) [.t 66], [], none⟩,
    ⟨none, .val 70 (.ext 1) [.t 66], [], none⟩,
    ⟨none, .val 17 .mov [.t 69], [], none⟩,
    ⟨none, .val 18 .mov [.t 70], [], none⟩]
def r6_10 : IC := (.reg o6_10 [1, 2, 3, 4, 5, 6, 8, 10, 12, 14, 16, 18])
def o6_11 : List IOp := [⟨none, .load 72 (.t 1) 2 true, [], none⟩,
    ⟨none, .call (some 73) 15 [.t 72, .k (.p (.int .i64 1)), .k (.p (.int .i64 100)), .k (.p (.int .i64 0)), .k (.p (.int .i64 (-1)))], [], none⟩,
    ⟨none, .val 71 .mov [.t 73], [], none⟩,
    ⟨none, .val 74 (.ext 0) [.t 71], [], none⟩,
    ⟨none, .val 75 (.ext 1) [.t 71], [], none⟩,
    ⟨none, .val 19 .mov [.t 74], [], none⟩,
    ⟨none, .val 20 .mov [.t 75], [], none⟩]
def r6_11 : IC := (.reg o6_11 [1, 2, 3, 4, 5, 6, 8, 10, 12, 14, 16, 18, 20])
def o6_12 : List IOp := [⟨none, .load 77 (.t 1) 2 true, [], none⟩,
    ⟨none, .call (some 78) 15 [.t 77, .k (.p (.int .i64 1)), .k (.p (.int .i64 100)), .k (.p (.int .i64 0)), .k (.p (.int .i64 2401))], [], none⟩,
    ⟨none, .val 76 .mov [.t 78], [], none⟩,
    ⟨none, .val 79 (.ext 0) [.t 76], [], none⟩,
    ⟨none, .val 80 (.ext 1) [.t 76], [], none⟩,
    ⟨none, .val 21 .mov [.t 79], [], none⟩,
    ⟨none, .val 22 .mov [.t 80], [], none⟩]
def r6_12 : IC := (.reg o6_12 [1, 2, 3, 4, 5, 6, 8, 10, 12, 14, 16, 18, 20, 22])
def o6_13 : List IOp := [⟨none, .val 82 (.build [.p (.sl 2 true []), .p (.int .i64 0)] []) [], [], none⟩,
    ⟨none, .call (some 83) 15 [.t 82, .k (.p (.int .i64 1)), .k (.p (.int .i64 100)), .k (.p (.int .i64 0)), .k (.p (.int .i64 (-1)))], [], none⟩,
    ⟨none, .val 81 .mov [.t 83], [], none⟩,
    ⟨none, .val 84 (.ext 0) [.t 81], [], none⟩,
    ⟨none, .val 85 (.ext 1) [.t 81], [], none⟩,
    ⟨none, .val 23 .mov [.t 84], [], none⟩,
    ⟨none, .val 24 .mov [.t 85], [], none⟩]
def r6_13 : IC := (.reg o6_13 [1, 2, 3, 4, 5, 6, 8, 10, 12, 14, 16, 18, 20, 22, 24])
def o6_14 : List IOp := [⟨none, .val 86 .mov [.t 8], [], none⟩,
    ⟨none, .val 87 (.bin .eql) [.t 86, .k (.p (.int .i64 370))], [], none⟩,
    ⟨none, .val 88 .mov [.t 87], [], none⟩,
    ⟨(some (88, true)), .val 89 .mov [.t 10], [], none⟩,
    ⟨(some (88, true)), .val 90 (.bin .eql) [.t 89, .k (.p (.int .i64 2))], [], none⟩,
    ⟨none, .val 91 .pick [.t 88, .t 90, .k (.p (.bool false))], [], none⟩,
    ⟨none, .val 92 .mov [.t 91], [], none⟩,
    ⟨(some (92, true)), .val 93 .mov [.t 12], [], none⟩,
    ⟨(some (92, true)), .val 94 (.bin .eql) [.t 93, .k (.p (.int .i64 2))], [], none⟩,
    ⟨none, .val 95 .pick [.t 92, .t 94, .k (.p (.bool false))], [], none⟩,
    ⟨none, .val 96 .mov [.t 95], [], none⟩,
    ⟨(some (96, true)), .val 97 .mov [.t 14], [], none⟩,
    ⟨(some (96, true)), .val 98 (.bin .eql) [.t 97, .k (.p (.int .i64 2))], [], none⟩,
    ⟨none, .val 99 .pick [.t 96, .t 98, .k (.p (.bool false))], [], none⟩,
    ⟨none, .val 100 .mov [.t 99], [], none⟩,
    ⟨(some (100, true)), .val 101 .mov [.t 16], [], none⟩,
    ⟨(some (100, true)), .val 102 (.bin .eql) [.t 101, .k (.p (.int .i64 2))], [], none⟩,
    ⟨none, .val 103 .pick [.t 100, .t 102, .k (.p (.bool false))], [], none⟩,
    ⟨none, .val 104 .mov [.t 103], [], none⟩,
    ⟨(some (104, true)), .val 105 .mov [.t 18], [], none⟩,
    ⟨(some (104, true)), .val 106 (.bin .eql) [.t 105, .k (.p (.int .i64 2))], [], none⟩,
    ⟨none, .val 107 .pick [.t 104, .t 106, .k (.p (.bool false))], [], none⟩,
    ⟨none, .val 108 .mov [.t 107], [], none⟩,
    ⟨(some (108, true)), .val 109 .mov [.t 20], [], none⟩,
    ⟨(some (108, true)), .val 110 (.bin .eql) [.t 109, .k (.p (.int .i64 2))], [], none⟩,
    ⟨none, .val 111 .pick [.t 108, .t 110, .k (.p (.bool false))], [], none⟩,
    ⟨none, .val 112 .mov [.t 111], [], none⟩,
    ⟨(some (112, true)), .val 113 .mov [.t 22], [], none⟩,
    ⟨(some (112, true)), .val 114 (.bin .eql) [.t 113, .k (.p (.int .i64 2))], [], none⟩,
    ⟨none, .val 115 .pick [.t 112, .t 114, .k (.p (.bool false))], [], none⟩,
    ⟨none, .val 116 .mov [.t 115], [], none⟩,
    ⟨(some (116, true)), .val 117 .mov [.t 24], [], none⟩,
    ⟨(some (116, true)), .val 118 (.bin .eql) [.t 117, .k (.p (.int .i64 370))], [], none⟩,
    ⟨none, .val 119 .pick [.t 116, .t 118, .k (.p (.bool false))], [], none⟩,
    ⟨none, .val 25 .mov [.t 119], [], none⟩]
def r6_14 : IC := (.reg o6_14 [1, 2, 3, 4, 5, 6, 25])
def o6_15 : List IOp := [⟨none, .load 120 (.t 1) 2 true, [], none⟩,
    ⟨none, .call (some 121) 20 [.t 120, .k (.p (.int .i64 1)), .k (.p (.int .i64 100)), .k (.p (.int .i64 0)), .k (.p (.int .i64 600))], [], none⟩,
    ⟨none, .val 122 (.bin .eql) [.t 121, .k (.p (.int .i64 123))], [], none⟩,
    ⟨none, .val 123 .mov [.t 122], [], none⟩,
    ⟨(some (123, true)), .load 124 (.t 1) 2 true, [], none⟩,
    ⟨(some (123, true)), .call (some 125) 20 [.t 124, .k (.p (.int .i64 1)), .k (.p (.int .i64 100)), .k (.p (.int .i64 300)), .k (.p (.int .i64 500))], [], none⟩,
    ⟨(some (123, true)), .val 126 (.bin .eql) [.t 125, .k (.p (.int .i64 123))], [], none⟩,
    ⟨none, .val 127 .pick [.t 123, .t 126, .k (.p (.bool false))], [], none⟩,
    ⟨none, .val 128 .mov [.t 127], [], none⟩,
    ⟨(some (128, true)), .load 129 (.t 1) 2 true, [], none⟩,
    ⟨(some (128, true)), .call (some 130) 20 [.t 129, .k (.p (.int .i64 1)), .k (.p (.int .i64 100)), .k (.p (.int .i64 0)), .k (.p (.int .i64 2400))], [], none⟩,
    ⟨(some (128, true)), .val 131 (.bin .eql) [.t 130, .k (.p (.int .i64 873))], [], none⟩,
    ⟨none, .val 132 .pick [.t 128, .t 131, .k (.p (.bool false))], [], none⟩,
    ⟨none, .val 133 .mov [.t 132], [], none⟩,
    ⟨(some (133, true)), .load 134 (.t 4) 2 true, [], none⟩,
    ⟨(some (133, true)), .call (some 135) 20 [.t 134, .k (.p (.int .i64 1)), .k (.p (.int .i64 100)), .k (.p (.int .i64 400)), .k (.p (.int .i64 200))], [], none⟩,
    ⟨(some (133, true)), .val 136 (.bin .eql) [.t 135, .k (.p (.int .i64 0))], [], none⟩,
    ⟨none, .val 137 .pick [.t 133, .t 136, .k (.p (.bool false))], [], none⟩,
    ⟨none, .val 26 .mov [.t 137], [], none⟩]
def r6_15 : IC := (.reg o6_15 [2, 3, 5, 6, 25, 26])
def o6_16 : List IOp := [⟨none, .val 138 .mov [.k (.p (.bool true))], [], none⟩,
    ⟨(some (138, true)), .call (some 139) 14 [], [], none⟩,
    ⟨none, .val 140 .pick [.t 138, .t 139, .k (.p (.bool false))], [], none⟩,
    ⟨none, .val 141 .mov [.t 140], [], none⟩,
    ⟨(some (141, true)), .val 142 .mov [.t 2], [], none⟩,
    ⟨(some (141, true)), .val 143 (.bin .eql) [.t 142, .k (.p (.int .i64 250))], [], none⟩,
    ⟨none, .val 144 .pick [.t 141, .t 143, .k (.p (.bool false))], [], none⟩,
    ⟨none, .val 145 .mov [.t 144], [], none⟩,
    ⟨(some (145, true)), .val 146 .mov [.t 3], [], none⟩,
    ⟨(some (145, true)), .val 147 (.bin .eql) [.t 146, .k (.p (.int .i64 0))], [], none⟩,
    ⟨none, .val 148 .pick [.t 145, .t 147, .k (.p (.bool false))], [], none⟩,
    ⟨none, .val 149 .mov [.t 148], [], none⟩,
    ⟨(some (149, true)), .val 150 .mov [.t 5], [], none⟩,
    ⟨(some (149, true)), .val 151 (.bin .eql) [.t 150, .k (.p (.int .i64 100))], [], none⟩,
    ⟨none, .val 152 .pick [.t 149, .t 151, .k (.p (.bool false))], [], none⟩,
    ⟨none, .val 153 .mov [.t 152], [], none⟩,
    ⟨(some (153, true)), .val 154 .mov [.t 6], [], none⟩,
    ⟨(some (153, true)), .val 155 (.bin .eql) [.t 154, .k (.p (.int .i64 0))], [], none⟩,
    ⟨none, .val 156 .pick [.t 153, .t 155, .k (.p (.bool false))], [], none⟩,
    ⟨none, .val 157 .mov [.t 156], [], none⟩,
    ⟨(some (157, true)), .val 158 .mov [.t 26], [], none⟩,
    ⟨none, .val 159 .pick [.t 157, .t 158, .k (.p (.bool false))], [], none⟩,
    ⟨none, .val 160 .mov [.t 159], [], none⟩,
    ⟨(some (160, true)), .val 161 .mov [.t 25], [], none⟩,
    ⟨none, .val 162 .pick [.t 160, .t 161, .k (.p (.bool false))], [], none⟩,
    ⟨none, .val 163 .mov [.t 162], [], none⟩,
    ⟨(some (163, true)), .litP 164 1 [.k (.p (.int .i64 64)), .k (.p (.int .i64 7))], [], none⟩,
    ⟨(some (163, true)), .call (some 165) 19 [.t 164], [], none⟩,
    ⟨(some (163, true)), .call (some 166) 20 [.t 165, .k (.p (.int .i64 1)), .k (.p (.int .i64 84)), .k (.p (.int .i64 0)), .k (.p (.int .i64 28))], [], none⟩,
    ⟨(some (163, true)), .val 167 (.bin .eql) [.t 166, .k (.p (.int .i64 0))], [], none⟩,
    ⟨none, .val 168 .pick [.t 163, .t 167, .k (.p (.bool false))], [], none⟩,
    ⟨none, .val 0 .mov [.t 168], [], none⟩]
def r6_16 : IC := (.reg o6_16 [0])
def b6 : IC := (.seq r6_0 (.seq r6_1 (.seq r6_2 (.seq r6_3 (.seq r6_4 (.seq r6_5 (.seq r6_6 (.seq r6_7 (.seq r6_8 (.seq r6_9 (.seq r6_10 (.seq r6_11 (.seq r6_12 (.seq r6_13 (.seq r6_14 (.seq r6_15 (.seq r6_16 .ret)))))))))))))))))
def i6 : IFn := ⟨0, 169, b6, [.tmp 0]⟩
/- isochronlaw30.ServiceHolds -/
def o7_0 : List IOp := [⟨none, .boxL 5 (.t 0), [], none⟩,
    ⟨none, .val 10 .mov [.k (.p (.bool false))], [], none⟩]
def r7_0 : IC := (.reg o7_0 [1, 2, 3, 4, 5])
def o7_1 : List IOp := [⟨none, .call (some 19) 14 [], [], none⟩,
    ⟨none, .val 20 .not [.t 19], [], none⟩]
def r7_1 : IC := (.reg o7_1 [1, 2, 3, 4, 5, 20])
def o7_2 : List IOp := [⟨none, .val 10 .mov [.k (.p (.bool false))], [], none⟩]
def r7_2 : IC := (.reg o7_2 [10])
def o7_3 : List IOp := [⟨none, .load 21 (.t 5) 2 true, [], none⟩,
    ⟨none, .call (some 22) 10 [.t 21], [], none⟩,
    ⟨none, .newL 11 [.p (.sl 2 true []), .p (.int .i64 0)], [], none⟩,
    ⟨none, .store (.t 11) (.t 22) 2, [], none⟩]
def r7_3 : IC := (.reg o7_3 [1, 2, 3, 4, 11])
def o7_4 : List IOp := [⟨none, .val 23 .mov [.t 1], [], none⟩,
    ⟨none, .val 24 (.bin .rem) [.t 23, .k (.p (.int .u8 5))], [], none⟩,
    ⟨none, .val 25 (.conv .i64) [.t 24], [], none⟩,
    ⟨none, .val 26 (.bin .add) [.k (.p (.int .i64 1)), .t 25], [], none⟩,
    ⟨none, .val 27 .mov [.t 2], [], none⟩,
    ⟨none, .val 28 (.conv .i64) [.t 27], [], none⟩,
    ⟨none, .val 29 (.bin .add) [.k (.p (.int .i64 84)), .t 28], [], none⟩,
    ⟨none, .val 12 .mov [.t 26], [], none⟩,
    ⟨none, .val 13 .mov [.t 29], [], none⟩]
def r7_4 : IC := (.reg o7_4 [3, 4, 11, 12, 13])
def o7_5 : List IOp := [⟨none, .load 31 (.t 11) 2 true, [], none⟩,
    ⟨none, .val 32 .mov [.t 12], [], none⟩,
    ⟨none, .val 33 .mov [.t 13], [], none⟩,
    ⟨none, .call (some 34) 17 [.t 31, .t 32, .t 33], [], none⟩,
    ⟨none, .val 30 .mov [.t 34], [], none⟩,
    ⟨none, .val 35 (.ext 0) [.t 30], [], none⟩,
    ⟨none, .val 36 (.ext 1) [.t 30], [], none⟩,
    ⟨none, .newL 14 [.p (.int .i64 0), .p (.int .i64 0)], [], none⟩,
    ⟨none, .store (.t 14) (.t 35) 2, [], none⟩,
    ⟨none, .val 15 .mov [.t 36], [], none⟩]
def r7_5 : IC := (.reg o7_5 [3, 4, 11, 12, 13, 14, 15])
def o7_6 : List IOp := [⟨none, .val 37 .mov [.t 15], [], none⟩,
    ⟨none, .val 38 (.bin .neq) [.t 37, .k (.p (.int .i64 0))], [], none⟩]
def r7_6 : IC := (.reg o7_6 [3, 4, 11, 12, 13, 14, 15, 38])
def o7_7 : List IOp := [⟨none, .val 39 .mov [.t 15], [], none⟩,
    ⟨none, .val 40 (.bin .eql) [.t 39, .k (.p (.int .i64 4))], [], none⟩,
    ⟨none, .val 10 .mov [.t 40], [], none⟩]
def r7_7 : IC := (.reg o7_7 [10])
def o7_8 : List IOp := [⟨none, .val 41 .mov [.t 4], [], none⟩,
    ⟨none, .val 42 (.conv .i64) [.t 41], [0], none⟩,
    ⟨none, .val 43 (.faddr 1) [.t 11], [], none⟩,
    ⟨none, .loadL 44 (.t 43) 1 false, [2], none⟩,
    ⟨none, .val 45 (.bin .mul) [.k (.p (.int .i64 4)), .t 44], [2, 3], none⟩,
    ⟨none, .val 46 (.bin .add) [.t 45, .k (.p (.int .i64 1))], [2, 3, 4], none⟩,
    ⟨none, .val 47 (.bin .rem) [.t 42, .t 46], [0, 1, 2, 3, 4, 5], none⟩,
    ⟨none, .val 48 .mov [.t 4], [], none⟩,
    ⟨none, .val 49 (.conv .i64) [.t 48], [7], none⟩,
    ⟨none, .val 50 (.faddr 1) [.t 11], [], none⟩,
    ⟨none, .loadL 51 (.t 50) 1 false, [9], none⟩,
    ⟨none, .val 52 (.bin .add) [.t 51, .k (.p (.int .i64 1))], [9, 10], none⟩,
    ⟨none, .val 53 (.bin .rem) [.t 49, .t 52], [7, 8, 9, 10, 11], none⟩,
    ⟨none, .val 54 .mov [.t 4], [], none⟩,
    ⟨none, .val 55 (.conv .i64) [.t 54], [13], none⟩,
    ⟨none, .val 56 (.bin .rem) [.t 55, .k (.p (.int .i64 600))], [13, 14], none⟩,
    ⟨none, .val 57 (.faddr 1) [.t 11], [], none⟩,
    ⟨none, .loadL 58 (.t 57) 1 false, [16], none⟩,
    ⟨none, .val 59 (.bin .add) [.t 58, .k (.p (.int .i64 1))], [16, 17], none⟩,
    ⟨none, .val 60 (.bin .rem) [.t 56, .t 59], [13, 14, 15, 16, 17, 18], none⟩,
    ⟨none, .val 61 (.build [.p (.int .i64 0), .p (.int .i64 0), .p (.int .i64 0)] [(0, 1), (1, 1), (2, 1)]) [.t 47, .t 53, .t 60], [0, 1, 2, 3, 4, 5, 6, 7, 8, 9, 10, 11, 12, 13, 14, 15, 16, 17, 18, 19], none⟩,
    ⟨none, .val 62 .mov [.k (.p (.int .i64 0))], [], none⟩]
def r7_8 : IC := (.regD o7_8 [3, 11, 12, 13, 14, 61, 62])
def o7_9 : List IOp := [⟨none, .val 63 (.bin .lss) [.t 62, .k (.p (.int .i64 3))], [], none⟩]
def r7_9 : IC := (.reg o7_9 [3, 11, 12, 13, 14, 61, 62, 63])
def o7_10 : List IOp := [⟨none, .val 64 (.idx 3 1 false) [.t 61, .t 62], [], none⟩,
    ⟨none, .val 17 .mov [.t 64], [], none⟩]
def r7_10 : IC := (.reg o7_10 [3, 11, 12, 13, 14, 17, 61, 62])
def o7_11 : List IOp := [⟨none, .load 65 (.t 11) 2 true, [], none⟩,
    ⟨none, .val 66 .mov [.t 12], [], none⟩,
    ⟨none, .val 67 .mov [.t 13], [], none⟩,
    ⟨none, .val 68 .mov [.t 3], [], none⟩,
    ⟨none, .val 69 (.conv .i64) [.t 68], [], none⟩,
    ⟨none, .val 70 .mov [.t 17], [], none⟩,
    ⟨none, .call (some 71) 20 [.t 65, .t 66, .t 67, .t 69, .t 70], [], none⟩,
    ⟨none, .val 18 .mov [.t 71], [], none⟩]
def r7_11 : IC := (.reg o7_11 [3, 11, 12, 13, 14, 17, 18, 61, 62])
def o7_12 : List IOp := [⟨none, .val 72 .mov [.t 18], [], none⟩,
    ⟨none, .val 73 (.bin .lss) [.t 72, .k (.p (.int .i64 0))], [], none⟩,
    ⟨none, .val 74 .mov [.t 73], [], none⟩,
    ⟨(some (74, false)), .val 75 .mov [.t 18], [], none⟩,
    ⟨(some (74, false)), .val 76 (.bin .mul) [.t 75, .k (.p (.int .i64 1048576))], [], none⟩,
    ⟨(some (74, false)), .val 77 (.faddr 0) [.t 14], [], none⟩,
    ⟨(some (74, false)), .load 78 (.t 77) 1 false, [], none⟩,
    ⟨(some (74, false)), .val 79 .mov [.t 12], [], none⟩,
    ⟨(some (74, false)), .val 80 (.bin .mul) [.t 78, .t 79], [], none⟩,
    ⟨(some (74, false)), .val 81 .mov [.t 17], [], none⟩,
    ⟨(some (74, false)), .val 82 (.faddr 1) [.t 14], [], none⟩,
    ⟨(some (74, false)), .load 83 (.t 82) 1 false, [], none⟩,
    ⟨(some (74, false)), .val 84 (.bin .sub) [.t 81, .t 83], [], none⟩,
    ⟨(some (74, false)), .val 85 (.bin .mul) [.t 80, .t 84], [], none⟩,
    ⟨(some (74, false)), .val 86 (.bin .lss) [.t 76, .t 85], [], none⟩,
    ⟨none, .val 87 .pick [.t 74, .k (.p (.bool true)), .t 86], [], none⟩]
def r7_12 : IC := (.reg o7_12 [3, 11, 12, 13, 14, 61, 62, 87])
def o7_13 : List IOp := [⟨none, .val 10 .mov [.k (.p (.bool false))], [], none⟩]
def r7_13 : IC := (.reg o7_13 [10])
def o7_14 : List IOp := [⟨none, .val 88 (.bin .add) [.t 62, .k (.p (.int .i64 1))], [], none⟩,
    ⟨none, .val 62 .mov [.t 88], [], none⟩]
def r7_14 : IC := (.reg o7_14 [3, 11, 12, 13, 14, 61, 62])
def l7_1 : IC := (.seq r7_9 (.seq (.cond (.t 63) .skip (.exit 0)) (.kp [3, 11, 12, 13, 14, 61, 62] (.seq (.block 1 (.seq r7_10 (.seq r7_11 (.seq r7_12 (.cond (.t 87) (.seq r7_13 .ret) .skip))))) (.kp [3, 11, 12, 13, 14, 61, 62] r7_14)))))
def o7_15 : List IOp := [⟨none, .load 89 (.t 14) 2 true, [], none⟩,
    ⟨none, .call (some 90) 21 [.t 89], [], none⟩,
    ⟨none, .val 91 (.bin .eql) [.t 90, .k (.p (.int .i64 0))], [], none⟩,
    ⟨none, .val 92 .mov [.t 91], [], none⟩,
    ⟨(some (92, true)), .val 93 (.faddr 1) [.t 14], [], none⟩,
    ⟨(some (92, true)), .load 94 (.t 93) 1 false, [], none⟩,
    ⟨(some (92, true)), .val 95 (.faddr 0) [.t 14], [], none⟩,
    ⟨(some (92, true)), .load 96 (.t 95) 1 false, [], none⟩,
    ⟨(some (92, true)), .val 97 (.bin .mul) [.t 94, .t 96], [], none⟩,
    ⟨(some (92, true)), .val 98 (.bin .geq) [.t 97, .k (.p (.int .i64 133169152))], [], none⟩,
    ⟨none, .val 99 .pick [.t 92, .t 98, .k (.p (.bool false))], [], none⟩,
    ⟨none, .val 10 .mov [.t 99], [], none⟩]
def r7_15 : IC := (.reg o7_15 [10])
def b7 : IC := (.seq r7_0 (.seq (.seq r7_1 (.cond (.t 20) (.seq r7_2 .ret) .skip)) (.kp [1, 2, 3, 4, 5] (.seq r7_3 (.seq r7_4 (.seq r7_5 (.seq (.seq r7_6 (.cond (.t 38) (.seq r7_7 .ret) .skip)) (.kp [3, 4, 11, 12, 13, 14] (.seq (.seq r7_8 (.block 0 (.loop l7_1))) (.seq r7_15 .ret))))))))))
def i7 : IFn := ⟨5, 100, b7, [.tmp 10]⟩
/- isochronlaw30.ServiceGrows -/
def o8_0 : List IOp := [⟨none, .boxL 6 (.t 0), [], none⟩,
    ⟨none, .boxL 11 (.t 5), [], none⟩,
    ⟨none, .val 12 .mov [.k (.p (.bool false))], [], none⟩]
def r8_0 : IC := (.reg o8_0 [1, 2, 3, 4, 6, 11])
def o8_1 : List IOp := [⟨none, .call (some 25) 14 [], [], none⟩,
    ⟨none, .val 26 .not [.t 25], [], none⟩]
def r8_1 : IC := (.reg o8_1 [1, 2, 3, 4, 6, 11, 26])
def o8_2 : List IOp := [⟨none, .val 12 .mov [.k (.p (.bool false))], [], none⟩]
def r8_2 : IC := (.reg o8_2 [12])
def o8_3 : List IOp := [⟨none, .load 27 (.t 6) 2 true, [], none⟩,
    ⟨none, .call (some 28) 10 [.t 27], [], none⟩,
    ⟨none, .newL 13 [.p (.sl 2 true []), .p (.int .i64 0)], [], none⟩,
    ⟨none, .store (.t 13) (.t 28) 2, [], none⟩]
def r8_3 : IC := (.reg o8_3 [1, 2, 3, 4, 11, 13])
def o8_4 : List IOp := [⟨none, .val 29 .mov [.t 1], [], none⟩,
    ⟨none, .val 30 (.bin .rem) [.t 29, .k (.p (.int .u8 5))], [], none⟩,
    ⟨none, .val 31 (.conv .i64) [.t 30], [], none⟩,
    ⟨none, .val 32 (.bin .add) [.k (.p (.int .i64 1)), .t 31], [], none⟩,
    ⟨none, .val 33 .mov [.t 2], [], none⟩,
    ⟨none, .val 34 (.conv .i64) [.t 33], [], none⟩,
    ⟨none, .val 35 (.bin .add) [.k (.p (.int .i64 84)), .t 34], [], none⟩,
    ⟨none, .val 14 .mov [.t 32], [], none⟩,
    ⟨none, .val 15 .mov [.t 35], [], none⟩]
def r8_4 : IC := (.reg o8_4 [3, 4, 11, 13, 14, 15])
def o8_5 : List IOp := [⟨none, .val 36 .mov [.t 3], [], none⟩,
    ⟨none, .val 37 (.conv .i64) [.t 36], [0], none⟩,
    ⟨none, .val 38 .mov [.t 4], [], none⟩,
    ⟨none, .val 39 (.conv .i64) [.t 38], [2], none⟩,
    ⟨none, .val 40 (.faddr 1) [.t 13], [], none⟩,
    ⟨none, .loadL 41 (.t 40) 1 false, [4], none⟩,
    ⟨none, .val 42 (.bin .add) [.t 41, .k (.p (.int .i64 1))], [4, 5], none⟩,
    ⟨none, .val 43 (.bin .rem) [.t 39, .t 42], [2, 3, 4, 5, 6], none⟩,
    ⟨none, .val 16 .mov [.t 37], [0, 1], none⟩,
    ⟨none, .val 17 .mov [.t 43], [0, 1, 2, 3, 4, 5, 6, 7, 8], none⟩]
def r8_5 : IC := (.regD o8_5 [11, 13, 14, 15, 16, 17])
def o8_6 : List IOp := [⟨none, .load 44 (.t 13) 2 true, [], none⟩,
    ⟨none, .val 45 .mov [.t 14], [], none⟩,
    ⟨none, .val 46 .mov [.t 15], [], none⟩,
    ⟨none, .val 47 .mov [.t 16], [], none⟩,
    ⟨none, .val 48 .mov [.t 17], [], none⟩,
    ⟨none, .call (some 49) 20 [.t 44, .t 45, .t 46, .t 47, .t 48], [], none⟩,
    ⟨none, .val 18 .mov [.t 49], [], none⟩]
def r8_6 : IC := (.reg o8_6 [11, 13, 14, 15, 16, 17, 18])
def o8_7 : List IOp := [⟨none, .val 50 (.iaddr 2 1) [.t 11, .k (.p (.int .i64 0))], [], none⟩,
    ⟨none, .loadL 51 (.t 50) 1 false, [0], none⟩,
    ⟨none, .val 52 (.conv .i64) [.t 51], [0, 1], none⟩,
    ⟨none, .val 53 (.faddr 1) [.t 13], [], none⟩,
    ⟨none, .loadL 54 (.t 53) 1 false, [3], none⟩,
    ⟨none, .val 55 (.bin .add) [.t 54, .k (.p (.int .i64 1))], [3, 4], none⟩,
    ⟨none, .val 56 (.bin .rem) [.t 52, .t 55], [0, 1, 2, 3, 4, 5], none⟩,
    ⟨none, .val 57 (.iaddr 2 1) [.t 11, .k (.p (.int .i64 1))], [], none⟩,
    ⟨none, .loadL 58 (.t 57) 1 false, [7], none⟩,
    ⟨none, .val 59 (.conv .i64) [.t 58], [7, 8], none⟩,
    ⟨none, .val 60 (.faddr 1) [.t 13], [], none⟩,
    ⟨none, .loadL 61 (.t 60) 1 false, [10], none⟩,
    ⟨none, .val 62 (.bin .add) [.t 61, .k (.p (.int .i64 1))], [10, 11], none⟩,
    ⟨none, .val 63 (.bin .rem) [.t 59, .t 62], [7, 8, 9, 10, 11, 12], none⟩,
    ⟨none, .val 19 .mov [.t 56], [0, 1, 2, 3, 4, 5, 6], none⟩,
    ⟨none, .val 20 .mov [.t 63], [0, 1, 2, 3, 4, 5, 6, 7, 8, 9, 10, 11, 12, 13, 14], none⟩]
def r8_7 : IC := (.regD o8_7 [13, 14, 15, 16, 17, 18, 19, 20])
def o8_8 : List IOp := [⟨none, .val 21 .mov [.k (.p (.int .i64 0))], [], none⟩]
def r8_8 : IC := (.reg o8_8 [13, 14, 15, 16, 17, 18, 19, 20, 21])
def o8_9 : List IOp := [⟨none, .val 64 .mov [.t 16], [], none⟩,
    ⟨none, .val 22 .mov [.t 64], [], none⟩]
def r8_9 : IC := (.reg o8_9 [13, 14, 15, 16, 17, 18, 19, 20, 21, 22])
def o8_10 : List IOp := [⟨none, .val 65 .mov [.t 22], [], none⟩,
    ⟨none, .val 66 .mov [.t 16], [], none⟩,
    ⟨none, .val 67 .mov [.t 17], [], none⟩,
    ⟨none, .val 68 (.bin .add) [.t 66, .t 67], [], none⟩,
    ⟨none, .val 69 (.bin .lss) [.t 65, .t 68], [], none⟩]
def r8_10 : IC := (.reg o8_10 [13, 14, 15, 16, 17, 18, 19, 20, 21, 22, 69])
def o8_11 : List IOp := [⟨none, .load 71 (.t 13) 2 true, [], none⟩,
    ⟨none, .val 72 .mov [.t 22], [], none⟩,
    ⟨none, .call (some 73) 22 [.t 71, .k (.p (.int .i64 6)), .t 72], [], none⟩,
    ⟨none, .val 70 .mov [.t 73], [], none⟩,
    ⟨none, .val 74 (.ext 0) [.t 70], [], none⟩,
    ⟨none, .val 75 (.ext 1) [.t 70], [], none⟩,
    ⟨none, .val 23 .mov [.t 74], [], none⟩,
    ⟨none, .val 24 .mov [.t 75], [], none⟩]
def r8_11 : IC := (.reg o8_11 [13, 14, 15, 16, 17, 18, 19, 20, 21, 22, 23, 24])
def o8_12 : List IOp := [⟨none, .val 76 .mov [.t 24], [], none⟩,
    ⟨none, .val 77 (.bin .neq) [.t 76, .k (.p (.int .i64 0))], [], none⟩]
def r8_12 : IC := (.reg o8_12 [13, 14, 15, 16, 17, 18, 19, 20, 21, 22, 23, 77])
def o8_13 : List IOp := [⟨none, .val 12 .mov [.k (.p (.bool false))], [], none⟩]
def r8_13 : IC := (.reg o8_13 [12])
def o8_14 : List IOp := [⟨none, .val 78 .mov [.t 23], [], none⟩,
    ⟨none, .val 79 (.bin .eql) [.t 78, .k (.p (.int .i64 0))], [], none⟩]
def r8_14 : IC := (.reg o8_14 [13, 14, 15, 16, 17, 18, 19, 20, 21, 22, 23, 79])
def o8_15 : List IOp := [⟨none, .load 81 (.t 13) 2 true, [], none⟩,
    ⟨none, .val 82 .mov [.t 22], [], none⟩,
    ⟨none, .call (some 83) 23 [.t 81, .t 82], [], none⟩,
    ⟨none, .val 80 .mov [.t 83], [], none⟩,
    ⟨none, .val 84 (.ext 0) [.t 80], [], none⟩,
    ⟨none, .val 85 (.ext 1) [.t 80], [], none⟩,
    ⟨none, .val 22 .mov [.t 84], [], none⟩,
    ⟨none, .val 24 .mov [.t 85], [], none⟩]
def r8_15 : IC := (.reg o8_15 [13, 14, 15, 16, 17, 18, 19, 20, 21, 22, 24])
def o8_16 : List IOp := [⟨none, .val 86 .mov [.t 24], [], none⟩,
    ⟨none, .val 87 (.bin .neq) [.t 86, .k (.p (.int .i64 0))], [], none⟩]
def r8_16 : IC := (.reg o8_16 [13, 14, 15, 16, 17, 18, 19, 20, 21, 22, 87])
def o8_17 : List IOp := [⟨none, .val 88 .mov [.t 16], [], none⟩,
    ⟨none, .val 89 .mov [.t 17], [], none⟩,
    ⟨none, .val 90 (.bin .add) [.t 88, .t 89], [], none⟩,
    ⟨none, .val 22 .mov [.t 90], [], none⟩]
def r8_17 : IC := (.reg o8_17 [13, 14, 15, 16, 17, 18, 19, 20, 21, 22])
def o8_18 : List IOp := [⟨none, .val 91 .mov [.t 23], [], none⟩,
    ⟨none, .val 92 .mov [.t 16], [], none⟩,
    ⟨none, .val 93 .mov [.t 17], [], none⟩,
    ⟨none, .val 94 (.bin .add) [.t 92, .t 93], [], none⟩,
    ⟨none, .val 95 .mov [.t 22], [], none⟩,
    ⟨none, .val 96 (.bin .sub) [.t 94, .t 95], [], none⟩,
    ⟨none, .val 97 .min [.t 91, .t 96], [], none⟩,
    ⟨none, .val 23 .mov [.t 97], [], none⟩]
def r8_18 : IC := (.reg o8_18 [13, 14, 15, 16, 17, 18, 19, 20, 21, 22, 23])
def o8_19 : List IOp := [⟨none, .val 98 .mov [.t 21], [], none⟩,
    ⟨none, .val 99 .mov [.t 23], [], none⟩,
    ⟨none, .val 100 (.bin .add) [.t 98, .t 99], [], none⟩,
    ⟨none, .val 101 .mov [.t 22], [], none⟩,
    ⟨none, .val 102 .mov [.t 23], [], none⟩,
    ⟨none, .val 103 (.bin .add) [.t 101, .t 102], [], none⟩,
    ⟨none, .val 21 .mov [.t 100], [], none⟩,
    ⟨none, .val 22 .mov [.t 103], [], none⟩]
def r8_19 : IC := (.reg o8_19 [13, 14, 15, 16, 17, 18, 19, 20, 21, 22])
def l8_1 : IC := (.seq (.seq r8_10 (.cond (.t 69) .skip (.exit 0))) (.kp [13, 14, 15, 16, 17, 18, 19, 20, 21, 22] (.block 1 (.seq r8_11 (.seq (.seq r8_12 (.cond (.t 77) (.seq r8_13 .ret) .skip)) (.kp [13, 14, 15, 16, 17, 18, 19, 20, 21, 22, 23] (.seq (.seq r8_14 (.cond (.t 79) (.seq (.seq r8_15 (.seq r8_16 (.cond (.t 87) r8_17 .skip))) (.exit 1)) .skip)) (.kp [13, 14, 15, 16, 17, 18, 19, 20, 21, 22, 23] (.seq r8_18 r8_19)))))))))
def o8_20 : List IOp := [⟨none, .val 104 .mov [.t 18], [], none⟩,
    ⟨none, .val 105 (.bin .geq) [.t 104, .k (.p (.int .i64 0))], [], none⟩,
    ⟨none, .val 106 .mov [.t 105], [], none⟩,
    ⟨(some (106, true)), .val 107 .mov [.t 18], [], none⟩,
    ⟨(some (106, true)), .val 108 .mov [.t 21], [], none⟩,
    ⟨(some (106, true)), .val 109 (.bin .leq) [.t 107, .t 108], [], none⟩,
    ⟨none, .val 110 .pick [.t 106, .t 109, .k (.p (.bool false))], [], none⟩,
    ⟨none, .val 111 .mov [.t 110], [], none⟩,
    ⟨(some (111, true)), .load 112 (.t 13) 2 true, [], none⟩,
    ⟨(some (111, true)), .val 113 .mov [.t 14], [], none⟩,
    ⟨(some (111, true)), .val 114 .mov [.t 15], [], none⟩,
    ⟨(some (111, true)), .val 115 .mov [.t 16], [], none⟩,
    ⟨(some (111, true)), .val 116 .mov [.t 19], [], none⟩,
    ⟨(some (111, true)), .val 117 (.bin .sub) [.t 115, .t 116], [], none⟩,
    ⟨(some (111, true)), .val 118 .mov [.t 17], [], none⟩,
    ⟨(some (111, true)), .val 119 .mov [.t 19], [], none⟩,
    ⟨(some (111, true)), .val 120 (.bin .add) [.t 118, .t 119], [], none⟩,
    ⟨(some (111, true)), .call (some 121) 20 [.t 112, .t 113, .t 114, .t 117, .t 120], [], none⟩,
    ⟨(some (111, true)), .val 122 .mov [.t 18], [], none⟩,
    ⟨(some (111, true)), .val 123 (.bin .geq) [.t 121, .t 122], [], none⟩,
    ⟨none, .val 124 .pick [.t 111, .t 123, .k (.p (.bool false))], [], none⟩,
    ⟨none, .val 125 .mov [.t 124], [], none⟩,
    ⟨(some (125, true)), .load 126 (.t 13) 2 true, [], none⟩,
    ⟨(some (125, true)), .val 127 .mov [.t 14], [], none⟩,
    ⟨(some (125, true)), .val 128 .mov [.t 15], [], none⟩,
    ⟨(some (125, true)), .val 129 .mov [.t 16], [], none⟩,
    ⟨(some (125, true)), .val 130 .mov [.t 17], [], none⟩,
    ⟨(some (125, true)), .val 131 .mov [.t 20], [], none⟩,
    ⟨(some (125, true)), .val 132 (.bin .add) [.t 130, .t 131], [], none⟩,
    ⟨(some (125, true)), .call (some 133) 20 [.t 126, .t 127, .t 128, .t 129, .t 132], [], none⟩,
    ⟨(some (125, true)), .val 134 .mov [.t 18], [], none⟩,
    ⟨(some (125, true)), .val 135 (.bin .geq) [.t 133, .t 134], [], none⟩,
    ⟨none, .val 136 .pick [.t 125, .t 135, .k (.p (.bool false))], [], none⟩,
    ⟨none, .val 137 .mov [.t 136], [], none⟩,
    ⟨(some (137, true)), .load 138 (.t 13) 2 true, [], none⟩,
    ⟨(some (137, true)), .val 139 .mov [.t 14], [], none⟩,
    ⟨(some (137, true)), .val 140 .mov [.t 15], [], none⟩,
    ⟨(some (137, true)), .val 141 .mov [.t 16], [], none⟩,
    ⟨(some (137, true)), .val 142 (.faddr 1) [.t 13], [], none⟩,
    ⟨(some (137, true)), .load 143 (.t 142) 1 false, [], none⟩,
    ⟨(some (137, true)), .val 144 (.bin .add) [.t 141, .t 143], [], none⟩,
    ⟨(some (137, true)), .val 145 .mov [.t 17], [], none⟩,
    ⟨(some (137, true)), .call (some 146) 20 [.t 138, .t 139, .t 140, .t 144, .t 145], [], none⟩,
    ⟨(some (137, true)), .val 147 .mov [.t 18], [], none⟩,
    ⟨(some (137, true)), .val 148 (.bin .eql) [.t 146, .t 147], [], none⟩,
    ⟨none, .val 149 .pick [.t 137, .t 148, .k (.p (.bool false))], [], none⟩,
    ⟨none, .val 12 .mov [.t 149], [], none⟩]
def r8_20 : IC := (.reg o8_20 [12])
def b8 : IC := (.seq r8_0 (.seq (.seq r8_1 (.cond (.t 26) (.seq r8_2 .ret) .skip)) (.kp [1, 2, 3, 4, 6, 11] (.seq r8_3 (.seq r8_4 (.seq r8_5 (.seq r8_6 (.seq r8_7 (.seq r8_8 (.seq (.seq r8_9 (.block 0 (.loop l8_1))) (.seq r8_20 .ret)))))))))))
def i8 : IFn := ⟨6, 150, b8, [.tmp 12]⟩
/- isochronlaw30.ServiceCycles -/
def o9_0 : List IOp := [⟨none, .boxL 3 (.t 0), [], none⟩,
    ⟨none, .val 6 .mov [.k (.p (.bool false))], [], none⟩]
def r9_0 : IC := (.reg o9_0 [1, 2, 3])
def o9_1 : List IOp := [⟨none, .call (some 14) 14 [], [], none⟩,
    ⟨none, .val 15 .not [.t 14], [], none⟩]
def r9_1 : IC := (.reg o9_1 [1, 2, 3, 15])
def o9_2 : List IOp := [⟨none, .val 6 .mov [.k (.p (.bool false))], [], none⟩]
def r9_2 : IC := (.reg o9_2 [6])
def o9_3 : List IOp := [⟨none, .load 16 (.t 3) 2 true, [], none⟩,
    ⟨none, .call (some 17) 10 [.t 16], [], none⟩,
    ⟨none, .newL 7 [.p (.sl 2 true []), .p (.int .i64 0)], [], none⟩,
    ⟨none, .store (.t 7) (.t 17) 2, [], none⟩]
def r9_3 : IC := (.reg o9_3 [1, 2, 7])
def o9_4 : List IOp := [⟨none, .val 18 .mov [.t 1], [], none⟩,
    ⟨none, .val 19 (.bin .rem) [.t 18, .k (.p (.int .u8 5))], [], none⟩,
    ⟨none, .val 20 (.conv .i64) [.t 19], [], none⟩,
    ⟨none, .val 21 (.bin .add) [.k (.p (.int .i64 1)), .t 20], [], none⟩,
    ⟨none, .val 22 .mov [.t 2], [], none⟩,
    ⟨none, .val 23 (.conv .i64) [.t 22], [], none⟩,
    ⟨none, .val 24 (.bin .add) [.k (.p (.int .i64 84)), .t 23], [], none⟩,
    ⟨none, .val 8 .mov [.t 21], [], none⟩,
    ⟨none, .val 9 .mov [.t 24], [], none⟩]
def r9_4 : IC := (.reg o9_4 [7, 8, 9])
def o9_5 : List IOp := [⟨none, .load 26 (.t 7) 2 true, [], none⟩,
    ⟨none, .val 27 .mov [.t 8], [], none⟩,
    ⟨none, .val 28 .mov [.t 9], [], none⟩,
    ⟨none, .call (some 29) 12 [.t 26, .t 27, .t 28], [], none⟩,
    ⟨none, .val 25 .mov [.t 29], [], none⟩,
    ⟨none, .val 30 (.ext 0) [.t 25], [], none⟩,
    ⟨none, .val 31 (.ext 1) [.t 25], [], none⟩,
    ⟨none, .val 10 .mov [.t 30], [], none⟩,
    ⟨none, .val 11 .mov [.t 31], [], none⟩]
def r9_5 : IC := (.reg o9_5 [7, 8, 9, 10, 11])
def o9_6 : List IOp := [⟨none, .load 33 (.t 7) 2 true, [], none⟩,
    ⟨none, .val 34 .mov [.t 8], [], none⟩,
    ⟨none, .val 35 .mov [.t 9], [], none⟩,
    ⟨none, .call (some 36) 17 [.t 33, .t 34, .t 35], [], none⟩,
    ⟨none, .val 32 .mov [.t 36], [], none⟩,
    ⟨none, .val 37 (.ext 0) [.t 32], [], none⟩,
    ⟨none, .val 38 (.ext 1) [.t 32], [], none⟩,
    ⟨none, .newL 12 [.p (.int .i64 0), .p (.int .i64 0)], [], none⟩,
    ⟨none, .store (.t 12) (.t 37) 2, [], none⟩,
    ⟨none, .val 13 .mov [.t 38], [], none⟩]
def r9_6 : IC := (.reg o9_6 [7, 8, 9, 10, 11, 12, 13])
def o9_7 : List IOp := [⟨none, .val 39 .mov [.t 11], [], none⟩,
    ⟨none, .val 40 (.bin .neq) [.t 39, .k (.p (.int .i64 0))], [], none⟩,
    ⟨none, .val 41 .mov [.t 40], [], none⟩,
    ⟨(some (41, false)), .load 42 (.t 7) 2 true, [], none⟩,
    ⟨(some (41, false)), .val 43 .mov [.t 8], [], none⟩,
    ⟨(some (41, false)), .val 44 .mov [.t 9], [], none⟩,
    ⟨(some (41, false)), .call (some 45) 24 [.t 42, .t 43, .t 44], [], none⟩,
    ⟨(some (41, false)), .val 46 .not [.t 45], [], none⟩,
    ⟨none, .val 47 .pick [.t 41, .k (.p (.bool true)), .t 46], [], none⟩]
def r9_7 : IC := (.reg o9_7 [7, 8, 10, 12, 13, 47])
def o9_8 : List IOp := [⟨none, .val 6 .mov [.k (.p (.bool false))], [], none⟩]
def r9_8 : IC := (.reg o9_8 [6])
def o9_9 : List IOp := [⟨none, .val 48 .mov [.t 13], [], none⟩,
    ⟨none, .val 49 (.bin .eql) [.t 48, .k (.p (.int .i64 4))], [], none⟩]
def r9_9 : IC := (.reg o9_9 [7, 8, 10, 12, 13, 49])
def o9_10 : List IOp := [⟨none, .val 50 .mov [.t 10], [], none⟩,
    ⟨none, .val 51 (.bin .mul) [.t 50, .k (.p (.int .i64 1048576))], [], none⟩,
    ⟨none, .val 52 (.faddr 1) [.t 7], [], none⟩,
    ⟨none, .load 53 (.t 52) 1 false, [], none⟩,
    ⟨none, .val 54 .mov [.t 8], [], none⟩,
    ⟨none, .val 55 (.bin .mul) [.t 53, .t 54], [], none⟩,
    ⟨none, .val 56 (.bin .lss) [.t 51, .t 55], [], none⟩,
    ⟨none, .val 6 .mov [.t 56], [], none⟩]
def r9_10 : IC := (.reg o9_10 [6])
def o9_11 : List IOp := [⟨none, .val 57 .mov [.t 13], [], none⟩,
    ⟨none, .val 58 (.bin .eql) [.t 57, .k (.p (.int .i64 0))], [], none⟩,
    ⟨none, .val 59 .mov [.t 58], [], none⟩,
    ⟨(some (59, true)), .val 60 (.faddr 0) [.t 12], [], none⟩,
    ⟨(some (59, true)), .load 61 (.t 60) 1 false, [], none⟩,
    ⟨(some (59, true)), .val 62 (.faddr 1) [.t 7], [], none⟩,
    ⟨(some (59, true)), .load 63 (.t 62) 1 false, [], none⟩,
    ⟨(some (59, true)), .val 64 (.bin .mul) [.t 61, .t 63], [], none⟩,
    ⟨(some (59, true)), .val 65 .mov [.t 8], [], none⟩,
    ⟨(some (59, true)), .val 66 (.bin .mul) [.t 64, .t 65], [], none⟩,
    ⟨(some (59, true)), .val 67 .mov [.t 10], [], none⟩,
    ⟨(some (59, true)), .val 68 (.bin .mul) [.t 67, .k (.p (.int .i64 1048576))], [], none⟩,
    ⟨(some (59, true)), .val 69 (.bin .leq) [.t 66, .t 68], [], none⟩,
    ⟨none, .val 70 .pick [.t 59, .t 69, .k (.p (.bool false))], [], none⟩,
    ⟨none, .val 71 .mov [.t 70], [], none⟩,
    ⟨(some (71, true)), .val 72 (.faddr 0) [.t 12], [], none⟩,
    ⟨(some (71, true)), .load 73 (.t 72) 1 false, [], none⟩,
    ⟨(some (71, true)), .val 74 (.bin .add) [.t 73, .k (.p (.int .i64 1))], [], none⟩,
    ⟨(some (71, true)), .val 75 (.faddr 1) [.t 7], [], none⟩,
    ⟨(some (71, true)), .load 76 (.t 75) 1 false, [], none⟩,
    ⟨(some (71, true)), .val 77 (.bin .mul) [.t 74, .t 76], [], none⟩,
    ⟨(some (71, true)), .val 78 .mov [.t 8], [], none⟩,
    ⟨(some (71, true)), .val 79 (.bin .mul) [.t 77, .t 78], [], none⟩,
    ⟨(some (71, true)), .val 80 .mov [.t 10], [], none⟩,
    ⟨(some (71, true)), .val 81 (.bin .mul) [.t 80, .k (.p (.int .i64 1048576))], [], none⟩,
    ⟨(some (71, true)), .val 82 (.bin .gtr) [.t 79, .t 81], [], none⟩,
    ⟨none, .val 83 .pick [.t 71, .t 82, .k (.p (.bool false))], [], none⟩,
    ⟨none, .val 6 .mov [.t 83], [], none⟩]
def r9_11 : IC := (.reg o9_11 [6])
def b9 : IC := (.seq r9_0 (.seq (.seq r9_1 (.cond (.t 15) (.seq r9_2 .ret) .skip)) (.kp [1, 2, 3] (.seq r9_3 (.seq r9_4 (.seq r9_5 (.seq r9_6 (.seq (.seq r9_7 (.cond (.t 47) (.seq r9_8 .ret) .skip)) (.kp [7, 8, 10, 12, 13] (.seq (.seq r9_9 (.cond (.t 49) (.seq r9_10 .ret) .skip)) (.kp [7, 8, 10, 12, 13] (.seq r9_11 .ret))))))))))))
def i9 : IFn := ⟨3, 84, b9, [.tmp 6]⟩
/- (isochronref30.Draft).Gates -/
def o10_0 : List IOp := [⟨none, .boxL 1 (.t 0), [], none⟩,
    ⟨none, .newL 2 [.p (.sl 2 true []), .p (.int .i64 0)], [], none⟩]
def r10_0 : IC := (.reg o10_0 [1, 2])
def o10_1 : List IOp := [⟨none, .newL 3 [.p (.sl 2 true []), .p (.int .i64 0)], [], none⟩]
def r10_1 : IC := (.reg o10_1 [1, 2, 3])
def o10_2 : List IOp := [⟨none, .val 4 .mov [.k (.p (.int .i64 0))], [], none⟩]
def r10_2 : IC := (.reg o10_2 [1, 2, 3, 4])
def o10_3 : List IOp := [⟨none, .val 6 .mov [.t 4], [], none⟩,
    ⟨none, .val 7 (.faddr 0) [.t 1], [], none⟩,
    ⟨none, .load 8 (.t 7) 1 false, [], none⟩,
    ⟨none, .val 9 .len [.t 8], [], none⟩,
    ⟨none, .val 10 .min [.t 9, .k (.p (.int .i64 10))], [], none⟩,
    ⟨none, .val 11 .max [.k (.p (.int .i64 1)), .t 10], [], none⟩,
    ⟨none, .val 12 (.bin .lss) [.t 6, .t 11], [], none⟩]
def r10_3 : IC := (.reg o10_3 [1, 2, 3, 4, 12])
def o10_5 : List IOp := [⟨none, .val 15 (.build [.p (.int .i64 0), .p (.int .i64 0)] [(0, 1), (1, 1)]) [.k (.p (.int .i64 127)), .k (.p (.int .i64 1))], [], none⟩,
    ⟨none, .newL 5 [.p (.int .i64 0), .p (.int .i64 0)], [], none⟩,
    ⟨none, .store (.t 5) (.t 15) 2, [], none⟩]
def r10_5 : IC := (.reg o10_5 [1, 2, 3, 4, 5])
def o10_6 : List IOp := [⟨none, .val 16 .mov [.t 4], [], none⟩,
    ⟨none, .val 17 (.faddr 0) [.t 1], [], none⟩,
    ⟨none, .load 18 (.t 17) 1 false, [], none⟩,
    ⟨none, .val 19 .len [.t 18], [], none⟩,
    ⟨none, .val 20 (.bin .lss) [.t 16, .t 19], [], none⟩]
def r10_6 : IC := (.reg o10_6 [1, 2, 3, 4, 5, 20])
def o10_7 : List IOp := [⟨none, .litP 21 1 [.k (.p (.int .i64 128)), .k (.p (.int .i64 127)), .k (.p (.int .i64 127)), .k (.p (.int .i64 64)), .k (.p (.int .i64 255)), .k (.p (.int .i64 63))], [], none⟩,
    ⟨none, .val 22 (.faddr 0) [.t 1], [], none⟩,
    ⟨none, .load 23 (.t 22) 1 false, [], none⟩,
    ⟨none, .val 24 .mov [.t 4], [], none⟩,
    ⟨none, .val 25 (.iaddrS 1) [.t 23, .t 24], [], none⟩,
    ⟨none, .load 26 (.t 25) 1 false, [], none⟩,
    ⟨none, .val 27 (.bin .rem) [.t 26, .k (.p (.int .u8 6))], [], none⟩,
    ⟨none, .val 28 (.iaddrS 1) [.t 21, .t 27], [], none⟩,
    ⟨none, .load 29 (.t 28) 1 false, [], none⟩,
    ⟨none, .val 30 (.faddr 0) [.t 5], [], none⟩,
    ⟨none, .store (.t 30) (.t 29) 1, [], none⟩]
def r10_7 : IC := (.reg o10_7 [1, 2, 3, 4, 5])
def o10_8 : List IOp := [⟨none, .val 31 .mov [.t 4], [], none⟩,
    ⟨none, .val 32 (.faddr 1) [.t 1], [], none⟩,
    ⟨none, .load 33 (.t 32) 1 false, [], none⟩,
    ⟨none, .val 34 .len [.t 33], [], none⟩,
    ⟨none, .val 35 (.bin .lss) [.t 31, .t 34], [], none⟩]
def r10_8 : IC := (.reg o10_8 [1, 2, 3, 4, 5, 35])
def o10_9 : List IOp := [⟨none, .val 36 (.faddr 1) [.t 1], [], none⟩,
    ⟨none, .load 37 (.t 36) 1 false, [], none⟩,
    ⟨none, .val 38 .mov [.t 4], [], none⟩,
    ⟨none, .val 39 (.iaddrS 1) [.t 37, .t 38], [], none⟩,
    ⟨none, .load 40 (.t 39) 1 false, [], none⟩,
    ⟨none, .val 41 (.conv .i64) [.t 40], [], none⟩,
    ⟨none, .val 42 (.bin .mul) [.k (.p (.int .i64 4)), .t 41], [], none⟩,
    ⟨none, .val 43 (.bin .add) [.k (.p (.int .i64 1)), .t 42], [], none⟩,
    ⟨none, .val 44 (.faddr 1) [.t 5], [], none⟩,
    ⟨none, .store (.t 44) (.t 43) 1, [], none⟩]
def r10_9 : IC := (.reg o10_9 [1, 2, 3, 4, 5])
def o10_10 : List IOp := [⟨none, .val 45 (.faddr 0) [.t 3], [], none⟩,
    ⟨none, .load 46 (.t 45) 1 false, [], none⟩,
    ⟨none, .load 47 (.t 5) 2 true, [], none⟩,
    ⟨none, .litP 48 2 [.t 47], [], none⟩,
    ⟨none, .app 49 (.t 46) (.t 48) 2 16, [], none⟩,
    ⟨none, .val 50 (.faddr 0) [.t 3], [], none⟩,
    ⟨none, .store (.t 50) (.t 49) 1, [], none⟩]
def r10_10 : IC := (.reg o10_10 [1, 2, 3, 4, 5])
def o10_11 : List IOp := [⟨none, .val 51 (.faddr 1) [.t 3], [], none⟩,
    ⟨none, .load 52 (.t 51) 1 false, [], none⟩,
    ⟨none, .val 53 (.faddr 1) [.t 5], [], none⟩,
    ⟨none, .load 54 (.t 53) 1 false, [], none⟩,
    ⟨none, .val 55 (.bin .add) [.t 52, .t 54], [], none⟩,
    ⟨none, .val 56 (.faddr 1) [.t 3], [], none⟩,
    ⟨none, .store (.t 56) (.t 55) 1, [], none⟩]
def r10_11 : IC := (.reg o10_11 [1, 2, 3, 4])
def o10_4 : List IOp := [⟨none, .val 13 .mov [.t 4], [], none⟩,
    ⟨none, .val 14 (.bin .add) [.t 13, .k (.p (.int .i64 1))], [], none⟩,
    ⟨none, .val 4 .mov [.t 14], [], none⟩]
def r10_4 : IC := (.reg o10_4 [1, 2, 3, 4])
def l10_1 : IC := (.seq (.seq r10_3 (.cond (.t 12) .skip (.exit 0))) (.kp [1, 2, 3, 4] (.seq (.block 1 (.seq r10_5 (.seq (.seq r10_6 (.cond (.t 20) r10_7 .skip)) (.kp [1, 2, 3, 4, 5] (.seq (.seq r10_8 (.cond (.t 35) r10_9 .skip)) (.kp [1, 2, 3, 4, 5] (.seq r10_10 r10_11))))))) (.kp [1, 2, 3, 4] r10_4))))
def o10_12 : List IOp := [⟨none, .load 57 (.t 3) 2 true, [], none⟩,
    ⟨none, .store (.t 2) (.t 57) 2, [], none⟩]
def r10_12 : IC := (.reg o10_12 [2])
def b10 : IC := (.seq r10_0 (.seq r10_1 (.seq (.seq r10_2 (.block 0 (.loop l10_1))) (.seq r10_12 .ret))))
def i10 : IFn := ⟨1, 58, b10, [.cell 2 2 true]⟩
/- isochronlaw30.few -/
def o11_0 : List IOp := [⟨none, .boxL 1 (.t 0), [], none⟩,
    ⟨none, .newL 2 [.p (.sl 2 true []), .p (.int .i64 0)], [], none⟩]
def r11_0 : IC := (.reg o11_0 [1, 2])
def o11_1 : List IOp := [⟨none, .val 3 (.faddr 0) [.t 1], [], none⟩,
    ⟨none, .load 4 (.t 3) 1 false, [], none⟩,
    ⟨none, .val 5 (.faddr 0) [.t 1], [], none⟩,
    ⟨none, .load 6 (.t 5) 1 false, [], none⟩,
    ⟨none, .val 7 .len [.t 6], [], none⟩,
    ⟨none, .val 8 .min [.t 7, .k (.p (.int .i64 130))], [], none⟩,
    ⟨none, .val 9 (.slice 2 false true false) [.t 4, .t 8], [], none⟩,
    ⟨none, .val 10 (.faddr 0) [.t 1], [], none⟩,
    ⟨none, .store (.t 10) (.t 9) 1, [], none⟩]
def r11_1 : IC := (.reg o11_1 [1, 2])
def o11_2 : List IOp := [⟨none, .load 11 (.t 1) 2 true, [], none⟩,
    ⟨none, .store (.t 2) (.t 11) 2, [], none⟩]
def r11_2 : IC := (.reg o11_2 [2])
def b11 : IC := (.seq r11_0 (.seq r11_1 (.seq r11_2 .ret)))
def i11 : IFn := ⟨1, 12, b11, [.cell 2 2 true]⟩
/- service.Yield -/
def o12_0 : List IOp := [⟨none, .boxL 3 (.t 0), [], none⟩,
    ⟨none, .val 6 .mov [.k (.p (.int .i64 0))], [], none⟩,
    ⟨none, .val 7 .mov [.k (.p (.int .i64 0))], [], none⟩]
def r12_0 : IC := (.reg o12_0 [1, 2, 3])
def o12_1 : List IOp := [⟨none, .load 9 (.t 3) 2 true, [], none⟩,
    ⟨none, .val 10 .mov [.t 1], [], none⟩,
    ⟨none, .val 11 .mov [.t 2], [], none⟩,
    ⟨none, .call (some 12) 25 [.t 9, .t 10, .t 11], [], none⟩,
    ⟨none, .val 8 .mov [.t 12], [], none⟩]
def r12_1 : IC := (.reg o12_1 [1, 2, 3, 8])
def o12_2 : List IOp := [⟨none, .val 13 .mov [.t 8], [], none⟩,
    ⟨none, .val 14 (.bin .neq) [.t 13, .k (.p (.int .i64 0))], [], none⟩]
def r12_2 : IC := (.reg o12_2 [1, 2, 3, 8, 14])
def o12_3 : List IOp := [⟨none, .val 15 .mov [.t 8], [], none⟩,
    ⟨none, .val 6 .mov [.k (.p (.int .i64 0))], [], none⟩,
    ⟨none, .val 7 .mov [.t 15], [], none⟩]
def r12_3 : IC := (.reg o12_3 [6, 7])
def o12_4 : List IOp := [⟨none, .load 16 (.t 3) 2 true, [], none⟩,
    ⟨none, .val 17 .mov [.t 2], [], none⟩,
    ⟨none, .val 18 .mov [.t 1], [], none⟩,
    ⟨none, .val 19 (.bin .mul) [.t 17, .t 18], [], none⟩,
    ⟨none, .call (some 20) 26 [.t 16, .t 19], [], none⟩,
    ⟨none, .val 6 .mov [.t 20], [], none⟩,
    ⟨none, .val 7 .mov [.k (.p (.int .i64 0))], [], none⟩]
def r12_4 : IC := (.reg o12_4 [6, 7])
def b12 : IC := (.seq r12_0 (.seq (.seq r12_1 (.seq r12_2 (.cond (.t 14) (.seq r12_3 .ret) .skip))) (.kp [1, 2, 3] (.seq r12_4 .ret))))
def i12 : IFn := ⟨3, 21, b12, [.tmp 6, .tmp 7]⟩
/- isochronref30.Yield -/
def o13_0 : List IOp := [⟨none, .boxL 3 (.t 0), [], none⟩,
    ⟨none, .val 6 .mov [.k (.p (.int .i64 0))], [], none⟩,
    ⟨none, .val 7 .mov [.k (.p (.int .i64 0))], [], none⟩]
def r13_0 : IC := (.reg o13_0 [1, 2, 3])
def o13_1 : List IOp := [⟨none, .load 9 (.t 3) 2 true, [], none⟩,
    ⟨none, .val 10 .mov [.t 1], [], none⟩,
    ⟨none, .val 11 .mov [.t 2], [], none⟩,
    ⟨none, .call (some 12) 27 [.t 9, .t 10, .t 11], [], none⟩,
    ⟨none, .val 8 .mov [.t 12], [], none⟩]
def r13_1 : IC := (.reg o13_1 [1, 2, 3, 8])
def o13_2 : List IOp := [⟨none, .val 13 .mov [.t 8], [], none⟩,
    ⟨none, .val 14 (.bin .neq) [.t 13, .k (.p (.int .i64 0))], [], none⟩]
def r13_2 : IC := (.reg o13_2 [1, 2, 3, 8, 14])
def o13_3 : List IOp := [⟨none, .val 15 .mov [.t 8], [], none⟩,
    ⟨none, .val 6 .mov [.k (.p (.int .i64 0))], [], none⟩,
    ⟨none, .val 7 .mov [.t 15], [], none⟩]
def r13_3 : IC := (.reg o13_3 [6, 7])
def o13_4 : List IOp := [⟨none, .load 16 (.t 3) 2 true, [], none⟩,
    ⟨none, .val 17 .mov [.t 1], [], none⟩,
    ⟨none, .val 18 .mov [.t 2], [], none⟩,
    ⟨none, .call (some 19) 28 [.t 16, .t 17, .t 18], [], none⟩,
    ⟨none, .val 6 .mov [.t 19], [], none⟩,
    ⟨none, .val 7 .mov [.k (.p (.int .i64 0))], [], none⟩]
def r13_4 : IC := (.reg o13_4 [6, 7])
def b13 : IC := (.seq r13_0 (.seq r13_1 (.seq (.seq r13_2 (.cond (.t 14) (.seq r13_3 .ret) .skip)) (.kp [1, 2, 3] (.seq r13_4 .ret)))))
def i13 : IFn := ⟨3, 20, b13, [.tmp 6, .tmp 7]⟩
/- isochronlaw30.works -/
def o14_0 : List IOp := [⟨none, .val 0 .mov [.k (.p (.bool false))], [], none⟩]
def r14_0 : IC := (.reg o14_0 [])
def o14_1 : List IOp := [⟨none, .litP 12 1 [.k (.p (.int .i64 128)), .k (.p (.int .i64 100)), .k (.p (.int .i64 127)), .k (.p (.int .i64 300))], [], none⟩,
    ⟨none, .call (some 13) 19 [.t 12], [], none⟩,
    ⟨none, .litP 14 1 [.k (.p (.int .i64 127)), .k (.p (.int .i64 400))], [], none⟩,
    ⟨none, .call (some 15) 19 [.t 14], [], none⟩,
    ⟨none, .newL 1 [.p (.sl 2 true []), .p (.int .i64 0)], [], none⟩,
    ⟨none, .newL 2 [.p (.sl 2 true []), .p (.int .i64 0)], [], none⟩,
    ⟨none, .store (.t 1) (.t 13) 2, [], none⟩,
    ⟨none, .store (.t 2) (.t 15) 2, [], none⟩]
def r14_1 : IC := (.reg o14_1 [1, 2])
def o14_2 : List IOp := [⟨none, .load 17 (.t 1) 2 true, [], none⟩,
    ⟨none, .call (some 18) 12 [.t 17, .k (.p (.int .i64 1)), .k (.p (.int .i64 100))], [], none⟩,
    ⟨none, .val 16 .mov [.t 18], [], none⟩,
    ⟨none, .val 19 (.ext 0) [.t 16], [], none⟩,
    ⟨none, .val 20 (.ext 1) [.t 16], [], none⟩,
    ⟨none, .val 3 .mov [.t 19], [], none⟩,
    ⟨none, .val 4 .mov [.t 20], [], none⟩]
def r14_2 : IC := (.reg o14_2 [1, 2, 3, 4])
def o14_3 : List IOp := [⟨none, .load 22 (.t 2) 2 true, [], none⟩,
    ⟨none, .call (some 23) 12 [.t 22, .k (.p (.int .i64 1)), .k (.p (.int .i64 100))], [], none⟩,
    ⟨none, .val 21 .mov [.t 23], [], none⟩,
    ⟨none, .val 24 (.ext 0) [.t 21], [], none⟩,
    ⟨none, .val 25 (.ext 1) [.t 21], [], none⟩,
    ⟨none, .val 5 .mov [.t 24], [], none⟩,
    ⟨none, .val 6 .mov [.t 25], [], none⟩]
def r14_3 : IC := (.reg o14_3 [1, 2, 3, 4, 5, 6])
def o14_4 : List IOp := [⟨none, .load 27 (.t 1) 2 true, [], none⟩,
    ⟨none, .call (some 28) 17 [.t 27, .k (.p (.int .i64 1)), .k (.p (.int .i64 300))], [], none⟩,
    ⟨none, .val 26 .mov [.t 28], [], none⟩,
    ⟨none, .val 29 (.ext 0) [.t 26], [], none⟩,
    ⟨none, .val 30 (.ext 1) [.t 26], [], none⟩,
    ⟨none, .newL 7 [.p (.int .i64 0), .p (.int .i64 0)], [], none⟩,
    ⟨none, .store (.t 7) (.t 29) 2, [], none⟩,
    ⟨none, .val 8 .mov [.t 30], [], none⟩]
def r14_4 : IC := (.reg o14_4 [1, 2, 3, 4, 5, 6, 8])
def o14_5 : List IOp := [⟨none, .load 32 (.t 1) 2 true, [], none⟩,
    ⟨none, .call (some 33) 17 [.t 32, .k (.p (.int .i64 1000)), .k (.p (.int .i64 84))], [], none⟩,
    ⟨none, .val 31 .mov [.t 33], [], none⟩,
    ⟨none, .val 34 (.ext 0) [.t 31], [], none⟩,
    ⟨none, .val 35 (.ext 1) [.t 31], [], none⟩,
    ⟨none, .newL 9 [.p (.int .i64 0), .p (.int .i64 0)], [], none⟩,
    ⟨none, .store (.t 9) (.t 34) 2, [], none⟩,
    ⟨none, .val 10 .mov [.t 35], [], none⟩]
def r14_5 : IC := (.reg o14_5 [1, 2, 3, 4, 5, 6, 8, 10])
def o14_6 : List IOp := [⟨none, .load 36 (.t 1) 2 true, [], none⟩,
    ⟨none, .call (some 37) 20 [.t 36, .k (.p (.int .i64 1)), .k (.p (.int .i64 100)), .k (.p (.int .i64 0)), .k (.p (.int .i64 400))], [], none⟩,
    ⟨none, .val 38 (.bin .eql) [.t 37, .k (.p (.int .i64 73))], [], none⟩,
    ⟨none, .val 39 .mov [.t 38], [], none⟩,
    ⟨(some (39, true)), .load 40 (.t 1) 2 true, [], none⟩,
    ⟨(some (39, true)), .call (some 41) 20 [.t 40, .k (.p (.int .i64 1)), .k (.p (.int .i64 100)), .k (.p (.int .i64 100)), .k (.p (.int .i64 300))], [], none⟩,
    ⟨(some (39, true)), .val 42 (.bin .eql) [.t 41, .k (.p (.int .i64 73))], [], none⟩,
    ⟨none, .val 43 .pick [.t 39, .t 42, .k (.p (.bool false))], [], none⟩,
    ⟨none, .val 44 .mov [.t 43], [], none⟩,
    ⟨(some (44, true)), .load 45 (.t 1) 2 true, [], none⟩,
    ⟨(some (44, true)), .call (some 46) 20 [.t 45, .k (.p (.int .i64 1)), .k (.p (.int .i64 100)), .k (.p (.int .i64 150)), .k (.p (.int .i64 250))], [], none⟩,
    ⟨(some (44, true)), .val 47 (.bin .eql) [.t 46, .k (.p (.int .i64 23))], [], none⟩,
    ⟨none, .val 48 .pick [.t 44, .t 47, .k (.p (.bool false))], [], none⟩,
    ⟨none, .val 49 .mov [.t 48], [], none⟩,
    ⟨(some (49, true)), .load 50 (.t 1) 2 true, [], none⟩,
    ⟨(some (49, true)), .call (some 51) 20 [.t 50, .k (.p (.int .i64 1)), .k (.p (.int .i64 100)), .k (.p (.int .i64 0)), .k (.p (.int .i64 200))], [], none⟩,
    ⟨(some (49, true)), .val 52 (.bin .eql) [.t 51, .k (.p (.int .i64 0))], [], none⟩,
    ⟨none, .val 53 .pick [.t 49, .t 52, .k (.p (.bool false))], [], none⟩,
    ⟨none, .val 11 .mov [.t 53], [], none⟩]
def r14_6 : IC := (.reg o14_6 [1, 2, 3, 4, 5, 6, 8, 10, 11])
def o14_7 : List IOp := [⟨none, .val 54 .mov [.t 3], [], none⟩,
    ⟨none, .val 55 (.bin .eql) [.t 54, .k (.p (.int .i64 200))], [], none⟩,
    ⟨none, .val 56 .mov [.t 55], [], none⟩,
    ⟨(some (56, true)), .val 57 .mov [.t 4], [], none⟩,
    ⟨(some (56, true)), .val 58 (.bin .eql) [.t 57, .k (.p (.int .i64 0))], [], none⟩,
    ⟨none, .val 59 .pick [.t 56, .t 58, .k (.p (.bool false))], [], none⟩,
    ⟨none, .val 60 .mov [.t 59], [], none⟩,
    ⟨(some (60, true)), .val 61 .mov [.t 5], [], none⟩,
    ⟨(some (60, true)), .val 62 (.bin .eql) [.t 61, .k (.p (.int .i64 400))], [], none⟩,
    ⟨none, .val 63 .pick [.t 60, .t 62, .k (.p (.bool false))], [], none⟩,
    ⟨none, .val 64 .mov [.t 63], [], none⟩,
    ⟨(some (64, true)), .val 65 .mov [.t 6], [], none⟩,
    ⟨(some (64, true)), .val 66 (.bin .eql) [.t 65, .k (.p (.int .i64 0))], [], none⟩,
    ⟨none, .val 67 .pick [.t 64, .t 66, .k (.p (.bool false))], [], none⟩,
    ⟨none, .val 68 .mov [.t 67], [], none⟩,
    ⟨(some (68, true)), .val 69 .mov [.t 11], [], none⟩,
    ⟨none, .val 70 .pick [.t 68, .t 69, .k (.p (.bool false))], [], none⟩,
    ⟨none, .val 71 .mov [.t 70], [], none⟩,
    ⟨(some (71, true)), .load 72 (.t 1) 2 true, [], none⟩,
    ⟨(some (71, true)), .call (some 73) 29 [.t 72, .k (.p (.int .i64 1)), .k (.p (.int .i64 100)), .k (.p (.int .i64 524288)), .k (.p (.int .i64 554))], [], none⟩,
    ⟨none, .val 74 .pick [.t 71, .t 73, .k (.p (.bool false))], [], none⟩,
    ⟨none, .val 75 .mov [.t 74], [], none⟩,
    ⟨(some (75, true)), .load 76 (.t 2) 2 true, [], none⟩,
    ⟨(some (75, true)), .call (some 77) 29 [.t 76, .k (.p (.int .i64 1)), .k (.p (.int .i64 100)), .k (.p (.int .i64 1048576)), .k (.p (.int .i64 127))], [], none⟩,
    ⟨none, .val 78 .pick [.t 75, .t 77, .k (.p (.bool false))], [], none⟩,
    ⟨none, .val 79 .mov [.t 78], [], none⟩,
    ⟨(some (79, true)), .load 80 (.t 2) 2 true, [], none⟩,
    ⟨(some (79, true)), .call (some 81) 29 [.t 80, .k (.p (.int .i64 8)), .k (.p (.int .i64 100)), .k (.p (.int .i64 131072)), .k (.p (.int .i64 1016))], [], none⟩,
    ⟨none, .val 82 .pick [.t 79, .t 81, .k (.p (.bool false))], [], none⟩,
    ⟨none, .val 83 .mov [.t 82], [], none⟩,
    ⟨(some (83, true)), .val 84 .mov [.t 8], [], none⟩,
    ⟨(some (83, true)), .val 85 (.bin .eql) [.t 84, .k (.p (.int .i64 4))], [], none⟩,
    ⟨none, .val 86 .pick [.t 83, .t 85, .k (.p (.bool false))], [], none⟩,
    ⟨none, .val 87 .mov [.t 86], [], none⟩,
    ⟨(some (87, true)), .val 88 .mov [.t 10], [], none⟩,
    ⟨(some (87, true)), .val 89 (.bin .eql) [.t 88, .k (.p (.int .i64 4))], [], none⟩,
    ⟨none, .val 90 .pick [.t 87, .t 89, .k (.p (.bool false))], [], none⟩,
    ⟨none, .val 0 .mov [.t 90], [], none⟩]
def r14_7 : IC := (.reg o14_7 [0])
def b14 : IC := (.seq r14_0 (.seq r14_1 (.seq r14_2 (.seq r14_3 (.seq r14_4 (.seq r14_5 (.seq r14_6 (.seq r14_7 .ret))))))))
def i14 : IFn := ⟨0, 91, b14, [.tmp 0]⟩
/- service.Sends -/
def o15_0 : List IOp := [⟨none, .boxH 5 (.t 0), [], none⟩,
    ⟨none, .boxH 6 (.t 1), [], none⟩,
    ⟨none, .boxH 7 (.t 2), [], none⟩,
    ⟨none, .boxH 8 (.t 3), [], none⟩,
    ⟨none, .boxH 9 (.t 4), [], none⟩,
    ⟨none, .val 10 .mov [.k (.p (.int .i64 0))], [], none⟩,
    ⟨none, .val 11 .mov [.k (.p (.int .i64 0))], [], none⟩]
def r15_0 : IC := (.reg o15_0 [5, 6, 7, 8, 9])
def o15_1 : List IOp := [⟨none, .load 18 (.t 5) 2 true, [], none⟩,
    ⟨none, .load 19 (.t 6) 1 false, [], none⟩,
    ⟨none, .load 20 (.t 7) 1 false, [], none⟩,
    ⟨none, .call (some 21) 25 [.t 18, .t 19, .t 20], [], none⟩,
    ⟨none, .val 12 .mov [.t 21], [], none⟩]
def r15_1 : IC := (.reg o15_1 [5, 6, 7, 8, 9, 12])
def o15_2 : List IOp := [⟨none, .val 22 .mov [.t 12], [], none⟩,
    ⟨none, .val 23 (.bin .neq) [.t 22, .k (.p (.int .i64 0))], [], none⟩]
def r15_2 : IC := (.reg o15_2 [5, 6, 7, 8, 9, 12, 23])
def o15_3 : List IOp := [⟨none, .val 24 .mov [.t 12], [], none⟩,
    ⟨none, .val 10 .mov [.k (.p (.int .i64 0))], [], none⟩,
    ⟨none, .val 11 .mov [.t 24], [], none⟩]
def r15_3 : IC := (.reg o15_3 [10, 11])
def o15_4 : List IOp := [⟨none, .load 25 (.t 8) 1 false, [], none⟩,
    ⟨none, .val 26 (.bin .lss) [.t 25, .k (.p (.int .i64 (-1099511627776)))], [], none⟩,
    ⟨none, .val 27 .mov [.t 26], [], none⟩,
    ⟨(some (27, false)), .load 28 (.t 8) 1 false, [], none⟩,
    ⟨(some (27, false)), .val 29 (.bin .gtr) [.t 28, .k (.p (.int .i64 1099511627776))], [], none⟩,
    ⟨none, .val 30 .pick [.t 27, .k (.p (.bool true)), .t 29], [], none⟩,
    ⟨none, .val 31 .mov [.t 30], [], none⟩,
    ⟨(some (31, false)), .load 32 (.t 9) 1 false, [], none⟩,
    ⟨(some (31, false)), .val 33 (.bin .lss) [.t 32, .k (.p (.int .i64 0))], [], none⟩,
    ⟨none, .val 34 .pick [.t 31, .k (.p (.bool true)), .t 33], [], none⟩,
    ⟨none, .val 35 .mov [.t 34], [], none⟩,
    ⟨(some (35, false)), .load 36 (.t 9) 1 false, [], none⟩,
    ⟨(some (35, false)), .val 37 (.faddr 1) [.t 5], [], none⟩,
    ⟨(some (35, false)), .load 38 (.t 37) 1 false, [], none⟩,
    ⟨(some (35, false)), .val 39 (.bin .mul) [.k (.p (.int .i64 4)), .t 38], [], none⟩,
    ⟨(some (35, false)), .val 40 (.bin .gtr) [.t 36, .t 39], [], none⟩,
    ⟨none, .val 41 .pick [.t 35, .k (.p (.bool true)), .t 40], [], none⟩]
def r15_4 : IC := (.reg o15_4 [5, 6, 7, 8, 9, 41])
def o15_5 : List IOp := [⟨none, .val 10 .mov [.k (.p (.int .i64 0))], [], none⟩,
    ⟨none, .val 11 .mov [.k (.p (.int .i64 2))], [], none⟩]
def r15_5 : IC := (.reg o15_5 [10, 11])
def o15_6 : List IOp := [⟨none, .load 42 (.t 5) 2 true, [], none⟩,
    ⟨none, .call (some 43) 30 [.t 42], [], none⟩]
def r15_6 : IC := (.reg o15_6 [5, 6, 7, 8, 9, 43])
def o15_7 : List IOp := [⟨none, .load 44 (.t 9) 1 false, [], none⟩,
    ⟨none, .load 45 (.t 6) 1 false, [], none⟩,
    ⟨none, .val 46 (.bin .mul) [.k (.p (.int .i64 127)), .t 45], [], none⟩,
    ⟨none, .val 47 (.bin .sub) [.t 44, .t 46], [], none⟩,
    ⟨none, .val 48 .max [.k (.p (.int .i64 0)), .t 47], [], none⟩,
    ⟨none, .val 10 .mov [.t 48], [], none⟩,
    ⟨none, .val 11 .mov [.k (.p (.int .i64 0))], [], none⟩]
def r15_7 : IC := (.reg o15_7 [10, 11])
def o15_8 : List IOp := [⟨none, .load 49 (.t 6) 1 false, [], none⟩,
    ⟨none, .val 50 (.bin .mul) [.k (.p (.int .i64 (-127))), .t 49], [], none⟩,
    ⟨none, .newH 13 [.p (.int .i64 0)], [], none⟩,
    ⟨none, .store (.t 13) (.t 50) 1, [], none⟩]
def r15_8 : IC := (.reg o15_8 [5, 6, 7, 8, 9, 13])
def o15_9 : List IOp := [⟨none, .load 51 (.t 5) 2 true, [], none⟩,
    ⟨none, .call (some 52) 31 [.t 51], [], none⟩]
def r15_9 : IC := (.reg o15_9 [5, 6, 7, 8, 9, 13, 52])
def o15_10 : List IOp := [⟨none, .newL 14 [.p (.int .i64 0), .p (.int .i64 0)], [], none⟩,
    ⟨none, .store (.t 14) (.t 53) 2, [], none⟩]
def r15_10 : IC := (.reg o15_10 [5, 6, 7, 8, 9, 13, 14])
def o15_11 : List IOp := [⟨none, .load 54 (.t 8) 1 false, [], none⟩,
    ⟨none, .load 55 (.t 8) 1 false, [], none⟩,
    ⟨none, .val 56 (.faddr 0) [.t 14], [], none⟩,
    ⟨none, .loadL 57 (.t 56) 1 false, [2], none⟩,
    ⟨none, .val 58 (.bin .sub) [.t 55, .t 57], [1, 2, 3], none⟩,
    ⟨none, .val 59 (.faddr 1) [.t 5], [], none⟩,
    ⟨none, .load 60 (.t 59) 1 false, [5], none⟩,
    ⟨none, .callP 61 32 [.t 58, .t 60], [1, 2, 3, 4, 5, 6], none⟩,
    ⟨none, .val 62 (.bin .sub) [.t 54, .t 61], [0, 1, 2, 3, 4, 5, 6, 7], none⟩,
    ⟨none, .val 15 .mov [.t 62], [0, 1, 2, 3, 4, 5, 6, 7, 8], none⟩]
def r15_11 : IC := (.regD o15_11 [5, 6, 7, 8, 9, 13, 14, 15])
def o15_12 : List IOp := [⟨none, .val 63 .mov [.t 15], [], none⟩,
    ⟨none, .val 16 .mov [.t 63], [], none⟩]
def r15_12 : IC := (.reg o15_12 [5, 6, 7, 8, 9, 13, 14, 16])
def o15_13 : List IOp := [⟨none, .val 64 .mov [.t 16], [], none⟩,
    ⟨none, .load 65 (.t 8) 1 false, [], none⟩,
    ⟨none, .load 66 (.t 9) 1 false, [], none⟩,
    ⟨none, .val 67 (.bin .add) [.t 65, .t 66], [], none⟩,
    ⟨none, .val 68 (.bin .lss) [.t 64, .t 67], [], none⟩]
def r15_13 : IC := (.reg o15_13 [5, 6, 7, 8, 9, 13, 14, 16, 68])
def o15_15 : List IOp := [⟨none, .val 73 .mov [.t 16], [], none⟩,
    ⟨none, .val 74 (.faddr 1) [.t 14], [], none⟩,
    ⟨none, .load 75 (.t 74) 1 false, [], none⟩,
    ⟨none, .val 76 (.bin .add) [.t 73, .t 75], [], none⟩,
    ⟨none, .load 77 (.t 8) 1 false, [], none⟩,
    ⟨none, .load 78 (.t 9) 1 false, [], none⟩,
    ⟨none, .val 79 (.bin .add) [.t 77, .t 78], [], none⟩,
    ⟨none, .val 80 .min [.t 76, .t 79], [], none⟩,
    ⟨none, .val 81 .mov [.t 16], [], none⟩,
    ⟨none, .load 82 (.t 8) 1 false, [], none⟩,
    ⟨none, .val 83 .max [.t 81, .t 82], [], none⟩,
    ⟨none, .val 84 (.bin .sub) [.t 80, .t 83], [], none⟩,
    ⟨none, .val 17 .mov [.t 84], [], none⟩]
def r15_15 : IC := (.reg o15_15 [5, 6, 7, 8, 9, 13, 14, 16, 17])
def o15_16 : List IOp := [⟨none, .load 85 (.t 13) 1 false, [], none⟩,
    ⟨none, .val 86 .mov [.t 17], [], none⟩,
    ⟨none, .load 87 (.t 7) 1 false, [], none⟩,
    ⟨none, .load 88 (.t 6) 1 false, [], none⟩,
    ⟨none, .val 89 (.bin .mul) [.t 87, .t 88], [], none⟩,
    ⟨none, .val 90 (.bin .sub) [.t 86, .t 89], [], none⟩,
    ⟨none, .val 91 .max [.k (.p (.int .i64 0)), .t 90], [], none⟩,
    ⟨none, .val 92 (.bin .add) [.t 85, .t 91], [], none⟩,
    ⟨none, .store (.t 13) (.t 92) 1, [], none⟩]
def r15_16 : IC := (.reg o15_16 [5, 6, 7, 8, 9, 13, 14, 16])
def o15_14 : List IOp := [⟨none, .val 69 .mov [.t 16], [], none⟩,
    ⟨none, .val 70 (.faddr 1) [.t 5], [], none⟩,
    ⟨none, .load 71 (.t 70) 1 false, [], none⟩,
    ⟨none, .val 72 (.bin .add) [.t 69, .t 71], [], none⟩,
    ⟨none, .val 16 .mov [.t 72], [], none⟩]
def r15_14 : IC := (.reg o15_14 [5, 6, 7, 8, 9, 13, 14, 16])
def l15_2 : IC := (.seq (.seq r15_13 (.cond (.t 68) .skip (.exit 2))) (.kp [5, 6, 7, 8, 9, 13, 14, 16] (.seq (.block 3 (.seq r15_15 r15_16)) r15_14)))
def ra15_1 : IC := r15_10
def rb15_1 : IC := (.block 1 (.seq r15_11 (.seq r15_12 (.block 2 (.loop l15_2)))))
def o15_17 : List IOp := [⟨none, .load 93 (.t 13) 1 false, [], none⟩,
    ⟨none, .val 94 .max [.k (.p (.int .i64 0)), .t 93], [], none⟩,
    ⟨none, .val 10 .mov [.t 94], [], none⟩,
    ⟨none, .val 11 .mov [.k (.p (.int .i64 0))], [], none⟩]
def r15_17 : IC := (.reg o15_17 [10, 11])
def b15 : IC := (.seq r15_0 (.seq (.seq r15_1 (.seq r15_2 (.cond (.t 23) (.seq r15_3 .ret) .skip))) (.kp [5, 6, 7, 8, 9] (.seq (.seq r15_4 (.cond (.t 41) (.seq r15_5 .ret) .skip)) (.kp [5, 6, 7, 8, 9] (.seq (.seq r15_6 (.cond (.t 43) (.seq r15_7 .ret) .skip)) (.kp [5, 6, 7, 8, 9] (.seq r15_8 (.seq (.seq r15_9 (.block 0 (.rangeF (.t 52) [53] ra15_1 rb15_1))) (.seq r15_17 .ret))))))))))
def i15 : IFn := ⟨5, 95, b15, [.tmp 10, .tmp 11]⟩
/- isochronref30.Sends -/
def o16_0 : List IOp := [⟨none, .boxL 5 (.t 0), [], none⟩,
    ⟨none, .val 10 .mov [.k (.p (.int .i64 0))], [], none⟩,
    ⟨none, .val 11 .mov [.k (.p (.int .i64 0))], [], none⟩]
def r16_0 : IC := (.reg o16_0 [1, 2, 3, 4, 5])
def o16_1 : List IOp := [⟨none, .load 13 (.t 5) 2 true, [], none⟩,
    ⟨none, .val 14 .mov [.t 1], [], none⟩,
    ⟨none, .val 15 .mov [.t 2], [], none⟩,
    ⟨none, .call (some 16) 27 [.t 13, .t 14, .t 15], [], none⟩,
    ⟨none, .val 12 .mov [.t 16], [], none⟩]
def r16_1 : IC := (.reg o16_1 [1, 2, 3, 4, 5, 12])
def o16_2 : List IOp := [⟨none, .val 17 .mov [.t 12], [], none⟩,
    ⟨none, .val 18 (.bin .neq) [.t 17, .k (.p (.int .i64 0))], [], none⟩]
def r16_2 : IC := (.reg o16_2 [1, 2, 3, 4, 5, 12, 18])
def o16_3 : List IOp := [⟨none, .val 19 .mov [.t 12], [], none⟩,
    ⟨none, .val 10 .mov [.k (.p (.int .i64 0))], [], none⟩,
    ⟨none, .val 11 .mov [.t 19], [], none⟩]
def r16_3 : IC := (.reg o16_3 [10, 11])
def o16_4 : List IOp := [⟨none, .val 20 .mov [.t 3], [], none⟩,
    ⟨none, .val 21 (.bin .lss) [.t 20, .k (.p (.int .i64 (-1099511627776)))], [], none⟩,
    ⟨none, .val 22 .mov [.t 21], [], none⟩,
    ⟨(some (22, false)), .val 23 .mov [.t 3], [], none⟩,
    ⟨(some (22, false)), .val 24 (.bin .gtr) [.t 23, .k (.p (.int .i64 1099511627776))], [], none⟩,
    ⟨none, .val 25 .pick [.t 22, .k (.p (.bool true)), .t 24], [], none⟩,
    ⟨none, .val 26 .mov [.t 25], [], none⟩,
    ⟨(some (26, false)), .val 27 .mov [.t 4], [], none⟩,
    ⟨(some (26, false)), .val 28 (.bin .lss) [.t 27, .k (.p (.int .i64 0))], [], none⟩,
    ⟨none, .val 29 .pick [.t 26, .k (.p (.bool true)), .t 28], [], none⟩,
    ⟨none, .val 30 .mov [.t 29], [], none⟩,
    ⟨(some (30, false)), .val 31 .mov [.t 4], [], none⟩,
    ⟨(some (30, false)), .val 32 (.faddr 1) [.t 5], [], none⟩,
    ⟨(some (30, false)), .load 33 (.t 32) 1 false, [], none⟩,
    ⟨(some (30, false)), .val 34 (.bin .mul) [.k (.p (.int .i64 4)), .t 33], [], none⟩,
    ⟨(some (30, false)), .val 35 (.bin .gtr) [.t 31, .t 34], [], none⟩,
    ⟨none, .val 36 .pick [.t 30, .k (.p (.bool true)), .t 35], [], none⟩]
def r16_4 : IC := (.reg o16_4 [1, 2, 3, 4, 5, 36])
def o16_5 : List IOp := [⟨none, .val 10 .mov [.k (.p (.int .i64 0))], [], none⟩,
    ⟨none, .val 11 .mov [.k (.p (.int .i64 2))], [], none⟩]
def r16_5 : IC := (.reg o16_5 [10, 11])
def o16_6 : List IOp := [⟨none, .load 37 (.t 5) 2 true, [], none⟩,
    ⟨none, .val 38 .mov [.t 1], [], none⟩,
    ⟨none, .val 39 .mov [.t 2], [], none⟩,
    ⟨none, .val 40 .mov [.t 3], [], none⟩,
    ⟨none, .val 41 .mov [.t 4], [], none⟩,
    ⟨none, .call (some 42) 33 [.t 37, .t 38, .t 39, .t 40, .t 41], [], none⟩,
    ⟨none, .val 43 .max [.k (.p (.int .i64 0)), .t 42], [], none⟩,
    ⟨none, .val 10 .mov [.t 43], [], none⟩,
    ⟨none, .val 11 .mov [.k (.p (.int .i64 0))], [], none⟩]
def r16_6 : IC := (.reg o16_6 [10, 11])
def b16 : IC := (.seq r16_0 (.seq r16_1 (.seq (.seq r16_2 (.cond (.t 18) (.seq r16_3 .ret) .skip)) (.kp [1, 2, 3, 4, 5] (.seq (.seq r16_4 (.cond (.t 36) (.seq r16_5 .ret) .skip)) (.kp [1, 2, 3, 4, 5] (.seq r16_6 .ret)))))))
def i16 : IFn := ⟨5, 44, b16, [.tmp 10, .tmp 11]⟩
/- service.Of -/
def o17_0 : List IOp := [⟨none, .boxL 3 (.t 0), [], none⟩,
    ⟨none, .boxH 4 (.t 1), [], none⟩,
    ⟨none, .newL 6 [.p (.int .i64 0), .p (.int .i64 0)], [], none⟩,
    ⟨none, .val 7 .mov [.k (.p (.int .i64 0))], [], none⟩]
def r17_0 : IC := (.reg o17_0 [2, 3, 4, 6])
def o17_1 : List IOp := [⟨none, .load 13 (.t 3) 2 true, [], none⟩,
    ⟨none, .load 14 (.t 4) 1 false, [], none⟩,
    ⟨none, .val 15 .mov [.t 2], [], none⟩,
    ⟨none, .call (some 16) 25 [.t 13, .t 14, .t 15], [], none⟩,
    ⟨none, .val 8 .mov [.t 16], [], none⟩]
def r17_1 : IC := (.reg o17_1 [2, 3, 4, 6, 8])
def o17_2 : List IOp := [⟨none, .val 17 .mov [.t 8], [], none⟩,
    ⟨none, .val 18 (.bin .neq) [.t 17, .k (.p (.int .i64 0))], [], none⟩]
def r17_2 : IC := (.reg o17_2 [2, 3, 4, 6, 8, 18])
def o17_3 : List IOp := [⟨none, .val 19 (.build [.p (.int .i64 0), .p (.int .i64 0)] []) [], [], none⟩,
    ⟨none, .val 20 .mov [.t 8], [], none⟩,
    ⟨none, .store (.t 6) (.t 19) 2, [], none⟩,
    ⟨none, .val 7 .mov [.t 20], [], none⟩]
def r17_3 : IC := (.reg o17_3 [6, 7])
def o17_4 : List IOp := [⟨none, .val 21 .mov [.t 2], [], none⟩,
    ⟨none, .load 22 (.t 4) 1 false, [], none⟩,
    ⟨none, .val 23 (.bin .mul) [.t 21, .t 22], [], none⟩,
    ⟨none, .val 9 .mov [.t 23], [], none⟩]
def r17_4 : IC := (.reg o17_4 [3, 4, 6, 9])
def o17_5 : List IOp := [⟨none, .loadL 24 (.t 3) 2 true, [], none⟩,
    ⟨none, .val 25 .mov [.t 9], [], none⟩,
    ⟨none, .callP 26 26 [.t 24, .t 25], [0, 1], none⟩,
    ⟨none, .val 27 (.bin .mul) [.t 26, .k (.p (.int .i64 1048576))], [0, 1, 2], none⟩,
    ⟨none, .val 28 (.faddr 1) [.t 3], [], none⟩,
    ⟨none, .loadL 29 (.t 28) 1 false, [4], none⟩,
    ⟨none, .load 30 (.t 4) 1 false, [], none⟩,
    ⟨none, .val 31 (.bin .mul) [.t 29, .t 30], [4, 5, 6], none⟩,
    ⟨none, .val 32 (.bin .quo) [.t 27, .t 31], [0, 1, 2, 3, 4, 5, 6, 7], none⟩,
    ⟨none, .newH 10 [.p (.int .i64 0)], [], none⟩,
    ⟨none, .store (.t 10) (.t 32) 1, [0, 1, 2, 3, 4, 5, 6, 7, 8, 9], none⟩]
def r17_5 : IC := (.regD o17_5 [3, 4, 6, 9, 10])
def o17_6 : List IOp := [⟨none, .load 33 (.t 10) 1 false, [], none⟩,
    ⟨none, .val 34 (.bin .lss) [.t 33, .k (.p (.int .i64 1))], [], none⟩]
def r17_6 : IC := (.reg o17_6 [3, 4, 6, 9, 10, 34])
def o17_7 : List IOp := [⟨none, .val 35 (.build [.p (.int .i64 0), .p (.int .i64 0)] []) [], [], none⟩,
    ⟨none, .store (.t 6) (.t 35) 2, [], none⟩,
    ⟨none, .val 7 .mov [.k (.p (.int .i64 4))], [], none⟩]
def r17_7 : IC := (.reg o17_7 [6, 7])
def o17_8 : List IOp := [⟨none, .newH 11 [.p (.int .i64 0)], [], none⟩,
    ⟨none, .store (.t 11) (.k (.p (.int .i64 0))) 1, [], none⟩]
def r17_8 : IC := (.reg o17_8 [3, 4, 6, 9, 10, 11])
def o17_9 : List IOp := [⟨none, .val 36 (.mkfn 34 0) [.t 11, .t 10, .t 4], [], none⟩,
    ⟨none, .newH 12 [.nl .nilFunc], [], none⟩,
    ⟨none, .store (.t 12) (.t 36) 1, [], none⟩]
def r17_9 : IC := (.reg o17_9 [3, 4, 6, 9, 10, 11, 12])
def o17_10 : List IOp := [⟨none, .load 37 (.t 12) 1 false, [], none⟩,
    ⟨none, .load 38 (.t 4) 1 false, [], none⟩,
    ⟨none, .val 39 (.bin .mul) [.k (.p (.int .i64 (-127))), .t 38], [], none⟩,
    ⟨none, .callV (some 40) (.t 37) [.k (.p (.int .i64 0)), .t 39], [], none⟩]
def r17_10 : IC := (.reg o17_10 [3, 4, 6, 9, 10, 11, 12])
def o17_11 : List IOp := [⟨none, .load 41 (.t 3) 2 true, [], none⟩,
    ⟨none, .val 42 .mov [.t 9], [], none⟩,
    ⟨none, .val 43 (.mkfn 37 0) [.t 12, .t 4], [], none⟩,
    ⟨none, .call (some 44) 36 [.t 41, .t 42, .t 43], [], none⟩]
def r17_11 : IC := (.reg o17_11 [6, 10, 11])
def o17_12 : List IOp := [⟨none, .load 45 (.t 10) 1 false, [], none⟩,
    ⟨none, .load 46 (.t 11) 1 false, [], none⟩,
    ⟨none, .val 47 (.build [.p (.int .i64 0), .p (.int .i64 0)] [(0, 1), (1, 1)]) [.t 45, .t 46], [], none⟩,
    ⟨none, .store (.t 6) (.t 47) 2, [], none⟩,
    ⟨none, .val 7 .mov [.k (.p (.int .i64 0))], [], none⟩]
def r17_12 : IC := (.reg o17_12 [6, 7])
def b17 : IC := (.seq r17_0 (.seq (.seq r17_1 (.seq r17_2 (.cond (.t 18) (.seq r17_3 .ret) .skip))) (.kp [2, 3, 4, 6] (.seq r17_4 (.seq r17_5 (.seq (.seq r17_6 (.cond (.t 34) (.seq r17_7 .ret) .skip)) (.kp [3, 4, 6, 9, 10] (.seq r17_8 (.seq r17_9 (.seq r17_10 (.seq r17_11 (.seq r17_12 .ret))))))))))))
def i17 : IFn := ⟨3, 48, b17, [.cell 6 2 true, .tmp 7]⟩
/- isochronref30.Of -/
def o18_0 : List IOp := [⟨none, .boxL 3 (.t 0), [], none⟩,
    ⟨none, .newL 6 [.p (.int .i64 0), .p (.int .i64 0)], [], none⟩,
    ⟨none, .val 7 .mov [.k (.p (.int .i64 0))], [], none⟩]
def r18_0 : IC := (.reg o18_0 [1, 2, 3, 6])
def o18_1 : List IOp := [⟨none, .load 17 (.t 3) 2 true, [], none⟩,
    ⟨none, .val 18 .mov [.t 1], [], none⟩,
    ⟨none, .val 19 .mov [.t 2], [], none⟩,
    ⟨none, .call (some 20) 27 [.t 17, .t 18, .t 19], [], none⟩,
    ⟨none, .val 8 .mov [.t 20], [], none⟩]
def r18_1 : IC := (.reg o18_1 [1, 2, 3, 6, 8])
def o18_2 : List IOp := [⟨none, .val 21 .mov [.t 8], [], none⟩,
    ⟨none, .val 22 (.bin .neq) [.t 21, .k (.p (.int .i64 0))], [], none⟩]
def r18_2 : IC := (.reg o18_2 [1, 2, 3, 6, 8, 22])
def o18_3 : List IOp := [⟨none, .val 23 (.build [.p (.int .i64 0), .p (.int .i64 0)] []) [], [], none⟩,
    ⟨none, .val 24 .mov [.t 8], [], none⟩,
    ⟨none, .store (.t 6) (.t 23) 2, [], none⟩,
    ⟨none, .val 7 .mov [.t 24], [], none⟩]
def r18_3 : IC := (.reg o18_3 [6, 7])
def o18_4 : List IOp := [⟨none, .loadL 25 (.t 3) 2 true, [], none⟩,
    ⟨none, .val 26 .mov [.t 1], [], none⟩,
    ⟨none, .val 27 .mov [.t 2], [], none⟩,
    ⟨none, .callP 28 28 [.t 25, .t 26, .t 27], [0, 1, 2], none⟩,
    ⟨none, .val 29 (.bin .mul) [.t 28, .k (.p (.int .i64 1048576))], [0, 1, 2, 3], none⟩,
    ⟨none, .val 30 (.faddr 1) [.t 3], [], none⟩,
    ⟨none, .loadL 31 (.t 30) 1 false, [5], none⟩,
    ⟨none, .val 32 .mov [.t 1], [], none⟩,
    ⟨none, .val 33 (.bin .mul) [.t 31, .t 32], [5, 6, 7], none⟩,
    ⟨none, .val 34 (.bin .quo) [.t 29, .t 33], [0, 1, 2, 3, 4, 5, 6, 7, 8], none⟩,
    ⟨none, .val 9 .mov [.t 34], [0, 1, 2, 3, 4, 5, 6, 7, 8, 9], none⟩]
def r18_4 : IC := (.regD o18_4 [1, 2, 3, 6, 9])
def o18_5 : List IOp := [⟨none, .val 35 .mov [.t 9], [], none⟩,
    ⟨none, .val 36 (.bin .lss) [.t 35, .k (.p (.int .i64 1))], [], none⟩]
def r18_5 : IC := (.reg o18_5 [1, 2, 3, 6, 9, 36])
def o18_6 : List IOp := [⟨none, .val 37 (.build [.p (.int .i64 0), .p (.int .i64 0)] []) [], [], none⟩,
    ⟨none, .store (.t 6) (.t 37) 2, [], none⟩,
    ⟨none, .val 7 .mov [.k (.p (.int .i64 4))], [], none⟩]
def r18_6 : IC := (.reg o18_6 [6, 7])
def o18_7 : List IOp := [⟨none, .val 38 .mov [.t 1], [], none⟩,
    ⟨none, .val 39 (.bin .mul) [.k (.p (.int .i64 127)), .t 38], [], none⟩,
    ⟨none, .val 40 (.bin .mul) [.t 39, .k (.p (.int .i64 1048576))], [], none⟩,
    ⟨none, .val 10 .mov [.t 40], [], none⟩]
def r18_7 : IC := (.reg o18_7 [1, 2, 3, 6, 9, 10])
def o18_8 : List IOp := [⟨none, .load 41 (.t 3) 2 true, [], none⟩,
    ⟨none, .call (some 42) 38 [.t 41], [], none⟩,
    ⟨none, .val 43 .not [.t 42], [], none⟩]
def r18_8 : IC := (.reg o18_8 [1, 2, 3, 6, 9, 10, 43])
def o18_9 : List IOp := [⟨none, .load 44 (.t 3) 2 true, [], none⟩,
    ⟨none, .call (some 45) 39 [.t 44], [], none⟩,
    ⟨none, .val 11 .mov [.t 45], [], none⟩]
def r18_9 : IC := (.reg o18_9 [1, 2, 3, 6, 9, 10, 11])
def o18_10 : List IOp := [⟨none, .val 12 .mov [.k (.p (.int .i64 0))], [], none⟩]
def r18_10 : IC := (.reg o18_10 [1, 2, 3, 6, 9, 10, 11, 12])
def o18_11 : List IOp := [⟨none, .val 46 .mov [.t 12], [], none⟩,
    ⟨none, .val 47 .mov [.t 11], [], none⟩,
    ⟨none, .val 48 .len [.t 47], [], none⟩,
    ⟨none, .val 49 (.bin .lss) [.t 46, .t 48], [], none⟩]
def r18_11 : IC := (.reg o18_11 [1, 2, 3, 6, 9, 10, 11, 12, 49])
def o18_13 : List IOp := [⟨none, .val 52 .mov [.t 11], [], none⟩,
    ⟨none, .val 53 .mov [.t 12], [], none⟩,
    ⟨none, .val 54 (.iaddrS 2) [.t 52, .t 53], [0, 1], none⟩,
    ⟨none, .val 55 (.faddr 1) [.t 54], [0, 1, 2], none⟩,
    ⟨none, .load 56 (.t 55) 1 false, [0, 1, 2, 3], none⟩,
    ⟨none, .val 57 .mov [.t 11], [], none⟩,
    ⟨none, .val 58 .mov [.t 12], [], none⟩,
    ⟨none, .val 59 (.iaddrS 2) [.t 57, .t 58], [5, 6], none⟩,
    ⟨none, .val 60 (.faddr 1) [.t 59], [5, 6, 7], none⟩,
    ⟨none, .load 61 (.t 60) 1 false, [5, 6, 7, 8], none⟩,
    ⟨none, .val 62 .mov [.t 11], [], none⟩,
    ⟨none, .val 63 .mov [.t 12], [], none⟩,
    ⟨none, .val 64 (.iaddrS 2) [.t 62, .t 63], [10, 11], none⟩,
    ⟨none, .val 65 (.faddr 0) [.t 64], [10, 11, 12], none⟩,
    ⟨none, .load 66 (.t 65) 1 false, [10, 11, 12, 13], none⟩,
    ⟨none, .val 67 (.bin .sub) [.t 61, .t 66], [5, 6, 7, 8, 9, 10, 11, 12, 13, 14], none⟩,
    ⟨none, .val 68 .mov [.t 2], [], none⟩,
    ⟨none, .val 69 .mov [.t 1], [], none⟩,
    ⟨none, .val 70 (.bin .mul) [.t 68, .t 69], [16, 17], none⟩,
    ⟨none, .val 71 .min [.t 67, .t 70], [5, 6, 7, 8, 9, 10, 11, 12, 13, 14, 15, 16, 17, 18], none⟩,
    ⟨none, .val 72 (.bin .sub) [.t 56, .t 71], [0, 1, 2, 3, 4, 5, 6, 7, 8, 9, 10, 11, 12, 13, 14, 15, 16, 17, 18, 19], none⟩,
    ⟨none, .val 13 .mov [.t 72], [0, 1, 2, 3, 4, 5, 6, 7, 8, 9, 10, 11, 12, 13, 14, 15, 16, 17, 18, 19, 20], none⟩]
def r18_13 : IC := (.regD o18_13 [1, 2, 3, 6, 9, 10, 11, 12, 13])
def o18_14 : List IOp := [⟨none, .val 14 .mov [.k (.p (.int .i64 0))], [], none⟩]
def r18_14 : IC := (.reg o18_14 [1, 2, 3, 6, 9, 10, 11, 12, 13, 14])
def o18_15 : List IOp := [⟨none, .val 73 .mov [.t 14], [], none⟩,
    ⟨none, .val 74 .mov [.t 11], [], none⟩,
    ⟨none, .val 75 .len [.t 74], [], none⟩,
    ⟨none, .val 76 (.bin .mul) [.k (.p (.int .i64 2)), .t 75], [], none⟩,
    ⟨none, .val 77 (.bin .lss) [.t 73, .t 76], [], none⟩]
def r18_15 : IC := (.reg o18_15 [1, 2, 3, 6, 9, 10, 11, 12, 13, 14, 77])
def o18_17 : List IOp := [⟨none, .val 80 .mov [.t 11], [], none⟩,
    ⟨none, .val 81 .mov [.t 14], [], none⟩,
    ⟨none, .val 82 .mov [.t 11], [], none⟩,
    ⟨none, .val 83 .len [.t 82], [], none⟩,
    ⟨none, .val 84 (.bin .rem) [.t 81, .t 83], [], none⟩,
    ⟨none, .val 85 (.iaddrS 2) [.t 80, .t 84], [], none⟩,
    ⟨none, .load 86 (.t 85) 2 true, [], none⟩,
    ⟨none, .newL 15 [.p (.int .i64 0), .p (.int .i64 0)], [], none⟩,
    ⟨none, .store (.t 15) (.t 86) 2, [], none⟩]
def r18_17 : IC := (.reg o18_17 [1, 2, 3, 6, 9, 10, 11, 12, 13, 14, 15])
def o18_18 : List IOp := [⟨none, .val 87 (.faddr 0) [.t 15], [], none⟩,
    ⟨none, .loadL 88 (.t 87) 1 false, [0], none⟩,
    ⟨none, .val 89 (.faddr 1) [.t 15], [], none⟩,
    ⟨none, .loadL 90 (.t 89) 1 false, [2], none⟩,
    ⟨none, .val 91 (.faddr 0) [.t 15], [], none⟩,
    ⟨none, .loadL 92 (.t 91) 1 false, [4], none⟩,
    ⟨none, .val 93 (.bin .sub) [.t 90, .t 92], [2, 3, 4, 5], none⟩,
    ⟨none, .val 94 .mov [.t 2], [], none⟩,
    ⟨none, .val 95 .mov [.t 1], [], none⟩,
    ⟨none, .val 96 (.bin .mul) [.t 94, .t 95], [7, 8], none⟩,
    ⟨none, .val 97 .min [.t 93, .t 96], [2, 3, 4, 5, 6, 7, 8, 9], none⟩,
    ⟨none, .val 98 (.bin .add) [.t 88, .t 97], [0, 1, 2, 3, 4, 5, 6, 7, 8, 9, 10], none⟩,
    ⟨none, .val 99 .mov [.t 14], [], none⟩,
    ⟨none, .val 100 .mov [.t 11], [], none⟩,
    ⟨none, .val 101 .len [.t 100], [13], none⟩,
    ⟨none, .val 102 (.bin .quo) [.t 99, .t 101], [12, 13, 14], none⟩,
    ⟨none, .val 103 (.faddr 1) [.t 3], [], none⟩,
    ⟨none, .loadL 104 (.t 103) 1 false, [16], none⟩,
    ⟨none, .val 105 (.bin .mul) [.t 102, .t 104], [12, 13, 14, 15, 16, 17], none⟩,
    ⟨none, .val 106 (.bin .add) [.t 98, .t 105], [0, 1, 2, 3, 4, 5, 6, 7, 8, 9, 10, 11, 12, 13, 14, 15, 16, 17, 18], none⟩,
    ⟨none, .val 16 .mov [.t 106], [0, 1, 2, 3, 4, 5, 6, 7, 8, 9, 10, 11, 12, 13, 14, 15, 16, 17, 18, 19], none⟩]
def r18_18 : IC := (.regD o18_18 [1, 2, 3, 6, 9, 10, 11, 12, 13, 14, 16])
def o18_19 : List IOp := [⟨none, .val 107 .mov [.t 16], [], none⟩,
    ⟨none, .val 108 .mov [.t 13], [], none⟩,
    ⟨none, .val 109 (.bin .gtr) [.t 107, .t 108], [], none⟩]
def r18_19 : IC := (.reg o18_19 [1, 2, 3, 6, 9, 10, 11, 12, 13, 14, 16, 109])
def o18_20 : List IOp := [⟨none, .val 110 .mov [.t 10], [], none⟩,
    ⟨none, .val 111 .mov [.t 16], [], none⟩,
    ⟨none, .val 112 .mov [.t 13], [], none⟩,
    ⟨none, .val 113 (.bin .sub) [.t 111, .t 112], [], none⟩,
    ⟨none, .val 114 .mov [.t 9], [], none⟩,
    ⟨none, .val 115 (.bin .mul) [.t 113, .t 114], [], none⟩,
    ⟨none, .val 116 .mov [.t 1], [], none⟩,
    ⟨none, .val 117 (.bin .mul) [.t 115, .t 116], [], none⟩,
    ⟨none, .load 118 (.t 3) 2 true, [], none⟩,
    ⟨none, .val 119 .mov [.t 1], [], none⟩,
    ⟨none, .val 120 .mov [.t 2], [], none⟩,
    ⟨none, .val 121 .mov [.t 13], [], none⟩,
    ⟨none, .val 122 .mov [.t 16], [], none⟩,
    ⟨none, .val 123 .mov [.t 13], [], none⟩,
    ⟨none, .val 124 (.bin .sub) [.t 122, .t 123], [], none⟩,
    ⟨none, .call (some 125) 33 [.t 118, .t 119, .t 120, .t 121, .t 124], [], none⟩,
    ⟨none, .val 126 (.bin .mul) [.t 125, .k (.p (.int .i64 1048576))], [], none⟩,
    ⟨none, .val 127 (.bin .sub) [.t 117, .t 126], [], none⟩,
    ⟨none, .val 128 .max [.t 110, .t 127], [], none⟩,
    ⟨none, .val 10 .mov [.t 128], [], none⟩]
def r18_20 : IC := (.reg o18_20 [1, 2, 3, 6, 9, 10, 11, 12, 13, 14])
def o18_16 : List IOp := [⟨none, .val 78 .mov [.t 14], [], none⟩,
    ⟨none, .val 79 (.bin .add) [.t 78, .k (.p (.int .i64 1))], [], none⟩,
    ⟨none, .val 14 .mov [.t 79], [], none⟩]
def r18_16 : IC := (.reg o18_16 [1, 2, 3, 6, 9, 10, 11, 12, 13, 14])
def l18_2 : IC := (.seq (.seq r18_15 (.cond (.t 77) .skip (.exit 2))) (.kp [1, 2, 3, 6, 9, 10, 11, 12, 13, 14] (.seq (.block 3 (.seq r18_17 (.seq r18_18 (.seq r18_19 (.cond (.t 109) r18_20 .skip))))) (.kp [1, 2, 3, 6, 9, 10, 11, 12, 13, 14] r18_16))))
def o18_12 : List IOp := [⟨none, .val 50 .mov [.t 12], [], none⟩,
    ⟨none, .val 51 (.bin .add) [.t 50, .k (.p (.int .i64 1))], [], none⟩,
    ⟨none, .val 12 .mov [.t 51], [], none⟩]
def r18_12 : IC := (.reg o18_12 [1, 2, 3, 6, 9, 10, 11, 12])
def l18_1 : IC := (.seq (.seq r18_11 (.cond (.t 49) .skip (.exit 0))) (.kp [1, 2, 3, 6, 9, 10, 11, 12] (.seq (.block 1 (.seq r18_13 (.seq r18_14 (.block 2 (.loop l18_2))))) r18_12)))
def o18_21 : List IOp := [⟨none, .val 129 .mov [.t 9], [], none⟩,
    ⟨none, .val 130 .mov [.t 10], [], none⟩,
    ⟨none, .val 131 .mov [.t 9], [], none⟩,
    ⟨none, .val 132 .mov [.t 1], [], none⟩,
    ⟨none, .val 133 (.bin .mul) [.t 131, .t 132], [], none⟩,
    ⟨none, .val 134 (.bin .add) [.t 130, .t 133], [], none⟩,
    ⟨none, .val 135 (.bin .sub) [.t 134, .k (.p (.int .i64 1))], [], none⟩,
    ⟨none, .val 136 .mov [.t 9], [], none⟩,
    ⟨none, .val 137 .mov [.t 1], [], none⟩,
    ⟨none, .val 138 (.bin .mul) [.t 136, .t 137], [], none⟩,
    ⟨none, .val 139 (.bin .quo) [.t 135, .t 138], [], none⟩,
    ⟨none, .val 140 (.build [.p (.int .i64 0), .p (.int .i64 0)] [(0, 1), (1, 1)]) [.t 129, .t 139], [], none⟩,
    ⟨none, .store (.t 6) (.t 140) 2, [], none⟩,
    ⟨none, .val 7 .mov [.k (.p (.int .i64 0))], [], none⟩]
def r18_21 : IC := (.reg o18_21 [6, 7])
def b18 : IC := (.seq r18_0 (.seq r18_1 (.seq (.seq r18_2 (.cond (.t 22) (.seq r18_3 .ret) .skip)) (.kp [1, 2, 3, 6] (.seq r18_4 (.seq (.seq r18_5 (.cond (.t 36) (.seq r18_6 .ret) .skip)) (.kp [1, 2, 3, 6, 9] (.seq r18_7 (.seq (.seq r18_8 (.cond (.t 43) (.seq r18_9 (.seq r18_10 (.block 0 (.loop l18_1)))) .skip)) (.kp [1, 6, 9, 10] (.seq r18_21 .ret)))))))))))
def i18 : IFn := ⟨3, 141, b18, [.cell 6 2 true, .tmp 7]⟩
/- isochronlaw30.list -/
def o19_0 : List IOp := [⟨none, .newL 2 [.p (.sl 2 true []), .p (.int .i64 0)], [], none⟩]
def r19_0 : IC := (.reg o19_0 [0, 2])
def o19_1 : List IOp := [⟨none, .newL 3 [.p (.sl 2 true []), .p (.int .i64 0)], [], none⟩]
def r19_1 : IC := (.reg o19_1 [0, 2, 3])
def o19_2 : List IOp := [⟨none, .val 4 .mov [.k (.p (.int .i64 0))], [], none⟩]
def r19_2 : IC := (.reg o19_2 [0, 2, 3, 4])
def o19_3 : List IOp := [⟨none, .val 5 .mov [.t 4], [], none⟩,
    ⟨none, .val 6 (.bin .add) [.t 5, .k (.p (.int .i64 1))], [], none⟩,
    ⟨none, .val 7 .mov [.t 0], [], none⟩,
    ⟨none, .val 8 .len [.t 7], [], none⟩,
    ⟨none, .val 9 (.bin .lss) [.t 6, .t 8], [], none⟩]
def r19_3 : IC := (.reg o19_3 [0, 2, 3, 4, 9])
def o19_5 : List IOp := [⟨none, .val 12 (.faddr 0) [.t 3], [], none⟩,
    ⟨none, .loadL 13 (.t 12) 1 false, [0], none⟩,
    ⟨none, .val 14 .mov [.t 0], [], none⟩,
    ⟨none, .val 15 .mov [.t 4], [], none⟩,
    ⟨none, .val 16 (.iaddrS 1) [.t 14, .t 15], [2, 3], none⟩,
    ⟨none, .load 17 (.t 16) 1 false, [2, 3, 4], none⟩,
    ⟨none, .val 18 .mov [.t 0], [], none⟩,
    ⟨none, .val 19 .mov [.t 4], [], none⟩,
    ⟨none, .val 20 (.bin .add) [.t 19, .k (.p (.int .i64 1))], [7], none⟩,
    ⟨none, .val 21 (.iaddrS 1) [.t 18, .t 20], [6, 7, 8], none⟩,
    ⟨none, .load 22 (.t 21) 1 false, [6, 7, 8, 9], none⟩,
    ⟨none, .val 23 (.build [.p (.int .i64 0), .p (.int .i64 0)] [(0, 1), (1, 1)]) [.t 17, .t 22], [2, 3, 4, 5, 6, 7, 8, 9, 10], none⟩,
    ⟨none, .litP 24 2 [.t 23], [2, 3, 4, 5, 6, 7, 8, 9, 10, 11], none⟩,
    ⟨none, .app 25 (.t 13) (.t 24) 2 16, [0, 1, 2, 3, 4, 5, 6, 7, 8, 9, 10, 11, 12], none⟩,
    ⟨none, .val 26 (.faddr 0) [.t 3], [0, 1, 2, 3, 4, 5, 6, 7, 8, 9, 10, 11, 12, 13], none⟩,
    ⟨none, .store (.t 26) (.t 25) 1, [0, 1, 2, 3, 4, 5, 6, 7, 8, 9, 10, 11, 12, 13, 14], none⟩]
def r19_5 : IC := (.regD o19_5 [0, 2, 3, 4])
def o19_6 : List IOp := [⟨none, .val 27 (.faddr 1) [.t 3], [], none⟩,
    ⟨none, .loadL 28 (.t 27) 1 false, [0], none⟩,
    ⟨none, .val 29 .mov [.t 0], [], none⟩,
    ⟨none, .val 30 .mov [.t 4], [], none⟩,
    ⟨none, .val 31 (.bin .add) [.t 30, .k (.p (.int .i64 1))], [3], none⟩,
    ⟨none, .val 32 (.iaddrS 1) [.t 29, .t 31], [2, 3, 4], none⟩,
    ⟨none, .load 33 (.t 32) 1 false, [2, 3, 4, 5], none⟩,
    ⟨none, .val 34 (.bin .add) [.t 28, .t 33], [0, 1, 2, 3, 4, 5, 6], none⟩,
    ⟨none, .val 35 (.faddr 1) [.t 3], [0, 1, 2, 3, 4, 5, 6, 7], none⟩,
    ⟨none, .store (.t 35) (.t 34) 1, [0, 1, 2, 3, 4, 5, 6, 7, 8], none⟩]
def r19_6 : IC := (.regD o19_6 [0, 2, 3, 4])
def o19_4 : List IOp := [⟨none, .val 10 .mov [.t 4], [], none⟩,
    ⟨none, .val 11 (.bin .add) [.t 10, .k (.p (.int .i64 2))], [], none⟩,
    ⟨none, .val 4 .mov [.t 11], [], none⟩]
def r19_4 : IC := (.reg o19_4 [0, 2, 3, 4])
def l19_1 : IC := (.seq (.seq r19_3 (.cond (.t 9) .skip (.exit 0))) (.kp [0, 2, 3, 4] (.seq (.block 1 (.seq r19_5 r19_6)) r19_4)))
def o19_7 : List IOp := [⟨none, .load 36 (.t 3) 2 true, [], none⟩,
    ⟨none, .store (.t 2) (.t 36) 2, [], none⟩]
def r19_7 : IC := (.reg o19_7 [2])
def b19 : IC := (.seq r19_0 (.seq r19_1 (.seq (.seq r19_2 (.block 0 (.loop l19_1))) (.seq r19_7 .ret))))
def i19 : IFn := ⟨1, 37, b19, [.cell 2 2 true]⟩
/- isochronlaw30.sends -/
def o20_0 : List IOp := [⟨none, .boxL 5 (.t 0), [], none⟩,
    ⟨none, .val 10 .mov [.k (.p (.int .i64 0))], [], none⟩]
def r20_0 : IC := (.reg o20_0 [1, 2, 3, 4, 5])
def o20_1 : List IOp := [⟨none, .load 14 (.t 5) 2 true, [], none⟩,
    ⟨none, .val 15 .mov [.t 1], [], none⟩,
    ⟨none, .val 16 .mov [.t 2], [], none⟩,
    ⟨none, .val 17 .mov [.t 3], [], none⟩,
    ⟨none, .val 18 .mov [.t 4], [], none⟩,
    ⟨none, .call (some 19) 15 [.t 14, .t 15, .t 16, .t 17, .t 18], [], none⟩,
    ⟨none, .val 13 .mov [.t 19], [], none⟩,
    ⟨none, .val 20 (.ext 0) [.t 13], [], none⟩,
    ⟨none, .val 21 (.ext 1) [.t 13], [], none⟩,
    ⟨none, .val 11 .mov [.t 20], [], none⟩,
    ⟨none, .val 12 .mov [.t 21], [], none⟩]
def r20_1 : IC := (.reg o20_1 [11, 12])
def o20_2 : List IOp := [⟨none, .val 22 .mov [.t 12], [], none⟩,
    ⟨none, .val 23 (.bin .neq) [.t 22, .k (.p (.int .i64 0))], [], none⟩]
def r20_2 : IC := (.reg o20_2 [11, 23])
def o20_3 : List IOp := [⟨none, .val 10 .mov [.k (.p (.int .i64 (-1)))], [], none⟩]
def r20_3 : IC := (.reg o20_3 [10])
def o20_4 : List IOp := [⟨none, .val 24 .mov [.t 11], [], none⟩,
    ⟨none, .val 10 .mov [.t 24], [], none⟩]
def r20_4 : IC := (.reg o20_4 [10])
def b20 : IC := (.seq r20_0 (.seq r20_1 (.seq (.seq r20_2 (.cond (.t 23) (.seq r20_3 .ret) .skip)) (.kp [11] (.seq r20_4 .ret)))))
def i20 : IFn := ⟨5, 25, b20, [.tmp 10]⟩
/- curve.Check -/
def o21_0 : List IOp := [⟨none, .boxL 1 (.t 0), [], none⟩,
    ⟨none, .val 2 .mov [.k (.p (.int .i64 0))], [], none⟩]
def r21_0 : IC := (.reg o21_0 [1])
def o21_1 : List IOp := [⟨none, .val 3 (.faddr 0) [.t 1], [], none⟩,
    ⟨none, .load 4 (.t 3) 1 false, [], none⟩,
    ⟨none, .val 5 (.bin .lss) [.t 4, .k (.p (.int .i64 1))], [], none⟩,
    ⟨none, .val 6 .mov [.t 5], [], none⟩,
    ⟨(some (6, false)), .val 7 (.faddr 0) [.t 1], [], none⟩,
    ⟨(some (6, false)), .load 8 (.t 7) 1 false, [], none⟩,
    ⟨(some (6, false)), .val 9 (.bin .gtr) [.t 8, .k (.p (.int .i64 2097152))], [], none⟩,
    ⟨none, .val 10 .pick [.t 6, .k (.p (.bool true)), .t 9], [], none⟩,
    ⟨none, .val 11 .mov [.t 10], [], none⟩,
    ⟨(some (11, false)), .val 12 (.faddr 1) [.t 1], [], none⟩,
    ⟨(some (11, false)), .load 13 (.t 12) 1 false, [], none⟩,
    ⟨(some (11, false)), .val 14 (.bin .lss) [.t 13, .k (.p (.int .i64 0))], [], none⟩,
    ⟨none, .val 15 .pick [.t 11, .k (.p (.bool true)), .t 14], [], none⟩,
    ⟨none, .val 16 .mov [.t 15], [], none⟩,
    ⟨(some (16, false)), .val 17 (.faddr 1) [.t 1], [], none⟩,
    ⟨(some (16, false)), .load 18 (.t 17) 1 false, [], none⟩,
    ⟨(some (16, false)), .val 19 (.bin .gtr) [.t 18, .k (.p (.int .i64 268435456))], [], none⟩,
    ⟨none, .val 20 .pick [.t 16, .k (.p (.bool true)), .t 19], [], none⟩]
def r21_1 : IC := (.reg o21_1 [20])
def o21_2 : List IOp := [⟨none, .val 2 .mov [.k (.p (.int .i64 140))], [], none⟩]
def r21_2 : IC := (.reg o21_2 [2])
def o21_3 : List IOp := [⟨none, .val 2 .mov [.k (.p (.int .i64 0))], [], none⟩]
def r21_3 : IC := (.reg o21_3 [2])
def b21 : IC := (.seq r21_0 (.seq (.seq r21_1 (.cond (.t 20) (.seq r21_2 .ret) .skip)) (.kp [] (.seq r21_3 .ret))))
def i21 : IFn := ⟨1, 21, b21, [.tmp 2]⟩
/- gates.Open -/
def o22_0 : List IOp := [⟨none, .boxL 3 (.t 0), [], none⟩,
    ⟨none, .val 6 .mov [.k (.p (.int .i64 0))], [], none⟩,
    ⟨none, .val 7 .mov [.k (.p (.int .i64 0))], [], none⟩]
def r22_0 : IC := (.reg o22_0 [1, 2, 3])
def o22_1 : List IOp := [⟨none, .load 9 (.t 3) 2 true, [], none⟩,
    ⟨none, .val 10 .mov [.t 1], [], none⟩,
    ⟨none, .val 11 .mov [.t 2], [], none⟩,
    ⟨none, .call (some 12) 40 [.t 9, .t 10, .t 11, .k (.p (.int .i64 0))], [], none⟩,
    ⟨none, .val 8 .mov [.t 12], [], none⟩]
def r22_1 : IC := (.reg o22_1 [1, 2, 3, 8])
def o22_2 : List IOp := [⟨none, .val 13 .mov [.t 8], [], none⟩,
    ⟨none, .val 14 (.bin .neq) [.t 13, .k (.p (.int .i64 0))], [], none⟩]
def r22_2 : IC := (.reg o22_2 [1, 2, 3, 8, 14])
def o22_3 : List IOp := [⟨none, .val 15 .mov [.t 8], [], none⟩,
    ⟨none, .val 6 .mov [.k (.p (.int .i64 0))], [], none⟩,
    ⟨none, .val 7 .mov [.t 15], [], none⟩]
def r22_3 : IC := (.reg o22_3 [6, 7])
def o22_4 : List IOp := [⟨none, .load 16 (.t 3) 2 true, [], none⟩,
    ⟨none, .val 17 .mov [.t 1], [], none⟩,
    ⟨none, .val 18 .mov [.t 2], [], none⟩,
    ⟨none, .call (some 19) 41 [.t 16, .t 17, .t 18], [], none⟩,
    ⟨none, .val 6 .mov [.t 19], [], none⟩,
    ⟨none, .val 7 .mov [.k (.p (.int .i64 0))], [], none⟩]
def r22_4 : IC := (.reg o22_4 [6, 7])
def b22 : IC := (.seq r22_0 (.seq (.seq r22_1 (.seq r22_2 (.cond (.t 14) (.seq r22_3 .ret) .skip))) (.kp [1, 2, 3] (.seq r22_4 .ret))))
def i22 : IFn := ⟨3, 20, b22, [.tmp 6, .tmp 7]⟩
/- gates.Turn -/
def o23_0 : List IOp := [⟨none, .boxL 2 (.t 0), [], none⟩,
    ⟨none, .val 4 .mov [.k (.p (.int .i64 0))], [], none⟩,
    ⟨none, .val 5 .mov [.k (.p (.int .i64 0))], [], none⟩]
def r23_0 : IC := (.reg o23_0 [1, 2])
def o23_1 : List IOp := [⟨none, .load 11 (.t 2) 2 true, [], none⟩,
    ⟨none, .val 12 .mov [.t 1], [], none⟩,
    ⟨none, .call (some 13) 40 [.t 11, .k (.p (.int .i64 0)), .t 12, .k (.p (.int .i64 0))], [], none⟩,
    ⟨none, .val 6 .mov [.t 13], [], none⟩]
def r23_1 : IC := (.reg o23_1 [1, 2, 6])
def o23_2 : List IOp := [⟨none, .val 14 .mov [.t 6], [], none⟩,
    ⟨none, .val 15 (.bin .neq) [.t 14, .k (.p (.int .i64 0))], [], none⟩]
def r23_2 : IC := (.reg o23_2 [1, 2, 6, 15])
def o23_3 : List IOp := [⟨none, .val 16 .mov [.t 6], [], none⟩,
    ⟨none, .val 4 .mov [.k (.p (.int .i64 0))], [], none⟩,
    ⟨none, .val 5 .mov [.t 16], [], none⟩]
def r23_3 : IC := (.reg o23_3 [4, 5])
def o23_4 : List IOp := [⟨none, .load 18 (.t 2) 2 true, [], none⟩,
    ⟨none, .val 19 .mov [.t 1], [], none⟩,
    ⟨none, .call (some 20) 42 [.t 18, .t 19], [], none⟩,
    ⟨none, .val 17 .mov [.t 20], [], none⟩,
    ⟨none, .val 21 (.ext 0) [.t 17], [], none⟩,
    ⟨none, .val 22 (.ext 1) [.t 17], [], none⟩,
    ⟨none, .val 7 .mov [.t 21], [], none⟩,
    ⟨none, .val 8 .mov [.t 22], [], none⟩]
def r23_4 : IC := (.reg o23_4 [1, 2, 7])
def o23_5 : List IOp := [⟨none, .val 23 (.faddr 0) [.t 2], [], none⟩,
    ⟨none, .load 24 (.t 23) 1 false, [], none⟩,
    ⟨none, .val 25 .mov [.t 7], [], none⟩,
    ⟨none, .val 26 (.iaddrS 2) [.t 24, .t 25], [], none⟩,
    ⟨none, .val 27 (.faddr 0) [.t 26], [], none⟩,
    ⟨none, .load 28 (.t 27) 1 false, [], none⟩,
    ⟨none, .newH 9 [.p (.int .i64 0)], [], none⟩,
    ⟨none, .store (.t 9) (.t 28) 1, [], none⟩]
def r23_5 : IC := (.reg o23_5 [1, 2, 9])
def o23_6 : List IOp := [⟨none, .load 29 (.t 2) 2 true, [], none⟩,
    ⟨none, .val 30 .mov [.t 1], [], none⟩,
    ⟨none, .val 31 (.mkfn 44 0) [.t 9], [], none⟩,
    ⟨none, .call (some 32) 43 [.t 29, .t 30, .t 31], [], none⟩,
    ⟨none, .val 10 .mov [.t 32], [], none⟩]
def r23_6 : IC := (.reg o23_6 [1, 2, 10])
def o23_7 : List IOp := [⟨none, .val 33 .mov [.t 10], [], none⟩,
    ⟨none, .val 34 (.faddr 1) [.t 2], [], none⟩,
    ⟨none, .load 35 (.t 34) 1 false, [], none⟩,
    ⟨none, .val 36 (.bin .eql) [.t 33, .t 35], [], none⟩]
def r23_7 : IC := (.reg o23_7 [1, 10, 36])
def o23_8 : List IOp := [⟨none, .val 4 .mov [.k (.p (.int .i64 0))], [], none⟩,
    ⟨none, .val 5 .mov [.k (.p (.int .i64 4))], [], none⟩]
def r23_8 : IC := (.reg o23_8 [4, 5])
def o23_9 : List IOp := [⟨none, .val 37 .mov [.t 1], [], none⟩,
    ⟨none, .val 38 .mov [.t 10], [], none⟩,
    ⟨none, .val 39 (.bin .add) [.t 37, .t 38], [], none⟩,
    ⟨none, .val 4 .mov [.t 39], [], none⟩,
    ⟨none, .val 5 .mov [.k (.p (.int .i64 0))], [], none⟩]
def r23_9 : IC := (.reg o23_9 [4, 5])
def b23 : IC := (.seq r23_0 (.seq (.seq r23_1 (.seq r23_2 (.cond (.t 15) (.seq r23_3 .ret) .skip))) (.kp [1, 2] (.seq r23_4 (.seq r23_5 (.seq r23_6 (.seq (.seq r23_7 (.cond (.t 36) (.seq r23_8 .ret) .skip)) (.kp [1, 10] (.seq r23_9 .ret)))))))))
def i23 : IFn := ⟨2, 40, b23, [.tmp 4, .tmp 5]⟩
/- isochronlaw30.yields -/
def o24_0 : List IOp := [⟨none, .boxL 3 (.t 0), [], none⟩,
    ⟨none, .val 6 .mov [.k (.p (.bool false))], [], none⟩]
def r24_0 : IC := (.reg o24_0 [1, 2, 3])
def o24_1 : List IOp := [⟨none, .load 15 (.t 3) 2 true, [], none⟩,
    ⟨none, .val 16 .mov [.t 1], [], none⟩,
    ⟨none, .val 17 .mov [.t 2], [], none⟩,
    ⟨none, .call (some 18) 12 [.t 15, .t 16, .t 17], [], none⟩,
    ⟨none, .val 14 .mov [.t 18], [], none⟩,
    ⟨none, .val 19 (.ext 0) [.t 14], [], none⟩,
    ⟨none, .val 20 (.ext 1) [.t 14], [], none⟩,
    ⟨none, .val 7 .mov [.t 19], [], none⟩,
    ⟨none, .val 8 .mov [.t 20], [], none⟩]
def r24_1 : IC := (.reg o24_1 [1, 2, 3, 7, 8])
def o24_2 : List IOp := [⟨none, .val 9 .mov [.k (.p (.int .i64 0))], [], none⟩,
    ⟨none, .val 10 .mov [.k (.p (.int .i64 0))], [], none⟩]
def r24_2 : IC := (.reg o24_2 [1, 2, 3, 7, 8, 9])
def o24_3 : List IOp := [⟨none, .val 11 .mov [.k (.p (.int .i64 0))], [], none⟩]
def r24_3 : IC := (.reg o24_3 [1, 2, 3, 7, 8, 9, 11])
def o24_4 : List IOp := [⟨none, .val 21 .mov [.t 11], [], none⟩,
    ⟨none, .val 22 (.faddr 0) [.t 3], [], none⟩,
    ⟨none, .load 23 (.t 22) 1 false, [], none⟩,
    ⟨none, .val 24 .len [.t 23], [], none⟩,
    ⟨none, .val 25 (.bin .leq) [.t 21, .t 24], [], none⟩]
def r24_4 : IC := (.reg o24_4 [1, 2, 3, 7, 8, 9, 11, 25])
def o24_6 : List IOp := [⟨none, .load 29 (.t 3) 2 true, [], none⟩,
    ⟨none, .val 30 .mov [.t 9], [], none⟩,
    ⟨none, .call (some 31) 22 [.t 29, .k (.p (.int .i64 6)), .t 30], [], none⟩,
    ⟨none, .val 28 .mov [.t 31], [], none⟩,
    ⟨none, .val 32 (.ext 0) [.t 28], [], none⟩,
    ⟨none, .val 33 (.ext 1) [.t 28], [], none⟩,
    ⟨none, .val 12 .mov [.t 32], [], none⟩,
    ⟨none, .val 13 .mov [.t 33], [], none⟩]
def r24_6 : IC := (.reg o24_6 [1, 2, 3, 7, 8, 9, 11, 12, 13])
def o24_7 : List IOp := [⟨none, .val 34 .mov [.t 13], [], none⟩,
    ⟨none, .val 35 (.bin .eql) [.t 34, .k (.p (.int .i64 0))], [], none⟩,
    ⟨none, .val 36 .mov [.t 35], [], none⟩,
    ⟨(some (36, true)), .val 37 .mov [.t 12], [], none⟩,
    ⟨(some (36, true)), .val 38 (.bin .eql) [.t 37, .k (.p (.int .i64 0))], [], none⟩,
    ⟨none, .val 39 .pick [.t 36, .t 38, .k (.p (.bool false))], [], none⟩]
def r24_7 : IC := (.reg o24_7 [1, 2, 3, 7, 8, 9, 11, 39])
def o24_8 : List IOp := [⟨none, .val 40 .mov [.t 8], [], none⟩,
    ⟨none, .val 41 (.bin .eql) [.t 40, .k (.p (.int .i64 0))], [], none⟩,
    ⟨none, .val 42 .mov [.t 41], [], none⟩,
    ⟨(some (42, true)), .load 43 (.t 3) 2 true, [], none⟩,
    ⟨(some (42, true)), .val 44 .mov [.t 1], [], none⟩,
    ⟨(some (42, true)), .val 45 .mov [.t 2], [], none⟩,
    ⟨(some (42, true)), .val 46 .mov [.t 9], [], none⟩,
    ⟨(some (42, true)), .val 47 (.faddr 1) [.t 3], [], none⟩,
    ⟨(some (42, true)), .load 48 (.t 47) 1 false, [], none⟩,
    ⟨(some (42, true)), .call (some 49) 20 [.t 43, .t 44, .t 45, .t 46, .t 48], [], none⟩,
    ⟨(some (42, true)), .val 50 .mov [.t 7], [], none⟩,
    ⟨(some (42, true)), .val 51 .mov [.t 1], [], none⟩,
    ⟨(some (42, true)), .val 52 (.bin .mul) [.k (.p (.int .i64 127)), .t 51], [], none⟩,
    ⟨(some (42, true)), .val 53 (.bin .sub) [.t 50, .t 52], [], none⟩,
    ⟨(some (42, true)), .val 54 .max [.k (.p (.int .i64 0)), .t 53], [], none⟩,
    ⟨(some (42, true)), .val 55 (.bin .eql) [.t 49, .t 54], [], none⟩,
    ⟨none, .val 56 .pick [.t 42, .t 55, .k (.p (.bool false))], [], none⟩,
    ⟨none, .val 6 .mov [.t 56], [], none⟩]
def r24_8 : IC := (.reg o24_8 [6])
def o24_9 : List IOp := [⟨none, .load 58 (.t 3) 2 true, [], none⟩,
    ⟨none, .val 59 .mov [.t 9], [], none⟩,
    ⟨none, .call (some 60) 23 [.t 58, .t 59], [], none⟩,
    ⟨none, .val 57 .mov [.t 60], [], none⟩,
    ⟨none, .val 61 (.ext 0) [.t 57], [], none⟩,
    ⟨none, .val 62 (.ext 1) [.t 57], [], none⟩,
    ⟨none, .val 9 .mov [.t 61], [], none⟩,
    ⟨none, .val 10 .mov [.t 62], [], none⟩]
def r24_9 : IC := (.reg o24_9 [1, 2, 3, 7, 8, 9, 10, 11])
def o24_10 : List IOp := [⟨none, .val 63 .mov [.t 10], [], none⟩,
    ⟨none, .val 64 (.bin .neq) [.t 63, .k (.p (.int .i64 0))], [], none⟩]
def r24_10 : IC := (.reg o24_10 [1, 2, 3, 7, 8, 9, 11, 64])
def o24_5 : List IOp := [⟨none, .val 26 .mov [.t 11], [], none⟩,
    ⟨none, .val 27 (.bin .add) [.t 26, .k (.p (.int .i64 1))], [], none⟩,
    ⟨none, .val 11 .mov [.t 27], [], none⟩]
def r24_5 : IC := (.reg o24_5 [1, 2, 3, 7, 8, 9, 11])
def l24_1 : IC := (.seq (.seq r24_4 (.cond (.t 25) .skip (.exit 0))) (.kp [1, 2, 3, 7, 8, 9, 11] (.seq (.block 1 (.seq (.seq r24_6 (.seq r24_7 (.cond (.t 39) (.seq r24_8 .ret) .skip))) (.kp [1, 2, 3, 7, 8, 9, 11] (.seq r24_9 (.seq r24_10 (.cond (.t 64) (.exit 0) .skip)))))) (.kp [1, 2, 3, 7, 8, 9, 11] r24_5))))
def o24_11 : List IOp := [⟨none, .val 65 .mov [.t 8], [], none⟩,
    ⟨none, .val 66 (.bin .eql) [.t 65, .k (.p (.int .i64 0))], [], none⟩,
    ⟨none, .val 67 .mov [.t 66], [], none⟩,
    ⟨(some (67, true)), .val 68 .mov [.t 7], [], none⟩,
    ⟨(some (67, true)), .val 69 (.faddr 1) [.t 3], [], none⟩,
    ⟨(some (67, true)), .load 70 (.t 69) 1 false, [], none⟩,
    ⟨(some (67, true)), .val 71 (.bin .eql) [.t 68, .t 70], [], none⟩,
    ⟨none, .val 72 .pick [.t 67, .t 71, .k (.p (.bool false))], [], none⟩,
    ⟨none, .val 6 .mov [.t 72], [], none⟩]
def r24_11 : IC := (.reg o24_11 [6])
def b24 : IC := (.seq r24_0 (.seq r24_1 (.seq r24_2 (.seq (.seq r24_3 (.block 0 (.loop l24_1))) (.seq r24_11 .ret)))))
def i24 : IFn := ⟨3, 73, b24, [.tmp 6]⟩
/- service.check -/
def o25_0 : List IOp := [⟨none, .boxL 3 (.t 0), [], none⟩,
    ⟨none, .val 6 .mov [.k (.p (.int .i64 0))], [], none⟩]
def r25_0 : IC := (.reg o25_0 [1, 2, 3])
def o25_1 : List IOp := [⟨none, .load 8 (.t 3) 2 true, [], none⟩,
    ⟨none, .call (some 9) 45 [.t 8], [], none⟩,
    ⟨none, .val 7 .mov [.t 9], [], none⟩]
def r25_1 : IC := (.reg o25_1 [1, 2, 7])
def o25_2 : List IOp := [⟨none, .val 10 .mov [.t 7], [], none⟩,
    ⟨none, .val 11 (.bin .neq) [.t 10, .k (.p (.int .i64 0))], [], none⟩]
def r25_2 : IC := (.reg o25_2 [1, 2, 7, 11])
def o25_3 : List IOp := [⟨none, .val 12 .mov [.t 7], [], none⟩,
    ⟨none, .val 6 .mov [.t 12], [], none⟩]
def r25_3 : IC := (.reg o25_3 [6])
def o25_4 : List IOp := [⟨none, .val 13 .mov [.t 1], [], none⟩,
    ⟨none, .val 14 (.bin .lss) [.t 13, .k (.p (.int .i64 1))], [], none⟩,
    ⟨none, .val 15 .mov [.t 14], [], none⟩,
    ⟨(some (15, false)), .val 16 .mov [.t 1], [], none⟩,
    ⟨(some (15, false)), .val 17 (.bin .gtr) [.t 16, .k (.p (.int .i64 1000))], [], none⟩,
    ⟨none, .val 18 .pick [.t 15, .k (.p (.bool true)), .t 17], [], none⟩,
    ⟨none, .val 19 .mov [.t 18], [], none⟩,
    ⟨(some (19, false)), .val 20 .mov [.t 2], [], none⟩,
    ⟨(some (19, false)), .val 21 (.bin .lss) [.t 20, .k (.p (.int .i64 84))], [], none⟩,
    ⟨none, .val 22 .pick [.t 19, .k (.p (.bool true)), .t 21], [], none⟩,
    ⟨none, .val 23 .mov [.t 22], [], none⟩,
    ⟨(some (23, false)), .val 24 .mov [.t 2], [], none⟩,
    ⟨(some (23, false)), .val 25 (.bin .gtr) [.t 24, .k (.p (.int .i64 1542))], [], none⟩,
    ⟨none, .val 26 .pick [.t 23, .k (.p (.bool true)), .t 25], [], none⟩]
def r25_4 : IC := (.reg o25_4 [26])
def o25_5 : List IOp := [⟨none, .val 6 .mov [.k (.p (.int .i64 2))], [], none⟩]
def r25_5 : IC := (.reg o25_5 [6])
def o25_6 : List IOp := [⟨none, .val 6 .mov [.k (.p (.int .i64 0))], [], none⟩]
def r25_6 : IC := (.reg o25_6 [6])
def b25 : IC := (.seq r25_0 (.seq (.seq r25_1 (.seq r25_2 (.cond (.t 11) (.seq r25_3 .ret) .skip))) (.kp [1, 2] (.seq (.seq r25_4 (.cond (.t 26) (.seq r25_5 .ret) .skip)) (.kp [] (.seq r25_6 .ret))))))
def i25 : IFn := ⟨3, 27, b25, [.tmp 6]⟩
/- service.yieldOf -/
def o26_0 : List IOp := [⟨none, .boxL 2 (.t 0), [], none⟩,
    ⟨none, .boxH 3 (.t 1), [], none⟩,
    ⟨none, .val 4 .mov [.k (.p (.int .i64 0))], [], none⟩]
def r26_0 : IC := (.reg o26_0 [2, 3])
def o26_1 : List IOp := [⟨none, .load 7 (.t 2) 2 true, [], none⟩,
    ⟨none, .call (some 8) 30 [.t 7], [], none⟩]
def r26_1 : IC := (.reg o26_1 [2, 3, 8])
def o26_2 : List IOp := [⟨none, .val 9 (.faddr 1) [.t 2], [], none⟩,
    ⟨none, .load 10 (.t 9) 1 false, [], none⟩,
    ⟨none, .val 4 .mov [.t 10], [], none⟩]
def r26_2 : IC := (.reg o26_2 [4])
def o26_3 : List IOp := [⟨none, .newH 5 [.p (.int .i64 0)], [], none⟩,
    ⟨none, .store (.t 5) (.k (.p (.int .i64 0))) 1, [], none⟩]
def r26_3 : IC := (.reg o26_3 [2, 3, 5])
def o26_4 : List IOp := [⟨none, .load 11 (.t 2) 2 true, [], none⟩,
    ⟨none, .call (some 12) 31 [.t 11], [], none⟩]
def r26_4 : IC := (.reg o26_4 [3, 5, 12])
def o26_5 : List IOp := [⟨none, .newL 6 [.p (.int .i64 0), .p (.int .i64 0)], [], none⟩,
    ⟨none, .store (.t 6) (.t 13) 2, [], none⟩]
def r26_5 : IC := (.reg o26_5 [3, 5, 6])
def o26_6 : List IOp := [⟨none, .load 14 (.t 5) 1 false, [], none⟩,
    ⟨none, .val 15 (.faddr 1) [.t 6], [], none⟩,
    ⟨none, .load 16 (.t 15) 1 false, [], none⟩,
    ⟨none, .load 17 (.t 3) 1 false, [], none⟩,
    ⟨none, .val 18 (.bin .sub) [.t 16, .t 17], [], none⟩,
    ⟨none, .val 19 .max [.k (.p (.int .i64 0)), .t 18], [], none⟩,
    ⟨none, .val 20 (.bin .add) [.t 14, .t 19], [], none⟩,
    ⟨none, .store (.t 5) (.t 20) 1, [], none⟩]
def r26_6 : IC := (.reg o26_6 [])
def ra26_1 : IC := r26_5
def rb26_1 : IC := (.block 1 r26_6)
def o26_7 : List IOp := [⟨none, .load 21 (.t 5) 1 false, [], none⟩,
    ⟨none, .val 4 .mov [.t 21], [], none⟩]
def r26_7 : IC := (.reg o26_7 [4])
def b26 : IC := (.seq r26_0 (.seq (.seq r26_1 (.cond (.t 8) (.seq r26_2 .ret) .skip)) (.kp [2, 3] (.seq r26_3 (.seq (.seq r26_4 (.block 0 (.rangeF (.t 12) [13] ra26_1 rb26_1))) (.seq r26_7 .ret))))))
def i26 : IFn := ⟨2, 22, b26, [.tmp 4]⟩
/- isochronref30.args -/
def o27_0 : List IOp := [⟨none, .boxL 3 (.t 0), [], none⟩,
    ⟨none, .val 6 .mov [.k (.p (.int .i64 0))], [], none⟩]
def r27_0 : IC := (.reg o27_0 [1, 2, 3])
def o27_1 : List IOp := [⟨none, .load 7 (.t 3) 2 true, [], none⟩,
    ⟨none, .call (some 8) 46 [.t 7], [], none⟩,
    ⟨none, .val 9 .not [.t 8], [], none⟩]
def r27_1 : IC := (.reg o27_1 [1, 2, 9])
def o27_2 : List IOp := [⟨none, .val 6 .mov [.k (.p (.int .i64 370))], [], none⟩]
def r27_2 : IC := (.reg o27_2 [6])
def o27_3 : List IOp := [⟨none, .val 10 .mov [.t 1], [], none⟩,
    ⟨none, .val 11 (.bin .lss) [.t 10, .k (.p (.int .i64 1))], [], none⟩,
    ⟨none, .val 12 .mov [.t 11], [], none⟩,
    ⟨(some (12, false)), .val 13 .mov [.t 1], [], none⟩,
    ⟨(some (12, false)), .val 14 (.bin .gtr) [.t 13, .k (.p (.int .i64 1000))], [], none⟩,
    ⟨none, .val 15 .pick [.t 12, .k (.p (.bool true)), .t 14], [], none⟩,
    ⟨none, .val 16 .mov [.t 15], [], none⟩,
    ⟨(some (16, false)), .val 17 .mov [.t 2], [], none⟩,
    ⟨(some (16, false)), .val 18 (.bin .lss) [.t 17, .k (.p (.int .i64 84))], [], none⟩,
    ⟨none, .val 19 .pick [.t 16, .k (.p (.bool true)), .t 18], [], none⟩,
    ⟨none, .val 20 .mov [.t 19], [], none⟩,
    ⟨(some (20, false)), .val 21 .mov [.t 2], [], none⟩,
    ⟨(some (20, false)), .val 22 (.bin .gtr) [.t 21, .k (.p (.int .i64 1542))], [], none⟩,
    ⟨none, .val 23 .pick [.t 20, .k (.p (.bool true)), .t 22], [], none⟩]
def r27_3 : IC := (.reg o27_3 [23])
def o27_4 : List IOp := [⟨none, .val 6 .mov [.k (.p (.int .i64 2))], [], none⟩]
def r27_4 : IC := (.reg o27_4 [6])
def o27_5 : List IOp := [⟨none, .val 6 .mov [.k (.p (.int .i64 0))], [], none⟩]
def r27_5 : IC := (.reg o27_5 [6])
def b27 : IC := (.seq r27_0 (.seq (.seq r27_1 (.cond (.t 9) (.seq r27_2 .ret) .skip)) (.kp [1, 2] (.seq (.seq r27_3 (.cond (.t 23) (.seq r27_4 .ret) .skip)) (.kp [] (.seq r27_5 .ret))))))
def i27 : IFn := ⟨3, 24, b27, [.tmp 6]⟩
/- isochronref30.Gives -/
def o28_0 : List IOp := [⟨none, .boxL 3 (.t 0), [], none⟩,
    ⟨none, .val 6 .mov [.k (.p (.int .i64 0))], [], none⟩]
def r28_0 : IC := (.reg o28_0 [1, 2, 3])
def o28_1 : List IOp := [⟨none, .load 7 (.t 3) 2 true, [], none⟩,
    ⟨none, .call (some 8) 38 [.t 7], [], none⟩]
def r28_1 : IC := (.reg o28_1 [1, 2, 3, 8])
def o28_2 : List IOp := [⟨none, .val 9 (.faddr 1) [.t 3], [], none⟩,
    ⟨none, .load 10 (.t 9) 1 false, [], none⟩,
    ⟨none, .val 6 .mov [.t 10], [], none⟩]
def r28_2 : IC := (.reg o28_2 [6])
def o28_3 : List IOp := [⟨none, .load 11 (.t 3) 2 true, [], none⟩,
    ⟨none, .call (some 12) 39 [.t 11], [], none⟩,
    ⟨none, .val 13 .mov [.t 2], [], none⟩,
    ⟨none, .val 14 .mov [.t 1], [], none⟩,
    ⟨none, .val 15 (.bin .mul) [.t 13, .t 14], [], none⟩,
    ⟨none, .call (some 16) 47 [.t 12, .t 15], [], none⟩,
    ⟨none, .val 6 .mov [.t 16], [], none⟩]
def r28_3 : IC := (.reg o28_3 [6])
def b28 : IC := (.seq r28_0 (.seq (.seq r28_1 (.cond (.t 8) (.seq r28_2 .ret) .skip)) (.kp [1, 2, 3] (.seq r28_3 .ret))))
def i28 : IFn := ⟨3, 17, b28, [.tmp 6]⟩
/- isochronlaw30.is -/
def o29_0 : List IOp := [⟨none, .boxL 5 (.t 0), [], none⟩,
    ⟨none, .val 10 .mov [.k (.p (.bool false))], [], none⟩]
def r29_0 : IC := (.reg o29_0 [1, 2, 3, 4, 5])
def o29_1 : List IOp := [⟨none, .load 14 (.t 5) 2 true, [], none⟩,
    ⟨none, .val 15 .mov [.t 1], [], none⟩,
    ⟨none, .val 16 .mov [.t 2], [], none⟩,
    ⟨none, .call (some 17) 17 [.t 14, .t 15, .t 16], [], none⟩,
    ⟨none, .val 13 .mov [.t 17], [], none⟩,
    ⟨none, .val 18 (.ext 0) [.t 13], [], none⟩,
    ⟨none, .val 19 (.ext 1) [.t 13], [], none⟩,
    ⟨none, .newL 11 [.p (.int .i64 0), .p (.int .i64 0)], [], none⟩,
    ⟨none, .store (.t 11) (.t 18) 2, [], none⟩,
    ⟨none, .val 12 .mov [.t 19], [], none⟩]
def r29_1 : IC := (.reg o29_1 [3, 4, 11, 12])
def o29_2 : List IOp := [⟨none, .val 20 .mov [.t 12], [], none⟩,
    ⟨none, .val 21 (.bin .eql) [.t 20, .k (.p (.int .i64 0))], [], none⟩,
    ⟨none, .val 22 .mov [.t 21], [], none⟩,
    ⟨(some (22, true)), .load 23 (.t 11) 2 true, [], none⟩,
    ⟨(some (22, true)), .val 24 .mov [.t 3], [], none⟩,
    ⟨(some (22, true)), .val 25 .mov [.t 4], [], none⟩,
    ⟨(some (22, true)), .val 26 (.build [.p (.int .i64 0), .p (.int .i64 0)] [(0, 1), (1, 1)]) [.t 24, .t 25], [], none⟩,
    ⟨(some (22, true)), .val 27 (.eqS false [true, true]) [.t 23, .t 26], [], none⟩,
    ⟨none, .val 28 .pick [.t 22, .t 27, .k (.p (.bool false))], [], none⟩,
    ⟨none, .val 10 .mov [.t 28], [], none⟩]
def r29_2 : IC := (.reg o29_2 [10])
def b29 : IC := (.seq r29_0 (.seq r29_1 (.seq r29_2 .ret)))
def i29 : IFn := ⟨5, 29, b29, [.tmp 10]⟩
/- service.always -/
def o30_0 : List IOp := [⟨none, .boxL 1 (.t 0), [], none⟩,
    ⟨none, .val 2 .mov [.k (.p (.bool false))], [], none⟩]
def r30_0 : IC := (.reg o30_0 [1])
def o30_1 : List IOp := [⟨none, .load 6 (.t 1) 2 true, [], none⟩,
    ⟨none, .call (some 7) 22 [.t 6, .k (.p (.int .i64 6)), .k (.p (.int .i64 0))], [], none⟩,
    ⟨none, .val 5 .mov [.t 7], [], none⟩,
    ⟨none, .val 8 (.ext 0) [.t 5], [], none⟩,
    ⟨none, .val 9 (.ext 1) [.t 5], [], none⟩,
    ⟨none, .val 3 .mov [.t 8], [], none⟩,
    ⟨none, .val 4 .mov [.t 9], [], none⟩]
def r30_1 : IC := (.reg o30_1 [3, 4])
def o30_2 : List IOp := [⟨none, .val 10 .mov [.t 4], [], none⟩,
    ⟨none, .val 11 (.bin .eql) [.t 10, .k (.p (.int .i64 0))], [], none⟩,
    ⟨none, .val 12 .mov [.t 11], [], none⟩,
    ⟨(some (12, true)), .val 13 .mov [.t 3], [], none⟩,
    ⟨(some (12, true)), .val 14 (.bin .eql) [.t 13, .k (.p (.int .i64 1099511627776))], [], none⟩,
    ⟨none, .val 15 .pick [.t 12, .t 14, .k (.p (.bool false))], [], none⟩,
    ⟨none, .val 2 .mov [.t 15], [], none⟩]
def r30_2 : IC := (.reg o30_2 [2])
def b30 : IC := (.seq r30_0 (.seq r30_1 (.seq r30_2 .ret)))
def i30 : IFn := ⟨1, 16, b30, [.tmp 2]⟩
/- service.openings -/
def o31_0 : List IOp := [⟨none, .boxH 1 (.t 0), [], none⟩,
    ⟨none, .val 2 .mov [.k (.nl .nilFunc)], [], none⟩]
def r31_0 : IC := (.reg o31_0 [1])
def o31_1 : List IOp := [⟨none, .val 3 (.mkfn 48 0) [.t 1], [], none⟩,
    ⟨none, .val 2 .mov [.t 3], [], none⟩]
def r31_1 : IC := (.reg o31_1 [2])
def b31 : IC := (.seq r31_0 (.seq r31_1 .ret))
def i31 : IFn := ⟨1, 4, b31, [.tmp 2]⟩
/- service.mod -/
def o32_0 : List IOp := [⟨none, .val 4 .mov [.k (.p (.int .i64 0))], [], none⟩]
def r32_0 : IC := (.reg o32_0 [0, 1])
def o32_1 : List IOp := [⟨none, .val 5 .mov [.t 0], [], none⟩,
    ⟨none, .val 6 .mov [.t 1], [], none⟩,
    ⟨none, .val 7 (.bin .rem) [.t 5, .t 6], [], none⟩,
    ⟨none, .val 8 .mov [.t 1], [], none⟩,
    ⟨none, .val 9 (.bin .add) [.t 7, .t 8], [], none⟩,
    ⟨none, .val 10 .mov [.t 1], [], none⟩,
    ⟨none, .val 11 (.bin .rem) [.t 9, .t 10], [], none⟩,
    ⟨none, .val 4 .mov [.t 11], [], none⟩]
def r32_1 : IC := (.reg o32_1 [4])
def b32 : IC := (.seq r32_0 (.seq r32_1 .ret))
def i32 : IFn := ⟨2, 12, b32, [.tmp 4]⟩
/- isochronref30.Least -/
def o33_0 : List IOp := [⟨none, .boxL 5 (.t 0), [], none⟩,
    ⟨none, .val 10 .mov [.k (.p (.int .i64 0))], [], none⟩]
def r33_0 : IC := (.reg o33_0 [1, 2, 3, 4, 5])
def o33_1 : List IOp := [⟨none, .load 11 (.t 5) 2 true, [], none⟩,
    ⟨none, .call (some 12) 38 [.t 11], [], none⟩]
def r33_1 : IC := (.reg o33_1 [1, 2, 3, 4, 5, 12])
def o33_2 : List IOp := [⟨none, .val 13 .mov [.t 4], [], none⟩,
    ⟨none, .val 14 .mov [.t 1], [], none⟩,
    ⟨none, .val 15 (.bin .mul) [.k (.p (.int .i64 127)), .t 14], [], none⟩,
    ⟨none, .val 16 (.bin .sub) [.t 13, .t 15], [], none⟩,
    ⟨none, .val 10 .mov [.t 16], [], none⟩]
def r33_2 : IC := (.reg o33_2 [10])
def o33_3 : List IOp := [⟨none, .load 17 (.t 5) 2 true, [], none⟩,
    ⟨none, .val 18 .mov [.t 3], [], none⟩,
    ⟨none, .val 19 .mov [.t 3], [], none⟩,
    ⟨none, .val 20 .mov [.t 4], [], none⟩,
    ⟨none, .val 21 (.bin .add) [.t 19, .t 20], [], none⟩,
    ⟨none, .call (some 22) 50 [.t 17, .t 18, .t 21], [], none⟩,
    ⟨none, .val 23 .mov [.t 2], [], none⟩,
    ⟨none, .val 24 .mov [.t 1], [], none⟩,
    ⟨none, .val 25 (.bin .mul) [.t 23, .t 24], [], none⟩,
    ⟨none, .call (some 26) 47 [.t 22, .t 25], [], none⟩,
    ⟨none, .val 27 .mov [.t 1], [], none⟩,
    ⟨none, .val 28 (.bin .mul) [.k (.p (.int .i64 127)), .t 27], [], none⟩,
    ⟨none, .val 29 (.bin .sub) [.t 26, .t 28], [], none⟩,
    ⟨none, .val 10 .mov [.t 29], [], none⟩]
def r33_3 : IC := (.reg o33_3 [10])
def b33 : IC := (.seq r33_0 (.seq (.seq r33_1 (.cond (.t 12) (.seq r33_2 .ret) .skip)) (.kp [1, 2, 3, 4, 5] (.seq r33_3 .ret))))
def i33 : IFn := ⟨5, 30, b33, [.tmp 10]⟩
/- service.Of$1 -/
def o34_0 : List IOp := [⟨none, .load 7 (.t 2) 1 false, [], none⟩,
    ⟨none, .val 8 .mov [.t 0], [], none⟩,
    ⟨none, .val 9 .mov [.t 1], [], none⟩,
    ⟨none, .val 10 (.bin .mul) [.t 9, .k (.p (.int .i64 1048576))], [2], none⟩,
    ⟨none, .load 11 (.t 3) 1 false, [], none⟩,
    ⟨none, .load 12 (.t 4) 1 false, [], none⟩,
    ⟨none, .val 13 (.bin .mul) [.t 11, .t 12], [4, 5], none⟩,
    ⟨none, .callP 14 35 [.t 10, .t 13], [2, 3, 4, 5, 6], none⟩,
    ⟨none, .val 15 (.bin .sub) [.t 8, .t 14], [1, 2, 3, 4, 5, 6, 7], none⟩,
    ⟨none, .val 16 .max [.t 7, .t 15], [0, 1, 2, 3, 4, 5, 6, 7, 8], none⟩,
    ⟨none, .store (.t 2) (.t 16) 1, [0, 1, 2, 3, 4, 5, 6, 7, 8, 9], none⟩]
def r34_0 : IC := (.regD o34_0 [])
def b34 : IC := r34_0
def i34 : IFn := ⟨5, 17, b34, []⟩
/- service.floorDiv -/
def o35_0 : List IOp := [⟨none, .val 4 .mov [.k (.p (.int .i64 0))], [], none⟩]
def r35_0 : IC := (.reg o35_0 [0, 1])
def o35_1 : List IOp := [⟨none, .val 5 .mov [.t 0], [], none⟩,
    ⟨none, .val 6 .mov [.t 0], [], none⟩,
    ⟨none, .val 7 .mov [.t 1], [], none⟩,
    ⟨none, .call (some 8) 32 [.t 6, .t 7], [], none⟩,
    ⟨none, .val 9 (.bin .sub) [.t 5, .t 8], [], none⟩,
    ⟨none, .val 10 .mov [.t 1], [], none⟩,
    ⟨none, .val 11 (.bin .quo) [.t 9, .t 10], [], none⟩,
    ⟨none, .val 4 .mov [.t 11], [], none⟩]
def r35_1 : IC := (.reg o35_1 [4])
def b35 : IC := (.seq r35_0 (.seq r35_1 .ret))
def i35 : IFn := ⟨2, 12, b35, [.tmp 4]⟩
/- service.gaps -/
def o36_0 : List IOp := [⟨none, .boxL 3 (.t 0), [], none⟩]
def r36_0 : IC := (.reg o36_0 [1, 2, 3])
def o36_1 : List IOp := [⟨none, .newH 6 [.p (.sl 2 true [])], [], none⟩]
def r36_1 : IC := (.reg o36_1 [1, 2, 3, 6])
def o36_2 : List IOp := [⟨none, .load 16 (.t 3) 2 true, [], none⟩,
    ⟨none, .call (some 17) 31 [.t 16], [], none⟩]
def r36_2 : IC := (.reg o36_2 [1, 2, 3, 6, 17])
def o36_3 : List IOp := [⟨none, .newL 7 [.p (.int .i64 0), .p (.int .i64 0)], [], none⟩,
    ⟨none, .store (.t 7) (.t 18) 2, [], none⟩]
def r36_3 : IC := (.reg o36_3 [6, 7])
def o36_4 : List IOp := [⟨none, .load 19 (.t 6) 1 false, [], none⟩,
    ⟨none, .load 20 (.t 7) 2 true, [], none⟩,
    ⟨none, .litP 21 2 [.t 20], [], none⟩,
    ⟨none, .app 22 (.t 19) (.t 21) 2 16, [], none⟩,
    ⟨none, .store (.t 6) (.t 22) 1, [], none⟩]
def r36_4 : IC := (.reg o36_4 [])
def ra36_1 : IC := r36_3
def rb36_1 : IC := (.block 1 r36_4)
def o36_5 : List IOp := [⟨none, .load 23 (.t 6) 1 false, [], none⟩,
    ⟨none, .val 24 .len [.t 23], [], none⟩,
    ⟨none, .val 8 .mov [.t 24], [], none⟩]
def r36_5 : IC := (.reg o36_5 [1, 2, 3, 6, 8])
def o36_6 : List IOp := [⟨none, .load 25 (.t 6) 1 false, [], none⟩,
    ⟨none, .val 26 .len [.t 25], [], none⟩,
    ⟨none, .val 27 .mov [.k (.p (.int .i64 0))], [], none⟩]
def r36_6 : IC := (.reg o36_6 [1, 2, 3, 6, 8, 25, 26, 27])
def o36_7 : List IOp := [⟨none, .val 28 (.bin .lss) [.t 27, .t 26], [], none⟩]
def r36_7 : IC := (.reg o36_7 [1, 2, 3, 6, 8, 25, 26, 27, 28])
def o36_8 : List IOp := [⟨none, .val 29 .mov [.t 27], [], none⟩,
    ⟨none, .val 30 (.iaddrS 2) [.t 25, .t 27], [], none⟩,
    ⟨none, .load 31 (.t 30) 2 true, [], none⟩,
    ⟨none, .newL 10 [.p (.int .i64 0), .p (.int .i64 0)], [], none⟩,
    ⟨none, .val 9 .mov [.t 29], [], none⟩,
    ⟨none, .store (.t 10) (.t 31) 2, [], none⟩]
def r36_8 : IC := (.reg o36_8 [1, 2, 3, 6, 8, 9, 10, 25, 26, 27])
def o36_9 : List IOp := [⟨none, .val 32 (.faddr 0) [.t 10], [], none⟩,
    ⟨none, .load 33 (.t 32) 1 false, [], none⟩,
    ⟨none, .val 34 (.faddr 1) [.t 10], [], none⟩,
    ⟨none, .load 35 (.t 34) 1 false, [], none⟩,
    ⟨none, .val 36 (.bin .add) [.t 33, .t 35], [], none⟩,
    ⟨none, .val 37 .mov [.t 1], [], none⟩,
    ⟨none, .val 38 (.faddr 1) [.t 10], [], none⟩,
    ⟨none, .load 39 (.t 38) 1 false, [], none⟩,
    ⟨none, .val 40 .min [.t 37, .t 39], [], none⟩,
    ⟨none, .val 41 (.bin .sub) [.t 36, .t 40], [], none⟩,
    ⟨none, .val 11 .mov [.t 41], [], none⟩]
def r36_9 : IC := (.reg o36_9 [1, 2, 3, 6, 8, 9, 11, 25, 26, 27])
def o36_10 : List IOp := [⟨none, .val 12 .mov [.k (.p (.int .i64 0))], [], none⟩]
def r36_10 : IC := (.reg o36_10 [1, 2, 3, 6, 8, 9, 11, 12, 25, 26, 27])
def o36_11 : List IOp := [⟨none, .val 42 .mov [.t 8], [], none⟩,
    ⟨none, .val 43 .mov [.k (.p (.int .i64 0))], [], none⟩]
def r36_11 : IC := (.reg o36_11 [1, 2, 3, 6, 8, 9, 11, 12, 25, 26, 27, 42, 43])
def o36_12 : List IOp := [⟨none, .val 44 (.bin .lss) [.t 43, .t 42], [], none⟩]
def r36_12 : IC := (.reg o36_12 [1, 2, 3, 6, 8, 9, 11, 12, 25, 26, 27, 42, 43, 44])
def o36_13 : List IOp := [⟨none, .val 45 .mov [.t 43], [], none⟩,
    ⟨none, .val 13 .mov [.t 45], [], none⟩]
def r36_13 : IC := (.reg o36_13 [1, 2, 3, 6, 8, 9, 11, 12, 13, 25, 26, 27, 42, 43])
def o36_14 : List IOp := [⟨none, .val 46 .mov [.t 9], [], none⟩,
    ⟨none, .val 47 (.bin .add) [.t 46, .k (.p (.int .i64 1))], [], none⟩,
    ⟨none, .val 48 .mov [.t 13], [], none⟩,
    ⟨none, .val 49 (.bin .add) [.t 47, .t 48], [], none⟩,
    ⟨none, .val 14 .mov [.t 49], [], none⟩]
def r36_14 : IC := (.reg o36_14 [1, 2, 3, 6, 8, 9, 11, 12, 14, 25, 26, 27, 42, 43])
def o36_15 : List IOp := [⟨none, .load 50 (.t 6) 1 false, [], none⟩,
    ⟨none, .val 51 .mov [.t 14], [], none⟩,
    ⟨none, .val 52 .mov [.t 8], [], none⟩,
    ⟨none, .val 53 (.bin .rem) [.t 51, .t 52], [1, 2], none⟩,
    ⟨none, .val 54 (.iaddrS 2) [.t 50, .t 53], [0, 1, 2, 3], none⟩,
    ⟨none, .load 55 (.t 54) 2 true, [0, 1, 2, 3, 4], none⟩,
    ⟨none, .newL 15 [.p (.int .i64 0), .p (.int .i64 0)], [], none⟩,
    ⟨none, .store (.t 15) (.t 55) 2, [0, 1, 2, 3, 4, 5, 6], none⟩]
def r36_15 : IC := (.regD o36_15 [1, 2, 3, 6, 8, 9, 11, 12, 14, 15, 25, 26, 27, 42, 43])
def o36_16 : List IOp := [⟨none, .val 56 (.faddr 0) [.t 15], [], none⟩,
    ⟨none, .loadL 57 (.t 56) 1 false, [0], none⟩,
    ⟨none, .val 58 .mov [.t 14], [], none⟩,
    ⟨none, .val 59 .mov [.t 8], [], none⟩,
    ⟨none, .val 60 (.bin .quo) [.t 58, .t 59], [2, 3], none⟩,
    ⟨none, .val 61 (.faddr 1) [.t 3], [], none⟩,
    ⟨none, .loadL 62 (.t 61) 1 false, [5], none⟩,
    ⟨none, .val 63 (.bin .mul) [.t 60, .t 62], [2, 3, 4, 5, 6], none⟩,
    ⟨none, .val 64 (.bin .add) [.t 57, .t 63], [0, 1, 2, 3, 4, 5, 6, 7], none⟩,
    ⟨none, .val 65 (.faddr 0) [.t 15], [0, 1, 2, 3, 4, 5, 6, 7, 8], none⟩,
    ⟨none, .store (.t 65) (.t 64) 1, [0, 1, 2, 3, 4, 5, 6, 7, 8, 9], none⟩]
def r36_16 : IC := (.regD o36_16 [1, 2, 3, 6, 8, 9, 11, 12, 15, 25, 26, 27, 42, 43])
def o36_17 : List IOp := [⟨none, .val 66 .mov [.t 2], [], none⟩,
    ⟨none, .val 67 (.faddr 0) [.t 15], [], none⟩,
    ⟨none, .load 68 (.t 67) 1 false, [], none⟩,
    ⟨none, .val 69 .mov [.t 1], [], none⟩,
    ⟨none, .val 70 (.faddr 1) [.t 15], [], none⟩,
    ⟨none, .load 71 (.t 70) 1 false, [], none⟩,
    ⟨none, .val 72 .min [.t 69, .t 71], [], none⟩,
    ⟨none, .val 73 (.bin .add) [.t 68, .t 72], [], none⟩,
    ⟨none, .val 74 .mov [.t 11], [], none⟩,
    ⟨none, .val 75 (.bin .sub) [.t 73, .t 74], [], none⟩,
    ⟨none, .val 76 .mov [.t 12], [], none⟩,
    ⟨none, .callV (some 77) (.t 66) [.t 75, .t 76], [], none⟩]
def r36_17 : IC := (.reg o36_17 [1, 2, 3, 6, 8, 9, 11, 12, 15, 25, 26, 27, 42, 43])
def o36_18 : List IOp := [⟨none, .val 78 .mov [.t 12], [], none⟩,
    ⟨none, .val 79 (.faddr 1) [.t 15], [], none⟩,
    ⟨none, .load 80 (.t 79) 1 false, [], none⟩,
    ⟨none, .val 81 .mov [.t 1], [], none⟩,
    ⟨none, .val 82 (.bin .sub) [.t 80, .t 81], [], none⟩,
    ⟨none, .val 83 .max [.k (.p (.int .i64 0)), .t 82], [], none⟩,
    ⟨none, .val 84 (.bin .add) [.t 78, .t 83], [], none⟩,
    ⟨none, .val 12 .mov [.t 84], [], none⟩]
def r36_18 : IC := (.reg o36_18 [1, 2, 3, 6, 8, 9, 11, 12, 25, 26, 27, 42, 43])
def o36_19 : List IOp := [⟨none, .val 85 (.bin .add) [.t 43, .k (.p (.int .i64 1))], [], none⟩,
    ⟨none, .val 43 .mov [.t 85], [], none⟩]
def r36_19 : IC := (.reg o36_19 [1, 2, 3, 6, 8, 9, 11, 12, 25, 26, 27, 42, 43])
def l36_3 : IC := (.seq r36_12 (.seq (.cond (.t 44) .skip (.exit 4)) (.kp [1, 2, 3, 6, 8, 9, 11, 12, 25, 26, 27, 42, 43] (.seq (.block 5 (.seq r36_13 (.seq r36_14 (.seq r36_15 (.seq r36_16 (.seq r36_17 r36_18)))))) r36_19))))
def o36_20 : List IOp := [⟨none, .val 86 (.bin .add) [.t 27, .k (.p (.int .i64 1))], [], none⟩,
    ⟨none, .val 27 .mov [.t 86], [], none⟩]
def r36_20 : IC := (.reg o36_20 [1, 2, 3, 6, 8, 25, 26, 27])
def l36_2 : IC := (.seq r36_7 (.seq (.cond (.t 28) .skip (.exit 2)) (.kp [1, 2, 3, 6, 8, 25, 26, 27] (.seq (.block 3 (.seq r36_8 (.seq r36_9 (.seq r36_10 (.seq r36_11 (.block 4 (.loop l36_3))))))) r36_20))))
def b36 : IC := (.seq r36_0 (.seq r36_1 (.seq (.seq r36_2 (.block 0 (.rangeF (.t 17) [18] ra36_1 rb36_1))) (.seq r36_5 (.seq r36_6 (.block 2 (.loop l36_2)))))))
def i36 : IFn := ⟨3, 87, b36, []⟩
/- service.Of$2 -/
def o37_0 : List IOp := [⟨none, .load 6 (.t 2) 1 false, [], none⟩,
    ⟨none, .val 7 .mov [.t 0], [], none⟩,
    ⟨none, .val 8 .mov [.t 1], [], none⟩,
    ⟨none, .load 9 (.t 3) 1 false, [], none⟩,
    ⟨none, .val 10 (.bin .mul) [.k (.p (.int .i64 127)), .t 9], [], none⟩,
    ⟨none, .val 11 (.bin .sub) [.t 8, .t 10], [], none⟩,
    ⟨none, .callV (some 12) (.t 6) [.t 7, .t 11], [], none⟩]
def r37_0 : IC := (.reg o37_0 [])
def b37 : IC := r37_0
def i37 : IFn := ⟨4, 13, b37, []⟩
/- isochronref30.Always -/
def o38_0 : List IOp := [⟨none, .boxL 1 (.t 0), [], none⟩,
    ⟨none, .val 2 .mov [.k (.p (.bool false))], [], none⟩]
def r38_0 : IC := (.reg o38_0 [1])
def o38_1 : List IOp := [⟨none, .val 3 .mov [.k (.p (.int .i64 0))], [], none⟩]
def r38_1 : IC := (.reg o38_1 [1, 3])
def o38_2 : List IOp := [⟨none, .val 4 .mov [.t 3], [], none⟩,
    ⟨none, .val 5 (.faddr 0) [.t 1], [], none⟩,
    ⟨none, .load 6 (.t 5) 1 false, [], none⟩,
    ⟨none, .val 7 .len [.t 6], [], none⟩,
    ⟨none, .val 8 (.bin .lss) [.t 4, .t 7], [], none⟩]
def r38_2 : IC := (.reg o38_2 [1, 3, 8])
def o38_4 : List IOp := [⟨none, .val 11 (.faddr 0) [.t 1], [], none⟩,
    ⟨none, .load 12 (.t 11) 1 false, [], none⟩,
    ⟨none, .val 13 .mov [.t 3], [], none⟩,
    ⟨none, .val 14 (.iaddrS 2) [.t 12, .t 13], [], none⟩,
    ⟨none, .val 15 (.faddr 0) [.t 14], [], none⟩,
    ⟨none, .load 16 (.t 15) 1 false, [], none⟩,
    ⟨none, .call (some 17) 51 [.t 16, .k (.p (.int .i64 6))], [], none⟩,
    ⟨none, .val 18 .not [.t 17], [], none⟩]
def r38_4 : IC := (.reg o38_4 [1, 3, 18])
def o38_5 : List IOp := [⟨none, .val 2 .mov [.k (.p (.bool false))], [], none⟩]
def r38_5 : IC := (.reg o38_5 [2])
def o38_3 : List IOp := [⟨none, .val 9 .mov [.t 3], [], none⟩,
    ⟨none, .val 10 (.bin .add) [.t 9, .k (.p (.int .i64 1))], [], none⟩,
    ⟨none, .val 3 .mov [.t 10], [], none⟩]
def r38_3 : IC := (.reg o38_3 [1, 3])
def l38_1 : IC := (.seq (.seq r38_2 (.cond (.t 8) .skip (.exit 0))) (.kp [1, 3] (.seq (.block 1 (.seq r38_4 (.cond (.t 18) (.seq r38_5 .ret) .skip))) (.kp [1, 3] r38_3))))
def o38_6 : List IOp := [⟨none, .val 2 .mov [.k (.p (.bool true))], [], none⟩]
def r38_6 : IC := (.reg o38_6 [2])
def b38 : IC := (.seq r38_0 (.seq (.seq r38_1 (.block 0 (.loop l38_1))) (.seq r38_6 .ret)))
def i38 : IFn := ⟨1, 19, b38, [.tmp 2]⟩
/- isochronref30.Round -/
def o39_0 : List IOp := [⟨none, .boxL 1 (.t 0), [], none⟩,
    ⟨none, .val 2 .mov [.k (.p (.sl 2 true []))], [], none⟩]
def r39_0 : IC := (.reg o39_0 [1])
def o39_1 : List IOp := [⟨none, .val 3 .mov [.k (.p (.int .i64 0))], [], none⟩]
def r39_1 : IC := (.reg o39_1 [1, 3])
def o39_2 : List IOp := [⟨none, .val 4 .mov [.k (.p (.int .i64 0))], [], none⟩]
def r39_2 : IC := (.reg o39_2 [1, 3, 4])
def o39_3 : List IOp := [⟨none, .val 5 .mov [.t 4], [], none⟩,
    ⟨none, .val 6 (.faddr 0) [.t 1], [], none⟩,
    ⟨none, .load 7 (.t 6) 1 false, [], none⟩,
    ⟨none, .val 8 .len [.t 7], [], none⟩,
    ⟨none, .val 9 (.bin .lss) [.t 5, .t 8], [], none⟩,
    ⟨none, .val 10 .mov [.t 9], [], none⟩,
    ⟨(some (10, true)), .val 11 (.faddr 0) [.t 1], [], none⟩,
    ⟨(some (10, true)), .load 12 (.t 11) 1 false, [], none⟩,
    ⟨(some (10, true)), .val 13 .mov [.t 4], [], none⟩,
    ⟨(some (10, true)), .val 14 (.iaddrS 2) [.t 12, .t 13], [], none⟩,
    ⟨(some (10, true)), .val 15 (.faddr 0) [.t 14], [], none⟩,
    ⟨(some (10, true)), .load 16 (.t 15) 1 false, [], none⟩,
    ⟨(some (10, true)), .call (some 17) 51 [.t 16, .k (.p (.int .i64 6))], [], none⟩,
    ⟨none, .val 18 .pick [.t 10, .t 17, .k (.p (.bool false))], [], none⟩]
def r39_3 : IC := (.reg o39_3 [1, 3, 4, 18])
def o39_5 : List IOp := [⟨none, .val 21 .mov [.t 3], [], none⟩,
    ⟨none, .val 22 (.faddr 0) [.t 1], [], none⟩,
    ⟨none, .load 23 (.t 22) 1 false, [], none⟩,
    ⟨none, .val 24 .mov [.t 4], [], none⟩,
    ⟨none, .val 25 (.iaddrS 2) [.t 23, .t 24], [], none⟩,
    ⟨none, .val 26 (.faddr 1) [.t 25], [], none⟩,
    ⟨none, .load 27 (.t 26) 1 false, [], none⟩,
    ⟨none, .val 28 (.bin .add) [.t 21, .t 27], [], none⟩,
    ⟨none, .val 3 .mov [.t 28], [], none⟩]
def r39_5 : IC := (.reg o39_5 [1, 3, 4])
def o39_4 : List IOp := [⟨none, .val 19 .mov [.t 4], [], none⟩,
    ⟨none, .val 20 (.bin .add) [.t 19, .k (.p (.int .i64 1))], [], none⟩,
    ⟨none, .val 4 .mov [.t 20], [], none⟩]
def r39_4 : IC := (.reg o39_4 [1, 3, 4])
def l39_1 : IC := (.seq (.seq r39_3 (.cond (.t 18) .skip (.exit 0))) (.kp [1, 3, 4] (.seq (.block 1 r39_5) r39_4)))
def o39_6 : List IOp := [⟨none, .load 29 (.t 1) 2 true, [], none⟩,
    ⟨none, .val 30 .mov [.t 3], [], none⟩,
    ⟨none, .val 31 .mov [.t 3], [], none⟩,
    ⟨none, .val 32 (.faddr 1) [.t 1], [], none⟩,
    ⟨none, .load 33 (.t 32) 1 false, [], none⟩,
    ⟨none, .val 34 (.bin .add) [.t 31, .t 33], [], none⟩,
    ⟨none, .call (some 35) 50 [.t 29, .t 30, .t 34], [], none⟩,
    ⟨none, .val 2 .mov [.t 35], [], none⟩]
def r39_6 : IC := (.reg o39_6 [2])
def b39 : IC := (.seq r39_0 (.seq r39_1 (.seq (.seq r39_2 (.block 0 (.loop l39_1))) (.seq r39_6 .ret))))
def i39 : IFn := ⟨1, 36, b39, [.tmp 2]⟩
/- gates.check -/
def o40_0 : List IOp := [⟨none, .boxL 4 (.t 0), [], none⟩,
    ⟨none, .val 8 .mov [.k (.p (.int .i64 0))], [], none⟩]
def r40_0 : IC := (.reg o40_0 [1, 2, 3, 4])
def o40_1 : List IOp := [⟨none, .load 10 (.t 4) 2 true, [], none⟩,
    ⟨none, .call (some 11) 45 [.t 10], [], none⟩,
    ⟨none, .val 9 .mov [.t 11], [], none⟩]
def r40_1 : IC := (.reg o40_1 [1, 2, 3, 9])
def o40_2 : List IOp := [⟨none, .val 12 .mov [.t 9], [], none⟩,
    ⟨none, .val 13 (.bin .neq) [.t 12, .k (.p (.int .i64 0))], [], none⟩]
def r40_2 : IC := (.reg o40_2 [1, 2, 3, 9, 13])
def o40_3 : List IOp := [⟨none, .val 14 .mov [.t 9], [], none⟩,
    ⟨none, .val 8 .mov [.t 14], [], none⟩]
def r40_3 : IC := (.reg o40_3 [8])
def o40_4 : List IOp := [⟨none, .val 15 .mov [.t 1], [], none⟩,
    ⟨none, .val 16 (.bin .lss) [.t 15, .k (.p (.int .i64 0))], [], none⟩,
    ⟨none, .val 17 .mov [.t 16], [], none⟩,
    ⟨(some (17, false)), .val 18 .mov [.t 1], [], none⟩,
    ⟨(some (17, false)), .val 19 (.bin .geq) [.t 18, .k (.p (.int .i64 8))], [], none⟩,
    ⟨none, .val 20 .pick [.t 17, .k (.p (.bool true)), .t 19], [], none⟩,
    ⟨none, .val 21 .mov [.t 20], [], none⟩,
    ⟨(some (21, false)), .val 22 .mov [.t 2], [], none⟩,
    ⟨(some (21, false)), .val 23 (.bin .lss) [.t 22, .k (.p (.int .i64 (-1099511627776)))], [], none⟩,
    ⟨none, .val 24 .pick [.t 21, .k (.p (.bool true)), .t 23], [], none⟩,
    ⟨none, .val 25 .mov [.t 24], [], none⟩,
    ⟨(some (25, false)), .val 26 .mov [.t 2], [], none⟩,
    ⟨(some (25, false)), .val 27 (.bin .gtr) [.t 26, .k (.p (.int .i64 1099511627776))], [], none⟩,
    ⟨none, .val 28 .pick [.t 25, .k (.p (.bool true)), .t 27], [], none⟩,
    ⟨none, .val 29 .mov [.t 28], [], none⟩,
    ⟨(some (29, false)), .val 30 .mov [.t 3], [], none⟩,
    ⟨(some (29, false)), .val 31 (.bin .lss) [.t 30, .k (.p (.int .i64 0))], [], none⟩,
    ⟨none, .val 32 .pick [.t 29, .k (.p (.bool true)), .t 31], [], none⟩,
    ⟨none, .val 33 .mov [.t 32], [], none⟩,
    ⟨(some (33, false)), .val 34 .mov [.t 3], [], none⟩,
    ⟨(some (33, false)), .val 35 (.bin .gtr) [.t 34, .k (.p (.int .i64 1099511627776))], [], none⟩,
    ⟨none, .val 36 .pick [.t 33, .k (.p (.bool true)), .t 35], [], none⟩]
def r40_4 : IC := (.reg o40_4 [36])
def o40_5 : List IOp := [⟨none, .val 8 .mov [.k (.p (.int .i64 2))], [], none⟩]
def r40_5 : IC := (.reg o40_5 [8])
def o40_6 : List IOp := [⟨none, .val 8 .mov [.k (.p (.int .i64 0))], [], none⟩]
def r40_6 : IC := (.reg o40_6 [8])
def b40 : IC := (.seq r40_0 (.seq (.seq r40_1 (.seq r40_2 (.cond (.t 13) (.seq r40_3 .ret) .skip))) (.kp [1, 2, 3] (.seq (.seq r40_4 (.cond (.t 36) (.seq r40_5 .ret) .skip)) (.kp [] (.seq r40_6 .ret))))))
def i40 : IFn := ⟨4, 37, b40, [.tmp 8]⟩
/- gates.open -/
def o41_0 : List IOp := [⟨none, .boxL 3 (.t 0), [], none⟩,
    ⟨none, .boxH 4 (.t 1), [], none⟩,
    ⟨none, .val 6 .mov [.k (.p (.int .i64 0))], [], none⟩]
def r41_0 : IC := (.reg o41_0 [2, 3, 4])
def o41_1 : List IOp := [⟨none, .load 8 (.t 3) 2 true, [], none⟩,
    ⟨none, .val 9 .mov [.t 2], [], none⟩,
    ⟨none, .val 10 (.mkfn 52 0) [.t 4], [], none⟩,
    ⟨none, .call (some 11) 43 [.t 8, .t 9, .t 10], [], none⟩,
    ⟨none, .val 7 .mov [.t 11], [], none⟩]
def r41_1 : IC := (.reg o41_1 [3, 7])
def o41_2 : List IOp := [⟨none, .val 12 .mov [.t 7], [], none⟩,
    ⟨none, .val 13 (.faddr 1) [.t 3], [], none⟩,
    ⟨none, .load 14 (.t 13) 1 false, [], none⟩,
    ⟨none, .val 15 (.bin .eql) [.t 12, .t 14], [], none⟩]
def r41_2 : IC := (.reg o41_2 [7, 15])
def o41_3 : List IOp := [⟨none, .val 6 .mov [.k (.p (.int .i64 1099511627776))], [], none⟩]
def r41_3 : IC := (.reg o41_3 [6])
def o41_4 : List IOp := [⟨none, .val 16 .mov [.t 7], [], none⟩,
    ⟨none, .val 6 .mov [.t 16], [], none⟩]
def r41_4 : IC := (.reg o41_4 [6])
def b41 : IC := (.seq r41_0 (.seq r41_1 (.seq (.seq r41_2 (.cond (.t 15) (.seq r41_3 .ret) .skip)) (.kp [7] (.seq r41_4 .ret)))))
def i41 : IFn := ⟨3, 17, b41, [.tmp 6]⟩
/- gates.find -/
def o42_0 : List IOp := [⟨none, .boxL 2 (.t 0), [], none⟩,
    ⟨none, .val 4 .mov [.k (.p (.int .i64 0))], [], none⟩,
    ⟨none, .val 5 .mov [.k (.p (.int .i64 0))], [], none⟩]
def r42_0 : IC := (.reg o42_0 [1, 2, 4])
def o42_1 : List IOp := [⟨none, .val 6 .mov [.t 1], [], none⟩,
    ⟨none, .val 7 (.faddr 1) [.t 2], [], none⟩,
    ⟨none, .loadL 8 (.t 7) 1 false, [1], none⟩,
    ⟨none, .val 9 (.bin .rem) [.t 6, .t 8], [0, 1, 2], none⟩,
    ⟨none, .val 10 (.faddr 1) [.t 2], [], none⟩,
    ⟨none, .loadL 11 (.t 10) 1 false, [4], none⟩,
    ⟨none, .val 12 (.bin .add) [.t 9, .t 11], [0, 1, 2, 3, 4, 5], none⟩,
    ⟨none, .val 13 (.faddr 1) [.t 2], [], none⟩,
    ⟨none, .loadL 14 (.t 13) 1 false, [7], none⟩,
    ⟨none, .val 15 (.bin .rem) [.t 12, .t 14], [0, 1, 2, 3, 4, 5, 6, 7, 8], none⟩,
    ⟨none, .val 1 .mov [.t 15], [0, 1, 2, 3, 4, 5, 6, 7, 8, 9], none⟩]
def r42_1 : IC := (.regD o42_1 [1, 2, 4])
def o42_2 : List IOp := [⟨none, .val 16 .mov [.t 1], [], none⟩,
    ⟨none, .val 17 (.faddr 0) [.t 2], [], none⟩,
    ⟨none, .load 18 (.t 17) 1 false, [], none⟩,
    ⟨none, .val 19 .mov [.t 4], [], none⟩,
    ⟨none, .val 20 (.iaddrS 2) [.t 18, .t 19], [], none⟩,
    ⟨none, .val 21 (.faddr 1) [.t 20], [], none⟩,
    ⟨none, .load 22 (.t 21) 1 false, [], none⟩,
    ⟨none, .val 23 (.bin .geq) [.t 16, .t 22], [], none⟩]
def r42_2 : IC := (.reg o42_2 [1, 2, 4, 23])
def o42_3 : List IOp := [⟨none, .val 24 .mov [.t 1], [], none⟩,
    ⟨none, .val 25 (.faddr 0) [.t 2], [], none⟩,
    ⟨none, .load 26 (.t 25) 1 false, [], none⟩,
    ⟨none, .val 27 .mov [.t 4], [], none⟩,
    ⟨none, .val 28 (.iaddrS 2) [.t 26, .t 27], [], none⟩,
    ⟨none, .val 29 (.faddr 1) [.t 28], [], none⟩,
    ⟨none, .load 30 (.t 29) 1 false, [], none⟩,
    ⟨none, .val 31 (.bin .sub) [.t 24, .t 30], [], none⟩,
    ⟨none, .val 1 .mov [.t 31], [], none⟩]
def r42_3 : IC := (.reg o42_3 [1, 2, 4])
def o42_4 : List IOp := [⟨none, .val 32 .mov [.t 4], [], none⟩,
    ⟨none, .val 33 (.bin .add) [.t 32, .k (.p (.int .i64 1))], [], none⟩,
    ⟨none, .val 4 .mov [.t 33], [], none⟩]
def r42_4 : IC := (.reg o42_4 [1, 2, 4])
def o42_5 : List IOp := [⟨none, .val 34 .mov [.t 4], [], none⟩,
    ⟨none, .val 35 (.faddr 0) [.t 2], [], none⟩,
    ⟨none, .loadL 36 (.t 35) 1 false, [1], none⟩,
    ⟨none, .val 37 .mov [.t 4], [], none⟩,
    ⟨none, .val 38 (.iaddrS 2) [.t 36, .t 37], [1, 2, 3], none⟩,
    ⟨none, .val 39 (.faddr 1) [.t 38], [1, 2, 3, 4], none⟩,
    ⟨none, .load 40 (.t 39) 1 false, [1, 2, 3, 4, 5], none⟩,
    ⟨none, .val 41 .mov [.t 1], [], none⟩,
    ⟨none, .val 42 (.bin .sub) [.t 40, .t 41], [1, 2, 3, 4, 5, 6, 7], none⟩,
    ⟨none, .val 4 .mov [.t 34], [0, 3], none⟩,
    ⟨none, .val 5 .mov [.t 42], [0, 1, 2, 3, 4, 5, 6, 7, 8, 9], none⟩]
def r42_5 : IC := (.regD o42_5 [4, 5])
def s42 : IC := (.seq r42_1 (.seq (.label 0) (.seq (.seq r42_2 (.cond (.t 23) (.seq r42_3 (.seq r42_4 (.goto 0))) .skip)) (.kp [1, 2, 4] (.seq r42_5 .ret)))))
def b42 : IC := (.seq r42_0 (.scope s42))
def i42 : IFn := ⟨2, 43, b42, [.tmp 4, .tmp 5]⟩
/- gates.stretch -/
def o43_0 : List IOp := [⟨none, .boxL 3 (.t 0), [], none⟩,
    ⟨none, .val 6 .mov [.k (.p (.int .i64 0))], [], none⟩]
def r43_0 : IC := (.reg o43_0 [1, 2, 3])
def o43_1 : List IOp := [⟨none, .load 11 (.t 3) 2 true, [], none⟩,
    ⟨none, .val 12 .mov [.t 1], [], none⟩,
    ⟨none, .call (some 13) 42 [.t 11, .t 12], [], none⟩,
    ⟨none, .val 10 .mov [.t 13], [], none⟩,
    ⟨none, .val 14 (.ext 0) [.t 10], [], none⟩,
    ⟨none, .val 15 (.ext 1) [.t 10], [], none⟩,
    ⟨none, .val 7 .mov [.t 14], [], none⟩,
    ⟨none, .val 8 .mov [.t 15], [], none⟩]
def r43_1 : IC := (.reg o43_1 [2, 3, 7, 8])
def o43_2 : List IOp := [⟨none, .val 9 .mov [.k (.p (.int .i64 0))], [], none⟩]
def r43_2 : IC := (.reg o43_2 [2, 3, 7, 8, 9])
def o43_3 : List IOp := [⟨none, .val 16 (.faddr 0) [.t 3], [], none⟩,
    ⟨none, .load 17 (.t 16) 1 false, [], none⟩,
    ⟨none, .val 18 .len [.t 17], [], none⟩,
    ⟨none, .val 19 (.bin .add) [.t 18, .k (.p (.int .i64 1))], [], none⟩,
    ⟨none, .val 20 .mov [.k (.p (.int .i64 0))], [], none⟩]
def r43_3 : IC := (.reg o43_3 [2, 3, 7, 8, 9, 19, 20])
def o43_4 : List IOp := [⟨none, .val 21 (.bin .lss) [.t 20, .t 19], [], none⟩]
def r43_4 : IC := (.reg o43_4 [2, 3, 7, 8, 9, 19, 20, 21])
def o43_5 : List IOp := [⟨none, .val 22 .mov [.t 2], [], none⟩,
    ⟨none, .val 23 (.faddr 0) [.t 3], [], none⟩,
    ⟨none, .load 24 (.t 23) 1 false, [], none⟩,
    ⟨none, .val 25 .mov [.t 7], [], none⟩,
    ⟨none, .val 26 (.iaddrS 2) [.t 24, .t 25], [], none⟩,
    ⟨none, .val 27 (.faddr 0) [.t 26], [], none⟩,
    ⟨none, .load 28 (.t 27) 1 false, [], none⟩,
    ⟨none, .callV (some 29) (.t 22) [.t 28], [], none⟩,
    ⟨none, .val 30 .not [.t 29], [], none⟩]
def r43_5 : IC := (.reg o43_5 [2, 3, 7, 8, 9, 19, 20, 30])
def o43_6 : List IOp := [⟨none, .val 31 .mov [.t 9], [], none⟩,
    ⟨none, .val 6 .mov [.t 31], [], none⟩]
def r43_6 : IC := (.reg o43_6 [6])
def o43_7 : List IOp := [⟨none, .val 32 .mov [.t 9], [], none⟩,
    ⟨none, .val 33 .mov [.t 8], [], none⟩,
    ⟨none, .val 34 (.bin .add) [.t 32, .t 33], [], none⟩,
    ⟨none, .val 9 .mov [.t 34], [], none⟩]
def r43_7 : IC := (.reg o43_7 [2, 3, 7, 9, 19, 20])
def o43_8 : List IOp := [⟨none, .val 35 .mov [.t 7], [], none⟩,
    ⟨none, .val 36 (.bin .add) [.t 35, .k (.p (.int .i64 1))], [], none⟩,
    ⟨none, .val 37 (.faddr 0) [.t 3], [], none⟩,
    ⟨none, .load 38 (.t 37) 1 false, [], none⟩,
    ⟨none, .val 39 .len [.t 38], [], none⟩,
    ⟨none, .val 40 (.bin .rem) [.t 36, .t 39], [], none⟩,
    ⟨none, .val 7 .mov [.t 40], [], none⟩]
def r43_8 : IC := (.reg o43_8 [2, 3, 7, 9, 19, 20])
def o43_9 : List IOp := [⟨none, .val 41 (.faddr 0) [.t 3], [], none⟩,
    ⟨none, .load 42 (.t 41) 1 false, [], none⟩,
    ⟨none, .val 43 .mov [.t 7], [], none⟩,
    ⟨none, .val 44 (.iaddrS 2) [.t 42, .t 43], [], none⟩,
    ⟨none, .val 45 (.faddr 1) [.t 44], [], none⟩,
    ⟨none, .load 46 (.t 45) 1 false, [], none⟩,
    ⟨none, .val 8 .mov [.t 46], [], none⟩]
def r43_9 : IC := (.reg o43_9 [2, 3, 7, 8, 9, 19, 20])
def o43_10 : List IOp := [⟨none, .val 47 (.bin .add) [.t 20, .k (.p (.int .i64 1))], [], none⟩,
    ⟨none, .val 20 .mov [.t 47], [], none⟩]
def r43_10 : IC := (.reg o43_10 [2, 3, 7, 8, 9, 19, 20])
def l43_1 : IC := (.seq r43_4 (.seq (.cond (.t 21) .skip (.exit 0)) (.kp [2, 3, 7, 8, 9, 19, 20] (.seq (.block 1 (.seq (.seq r43_5 (.cond (.t 30) (.seq r43_6 .ret) .skip)) (.kp [2, 3, 7, 8, 9, 19, 20] (.seq r43_7 (.seq r43_8 r43_9))))) (.kp [2, 3, 7, 8, 9, 19, 20] r43_10)))))
def o43_11 : List IOp := [⟨none, .val 48 (.faddr 1) [.t 3], [], none⟩,
    ⟨none, .load 49 (.t 48) 1 false, [], none⟩,
    ⟨none, .val 6 .mov [.t 49], [], none⟩]
def r43_11 : IC := (.reg o43_11 [6])
def b43 : IC := (.seq r43_0 (.seq r43_1 (.seq r43_2 (.seq (.seq r43_3 (.block 0 (.loop l43_1))) (.seq r43_11 .ret)))))
def i43 : IFn := ⟨3, 50, b43, [.tmp 6]⟩
/- gates.Turn$1 -/
def o44_0 : List IOp := [⟨none, .val 3 .mov [.k (.p (.bool false))], [], none⟩]
def r44_0 : IC := (.reg o44_0 [0, 1])
def o44_1 : List IOp := [⟨none, .val 4 .mov [.t 0], [], none⟩,
    ⟨none, .load 5 (.t 1) 1 false, [], none⟩,
    ⟨none, .val 6 (.bin .eql) [.t 4, .t 5], [], none⟩,
    ⟨none, .val 3 .mov [.t 6], [], none⟩]
def r44_1 : IC := (.reg o44_1 [3])
def b44 : IC := (.seq r44_0 (.seq r44_1 .ret))
def i44 : IFn := ⟨2, 7, b44, [.tmp 3]⟩
/- gates.Check -/
def o45_0 : List IOp := [⟨none, .boxL 1 (.t 0), [], none⟩,
    ⟨none, .val 2 .mov [.k (.p (.int .i64 0))], [], none⟩]
def r45_0 : IC := (.reg o45_0 [1])
def o45_1 : List IOp := [⟨none, .val 6 (.faddr 0) [.t 1], [], none⟩,
    ⟨none, .load 7 (.t 6) 1 false, [], none⟩,
    ⟨none, .val 8 .len [.t 7], [], none⟩,
    ⟨none, .val 9 (.bin .lss) [.t 8, .k (.p (.int .i64 1))], [], none⟩,
    ⟨none, .val 10 .mov [.t 9], [], none⟩,
    ⟨(some (10, false)), .val 11 (.faddr 0) [.t 1], [], none⟩,
    ⟨(some (10, false)), .load 12 (.t 11) 1 false, [], none⟩,
    ⟨(some (10, false)), .val 13 .len [.t 12], [], none⟩,
    ⟨(some (10, false)), .val 14 (.bin .gtr) [.t 13, .k (.p (.int .i64 128))], [], none⟩,
    ⟨none, .val 15 .pick [.t 10, .k (.p (.bool true)), .t 14], [], none⟩]
def r45_1 : IC := (.reg o45_1 [1, 15])
def o45_2 : List IOp := [⟨none, .val 2 .mov [.k (.p (.int .i64 370))], [], none⟩]
def r45_2 : IC := (.reg o45_2 [2])
def o45_3 : List IOp := [⟨none, .val 3 .mov [.k (.p (.int .i64 0))], [], none⟩]
def r45_3 : IC := (.reg o45_3 [1, 3])
def o45_4 : List IOp := [⟨none, .val 16 (.faddr 0) [.t 1], [], none⟩,
    ⟨none, .load 17 (.t 16) 1 false, [], none⟩,
    ⟨none, .val 18 .len [.t 17], [], none⟩,
    ⟨none, .val 19 .mov [.k (.p (.int .i64 0))], [], none⟩]
def r45_4 : IC := (.reg o45_4 [1, 3, 17, 18, 19])
def o45_5 : List IOp := [⟨none, .val 20 (.bin .lss) [.t 19, .t 18], [], none⟩]
def r45_5 : IC := (.reg o45_5 [1, 3, 17, 18, 19, 20])
def o45_6 : List IOp := [⟨none, .val 21 (.iaddrS 2) [.t 17, .t 19], [], none⟩,
    ⟨none, .load 22 (.t 21) 2 true, [], none⟩,
    ⟨none, .newL 5 [.p (.int .i64 0), .p (.int .i64 0)], [], none⟩,
    ⟨none, .store (.t 5) (.t 22) 2, [], none⟩]
def r45_6 : IC := (.reg o45_6 [1, 3, 5, 17, 18, 19])
def o45_7 : List IOp := [⟨none, .val 23 (.faddr 0) [.t 5], [], none⟩,
    ⟨none, .load 24 (.t 23) 1 false, [], none⟩,
    ⟨none, .val 25 (.bin .lss) [.t 24, .k (.p (.int .i64 0))], [], none⟩,
    ⟨none, .val 26 .mov [.t 25], [], none⟩,
    ⟨(some (26, false)), .val 27 (.faddr 0) [.t 5], [], none⟩,
    ⟨(some (26, false)), .load 28 (.t 27) 1 false, [], none⟩,
    ⟨(some (26, false)), .val 29 (.bin .gtr) [.t 28, .k (.p (.int .i64 255))], [], none⟩,
    ⟨none, .val 30 .pick [.t 26, .k (.p (.bool true)), .t 29], [], none⟩,
    ⟨none, .val 31 .mov [.t 30], [], none⟩,
    ⟨(some (31, false)), .val 32 (.faddr 1) [.t 5], [], none⟩,
    ⟨(some (31, false)), .load 33 (.t 32) 1 false, [], none⟩,
    ⟨(some (31, false)), .val 34 (.bin .lss) [.t 33, .k (.p (.int .i64 1))], [], none⟩,
    ⟨none, .val 35 .pick [.t 31, .k (.p (.bool true)), .t 34], [], none⟩,
    ⟨none, .val 36 .mov [.t 35], [], none⟩,
    ⟨(some (36, false)), .val 37 (.faddr 1) [.t 5], [], none⟩,
    ⟨(some (36, false)), .load 38 (.t 37) 1 false, [], none⟩,
    ⟨(some (36, false)), .val 39 (.bin .gtr) [.t 38, .k (.p (.int .i64 9600000))], [], none⟩,
    ⟨none, .val 40 .pick [.t 36, .k (.p (.bool true)), .t 39], [], none⟩]
def r45_7 : IC := (.reg o45_7 [1, 3, 5, 17, 18, 19, 40])
def o45_8 : List IOp := [⟨none, .val 2 .mov [.k (.p (.int .i64 370))], [], none⟩]
def r45_8 : IC := (.reg o45_8 [2])
def o45_9 : List IOp := [⟨none, .val 41 .mov [.t 3], [], none⟩,
    ⟨none, .val 42 (.faddr 1) [.t 5], [], none⟩,
    ⟨none, .load 43 (.t 42) 1 false, [], none⟩,
    ⟨none, .val 44 (.bin .add) [.t 41, .t 43], [], none⟩,
    ⟨none, .val 3 .mov [.t 44], [], none⟩]
def r45_9 : IC := (.reg o45_9 [1, 3, 17, 18, 19])
def o45_10 : List IOp := [⟨none, .val 45 (.bin .add) [.t 19, .k (.p (.int .i64 1))], [], none⟩,
    ⟨none, .val 19 .mov [.t 45], [], none⟩]
def r45_10 : IC := (.reg o45_10 [1, 3, 17, 18, 19])
def l45_1 : IC := (.seq r45_5 (.seq (.cond (.t 20) .skip (.exit 0)) (.kp [1, 3, 17, 18, 19] (.seq (.block 1 (.seq r45_6 (.seq (.seq r45_7 (.cond (.t 40) (.seq r45_8 .ret) .skip)) (.kp [1, 3, 5, 17, 18, 19] r45_9)))) (.kp [1, 3, 17, 18, 19] r45_10)))))
def o45_11 : List IOp := [⟨none, .val 46 .mov [.t 3], [], none⟩,
    ⟨none, .val 47 (.faddr 1) [.t 1], [], none⟩,
    ⟨none, .load 48 (.t 47) 1 false, [], none⟩,
    ⟨none, .val 49 (.bin .neq) [.t 46, .t 48], [], none⟩,
    ⟨none, .val 50 .mov [.t 49], [], none⟩,
    ⟨(some (50, false)), .val 51 .mov [.t 3], [], none⟩,
    ⟨(some (50, false)), .val 52 (.bin .gtr) [.t 51, .k (.p (.int .i64 9600000))], [], none⟩,
    ⟨none, .val 53 .pick [.t 50, .k (.p (.bool true)), .t 52], [], none⟩]
def r45_11 : IC := (.reg o45_11 [53])
def o45_12 : List IOp := [⟨none, .val 2 .mov [.k (.p (.int .i64 370))], [], none⟩]
def r45_12 : IC := (.reg o45_12 [2])
def o45_13 : List IOp := [⟨none, .val 2 .mov [.k (.p (.int .i64 0))], [], none⟩]
def r45_13 : IC := (.reg o45_13 [2])
def b45 : IC := (.seq r45_0 (.seq (.seq r45_1 (.cond (.t 15) (.seq r45_2 .ret) .skip)) (.kp [1] (.seq r45_3 (.seq (.seq r45_4 (.block 0 (.loop l45_1))) (.seq (.seq r45_11 (.cond (.t 53) (.seq r45_12 .ret) .skip)) (.kp [] (.seq r45_13 .ret))))))))
def i45 : IFn := ⟨1, 54, b45, [.tmp 2]⟩
/- isochronref27.Right -/
def o46_0 : List IOp := [⟨none, .boxL 1 (.t 0), [], none⟩,
    ⟨none, .val 2 .mov [.k (.p (.bool false))], [], none⟩]
def r46_0 : IC := (.reg o46_0 [1])
def o46_1 : List IOp := [⟨none, .val 6 (.faddr 0) [.t 1], [], none⟩,
    ⟨none, .load 7 (.t 6) 1 false, [], none⟩,
    ⟨none, .val 8 .len [.t 7], [], none⟩,
    ⟨none, .val 9 (.bin .lss) [.t 8, .k (.p (.int .i64 1))], [], none⟩,
    ⟨none, .val 10 .mov [.t 9], [], none⟩,
    ⟨(some (10, false)), .val 11 (.faddr 0) [.t 1], [], none⟩,
    ⟨(some (10, false)), .load 12 (.t 11) 1 false, [], none⟩,
    ⟨(some (10, false)), .val 13 .len [.t 12], [], none⟩,
    ⟨(some (10, false)), .val 14 (.bin .gtr) [.t 13, .k (.p (.int .i64 128))], [], none⟩,
    ⟨none, .val 15 .pick [.t 10, .k (.p (.bool true)), .t 14], [], none⟩]
def r46_1 : IC := (.reg o46_1 [1, 15])
def o46_2 : List IOp := [⟨none, .val 2 .mov [.k (.p (.bool false))], [], none⟩]
def r46_2 : IC := (.reg o46_2 [2])
def o46_3 : List IOp := [⟨none, .val 3 .mov [.k (.p (.int .i64 0))], [], none⟩]
def r46_3 : IC := (.reg o46_3 [1, 3])
def o46_4 : List IOp := [⟨none, .val 4 .mov [.k (.p (.int .i64 0))], [], none⟩]
def r46_4 : IC := (.reg o46_4 [1, 3, 4])
def o46_5 : List IOp := [⟨none, .val 16 .mov [.t 4], [], none⟩,
    ⟨none, .val 17 (.faddr 0) [.t 1], [], none⟩,
    ⟨none, .load 18 (.t 17) 1 false, [], none⟩,
    ⟨none, .val 19 .len [.t 18], [], none⟩,
    ⟨none, .val 20 (.bin .lss) [.t 16, .t 19], [], none⟩]
def r46_5 : IC := (.reg o46_5 [1, 3, 4, 20])
def o46_7 : List IOp := [⟨none, .val 23 (.faddr 0) [.t 1], [], none⟩,
    ⟨none, .load 24 (.t 23) 1 false, [], none⟩,
    ⟨none, .val 25 .mov [.t 4], [], none⟩,
    ⟨none, .val 26 (.iaddrS 2) [.t 24, .t 25], [], none⟩,
    ⟨none, .load 27 (.t 26) 2 true, [], none⟩,
    ⟨none, .newL 5 [.p (.int .i64 0), .p (.int .i64 0)], [], none⟩,
    ⟨none, .store (.t 5) (.t 27) 2, [], none⟩]
def r46_7 : IC := (.reg o46_7 [1, 3, 4, 5])
def o46_8 : List IOp := [⟨none, .val 28 (.faddr 0) [.t 5], [], none⟩,
    ⟨none, .load 29 (.t 28) 1 false, [], none⟩,
    ⟨none, .val 30 (.bin .lss) [.t 29, .k (.p (.int .i64 0))], [], none⟩,
    ⟨none, .val 31 .mov [.t 30], [], none⟩,
    ⟨(some (31, false)), .val 32 (.faddr 0) [.t 5], [], none⟩,
    ⟨(some (31, false)), .load 33 (.t 32) 1 false, [], none⟩,
    ⟨(some (31, false)), .val 34 (.bin .gtr) [.t 33, .k (.p (.int .i64 255))], [], none⟩,
    ⟨none, .val 35 .pick [.t 31, .k (.p (.bool true)), .t 34], [], none⟩,
    ⟨none, .val 36 .mov [.t 35], [], none⟩,
    ⟨(some (36, false)), .val 37 (.faddr 1) [.t 5], [], none⟩,
    ⟨(some (36, false)), .load 38 (.t 37) 1 false, [], none⟩,
    ⟨(some (36, false)), .val 39 (.bin .lss) [.t 38, .k (.p (.int .i64 1))], [], none⟩,
    ⟨none, .val 40 .pick [.t 36, .k (.p (.bool true)), .t 39], [], none⟩,
    ⟨none, .val 41 .mov [.t 40], [], none⟩,
    ⟨(some (41, false)), .val 42 (.faddr 1) [.t 5], [], none⟩,
    ⟨(some (41, false)), .load 43 (.t 42) 1 false, [], none⟩,
    ⟨(some (41, false)), .val 44 (.bin .gtr) [.t 43, .k (.p (.int .i64 9600000))], [], none⟩,
    ⟨none, .val 45 .pick [.t 41, .k (.p (.bool true)), .t 44], [], none⟩]
def r46_8 : IC := (.reg o46_8 [1, 3, 4, 5, 45])
def o46_9 : List IOp := [⟨none, .val 2 .mov [.k (.p (.bool false))], [], none⟩]
def r46_9 : IC := (.reg o46_9 [2])
def o46_10 : List IOp := [⟨none, .val 46 .mov [.t 3], [], none⟩,
    ⟨none, .val 47 (.faddr 1) [.t 5], [], none⟩,
    ⟨none, .load 48 (.t 47) 1 false, [], none⟩,
    ⟨none, .val 49 (.bin .add) [.t 46, .t 48], [], none⟩,
    ⟨none, .val 3 .mov [.t 49], [], none⟩]
def r46_10 : IC := (.reg o46_10 [1, 3, 4])
def o46_6 : List IOp := [⟨none, .val 21 .mov [.t 4], [], none⟩,
    ⟨none, .val 22 (.bin .add) [.t 21, .k (.p (.int .i64 1))], [], none⟩,
    ⟨none, .val 4 .mov [.t 22], [], none⟩]
def r46_6 : IC := (.reg o46_6 [1, 3, 4])
def l46_1 : IC := (.seq (.seq r46_5 (.cond (.t 20) .skip (.exit 0))) (.kp [1, 3, 4] (.seq (.block 1 (.seq r46_7 (.seq (.seq r46_8 (.cond (.t 45) (.seq r46_9 .ret) .skip)) (.kp [1, 3, 4, 5] r46_10)))) (.kp [1, 3, 4] r46_6))))
def o46_11 : List IOp := [⟨none, .val 50 .mov [.t 3], [], none⟩,
    ⟨none, .val 51 (.faddr 1) [.t 1], [], none⟩,
    ⟨none, .load 52 (.t 51) 1 false, [], none⟩,
    ⟨none, .val 53 (.bin .eql) [.t 50, .t 52], [], none⟩,
    ⟨none, .val 54 .mov [.t 53], [], none⟩,
    ⟨(some (54, true)), .val 55 .mov [.t 3], [], none⟩,
    ⟨(some (54, true)), .val 56 (.bin .leq) [.t 55, .k (.p (.int .i64 9600000))], [], none⟩,
    ⟨none, .val 57 .pick [.t 54, .t 56, .k (.p (.bool false))], [], none⟩,
    ⟨none, .val 2 .mov [.t 57], [], none⟩]
def r46_11 : IC := (.reg o46_11 [2])
def b46 : IC := (.seq r46_0 (.seq (.seq r46_1 (.cond (.t 15) (.seq r46_2 .ret) .skip)) (.kp [1] (.seq r46_3 (.seq (.seq r46_4 (.block 0 (.loop l46_1))) (.seq r46_11 .ret))))))
def i46 : IFn := ⟨1, 58, b46, [.tmp 2]⟩
/- isochronref30.sum -/
def o47_0 : List IOp := [⟨none, .val 4 .mov [.k (.p (.int .i64 0))], [], none⟩]
def r47_0 : IC := (.reg o47_0 [0, 1])
def o47_1 : List IOp := [⟨none, .val 5 .mov [.k (.p (.int .i64 0))], [], none⟩]
def r47_1 : IC := (.reg o47_1 [0, 1, 5])
def o47_2 : List IOp := [⟨none, .val 6 .mov [.k (.p (.int .i64 0))], [], none⟩]
def r47_2 : IC := (.reg o47_2 [0, 1, 5, 6])
def o47_3 : List IOp := [⟨none, .val 7 .mov [.t 6], [], none⟩,
    ⟨none, .val 8 .mov [.t 0], [], none⟩,
    ⟨none, .val 9 .len [.t 8], [], none⟩,
    ⟨none, .val 10 (.bin .lss) [.t 7, .t 9], [], none⟩]
def r47_3 : IC := (.reg o47_3 [0, 1, 5, 6, 10])
def o47_5 : List IOp := [⟨none, .val 13 .mov [.t 5], [], none⟩,
    ⟨none, .val 14 .mov [.t 0], [], none⟩,
    ⟨none, .val 15 .mov [.t 6], [], none⟩,
    ⟨none, .val 16 (.iaddrS 2) [.t 14, .t 15], [1, 2], none⟩,
    ⟨none, .val 17 (.faddr 1) [.t 16], [1, 2, 3], none⟩,
    ⟨none, .load 18 (.t 17) 1 false, [1, 2, 3, 4], none⟩,
    ⟨none, .val 19 .mov [.t 0], [], none⟩,
    ⟨none, .val 20 .mov [.t 6], [], none⟩,
    ⟨none, .val 21 (.iaddrS 2) [.t 19, .t 20], [6, 7], none⟩,
    ⟨none, .val 22 (.faddr 0) [.t 21], [6, 7, 8], none⟩,
    ⟨none, .load 23 (.t 22) 1 false, [6, 7, 8, 9], none⟩,
    ⟨none, .val 24 (.bin .sub) [.t 18, .t 23], [1, 2, 3, 4, 5, 6, 7, 8, 9, 10], none⟩,
    ⟨none, .val 25 .mov [.t 1], [], none⟩,
    ⟨none, .val 26 (.bin .sub) [.t 24, .t 25], [1, 2, 3, 4, 5, 6, 7, 8, 9, 10, 11, 12], none⟩,
    ⟨none, .val 27 .max [.k (.p (.int .i64 0)), .t 26], [1, 2, 3, 4, 5, 6, 7, 8, 9, 10, 11, 12, 13], none⟩,
    ⟨none, .val 28 (.bin .add) [.t 13, .t 27], [0, 1, 2, 3, 4, 5, 6, 7, 8, 9, 10, 11, 12, 13, 14], none⟩,
    ⟨none, .val 5 .mov [.t 28], [0, 1, 2, 3, 4, 5, 6, 7, 8, 9, 10, 11, 12, 13, 14, 15], none⟩]
def r47_5 : IC := (.regD o47_5 [0, 1, 5, 6])
def o47_4 : List IOp := [⟨none, .val 11 .mov [.t 6], [], none⟩,
    ⟨none, .val 12 (.bin .add) [.t 11, .k (.p (.int .i64 1))], [], none⟩,
    ⟨none, .val 6 .mov [.t 12], [], none⟩]
def r47_4 : IC := (.reg o47_4 [0, 1, 5, 6])
def l47_1 : IC := (.seq (.seq r47_3 (.cond (.t 10) .skip (.exit 0))) (.kp [0, 1, 5, 6] (.seq (.block 1 r47_5) r47_4)))
def o47_6 : List IOp := [⟨none, .val 29 .mov [.t 5], [], none⟩,
    ⟨none, .val 4 .mov [.t 29], [], none⟩]
def r47_6 : IC := (.reg o47_6 [4])
def b47 : IC := (.seq r47_0 (.seq r47_1 (.seq (.seq r47_2 (.block 0 (.loop l47_1))) (.seq r47_6 .ret))))
def i47 : IFn := ⟨2, 30, b47, [.tmp 4]⟩
/- service.openings$1 -/
def o48_0 : List IOp := [⟨none, .val 9 (.faddr 0) [.t 1], [], none⟩,
    ⟨none, .load 10 (.t 9) 1 false, [], none⟩,
    ⟨none, .val 11 .len [.t 10], [], none⟩,
    ⟨none, .val 3 .mov [.t 11], [], none⟩]
def r48_0 : IC := (.reg o48_0 [0, 1, 3])
def o48_1 : List IOp := [⟨none, .val 4 .mov [.k (.p (.int .i64 0))], [], none⟩,
    ⟨none, .val 5 .mov [.k (.p (.int .i64 0))], [], none⟩]
def r48_1 : IC := (.reg o48_1 [0, 1, 3, 4, 5])
def o48_2 : List IOp := [⟨none, .val 12 .mov [.t 4], [], none⟩,
    ⟨none, .val 13 .mov [.t 3], [], none⟩,
    ⟨none, .val 14 (.bin .lss) [.t 12, .t 13], [], none⟩,
    ⟨none, .val 15 .mov [.t 14], [], none⟩,
    ⟨(some (15, true)), .val 16 (.faddr 0) [.t 1], [], none⟩,
    ⟨(some (15, true)), .load 17 (.t 16) 1 false, [], none⟩,
    ⟨(some (15, true)), .val 18 .mov [.t 4], [], none⟩,
    ⟨(some (15, true)), .val 19 (.iaddrS 2) [.t 17, .t 18], [], none⟩,
    ⟨(some (15, true)), .load 20 (.t 19) 2 true, [], none⟩,
    ⟨(some (15, true)), .call (some 21) 49 [.t 20], [], none⟩,
    ⟨none, .val 22 .pick [.t 15, .t 21, .k (.p (.bool false))], [], none⟩]
def r48_2 : IC := (.reg o48_2 [0, 1, 3, 4, 5, 22])
def o48_3 : List IOp := [⟨none, .val 23 .mov [.t 5], [], none⟩,
    ⟨none, .val 24 (.faddr 0) [.t 1], [], none⟩,
    ⟨none, .load 25 (.t 24) 1 false, [], none⟩,
    ⟨none, .val 26 .mov [.t 4], [], none⟩,
    ⟨none, .val 27 (.iaddrS 2) [.t 25, .t 26], [], none⟩,
    ⟨none, .val 28 (.faddr 1) [.t 27], [], none⟩,
    ⟨none, .load 29 (.t 28) 1 false, [], none⟩,
    ⟨none, .val 30 (.bin .add) [.t 23, .t 29], [], none⟩,
    ⟨none, .val 5 .mov [.t 30], [], none⟩]
def r48_3 : IC := (.reg o48_3 [0, 1, 3, 4, 5])
def o48_4 : List IOp := [⟨none, .val 31 .mov [.t 4], [], none⟩,
    ⟨none, .val 32 (.bin .add) [.t 31, .k (.p (.int .i64 1))], [], none⟩,
    ⟨none, .val 4 .mov [.t 32], [], none⟩]
def r48_4 : IC := (.reg o48_4 [0, 1, 3, 4, 5])
def l48_1 : IC := (.seq (.seq r48_2 (.cond (.t 22) .skip (.exit 0))) (.kp [0, 1, 3, 4, 5] (.block 1 (.seq r48_3 r48_4))))
def o48_5 : List IOp := [⟨none, .val 33 .mov [.t 4], [], none⟩,
    ⟨none, .val 34 .mov [.t 3], [], none⟩,
    ⟨none, .val 35 (.bin .eql) [.t 33, .t 34], [], none⟩]
def r48_5 : IC := (.reg o48_5 [0, 1, 3, 4, 5, 35])
def o48_6 : List IOp := [⟨none, .val 36 .mov [.t 5], [], none⟩,
    ⟨none, .val 37 (.faddr 0) [.t 1], [], none⟩,
    ⟨none, .load 38 (.t 37) 1 false, [], none⟩,
    ⟨none, .val 39 .mov [.t 4], [], none⟩,
    ⟨none, .val 40 (.iaddrS 2) [.t 38, .t 39], [], none⟩,
    ⟨none, .val 41 (.faddr 1) [.t 40], [], none⟩,
    ⟨none, .load 42 (.t 41) 1 false, [], none⟩,
    ⟨none, .val 43 (.bin .add) [.t 36, .t 42], [], none⟩,
    ⟨none, .val 5 .mov [.t 43], [], none⟩]
def r48_6 : IC := (.reg o48_6 [0, 1, 3, 4, 5])
def o48_7 : List IOp := [⟨none, .newL 6 [.p (.int .i64 0), .p (.int .i64 0)], [], none⟩]
def r48_7 : IC := (.reg o48_7 [0, 1, 3, 4, 5, 6])
def o48_8 : List IOp := [⟨none, .val 44 .mov [.t 3], [], none⟩,
    ⟨none, .val 45 .mov [.k (.p (.int .i64 0))], [], none⟩]
def r48_8 : IC := (.reg o48_8 [0, 1, 3, 4, 5, 6, 44, 45])
def o48_9 : List IOp := [⟨none, .val 46 (.bin .lss) [.t 45, .t 44], [], none⟩]
def r48_9 : IC := (.reg o48_9 [0, 1, 3, 4, 5, 6, 44, 45, 46])
def o48_10 : List IOp := [⟨none, .val 47 .mov [.t 45], [], none⟩,
    ⟨none, .val 7 .mov [.t 47], [], none⟩]
def r48_10 : IC := (.reg o48_10 [0, 1, 3, 4, 5, 6, 7, 44, 45])
def o48_11 : List IOp := [⟨none, .val 48 (.faddr 0) [.t 1], [], none⟩,
    ⟨none, .load 49 (.t 48) 1 false, [0], none⟩,
    ⟨none, .val 50 .mov [.t 4], [], none⟩,
    ⟨none, .val 51 (.bin .add) [.t 50, .k (.p (.int .i64 1))], [2], none⟩,
    ⟨none, .val 52 .mov [.t 7], [], none⟩,
    ⟨none, .val 53 (.bin .add) [.t 51, .t 52], [2, 3, 4], none⟩,
    ⟨none, .val 54 .mov [.t 3], [], none⟩,
    ⟨none, .val 55 (.bin .rem) [.t 53, .t 54], [2, 3, 4, 5, 6], none⟩,
    ⟨none, .val 56 (.iaddrS 2) [.t 49, .t 55], [0, 1, 2, 3, 4, 5, 6, 7], none⟩,
    ⟨none, .load 57 (.t 56) 2 true, [0, 1, 2, 3, 4, 5, 6, 7, 8], none⟩,
    ⟨none, .newL 8 [.p (.int .i64 0), .p (.int .i64 0)], [], none⟩,
    ⟨none, .store (.t 8) (.t 57) 2, [0, 1, 2, 3, 4, 5, 6, 7, 8, 9, 10], none⟩]
def r48_11 : IC := (.regD o48_11 [0, 1, 3, 4, 5, 6, 8, 44, 45])
def o48_12 : List IOp := [⟨none, .load 58 (.t 8) 2 true, [], none⟩,
    ⟨none, .call (some 59) 49 [.t 58], [], none⟩]
def r48_12 : IC := (.reg o48_12 [0, 1, 3, 4, 5, 6, 8, 44, 45, 59])
def o48_13 : List IOp := [⟨none, .val 60 (.faddr 1) [.t 6], [], none⟩,
    ⟨none, .load 61 (.t 60) 1 false, [], none⟩,
    ⟨none, .val 62 (.bin .eql) [.t 61, .k (.p (.int .i64 0))], [], none⟩]
def r48_13 : IC := (.reg o48_13 [0, 1, 3, 4, 5, 6, 8, 44, 45, 62])
def o48_14 : List IOp := [⟨none, .val 63 .mov [.t 5], [], none⟩,
    ⟨none, .val 64 (.faddr 0) [.t 6], [], none⟩,
    ⟨none, .store (.t 64) (.t 63) 1, [], none⟩]
def r48_14 : IC := (.reg o48_14 [0, 1, 3, 4, 5, 6, 8, 44, 45])
def o48_15 : List IOp := [⟨none, .val 65 (.faddr 1) [.t 6], [], none⟩,
    ⟨none, .load 66 (.t 65) 1 false, [], none⟩,
    ⟨none, .val 67 (.faddr 1) [.t 8], [], none⟩,
    ⟨none, .load 68 (.t 67) 1 false, [], none⟩,
    ⟨none, .val 69 (.bin .add) [.t 66, .t 68], [], none⟩,
    ⟨none, .val 70 (.faddr 1) [.t 6], [], none⟩,
    ⟨none, .store (.t 70) (.t 69) 1, [], none⟩]
def r48_15 : IC := (.reg o48_15 [0, 1, 3, 4, 5, 6, 8, 44, 45])
def o48_16 : List IOp := [⟨none, .val 71 .mov [.t 5], [], none⟩,
    ⟨none, .val 72 (.faddr 1) [.t 8], [], none⟩,
    ⟨none, .load 73 (.t 72) 1 false, [], none⟩,
    ⟨none, .val 74 (.bin .add) [.t 71, .t 73], [], none⟩,
    ⟨none, .val 5 .mov [.t 74], [], none⟩]
def r48_16 : IC := (.reg o48_16 [0, 1, 3, 4, 5, 6, 44, 45])
def o48_17 : List IOp := [⟨none, .val 75 .mov [.t 5], [], none⟩,
    ⟨none, .val 76 (.faddr 1) [.t 8], [], none⟩,
    ⟨none, .load 77 (.t 76) 1 false, [], none⟩,
    ⟨none, .val 78 (.bin .add) [.t 75, .t 77], [], none⟩,
    ⟨none, .val 5 .mov [.t 78], [], none⟩]
def r48_17 : IC := (.reg o48_17 [0, 1, 3, 4, 5, 6, 44, 45])
def o48_18 : List IOp := [⟨none, .val 79 (.faddr 1) [.t 6], [], none⟩,
    ⟨none, .load 80 (.t 79) 1 false, [], none⟩,
    ⟨none, .val 81 (.bin .gtr) [.t 80, .k (.p (.int .i64 0))], [], none⟩,
    ⟨none, .val 82 .mov [.t 81], [], none⟩,
    ⟨(some (82, true)), .val 83 .mov [.t 0], [], none⟩,
    ⟨(some (82, true)), .load 84 (.t 6) 2 true, [], none⟩,
    ⟨(some (82, true)), .callY (some 85) (.t 83) [.t 84], [], none⟩,
    ⟨(some (82, true)), .val 86 .not [.t 85], [], none⟩,
    ⟨none, .val 87 .pick [.t 82, .t 86, .k (.p (.bool false))], [], none⟩]
def r48_18 : IC := (.reg o48_18 [0, 1, 3, 4, 5, 6, 44, 45, 87])
def o48_19 : List IOp := [⟨none, .val 88 (.build [.p (.int .i64 0), .p (.int .i64 0)] []) [], [], none⟩,
    ⟨none, .store (.t 6) (.t 88) 2, [], none⟩]
def r48_19 : IC := (.reg o48_19 [0, 1, 3, 4, 5, 6, 44, 45])
def o48_20 : List IOp := [⟨none, .val 89 (.bin .add) [.t 45, .k (.p (.int .i64 1))], [], none⟩,
    ⟨none, .val 45 .mov [.t 89], [], none⟩]
def r48_20 : IC := (.reg o48_20 [0, 1, 3, 4, 5, 6, 44, 45])
def l48_2 : IC := (.seq r48_9 (.seq (.cond (.t 46) .skip (.exit 2)) (.kp [0, 1, 3, 4, 5, 6, 44, 45] (.seq (.block 3 (.seq r48_10 (.seq r48_11 (.seq (.seq r48_12 (.cond (.t 59) (.seq (.seq r48_13 (.cond (.t 62) r48_14 .skip)) (.kp [0, 1, 3, 4, 5, 6, 8, 44, 45] (.seq r48_15 (.seq r48_16 (.exit 3))))) .skip)) (.kp [0, 1, 3, 4, 5, 6, 8, 44, 45] (.seq r48_17 (.seq (.seq r48_18 (.cond (.t 87) .ret .skip)) (.kp [0, 1, 3, 4, 5, 6, 44, 45] r48_19)))))))) (.kp [0, 1, 3, 4, 5, 6, 44, 45] r48_20)))))
def s48 : IC := (.seq r48_0 (.seq r48_1 (.seq (.block 0 (.loop l48_1)) (.seq (.seq r48_5 (.cond (.t 35) .ret .skip)) (.kp [0, 1, 3, 4, 5] (.seq r48_6 (.seq r48_7 (.seq (.label 0) (.seq r48_8 (.block 2 (.loop l48_2)))))))))))
def b48 : IC := (.scope s48)
def i48 : IFn := ⟨2, 90, b48, []⟩
/- service.isOpen -/
def o49_0 : List IOp := [⟨none, .boxL 1 (.t 0), [], none⟩,
    ⟨none, .val 2 .mov [.k (.p (.bool false))], [], none⟩]
def r49_0 : IC := (.reg o49_0 [1])
def o49_1 : List IOp := [⟨none, .val 3 (.faddr 0) [.t 1], [], none⟩,
    ⟨none, .load 4 (.t 3) 1 false, [], none⟩,
    ⟨none, .val 5 (.sh .shr) [.t 4, .k (.p (.int .u64 6))], [], none⟩,
    ⟨none, .val 6 (.bin .and) [.t 5, .k (.p (.int .i64 1))], [], none⟩,
    ⟨none, .val 7 (.bin .eql) [.t 6, .k (.p (.int .i64 1))], [], none⟩,
    ⟨none, .val 2 .mov [.t 7], [], none⟩]
def r49_1 : IC := (.reg o49_1 [2])
def b49 : IC := (.seq r49_0 (.seq r49_1 .ret))
def i49 : IFn := ⟨1, 8, b49, [.tmp 2]⟩
/- isochronref30.Openings -/
def o50_0 : List IOp := [⟨none, .boxL 3 (.t 0), [], none⟩,
    ⟨none, .val 6 .mov [.k (.p (.sl 2 true []))], [], none⟩]
def r50_0 : IC := (.reg o50_0 [1, 2, 3])
def o50_1 : List IOp := [⟨none, .val 7 .mov [.k (.p (.sl 2 true []))], [], none⟩]
def r50_1 : IC := (.reg o50_1 [1, 2, 3, 7])
def o50_2 : List IOp := [⟨none, .val 8 .mov [.k (.p (.bool false))], [], none⟩]
def r50_2 : IC := (.reg o50_2 [1, 2, 3, 7, 8])
def o50_3 : List IOp := [⟨none, .val 14 .mov [.t 1], [], none⟩,
    ⟨none, .val 9 .mov [.t 14], [], none⟩]
def r50_3 : IC := (.reg o50_3 [2, 3, 7, 8, 9])
def o50_4 : List IOp := [⟨none, .val 15 .mov [.t 9], [], none⟩,
    ⟨none, .val 16 .mov [.t 2], [], none⟩,
    ⟨none, .val 17 (.bin .lss) [.t 15, .t 16], [], none⟩]
def r50_4 : IC := (.reg o50_4 [2, 3, 7, 8, 9, 17])
def o50_5 : List IOp := [⟨none, .load 19 (.t 3) 2 true, [], none⟩,
    ⟨none, .val 20 .mov [.t 9], [], none⟩,
    ⟨none, .call (some 21) 53 [.t 19, .t 20], [], none⟩,
    ⟨none, .val 18 .mov [.t 21], [], none⟩,
    ⟨none, .val 22 (.ext 0) [.t 18], [], none⟩,
    ⟨none, .val 23 (.ext 1) [.t 18], [], none⟩,
    ⟨none, .val 10 .mov [.t 22], [], none⟩,
    ⟨none, .val 11 .mov [.t 23], [], none⟩]
def r50_5 : IC := (.reg o50_5 [2, 3, 7, 8, 9, 10, 11])
def o50_6 : List IOp := [⟨none, .val 24 .mov [.t 9], [], none⟩,
    ⟨none, .val 25 .mov [.t 11], [], none⟩,
    ⟨none, .val 26 (.bin .sub) [.t 24, .t 25], [], none⟩,
    ⟨none, .val 27 (.faddr 0) [.t 3], [], none⟩,
    ⟨none, .load 28 (.t 27) 1 false, [], none⟩,
    ⟨none, .val 29 .mov [.t 10], [], none⟩,
    ⟨none, .val 30 (.iaddrS 2) [.t 28, .t 29], [], none⟩,
    ⟨none, .val 31 (.faddr 1) [.t 30], [], none⟩,
    ⟨none, .load 32 (.t 31) 1 false, [], none⟩,
    ⟨none, .val 33 (.bin .add) [.t 26, .t 32], [], none⟩,
    ⟨none, .val 34 .mov [.t 2], [], none⟩,
    ⟨none, .val 35 .min [.t 33, .t 34], [], none⟩,
    ⟨none, .val 12 .mov [.t 35], [], none⟩]
def r50_6 : IC := (.reg o50_6 [2, 3, 7, 8, 9, 10, 12])
def o50_7 : List IOp := [⟨none, .val 36 (.faddr 0) [.t 3], [], none⟩,
    ⟨none, .load 37 (.t 36) 1 false, [], none⟩,
    ⟨none, .val 38 .mov [.t 10], [], none⟩,
    ⟨none, .val 39 (.iaddrS 2) [.t 37, .t 38], [], none⟩,
    ⟨none, .val 40 (.faddr 0) [.t 39], [], none⟩,
    ⟨none, .load 41 (.t 40) 1 false, [], none⟩,
    ⟨none, .call (some 42) 51 [.t 41, .k (.p (.int .i64 6))], [], none⟩,
    ⟨none, .val 13 .mov [.t 42], [], none⟩]
def r50_7 : IC := (.reg o50_7 [2, 3, 7, 8, 9, 12, 13])
def o50_8 : List IOp := [⟨none, .val 43 .mov [.t 13], [], none⟩,
    ⟨none, .val 44 .mov [.t 43], [], none⟩,
    ⟨(some (44, true)), .val 45 .mov [.t 8], [], none⟩,
    ⟨none, .val 46 .pick [.t 44, .t 45, .k (.p (.bool false))], [], none⟩]
def r50_8 : IC := (.reg o50_8 [2, 3, 7, 8, 9, 12, 13, 46])
def o50_9 : List IOp := [⟨none, .val 47 .mov [.t 7], [], none⟩,
    ⟨none, .val 48 .mov [.t 7], [], none⟩,
    ⟨none, .val 49 .len [.t 48], [], none⟩,
    ⟨none, .val 50 (.bin .sub) [.t 49, .k (.p (.int .i64 1))], [], none⟩,
    ⟨none, .val 51 .mov [.t 12], [], none⟩,
    ⟨none, .val 52 (.iaddrS 2) [.t 47, .t 50], [], none⟩,
    ⟨none, .val 53 (.faddr 1) [.t 52], [], none⟩,
    ⟨none, .store (.t 53) (.t 51) 1, [], none⟩]
def r50_9 : IC := (.reg o50_9 [2, 3, 7, 8, 9, 12, 13])
def o50_10 : List IOp := [⟨none, .val 54 .mov [.t 13], [], none⟩,
    ⟨none, .val 55 .mov [.t 54], [], none⟩,
    ⟨(some (55, true)), .val 56 .mov [.t 8], [], none⟩,
    ⟨(some (55, true)), .val 57 .not [.t 56], [], none⟩,
    ⟨none, .val 58 .pick [.t 55, .t 57, .k (.p (.bool false))], [], none⟩]
def r50_10 : IC := (.reg o50_10 [2, 3, 7, 9, 12, 13, 58])
def o50_11 : List IOp := [⟨none, .val 59 .mov [.t 7], [], none⟩,
    ⟨none, .val 60 .mov [.t 9], [], none⟩,
    ⟨none, .val 61 .mov [.t 12], [], none⟩,
    ⟨none, .val 62 (.build [.p (.int .i64 0), .p (.int .i64 0)] [(0, 1), (1, 1)]) [.t 60, .t 61], [], none⟩,
    ⟨none, .litP 63 2 [.t 62], [], none⟩,
    ⟨none, .app 64 (.t 59) (.t 63) 2 16, [], none⟩,
    ⟨none, .val 7 .mov [.t 64], [], none⟩]
def r50_11 : IC := (.reg o50_11 [2, 3, 7, 12, 13])
def o50_12 : List IOp := [⟨none, .val 65 .mov [.t 13], [], none⟩,
    ⟨none, .val 8 .mov [.t 65], [], none⟩]
def r50_12 : IC := (.reg o50_12 [2, 3, 7, 8, 12])
def o50_13 : List IOp := [⟨none, .val 66 .mov [.t 12], [], none⟩,
    ⟨none, .val 9 .mov [.t 66], [], none⟩]
def r50_13 : IC := (.reg o50_13 [2, 3, 7, 8, 9])
def l50_1 : IC := (.seq (.seq r50_4 (.cond (.t 17) .skip (.exit 0))) (.kp [2, 3, 7, 8, 9] (.block 1 (.seq r50_5 (.seq r50_6 (.seq r50_7 (.seq (.seq r50_8 (.cond (.t 46) r50_9 .skip)) (.kp [2, 3, 7, 8, 9, 12, 13] (.seq (.seq r50_10 (.cond (.t 58) r50_11 .skip)) (.kp [2, 3, 7, 12, 13] (.seq r50_12 r50_13)))))))))))
def o50_14 : List IOp := [⟨none, .val 67 .mov [.t 7], [], none⟩,
    ⟨none, .val 6 .mov [.t 67], [], none⟩]
def r50_14 : IC := (.reg o50_14 [6])
def b50 : IC := (.seq r50_0 (.seq r50_1 (.seq r50_2 (.seq (.seq r50_3 (.block 0 (.loop l50_1))) (.seq r50_14 .ret)))))
def i50 : IFn := ⟨3, 68, b50, [.tmp 6]⟩
/- isochronref27.Bit -/
def o51_0 : List IOp := [⟨none, .val 4 .mov [.k (.p (.bool false))], [], none⟩]
def r51_0 : IC := (.reg o51_0 [0, 1])
def o51_1 : List IOp := [⟨none, .val 5 .mov [.t 0], [], none⟩,
    ⟨none, .val 6 .mov [.t 1], [], none⟩,
    ⟨none, .val 7 (.conv .u64) [.t 6], [], none⟩,
    ⟨none, .val 8 (.sh .shr) [.t 5, .t 7], [], none⟩,
    ⟨none, .val 9 (.bin .rem) [.t 8, .k (.p (.int .i64 2))], [], none⟩,
    ⟨none, .val 10 (.bin .eql) [.t 9, .k (.p (.int .i64 1))], [], none⟩,
    ⟨none, .val 4 .mov [.t 10], [], none⟩]
def r51_1 : IC := (.reg o51_1 [4])
def b51 : IC := (.seq r51_0 (.seq r51_1 .ret))
def i51 : IFn := ⟨2, 11, b51, [.tmp 4]⟩
/- gates.open$1 -/
def o52_0 : List IOp := [⟨none, .val 3 .mov [.k (.p (.bool false))], [], none⟩]
def r52_0 : IC := (.reg o52_0 [0, 1])
def o52_1 : List IOp := [⟨none, .val 4 .mov [.t 0], [], none⟩,
    ⟨none, .load 5 (.t 1) 1 false, [], none⟩,
    ⟨none, .val 6 (.sh .shr) [.t 4, .t 5], [], none⟩,
    ⟨none, .val 7 (.bin .and) [.t 6, .k (.p (.int .i64 1))], [], none⟩,
    ⟨none, .val 8 (.bin .eql) [.t 7, .k (.p (.int .i64 1))], [], none⟩,
    ⟨none, .val 3 .mov [.t 8], [], none⟩]
def r52_1 : IC := (.reg o52_1 [3])
def b52 : IC := (.seq r52_0 (.seq r52_1 .ret))
def i52 : IFn := ⟨2, 9, b52, [.tmp 3]⟩
/- isochronref27.At -/
def o53_0 : List IOp := [⟨none, .boxL 2 (.t 0), [], none⟩,
    ⟨none, .val 4 .mov [.k (.p (.int .i64 0))], [], none⟩,
    ⟨none, .val 5 .mov [.k (.p (.int .i64 0))], [], none⟩]
def r53_0 : IC := (.reg o53_0 [1, 2])
def o53_1 : List IOp := [⟨none, .val 8 .mov [.t 1], [], none⟩,
    ⟨none, .val 9 (.faddr 1) [.t 2], [], none⟩,
    ⟨none, .load 10 (.t 9) 1 false, [], none⟩,
    ⟨none, .val 11 (.bin .rem) [.t 8, .t 10], [], none⟩,
    ⟨none, .val 6 .mov [.t 11], [], none⟩]
def r53_1 : IC := (.reg o53_1 [2, 6])
def o53_2 : List IOp := [⟨none, .val 12 .mov [.t 6], [], none⟩,
    ⟨none, .val 13 (.bin .lss) [.t 12, .k (.p (.int .i64 0))], [], none⟩]
def r53_2 : IC := (.reg o53_2 [2, 6, 13])
def o53_3 : List IOp := [⟨none, .val 14 .mov [.t 6], [], none⟩,
    ⟨none, .val 15 (.faddr 1) [.t 2], [], none⟩,
    ⟨none, .load 16 (.t 15) 1 false, [], none⟩,
    ⟨none, .val 17 (.bin .add) [.t 14, .t 16], [], none⟩,
    ⟨none, .val 6 .mov [.t 17], [], none⟩]
def r53_3 : IC := (.reg o53_3 [2, 6])
def o53_4 : List IOp := [⟨none, .val 7 .mov [.k (.p (.int .i64 0))], [], none⟩]
def r53_4 : IC := (.reg o53_4 [2, 6, 7])
def o53_5 : List IOp := [⟨none, .val 18 .mov [.t 6], [], none⟩,
    ⟨none, .val 19 (.faddr 0) [.t 2], [], none⟩,
    ⟨none, .load 20 (.t 19) 1 false, [], none⟩,
    ⟨none, .val 21 .mov [.t 7], [], none⟩,
    ⟨none, .val 22 (.iaddrS 2) [.t 20, .t 21], [], none⟩,
    ⟨none, .val 23 (.faddr 1) [.t 22], [], none⟩,
    ⟨none, .load 24 (.t 23) 1 false, [], none⟩,
    ⟨none, .val 25 (.bin .geq) [.t 18, .t 24], [], none⟩]
def r53_5 : IC := (.reg o53_5 [2, 6, 7, 25])
def o53_6 : List IOp := [⟨none, .val 26 .mov [.t 6], [], none⟩,
    ⟨none, .val 27 (.faddr 0) [.t 2], [], none⟩,
    ⟨none, .load 28 (.t 27) 1 false, [], none⟩,
    ⟨none, .val 29 .mov [.t 7], [], none⟩,
    ⟨none, .val 30 (.iaddrS 2) [.t 28, .t 29], [], none⟩,
    ⟨none, .val 31 (.faddr 1) [.t 30], [], none⟩,
    ⟨none, .load 32 (.t 31) 1 false, [], none⟩,
    ⟨none, .val 33 (.bin .sub) [.t 26, .t 32], [], none⟩,
    ⟨none, .val 6 .mov [.t 33], [], none⟩]
def r53_6 : IC := (.reg o53_6 [2, 6, 7])
def o53_7 : List IOp := [⟨none, .val 34 .mov [.t 7], [], none⟩,
    ⟨none, .val 35 (.bin .add) [.t 34, .k (.p (.int .i64 1))], [], none⟩,
    ⟨none, .val 7 .mov [.t 35], [], none⟩]
def r53_7 : IC := (.reg o53_7 [2, 6, 7])
def l53_1 : IC := (.seq (.seq r53_5 (.cond (.t 25) .skip (.exit 0))) (.kp [2, 6, 7] (.block 1 (.seq r53_6 r53_7))))
def o53_8 : List IOp := [⟨none, .val 36 .mov [.t 7], [], none⟩,
    ⟨none, .val 37 .mov [.t 6], [], none⟩,
    ⟨none, .val 4 .mov [.t 36], [], none⟩,
    ⟨none, .val 5 .mov [.t 37], [], none⟩]
def r53_8 : IC := (.reg o53_8 [4, 5])
def b53 : IC := (.seq r53_0 (.seq r53_1 (.seq (.seq r53_2 (.cond (.t 13) r53_3 .skip)) (.kp [2, 6] (.seq r53_4 (.seq (.block 0 (.loop l53_1)) (.seq r53_8 .ret)))))))
def i53 : IFn := ⟨2, 38, b53, [.tmp 4, .tmp 5]⟩
end Go.Eng
