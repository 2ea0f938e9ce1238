/- The machine's form of the functions of this seat; written by gen.py, checked by Lean ('chk..'). -/
import Derived.Test.YtpadgoejolfllaaE16
import Derived.Test.YtpadgoejolfllaaProg
import Derived.KernelRfl
namespace Go.Eng
open Go Go.Proofs
set_option maxRecDepth 100000
set_option linter.unusedVariables false
set_option linter.unusedSimpArgs false
/- isochronlaw29.SwapChecks -/
def o3_0 : List IOp := [⟨none, .boxL 3 (.t 0), [], none⟩,
    ⟨none, .boxL 4 (.t 1), [], none⟩,
    ⟨none, .val 6 .mov [.k (.p (.bool false))], [], none⟩]
def r3_0 : IC := (.reg o3_0 [2, 3, 4])
def o3_1 : List IOp := [⟨none, .load 20 (.t 3) 7 true, [], none⟩,
    ⟨none, .call (some 21) 9 [.t 20], [], none⟩,
    ⟨none, .newL 7 [.p (.sl 2 true []), .p (.int .i64 0), .p (.int .i64 0), .p (.bool false), .p (.sl 2 true []), .p (.int .i64 0), .p (.int .i64 0)], [], none⟩,
    ⟨none, .store (.t 7) (.t 21) 7, [], none⟩]
def r3_1 : IC := (.reg o3_1 [2, 4, 7])
def o3_2 : List IOp := [⟨none, .loadL 22 (.t 7) 7 true, [], none⟩,
    ⟨none, .loadL 23 (.t 4) 4 true, [], none⟩,
    ⟨none, .loadL 24 (.t 7) 7 true, [], none⟩,
    ⟨none, .callP 25 10 [.t 23, .t 24], [1, 2], none⟩,
    ⟨none, .val 26 (.build [.p (.sl 2 true []), .p (.int .i64 0), .p (.int .i64 0), .p (.bool false), .p (.sl 2 true []), .p (.int .i64 0), .p (.int .i64 0), .p (.sl 2 true []), .p (.int .i64 0), .p (.int .i64 0), .p (.bool false), .p (.sl 2 true []), .p (.int .i64 0), .p (.int .i64 0)] [(0, 7), (7, 7)]) [.t 22, .t 25], [0, 1, 2, 3], none⟩,
    ⟨none, .val 27 .mov [.k (.p (.int .i64 0))], [], none⟩]
def r3_2 : IC := (.regD o3_2 [2, 7, 26, 27])
def o3_3 : List IOp := [⟨none, .val 28 (.bin .lss) [.t 27, .k (.p (.int .i64 2))], [], none⟩]
def r3_3 : IC := (.reg o3_3 [2, 7, 26, 27, 28])
def o3_4 : List IOp := [⟨none, .val 29 (.idx 2 7 true) [.t 26, .t 27], [], none⟩,
    ⟨none, .newL 9 [.p (.sl 2 true []), .p (.int .i64 0), .p (.int .i64 0), .p (.bool false), .p (.sl 2 true []), .p (.int .i64 0), .p (.int .i64 0)], [], none⟩,
    ⟨none, .store (.t 9) (.t 29) 7, [], none⟩]
def r3_4 : IC := (.reg o3_4 [2, 7, 9, 26, 27])
def o3_5 : List IOp := [⟨none, .loadL 30 (.t 9) 7 true, [], none⟩,
    ⟨none, .callP 31 11 [.t 30], [0], none⟩,
    ⟨none, .loadL 32 (.t 9) 7 true, [], none⟩,
    ⟨none, .callP 33 12 [.t 32], [0, 1, 2], none⟩,
    ⟨none, .val 34 (.bin .neq) [.t 31, .t 33], [0, 1, 2, 3], none⟩]
def r3_5 : IC := (.regD o3_5 [2, 7, 9, 26, 27, 34])
def o3_6 : List IOp := [⟨none, .val 6 .mov [.k (.p (.bool false))], [], none⟩]
def r3_6 : IC := (.reg o3_6 [6])
def o3_7 : List IOp := [⟨none, .val 35 .mov [.t 2], [], none⟩,
    ⟨none, .val 36 .mov [.t 2], [], none⟩,
    ⟨none, .val 37 (.bin .rem) [.t 36, .k (.p (.int .i64 2000))], [], none⟩,
    ⟨none, .val 38 (.faddr 6) [.t 7], [], none⟩,
    ⟨none, .load 39 (.t 38) 1 false, [], none⟩,
    ⟨none, .val 40 .mov [.t 2], [], none⟩,
    ⟨none, .val 41 (.bin .rem) [.t 40, .k (.p (.int .i64 5))], [], none⟩,
    ⟨none, .val 42 (.bin .add) [.t 39, .t 41], [], none⟩,
    ⟨none, .val 43 (.build [.p (.int .i64 0), .p (.int .i64 0), .p (.int .i64 0)] [(0, 1), (1, 1), (2, 1)]) [.t 35, .t 37, .t 42], [], none⟩,
    ⟨none, .val 44 .mov [.k (.p (.int .i64 0))], [], none⟩]
def r3_7 : IC := (.reg o3_7 [2, 7, 9, 26, 27, 43, 44])
def o3_8 : List IOp := [⟨none, .val 45 (.bin .lss) [.t 44, .k (.p (.int .i64 3))], [], none⟩]
def r3_8 : IC := (.reg o3_8 [2, 7, 9, 26, 27, 43, 44, 45])
def o3_9 : List IOp := [⟨none, .val 46 (.idx 3 1 false) [.t 43, .t 44], [], none⟩,
    ⟨none, .val 11 .mov [.t 46], [], none⟩]
def r3_9 : IC := (.reg o3_9 [2, 7, 9, 11, 26, 27, 43, 44])
def o3_10 : List IOp := [⟨none, .load 48 (.t 9) 7 true, [], none⟩,
    ⟨none, .val 49 .mov [.t 11], [], none⟩,
    ⟨none, .call (some 50) 13 [.t 48, .t 49], [], none⟩,
    ⟨none, .val 47 .mov [.t 50], [], none⟩,
    ⟨none, .val 51 (.ext 0) [.t 47], [], none⟩,
    ⟨none, .val 52 (.ext 1) [.t 47], [], none⟩,
    ⟨none, .val 12 .mov [.t 51], [], none⟩,
    ⟨none, .val 13 .mov [.t 52], [], none⟩]
def r3_10 : IC := (.reg o3_10 [2, 7, 9, 11, 12, 13, 26, 27, 43, 44])
def o3_11 : List IOp := [⟨none, .load 54 (.t 9) 7 true, [], none⟩,
    ⟨none, .val 55 .mov [.t 11], [], none⟩,
    ⟨none, .call (some 56) 14 [.t 54, .t 55], [], none⟩,
    ⟨none, .val 53 .mov [.t 56], [], none⟩,
    ⟨none, .val 57 (.ext 0) [.t 53], [], none⟩,
    ⟨none, .val 58 (.ext 1) [.t 53], [], none⟩,
    ⟨none, .val 14 .mov [.t 57], [], none⟩,
    ⟨none, .val 15 .mov [.t 58], [], none⟩]
def r3_11 : IC := (.reg o3_11 [2, 7, 9, 11, 12, 13, 14, 15, 26, 27, 43, 44])
def o3_12 : List IOp := [⟨none, .val 60 (.faddr 0) [.t 9], [], none⟩,
    ⟨none, .load 61 (.t 60) 2 true, [], none⟩,
    ⟨none, .val 62 .mov [.t 11], [], none⟩,
    ⟨none, .call (some 63) 15 [.t 61, .t 62], [], none⟩,
    ⟨none, .val 59 .mov [.t 63], [], none⟩,
    ⟨none, .val 64 (.ext 0) [.t 59], [], none⟩,
    ⟨none, .val 65 (.ext 1) [.t 59], [], none⟩,
    ⟨none, .newL 16 [.p (.sl 2 true []), .p (.int .i64 0), .p (.int .i64 0), .p (.bool false), .p (.sl 2 true []), .p (.int .i64 0), .p (.int .i64 0)], [], none⟩,
    ⟨none, .store (.t 16) (.t 64) 7, [], none⟩,
    ⟨none, .val 17 .mov [.t 65], [], none⟩]
def r3_12 : IC := (.reg o3_12 [2, 7, 9, 11, 12, 13, 14, 15, 16, 17, 26, 27, 43, 44])
def o3_13 : List IOp := [⟨none, .val 67 (.faddr 0) [.t 9], [], none⟩,
    ⟨none, .load 68 (.t 67) 2 true, [], none⟩,
    ⟨none, .val 69 .mov [.t 11], [], none⟩,
    ⟨none, .call (some 70) 16 [.t 68, .t 69], [], none⟩,
    ⟨none, .val 66 .mov [.t 70], [], none⟩,
    ⟨none, .val 71 (.ext 0) [.t 66], [], none⟩,
    ⟨none, .val 72 (.ext 1) [.t 66], [], none⟩,
    ⟨none, .newL 18 [.p (.sl 2 true []), .p (.int .i64 0), .p (.int .i64 0), .p (.bool false), .p (.sl 2 true []), .p (.int .i64 0), .p (.int .i64 0)], [], none⟩,
    ⟨none, .store (.t 18) (.t 71) 7, [], none⟩,
    ⟨none, .val 19 .mov [.t 72], [], none⟩]
def r3_13 : IC := (.reg o3_13 [2, 7, 9, 12, 13, 14, 15, 16, 17, 18, 19, 26, 27, 43, 44])
def o3_14 : List IOp := [⟨none, .val 73 .mov [.t 12], [], none⟩,
    ⟨none, .val 74 .mov [.t 14], [], none⟩,
    ⟨none, .val 75 (.bin .neq) [.t 73, .t 74], [], none⟩,
    ⟨none, .val 76 .mov [.t 75], [], none⟩,
    ⟨(some (76, false)), .val 77 .mov [.t 13], [], none⟩,
    ⟨(some (76, false)), .val 78 .mov [.t 15], [], none⟩,
    ⟨(some (76, false)), .val 79 (.bin .neq) [.t 77, .t 78], [], none⟩,
    ⟨none, .val 80 .pick [.t 76, .k (.p (.bool true)), .t 79], [], none⟩,
    ⟨none, .val 81 .mov [.t 80], [], none⟩,
    ⟨(some (81, false)), .val 82 .mov [.t 17], [], none⟩,
    ⟨(some (81, false)), .val 83 .mov [.t 19], [], none⟩,
    ⟨(some (81, false)), .val 84 (.bin .neq) [.t 82, .t 83], [], none⟩,
    ⟨none, .val 85 .pick [.t 81, .k (.p (.bool true)), .t 84], [], none⟩,
    ⟨none, .val 86 .mov [.t 85], [], none⟩,
    ⟨(some (86, false)), .load 87 (.t 16) 7 true, [], none⟩,
    ⟨(some (86, false)), .load 88 (.t 18) 7 true, [], none⟩,
    ⟨(some (86, false)), .call (some 89) 17 [.t 87, .t 88], [], none⟩,
    ⟨(some (86, false)), .val 90 .not [.t 89], [], none⟩,
    ⟨none, .val 91 .pick [.t 86, .k (.p (.bool true)), .t 90], [], none⟩]
def r3_14 : IC := (.reg o3_14 [2, 7, 9, 26, 27, 43, 44, 91])
def o3_15 : List IOp := [⟨none, .val 6 .mov [.k (.p (.bool false))], [], none⟩]
def r3_15 : IC := (.reg o3_15 [6])
def o3_16 : List IOp := [⟨none, .val 92 (.bin .add) [.t 44, .k (.p (.int .i64 1))], [], none⟩,
    ⟨none, .val 44 .mov [.t 92], [], none⟩]
def r3_16 : IC := (.reg o3_16 [2, 7, 9, 26, 27, 43, 44])
def l3_2 : IC := (.seq r3_8 (.seq (.cond (.t 45) .skip (.exit 2)) (.kp [2, 7, 9, 26, 27, 43, 44] (.seq (.block 3 (.seq r3_9 (.seq r3_10 (.seq r3_11 (.seq r3_12 (.seq r3_13 (.seq r3_14 (.cond (.t 91) (.seq r3_15 .ret) .skip)))))))) (.kp [2, 7, 9, 26, 27, 43, 44] r3_16)))))
def o3_17 : List IOp := [⟨none, .val 93 (.bin .add) [.t 27, .k (.p (.int .i64 1))], [], none⟩,
    ⟨none, .val 27 .mov [.t 93], [], none⟩]
def r3_17 : IC := (.reg o3_17 [2, 7, 26, 27])
def l3_1 : IC := (.seq r3_3 (.seq (.cond (.t 28) .skip (.exit 0)) (.kp [2, 7, 26, 27] (.seq (.block 1 (.seq r3_4 (.seq (.seq r3_5 (.cond (.t 34) (.seq r3_6 .ret) .skip)) (.kp [2, 7, 9, 26, 27] (.seq r3_7 (.block 2 (.loop l3_2))))))) (.kp [2, 7, 26, 27] r3_17)))))
def o3_18 : List IOp := [⟨none, .call (some 94) 18 [], [], none⟩,
    ⟨none, .val 6 .mov [.t 94], [], none⟩]
def r3_18 : IC := (.reg o3_18 [6])
def b3 : IC := (.seq r3_0 (.seq r3_1 (.seq (.seq r3_2 (.block 0 (.loop l3_1))) (.seq r3_18 .ret))))
def i3 : IFn := ⟨3, 95, b3, [.tmp 6]⟩
/- isochronlaw29.SwapSets -/
def o4_0 : List IOp := [⟨none, .boxL 5 (.t 0), [], none⟩,
    ⟨none, .boxL 6 (.t 1), [], none⟩,
    ⟨none, .boxL 7 (.t 2), [], none⟩,
    ⟨none, .val 10 .mov [.k (.p (.bool false))], [], none⟩]
def r4_0 : IC := (.reg o4_0 [3, 4, 5, 6, 7])
def o4_1 : List IOp := [⟨none, .load 22 (.t 5) 7 true, [], none⟩,
    ⟨none, .call (some 23) 9 [.t 22], [], none⟩,
    ⟨none, .newL 11 [.p (.sl 2 true []), .p (.int .i64 0), .p (.int .i64 0), .p (.bool false), .p (.sl 2 true []), .p (.int .i64 0), .p (.int .i64 0)], [], none⟩,
    ⟨none, .store (.t 11) (.t 23) 7, [], none⟩]
def r4_1 : IC := (.reg o4_1 [3, 4, 6, 7, 11])
def o4_2 : List IOp := [⟨none, .loadL 24 (.t 11) 7 true, [], none⟩,
    ⟨none, .loadL 25 (.t 6) 4 true, [], none⟩,
    ⟨none, .loadL 26 (.t 11) 7 true, [], none⟩,
    ⟨none, .callP 27 10 [.t 25, .t 26], [1, 2], none⟩,
    ⟨none, .val 28 (.build [.p (.sl 2 true []), .p (.int .i64 0), .p (.int .i64 0), .p (.bool false), .p (.sl 2 true []), .p (.int .i64 0), .p (.int .i64 0), .p (.sl 2 true []), .p (.int .i64 0), .p (.int .i64 0), .p (.bool false), .p (.sl 2 true []), .p (.int .i64 0), .p (.int .i64 0)] [(0, 7), (7, 7)]) [.t 24, .t 27], [0, 1, 2, 3], none⟩,
    ⟨none, .val 29 .mov [.k (.p (.int .i64 0))], [], none⟩]
def r4_2 : IC := (.regD o4_2 [3, 4, 6, 7, 11, 28, 29])
def o4_3 : List IOp := [⟨none, .val 30 (.bin .lss) [.t 29, .k (.p (.int .i64 2))], [], none⟩]
def r4_3 : IC := (.reg o4_3 [3, 4, 6, 7, 11, 28, 29, 30])
def o4_4 : List IOp := [⟨none, .val 31 (.idx 2 7 true) [.t 28, .t 29], [], none⟩,
    ⟨none, .newL 13 [.p (.sl 2 true []), .p (.int .i64 0), .p (.int .i64 0), .p (.bool false), .p (.sl 2 true []), .p (.int .i64 0), .p (.int .i64 0)], [], none⟩,
    ⟨none, .store (.t 13) (.t 31) 7, [], none⟩]
def r4_4 : IC := (.reg o4_4 [3, 4, 6, 7, 11, 13, 28, 29])
def o4_5 : List IOp := [⟨none, .val 32 .mov [.t 3], [], none⟩,
    ⟨none, .val 33 .mov [.t 4], [], none⟩,
    ⟨none, .val 34 (.build [.p (.int .i64 0), .p (.int .i64 0)] [(0, 1), (1, 1)]) [.t 32, .t 33], [], none⟩,
    ⟨none, .val 35 .mov [.t 3], [], none⟩,
    ⟨none, .val 36 (.bin .rem) [.t 35, .k (.p (.int .i64 3000))], [], none⟩,
    ⟨none, .val 37 .mov [.t 4], [], none⟩,
    ⟨none, .val 38 (.bin .rem) [.t 37, .k (.p (.int .i64 3000))], [], none⟩,
    ⟨none, .val 39 (.build [.p (.int .i64 0), .p (.int .i64 0)] [(0, 1), (1, 1)]) [.t 36, .t 38], [], none⟩,
    ⟨none, .val 40 (.faddr 6) [.t 11], [], none⟩,
    ⟨none, .load 41 (.t 40) 1 false, [], none⟩,
    ⟨none, .val 42 .mov [.t 3], [], none⟩,
    ⟨none, .val 43 (.bin .rem) [.t 42, .k (.p (.int .i64 3))], [], none⟩,
    ⟨none, .val 44 (.bin .add) [.t 41, .t 43], [], none⟩,
    ⟨none, .val 45 .mov [.t 4], [], none⟩,
    ⟨none, .val 46 (.bin .rem) [.t 45, .k (.p (.int .i64 3000))], [], none⟩,
    ⟨none, .val 47 (.build [.p (.int .i64 0), .p (.int .i64 0)] [(0, 1), (1, 1)]) [.t 44, .t 46], [], none⟩,
    ⟨none, .val 48 (.build [.p (.int .i64 0), .p (.int .i64 0), .p (.int .i64 0), .p (.int .i64 0), .p (.int .i64 0), .p (.int .i64 0)] [(0, 2), (2, 2), (4, 2)]) [.t 34, .t 39, .t 47], [], none⟩,
    ⟨none, .val 49 .mov [.k (.p (.int .i64 0))], [], none⟩]
def r4_5 : IC := (.reg o4_5 [3, 4, 6, 7, 11, 13, 28, 29, 48, 49])
def o4_6 : List IOp := [⟨none, .val 50 (.bin .lss) [.t 49, .k (.p (.int .i64 3))], [], none⟩]
def r4_6 : IC := (.reg o4_6 [3, 4, 6, 7, 11, 13, 28, 29, 48, 49, 50])
def o4_7 : List IOp := [⟨none, .val 51 (.idx 3 2 true) [.t 48, .t 49], [], none⟩,
    ⟨none, .newL 15 [.p (.int .i64 0), .p (.int .i64 0)], [], none⟩,
    ⟨none, .store (.t 15) (.t 51) 2, [], none⟩]
def r4_7 : IC := (.reg o4_7 [3, 4, 6, 7, 11, 13, 15, 28, 29, 48, 49])
def o4_8 : List IOp := [⟨none, .load 53 (.t 13) 7 true, [], none⟩,
    ⟨none, .val 54 (.iaddr 2 1) [.t 15, .k (.p (.int .i64 0))], [], none⟩,
    ⟨none, .load 55 (.t 54) 1 false, [], none⟩,
    ⟨none, .call (some 56) 19 [.t 53, .t 55], [], none⟩,
    ⟨none, .val 52 .mov [.t 56], [], none⟩,
    ⟨none, .val 57 (.ext 0) [.t 52], [], none⟩,
    ⟨none, .val 58 (.ext 1) [.t 52], [], none⟩,
    ⟨none, .newL 16 [.p (.sl 2 true []), .p (.int .i64 0), .p (.int .i64 0), .p (.bool false), .p (.sl 2 true []), .p (.int .i64 0), .p (.int .i64 0)], [], none⟩,
    ⟨none, .store (.t 16) (.t 57) 7, [], none⟩,
    ⟨none, .val 17 .mov [.t 58], [], none⟩]
def r4_8 : IC := (.reg o4_8 [3, 4, 6, 7, 11, 13, 15, 16, 17, 28, 29, 48, 49])
def o4_9 : List IOp := [⟨none, .load 60 (.t 13) 7 true, [], none⟩,
    ⟨none, .val 61 (.iaddr 2 1) [.t 15, .k (.p (.int .i64 0))], [], none⟩,
    ⟨none, .load 62 (.t 61) 1 false, [], none⟩,
    ⟨none, .call (some 63) 20 [.t 60, .t 62], [], none⟩,
    ⟨none, .val 59 .mov [.t 63], [], none⟩,
    ⟨none, .val 64 (.ext 0) [.t 59], [], none⟩,
    ⟨none, .val 65 (.ext 1) [.t 59], [], none⟩,
    ⟨none, .newL 18 [.p (.sl 2 true []), .p (.int .i64 0), .p (.int .i64 0), .p (.bool false), .p (.sl 2 true []), .p (.int .i64 0), .p (.int .i64 0)], [], none⟩,
    ⟨none, .store (.t 18) (.t 64) 7, [], none⟩,
    ⟨none, .val 19 .mov [.t 65], [], none⟩]
def r4_9 : IC := (.reg o4_9 [3, 4, 6, 7, 11, 13, 15, 16, 17, 18, 19, 28, 29, 48, 49])
def o4_10 : List IOp := [⟨none, .val 66 .mov [.t 17], [], none⟩,
    ⟨none, .val 67 .mov [.t 19], [], none⟩,
    ⟨none, .val 68 (.bin .neq) [.t 66, .t 67], [], none⟩,
    ⟨none, .val 69 .mov [.t 68], [], none⟩,
    ⟨(some (69, false)), .load 70 (.t 16) 7 true, [], none⟩,
    ⟨(some (69, false)), .load 71 (.t 18) 7 true, [], none⟩,
    ⟨(some (69, false)), .call (some 72) 17 [.t 70, .t 71], [], none⟩,
    ⟨(some (69, false)), .val 73 .not [.t 72], [], none⟩,
    ⟨none, .val 74 .pick [.t 69, .k (.p (.bool true)), .t 73], [], none⟩]
def r4_10 : IC := (.reg o4_10 [3, 4, 6, 7, 11, 13, 15, 16, 18, 28, 29, 48, 49, 74])
def o4_11 : List IOp := [⟨none, .val 10 .mov [.k (.p (.bool false))], [], none⟩]
def r4_11 : IC := (.reg o4_11 [10])
def o4_12 : List IOp := [⟨none, .loadL 75 (.t 7) 2 true, [], none⟩,
    ⟨none, .callP 76 21 [.t 75], [0], none⟩,
    ⟨none, .loadL 77 (.t 6) 4 true, [], none⟩,
    ⟨none, .loadL 78 (.t 11) 7 true, [], none⟩,
    ⟨none, .callP 79 10 [.t 77, .t 78], [0, 1, 2, 3], none⟩,
    ⟨none, .val 80 (.fld 4 2 true) [.t 79], [0, 1, 2, 3, 4], none⟩,
    ⟨none, .val 81 (.build [.p (.sl 2 true []), .p (.int .i64 0), .p (.sl 2 true []), .p (.int .i64 0)] [(0, 2), (2, 2)]) [.t 76, .t 80], [0, 1, 2, 3, 4, 5], none⟩,
    ⟨none, .val 82 .mov [.k (.p (.int .i64 0))], [], none⟩]
def r4_12 : IC := (.regD o4_12 [3, 4, 6, 7, 11, 13, 15, 16, 18, 28, 29, 48, 49, 81, 82])
def o4_13 : List IOp := [⟨none, .val 83 (.bin .lss) [.t 82, .k (.p (.int .i64 2))], [], none⟩]
def r4_13 : IC := (.reg o4_13 [3, 4, 6, 7, 11, 13, 15, 16, 18, 28, 29, 48, 49, 81, 82, 83])
def o4_14 : List IOp := [⟨none, .val 84 (.idx 2 2 true) [.t 81, .t 82], [], none⟩,
    ⟨none, .newL 21 [.p (.sl 2 true []), .p (.int .i64 0)], [], none⟩,
    ⟨none, .store (.t 21) (.t 84) 2, [], none⟩]
def r4_14 : IC := (.reg o4_14 [3, 4, 6, 7, 11, 13, 15, 16, 18, 21, 28, 29, 48, 49, 81, 82])
def o4_15 : List IOp := [⟨none, .load 86 (.t 13) 7 true, [], none⟩,
    ⟨none, .val 87 (.iaddr 2 1) [.t 15, .k (.p (.int .i64 0))], [], none⟩,
    ⟨none, .load 88 (.t 87) 1 false, [], none⟩,
    ⟨none, .load 89 (.t 21) 2 true, [], none⟩,
    ⟨none, .val 90 (.iaddr 2 1) [.t 15, .k (.p (.int .i64 1))], [], none⟩,
    ⟨none, .load 91 (.t 90) 1 false, [], none⟩,
    ⟨none, .call (some 92) 22 [.t 86, .t 88, .t 89, .t 91], [], none⟩,
    ⟨none, .val 85 .mov [.t 92], [], none⟩,
    ⟨none, .val 93 (.ext 0) [.t 85], [], none⟩,
    ⟨none, .val 94 (.ext 1) [.t 85], [], none⟩,
    ⟨none, .store (.t 16) (.t 93) 7, [], none⟩,
    ⟨none, .val 17 .mov [.t 94], [], none⟩]
def r4_15 : IC := (.reg o4_15 [3, 4, 6, 7, 11, 13, 15, 16, 17, 18, 21, 28, 29, 48, 49, 81, 82])
def o4_16 : List IOp := [⟨none, .load 96 (.t 13) 7 true, [], none⟩,
    ⟨none, .val 97 (.iaddr 2 1) [.t 15, .k (.p (.int .i64 0))], [], none⟩,
    ⟨none, .load 98 (.t 97) 1 false, [], none⟩,
    ⟨none, .load 99 (.t 21) 2 true, [], none⟩,
    ⟨none, .val 100 (.iaddr 2 1) [.t 15, .k (.p (.int .i64 1))], [], none⟩,
    ⟨none, .load 101 (.t 100) 1 false, [], none⟩,
    ⟨none, .call (some 102) 23 [.t 96, .t 98, .t 99, .t 101], [], none⟩,
    ⟨none, .val 95 .mov [.t 102], [], none⟩,
    ⟨none, .val 103 (.ext 0) [.t 95], [], none⟩,
    ⟨none, .val 104 (.ext 1) [.t 95], [], none⟩,
    ⟨none, .store (.t 18) (.t 103) 7, [], none⟩,
    ⟨none, .val 19 .mov [.t 104], [], none⟩]
def r4_16 : IC := (.reg o4_16 [3, 4, 6, 7, 11, 13, 15, 16, 17, 18, 19, 28, 29, 48, 49, 81, 82])
def o4_17 : List IOp := [⟨none, .val 105 .mov [.t 17], [], none⟩,
    ⟨none, .val 106 .mov [.t 19], [], none⟩,
    ⟨none, .val 107 (.bin .neq) [.t 105, .t 106], [], none⟩,
    ⟨none, .val 108 .mov [.t 107], [], none⟩,
    ⟨(some (108, false)), .load 109 (.t 16) 7 true, [], none⟩,
    ⟨(some (108, false)), .load 110 (.t 18) 7 true, [], none⟩,
    ⟨(some (108, false)), .call (some 111) 17 [.t 109, .t 110], [], none⟩,
    ⟨(some (108, false)), .val 112 .not [.t 111], [], none⟩,
    ⟨none, .val 113 .pick [.t 108, .k (.p (.bool true)), .t 112], [], none⟩]
def r4_17 : IC := (.reg o4_17 [3, 4, 6, 7, 11, 13, 15, 16, 18, 28, 29, 48, 49, 81, 82, 113])
def o4_18 : List IOp := [⟨none, .val 10 .mov [.k (.p (.bool false))], [], none⟩]
def r4_18 : IC := (.reg o4_18 [10])
def o4_19 : List IOp := [⟨none, .val 114 (.bin .add) [.t 82, .k (.p (.int .i64 1))], [], none⟩,
    ⟨none, .val 82 .mov [.t 114], [], none⟩]
def r4_19 : IC := (.reg o4_19 [3, 4, 6, 7, 11, 13, 15, 16, 18, 28, 29, 48, 49, 81, 82])
def l4_3 : IC := (.seq r4_13 (.seq (.cond (.t 83) .skip (.exit 4)) (.kp [3, 4, 6, 7, 11, 13, 15, 16, 18, 28, 29, 48, 49, 81, 82] (.seq (.block 5 (.seq r4_14 (.seq r4_15 (.seq r4_16 (.seq r4_17 (.cond (.t 113) (.seq r4_18 .ret) .skip)))))) (.kp [3, 4, 6, 7, 11, 13, 15, 16, 18, 28, 29, 48, 49, 81, 82] r4_19)))))
def o4_20 : List IOp := [⟨none, .val 115 (.bin .add) [.t 49, .k (.p (.int .i64 1))], [], none⟩,
    ⟨none, .val 49 .mov [.t 115], [], none⟩]
def r4_20 : IC := (.reg o4_20 [3, 4, 6, 7, 11, 13, 28, 29, 48, 49])
def l4_2 : IC := (.seq r4_6 (.seq (.cond (.t 50) .skip (.exit 2)) (.kp [3, 4, 6, 7, 11, 13, 28, 29, 48, 49] (.seq (.block 3 (.seq r4_7 (.seq r4_8 (.seq r4_9 (.seq (.seq r4_10 (.cond (.t 74) (.seq r4_11 .ret) .skip)) (.kp [3, 4, 6, 7, 11, 13, 15, 16, 18, 28, 29, 48, 49] (.seq r4_12 (.block 4 (.loop l4_3))))))))) (.kp [3, 4, 6, 7, 11, 13, 28, 29, 48, 49] r4_20)))))
def o4_21 : List IOp := [⟨none, .val 116 (.bin .add) [.t 29, .k (.p (.int .i64 1))], [], none⟩,
    ⟨none, .val 29 .mov [.t 116], [], none⟩]
def r4_21 : IC := (.reg o4_21 [3, 4, 6, 7, 11, 28, 29])
def l4_1 : IC := (.seq r4_3 (.seq (.cond (.t 30) .skip (.exit 0)) (.kp [3, 4, 6, 7, 11, 28, 29] (.seq (.block 1 (.seq r4_4 (.seq r4_5 (.block 2 (.loop l4_2))))) r4_21))))
def o4_22 : List IOp := [⟨none, .call (some 117) 18 [], [], none⟩,
    ⟨none, .val 10 .mov [.t 117], [], none⟩]
def r4_22 : IC := (.reg o4_22 [10])
def b4 : IC := (.seq r4_0 (.seq r4_1 (.seq (.seq r4_2 (.block 0 (.loop l4_1))) (.seq r4_22 .ret))))
def i4 : IFn := ⟨5, 118, b4, [.tmp 10]⟩
/- isochronlaw29.SwapFits -/
def o5_0 : List IOp := [⟨none, .boxL 5 (.t 0), [], none⟩,
    ⟨none, .boxL 6 (.t 1), [], none⟩,
    ⟨none, .val 10 .mov [.k (.p (.bool false))], [], none⟩]
def r5_0 : IC := (.reg o5_0 [2, 3, 4, 5, 6])
def o5_1 : List IOp := [⟨none, .load 20 (.t 5) 7 true, [], none⟩,
    ⟨none, .call (some 21) 9 [.t 20], [], none⟩,
    ⟨none, .newL 11 [.p (.sl 2 true []), .p (.int .i64 0), .p (.int .i64 0), .p (.bool false), .p (.sl 2 true []), .p (.int .i64 0), .p (.int .i64 0)], [], none⟩,
    ⟨none, .store (.t 11) (.t 21) 7, [], none⟩]
def r5_1 : IC := (.reg o5_1 [2, 3, 4, 6, 11])
def o5_2 : List IOp := [⟨none, .loadL 22 (.t 11) 7 true, [], none⟩,
    ⟨none, .loadL 23 (.t 6) 4 true, [], none⟩,
    ⟨none, .loadL 24 (.t 11) 7 true, [], none⟩,
    ⟨none, .callP 25 10 [.t 23, .t 24], [1, 2], none⟩,
    ⟨none, .val 26 (.build [.p (.sl 2 true []), .p (.int .i64 0), .p (.int .i64 0), .p (.bool false), .p (.sl 2 true []), .p (.int .i64 0), .p (.int .i64 0), .p (.sl 2 true []), .p (.int .i64 0), .p (.int .i64 0), .p (.bool false), .p (.sl 2 true []), .p (.int .i64 0), .p (.int .i64 0)] [(0, 7), (7, 7)]) [.t 22, .t 25], [0, 1, 2, 3], none⟩,
    ⟨none, .val 27 .mov [.k (.p (.int .i64 0))], [], none⟩]
def r5_2 : IC := (.regD o5_2 [2, 3, 4, 11, 26, 27])
def o5_3 : List IOp := [⟨none, .val 28 (.bin .lss) [.t 27, .k (.p (.int .i64 2))], [], none⟩]
def r5_3 : IC := (.reg o5_3 [2, 3, 4, 11, 26, 27, 28])
def o5_4 : List IOp := [⟨none, .val 29 (.idx 2 7 true) [.t 26, .t 27], [], none⟩,
    ⟨none, .newL 13 [.p (.sl 2 true []), .p (.int .i64 0), .p (.int .i64 0), .p (.bool false), .p (.sl 2 true []), .p (.int .i64 0), .p (.int .i64 0)], [], none⟩,
    ⟨none, .store (.t 13) (.t 29) 7, [], none⟩]
def r5_4 : IC := (.reg o5_4 [2, 3, 4, 11, 13, 26, 27])
def o5_5 : List IOp := [⟨none, .val 30 .mov [.t 2], [], none⟩,
    ⟨none, .val 31 .mov [.t 3], [], none⟩,
    ⟨none, .val 32 .mov [.t 4], [], none⟩,
    ⟨none, .val 33 (.build [.p (.int .i64 0), .p (.int .i64 0), .p (.int .i64 0)] [(0, 1), (1, 1), (2, 1)]) [.t 30, .t 31, .t 32], [], none⟩,
    ⟨none, .val 34 .mov [.t 2], [], none⟩,
    ⟨none, .val 35 (.conv .u64) [.t 34], [], none⟩,
    ⟨none, .val 36 (.bin .rem) [.t 35, .k (.p (.int .u64 8))], [], none⟩,
    ⟨none, .val 37 (.conv .i64) [.t 36], [], none⟩,
    ⟨none, .val 38 .mov [.t 3], [], none⟩,
    ⟨none, .val 39 (.bin .rem) [.t 38, .k (.p (.int .i64 2000))], [], none⟩,
    ⟨none, .val 40 .mov [.t 4], [], none⟩,
    ⟨none, .val 41 (.conv .u64) [.t 40], [], none⟩,
    ⟨none, .val 42 (.bin .rem) [.t 41, .k (.p (.int .u64 60))], [], none⟩,
    ⟨none, .val 43 (.conv .i64) [.t 42], [], none⟩,
    ⟨none, .val 44 (.build [.p (.int .i64 0), .p (.int .i64 0), .p (.int .i64 0)] [(0, 1), (1, 1), (2, 1)]) [.t 37, .t 39, .t 43], [], none⟩,
    ⟨none, .val 45 .mov [.t 2], [], none⟩,
    ⟨none, .val 46 (.conv .u64) [.t 45], [], none⟩,
    ⟨none, .val 47 (.bin .rem) [.t 46, .k (.p (.int .u64 8))], [], none⟩,
    ⟨none, .val 48 (.conv .i64) [.t 47], [], none⟩,
    ⟨none, .val 49 (.faddr 6) [.t 11], [], none⟩,
    ⟨none, .load 50 (.t 49) 1 false, [], none⟩,
    ⟨none, .val 51 .mov [.t 3], [], none⟩,
    ⟨none, .val 52 (.conv .u64) [.t 51], [], none⟩,
    ⟨none, .val 53 (.bin .rem) [.t 52, .k (.p (.int .u64 20))], [], none⟩,
    ⟨none, .val 54 (.conv .i64) [.t 53], [], none⟩,
    ⟨none, .val 55 (.bin .sub) [.t 50, .t 54], [], none⟩,
    ⟨none, .val 56 .mov [.t 4], [], none⟩,
    ⟨none, .val 57 (.conv .u64) [.t 56], [], none⟩,
    ⟨none, .val 58 (.bin .rem) [.t 57, .k (.p (.int .u64 60))], [], none⟩,
    ⟨none, .val 59 (.conv .i64) [.t 58], [], none⟩,
    ⟨none, .val 60 (.build [.p (.int .i64 0), .p (.int .i64 0), .p (.int .i64 0)] [(0, 1), (1, 1), (2, 1)]) [.t 48, .t 55, .t 59], [], none⟩,
    ⟨none, .val 61 (.build [.p (.int .i64 0), .p (.int .i64 0), .p (.int .i64 0), .p (.int .i64 0), .p (.int .i64 0), .p (.int .i64 0), .p (.int .i64 0), .p (.int .i64 0), .p (.int .i64 0)] [(0, 3), (3, 3), (6, 3)]) [.t 33, .t 44, .t 60], [], none⟩,
    ⟨none, .val 62 .mov [.k (.p (.int .i64 0))], [], none⟩]
def r5_5 : IC := (.reg o5_5 [2, 3, 4, 11, 13, 26, 27, 61, 62])
def o5_6 : List IOp := [⟨none, .val 63 (.bin .lss) [.t 62, .k (.p (.int .i64 3))], [], none⟩]
def r5_6 : IC := (.reg o5_6 [2, 3, 4, 11, 13, 26, 27, 61, 62, 63])
def o5_7 : List IOp := [⟨none, .val 64 (.idx 3 3 true) [.t 61, .t 62], [], none⟩,
    ⟨none, .newL 15 [.p (.int .i64 0), .p (.int .i64 0), .p (.int .i64 0)], [], none⟩,
    ⟨none, .store (.t 15) (.t 64) 3, [], none⟩]
def r5_7 : IC := (.reg o5_7 [2, 3, 4, 11, 13, 15, 26, 27, 61, 62])
def o5_8 : List IOp := [⟨none, .load 66 (.t 13) 7 true, [], none⟩,
    ⟨none, .val 67 (.iaddr 3 1) [.t 15, .k (.p (.int .i64 0))], [], none⟩,
    ⟨none, .load 68 (.t 67) 1 false, [], none⟩,
    ⟨none, .val 69 (.iaddr 3 1) [.t 15, .k (.p (.int .i64 1))], [], none⟩,
    ⟨none, .load 70 (.t 69) 1 false, [], none⟩,
    ⟨none, .val 71 (.iaddr 3 1) [.t 15, .k (.p (.int .i64 2))], [], none⟩,
    ⟨none, .load 72 (.t 71) 1 false, [], none⟩,
    ⟨none, .call (some 73) 24 [.t 66, .t 68, .t 70, .t 72], [], none⟩,
    ⟨none, .val 65 .mov [.t 73], [], none⟩,
    ⟨none, .val 74 (.ext 0) [.t 65], [], none⟩,
    ⟨none, .val 75 (.ext 1) [.t 65], [], none⟩,
    ⟨none, .val 16 .mov [.t 74], [], none⟩,
    ⟨none, .val 17 .mov [.t 75], [], none⟩]
def r5_8 : IC := (.reg o5_8 [2, 3, 4, 11, 13, 15, 16, 17, 26, 27, 61, 62])
def o5_9 : List IOp := [⟨none, .load 77 (.t 13) 7 true, [], none⟩,
    ⟨none, .val 78 (.iaddr 3 1) [.t 15, .k (.p (.int .i64 0))], [], none⟩,
    ⟨none, .load 79 (.t 78) 1 false, [], none⟩,
    ⟨none, .val 80 (.iaddr 3 1) [.t 15, .k (.p (.int .i64 1))], [], none⟩,
    ⟨none, .load 81 (.t 80) 1 false, [], none⟩,
    ⟨none, .val 82 (.iaddr 3 1) [.t 15, .k (.p (.int .i64 2))], [], none⟩,
    ⟨none, .load 83 (.t 82) 1 false, [], none⟩,
    ⟨none, .call (some 84) 25 [.t 77, .t 79, .t 81, .t 83], [], none⟩,
    ⟨none, .val 76 .mov [.t 84], [], none⟩,
    ⟨none, .val 85 (.ext 0) [.t 76], [], none⟩,
    ⟨none, .val 86 (.ext 1) [.t 76], [], none⟩,
    ⟨none, .val 18 .mov [.t 85], [], none⟩,
    ⟨none, .val 19 .mov [.t 86], [], none⟩]
def r5_9 : IC := (.reg o5_9 [2, 3, 4, 11, 13, 16, 17, 18, 19, 26, 27, 61, 62])
def o5_10 : List IOp := [⟨none, .val 87 .mov [.t 16], [], none⟩,
    ⟨none, .val 88 .mov [.t 18], [], none⟩,
    ⟨none, .val 89 (.eqB true) [.t 87, .t 88], [], none⟩,
    ⟨none, .val 90 .mov [.t 89], [], none⟩,
    ⟨(some (90, false)), .val 91 .mov [.t 17], [], none⟩,
    ⟨(some (90, false)), .val 92 .mov [.t 19], [], none⟩,
    ⟨(some (90, false)), .val 93 (.bin .neq) [.t 91, .t 92], [], none⟩,
    ⟨none, .val 94 .pick [.t 90, .k (.p (.bool true)), .t 93], [], none⟩]
def r5_10 : IC := (.reg o5_10 [2, 3, 4, 11, 13, 26, 27, 61, 62, 94])
def o5_11 : List IOp := [⟨none, .val 10 .mov [.k (.p (.bool false))], [], none⟩]
def r5_11 : IC := (.reg o5_11 [10])
def o5_12 : List IOp := [⟨none, .val 95 (.bin .add) [.t 62, .k (.p (.int .i64 1))], [], none⟩,
    ⟨none, .val 62 .mov [.t 95], [], none⟩]
def r5_12 : IC := (.reg o5_12 [2, 3, 4, 11, 13, 26, 27, 61, 62])
def l5_2 : IC := (.seq r5_6 (.seq (.cond (.t 63) .skip (.exit 2)) (.kp [2, 3, 4, 11, 13, 26, 27, 61, 62] (.seq (.block 3 (.seq r5_7 (.seq r5_8 (.seq r5_9 (.seq r5_10 (.cond (.t 94) (.seq r5_11 .ret) .skip)))))) (.kp [2, 3, 4, 11, 13, 26, 27, 61, 62] r5_12)))))
def o5_13 : List IOp := [⟨none, .val 96 (.bin .add) [.t 27, .k (.p (.int .i64 1))], [], none⟩,
    ⟨none, .val 27 .mov [.t 96], [], none⟩]
def r5_13 : IC := (.reg o5_13 [2, 3, 4, 11, 26, 27])
def l5_1 : IC := (.seq r5_3 (.seq (.cond (.t 28) .skip (.exit 0)) (.kp [2, 3, 4, 11, 26, 27] (.seq (.block 1 (.seq r5_4 (.seq r5_5 (.block 2 (.loop l5_2))))) r5_13))))
def o5_14 : List IOp := [⟨none, .call (some 97) 18 [], [], none⟩,
    ⟨none, .val 10 .mov [.t 97], [], none⟩]
def r5_14 : IC := (.reg o5_14 [10])
def b5 : IC := (.seq r5_0 (.seq r5_1 (.seq (.seq r5_2 (.block 0 (.loop l5_1))) (.seq r5_14 .ret))))
def i5 : IFn := ⟨5, 98, b5, [.tmp 10]⟩
/- isochronlaw29.SwapKeeps -/
def o6_0 : List IOp := [⟨none, .boxL 5 (.t 0), [], none⟩,
    ⟨none, .boxL 6 (.t 1), [], none⟩,
    ⟨none, .val 10 .mov [.k (.p (.bool false))], [], none⟩]
def r6_0 : IC := (.reg o6_0 [2, 3, 4, 5, 6])
def o6_1 : List IOp := [⟨none, .call (some 23) 18 [], [], none⟩,
    ⟨none, .val 24 .not [.t 23], [], none⟩]
def r6_1 : IC := (.reg o6_1 [2, 3, 4, 5, 6, 24])
def o6_2 : List IOp := [⟨none, .val 10 .mov [.k (.p (.bool false))], [], none⟩]
def r6_2 : IC := (.reg o6_2 [10])
def o6_3 : List IOp := [⟨none, .loadL 25 (.t 5) 7 true, [], none⟩,
    ⟨none, .callP 26 9 [.t 25], [0], none⟩,
    ⟨none, .loadL 27 (.t 6) 2 true, [], none⟩,
    ⟨none, .callP 28 21 [.t 27], [0, 1, 2], none⟩,
    ⟨none, .newL 11 [.p (.sl 2 true []), .p (.int .i64 0), .p (.int .i64 0), .p (.bool false), .p (.sl 2 true []), .p (.int .i64 0), .p (.int .i64 0)], [], none⟩,
    ⟨none, .newL 12 [.p (.sl 2 true []), .p (.int .i64 0)], [], none⟩,
    ⟨none, .store (.t 11) (.t 26) 7, [0, 1, 2, 3, 4, 5], none⟩,
    ⟨none, .store (.t 12) (.t 28) 2, [0, 1, 2, 3, 4, 5, 6], none⟩]
def r6_3 : IC := (.regD o6_3 [2, 3, 4, 11, 12])
def o6_4 : List IOp := [⟨none, .load 30 (.t 11) 7 true, [], none⟩,
    ⟨none, .val 31 .mov [.t 2], [], none⟩,
    ⟨none, .val 32 (.conv .i64) [.t 31], [], none⟩,
    ⟨none, .call (some 33) 19 [.t 30, .t 32], [], none⟩,
    ⟨none, .val 29 .mov [.t 33], [], none⟩,
    ⟨none, .val 34 (.ext 0) [.t 29], [], none⟩,
    ⟨none, .val 35 (.ext 1) [.t 29], [], none⟩,
    ⟨none, .newL 13 [.p (.sl 2 true []), .p (.int .i64 0), .p (.int .i64 0), .p (.bool false), .p (.sl 2 true []), .p (.int .i64 0), .p (.int .i64 0)], [], none⟩,
    ⟨none, .store (.t 13) (.t 34) 7, [], none⟩,
    ⟨none, .val 14 .mov [.t 35], [], none⟩]
def r6_4 : IC := (.reg o6_4 [2, 3, 4, 11, 12, 13, 14])
def o6_5 : List IOp := [⟨none, .load 37 (.t 11) 7 true, [], none⟩,
    ⟨none, .val 38 .mov [.t 2], [], none⟩,
    ⟨none, .val 39 (.conv .i64) [.t 38], [], none⟩,
    ⟨none, .load 40 (.t 12) 2 true, [], none⟩,
    ⟨none, .val 41 .mov [.t 3], [], none⟩,
    ⟨none, .val 42 (.conv .i64) [.t 41], [], none⟩,
    ⟨none, .call (some 43) 22 [.t 37, .t 39, .t 40, .t 42], [], none⟩,
    ⟨none, .val 36 .mov [.t 43], [], none⟩,
    ⟨none, .val 44 (.ext 0) [.t 36], [], none⟩,
    ⟨none, .val 45 (.ext 1) [.t 36], [], none⟩,
    ⟨none, .newL 15 [.p (.sl 2 true []), .p (.int .i64 0), .p (.int .i64 0), .p (.bool false), .p (.sl 2 true []), .p (.int .i64 0), .p (.int .i64 0)], [], none⟩,
    ⟨none, .store (.t 15) (.t 44) 7, [], none⟩,
    ⟨none, .val 16 .mov [.t 45], [], none⟩]
def r6_5 : IC := (.reg o6_5 [2, 3, 4, 11, 12, 13, 14, 15, 16])
def o6_6 : List IOp := [⟨none, .val 46 .mov [.t 14], [], none⟩,
    ⟨none, .val 47 (.bin .neq) [.t 46, .k (.p (.int .i64 0))], [], none⟩,
    ⟨none, .val 48 .mov [.t 47], [], none⟩,
    ⟨(some (48, false)), .val 49 .mov [.t 16], [], none⟩,
    ⟨(some (48, false)), .val 50 (.bin .neq) [.t 49, .k (.p (.int .i64 0))], [], none⟩,
    ⟨none, .val 51 .pick [.t 48, .k (.p (.bool true)), .t 50], [], none⟩,
    ⟨none, .val 52 .mov [.t 51], [], none⟩,
    ⟨(some (52, false)), .load 53 (.t 13) 7 true, [], none⟩,
    ⟨(some (52, false)), .call (some 54) 11 [.t 53], [], none⟩,
    ⟨(some (52, false)), .val 55 (.bin .neq) [.t 54, .k (.p (.int .i64 0))], [], none⟩,
    ⟨none, .val 56 .pick [.t 52, .k (.p (.bool true)), .t 55], [], none⟩,
    ⟨none, .val 57 .mov [.t 56], [], none⟩,
    ⟨(some (57, false)), .load 58 (.t 15) 7 true, [], none⟩,
    ⟨(some (57, false)), .call (some 59) 11 [.t 58], [], none⟩,
    ⟨(some (57, false)), .val 60 (.bin .neq) [.t 59, .k (.p (.int .i64 0))], [], none⟩,
    ⟨none, .val 61 .pick [.t 57, .k (.p (.bool true)), .t 60], [], none⟩,
    ⟨none, .val 62 .mov [.t 61], [], none⟩,
    ⟨(some (62, false)), .val 63 (.faddr 3) [.t 15], [], none⟩,
    ⟨(some (62, false)), .load 64 (.t 63) 1 false, [], none⟩,
    ⟨(some (62, false)), .val 65 .not [.t 64], [], none⟩,
    ⟨none, .val 66 .pick [.t 62, .k (.p (.bool true)), .t 65], [], none⟩]
def r6_6 : IC := (.reg o6_6 [2, 3, 4, 11, 12, 13, 15, 66])
def o6_7 : List IOp := [⟨none, .val 10 .mov [.k (.p (.bool false))], [], none⟩]
def r6_7 : IC := (.reg o6_7 [10])
def o6_8 : List IOp := [⟨none, .val 67 .mov [.t 2], [], none⟩,
    ⟨none, .val 68 (.conv .i64) [.t 67], [], none⟩,
    ⟨none, .val 69 .mov [.t 3], [], none⟩,
    ⟨none, .val 70 (.conv .i64) [.t 69], [], none⟩,
    ⟨none, .val 71 .max [.t 68, .t 70], [], none⟩,
    ⟨none, .val 17 .mov [.t 71], [], none⟩]
def r6_8 : IC := (.reg o6_8 [2, 4, 11, 12, 13, 15, 17])
def o6_9 : List IOp := [⟨none, .val 72 .mov [.t 2], [], none⟩,
    ⟨none, .val 73 (.conv .i64) [.t 72], [], none⟩,
    ⟨none, .val 74 .mov [.t 4], [], none⟩,
    ⟨none, .val 75 (.conv .i64) [.t 74], [], none⟩,
    ⟨none, .val 76 (.bin .add) [.t 73, .t 75], [], none⟩,
    ⟨none, .val 18 .mov [.t 76], [], none⟩]
def r6_9 : IC := (.reg o6_9 [4, 11, 12, 13, 15, 17, 18])
def o6_10 : List IOp := [⟨none, .loadL 77 (.t 13) 7 true, [], none⟩,
    ⟨none, .val 78 .mov [.t 18], [], none⟩,
    ⟨none, .callP 79 26 [.t 77, .t 78], [0, 1], none⟩,
    ⟨none, .loadL 80 (.t 11) 7 true, [], none⟩,
    ⟨none, .val 81 .mov [.t 18], [], none⟩,
    ⟨none, .callP 82 26 [.t 80, .t 81], [0, 1, 2, 3, 4], none⟩,
    ⟨none, .val 83 (.bin .eql) [.t 79, .t 82], [0, 1, 2, 3, 4, 5], none⟩,
    ⟨none, .val 84 .mov [.t 83], [0, 1, 2, 3, 4, 5, 6], none⟩,
    ⟨(some (84, true)), .loadL 85 (.t 11) 7 true, [0, 1, 2, 3, 4, 5, 6, 7], none⟩,
    ⟨(some (84, true)), .val 86 .mov [.t 18], [0, 1, 2, 3, 4, 5, 6, 7], none⟩,
    ⟨(some (84, true)), .callP 87 26 [.t 85, .t 86], [0, 1, 2, 3, 4, 5, 6, 7, 8, 9], none⟩,
    ⟨(some (84, true)), .val 88 (.bin .geq) [.t 87, .k (.p (.int .i64 0))], [0, 1, 2, 3, 4, 5, 6, 7, 8, 9, 10], none⟩,
    ⟨none, .val 89 .pick [.t 84, .t 88, .k (.p (.bool false))], [0, 1, 2, 3, 4, 5, 6, 7, 8, 9, 10, 11], none⟩,
    ⟨none, .val 19 .mov [.t 89], [0, 1, 2, 3, 4, 5, 6, 7, 8, 9, 10, 11, 12], none⟩]
def r6_10 : IC := (.regD o6_10 [4, 12, 13, 15, 17, 18, 19])
def o6_11 : List IOp := [⟨none, .val 90 .mov [.t 18], [], none⟩,
    ⟨none, .val 91 (.faddr 6) [.t 15], [], none⟩,
    ⟨none, .load 92 (.t 91) 1 false, [], none⟩,
    ⟨none, .val 93 (.bin .lss) [.t 90, .t 92], [], none⟩]
def r6_11 : IC := (.reg o6_11 [4, 12, 13, 15, 17, 18, 19, 93])
def o6_12 : List IOp := [⟨none, .load 94 (.t 13) 7 true, [], none⟩,
    ⟨none, .newL 20 [.p (.sl 2 true []), .p (.int .i64 0), .p (.int .i64 0), .p (.bool false), .p (.sl 2 true []), .p (.int .i64 0), .p (.int .i64 0)], [], none⟩,
    ⟨none, .store (.t 20) (.t 94) 7, [], none⟩]
def r6_12 : IC := (.reg o6_12 [4, 12, 13, 15, 17, 18, 19, 20])
def o6_13 : List IOp := [⟨none, .val 95 (.build [.p (.sl 2 true []), .p (.int .i64 0)] []) [], [], none⟩,
    ⟨none, .val 96 (.faddr 3) [.t 20], [], none⟩,
    ⟨none, .store (.t 96) (.k (.p (.bool false))) 1, [], none⟩,
    ⟨none, .val 97 (.faddr 4) [.t 20], [], none⟩,
    ⟨none, .store (.t 97) (.t 95) 2, [], none⟩,
    ⟨none, .val 98 (.faddr 6) [.t 20], [], none⟩,
    ⟨none, .store (.t 98) (.k (.p (.int .i64 0))) 1, [], none⟩]
def r6_13 : IC := (.reg o6_13 [4, 12, 13, 15, 17, 18, 19, 20])
def o6_14 : List IOp := [⟨none, .val 99 .mov [.t 19], [], none⟩,
    ⟨none, .val 100 .mov [.t 99], [0], none⟩,
    ⟨(some (100, true)), .loadL 101 (.t 15) 7 true, [0, 1], none⟩,
    ⟨(some (100, true)), .val 102 .mov [.t 18], [0, 1], none⟩,
    ⟨(some (100, true)), .callP 103 26 [.t 101, .t 102], [0, 1, 2, 3], none⟩,
    ⟨(some (100, true)), .loadL 104 (.t 20) 7 true, [0, 1], none⟩,
    ⟨(some (100, true)), .val 105 .mov [.t 18], [0, 1], none⟩,
    ⟨(some (100, true)), .callP 106 26 [.t 104, .t 105], [0, 1, 2, 3, 4, 5, 6], none⟩,
    ⟨(some (100, true)), .val 107 (.bin .eql) [.t 103, .t 106], [0, 1, 2, 3, 4, 5, 6, 7], none⟩,
    ⟨none, .val 108 .pick [.t 100, .t 107, .k (.p (.bool false))], [0, 1, 2, 3, 4, 5, 6, 7, 8], none⟩,
    ⟨none, .val 19 .mov [.t 108], [0, 1, 2, 3, 4, 5, 6, 7, 8, 9], none⟩]
def r6_14 : IC := (.regD o6_14 [4, 12, 13, 15, 17, 19])
def o6_15 : List IOp := [⟨none, .val 109 .mov [.t 4], [], none⟩,
    ⟨none, .val 110 (.conv .i64) [.t 109], [], none⟩,
    ⟨none, .val 111 (.faddr 1) [.t 12], [], none⟩,
    ⟨none, .load 112 (.t 111) 1 false, [], none⟩,
    ⟨none, .val 113 (.bin .mul) [.k (.p (.int .i64 2)), .t 112], [], none⟩,
    ⟨none, .val 114 (.bin .rem) [.t 110, .t 113], [], none⟩,
    ⟨none, .val 21 .mov [.t 114], [], none⟩]
def r6_15 : IC := (.reg o6_15 [12, 13, 15, 17, 19, 21])
def o6_16 : List IOp := [⟨none, .load 115 (.t 12) 2 true, [], none⟩,
    ⟨none, .val 116 (.build [.p (.sl 2 true []), .p (.int .i64 0), .p (.int .i64 0), .p (.bool false), .p (.sl 2 true []), .p (.int .i64 0), .p (.int .i64 0)] [(0, 2)]) [.t 115], [], none⟩,
    ⟨none, .newL 22 [.p (.sl 2 true []), .p (.int .i64 0), .p (.int .i64 0), .p (.bool false), .p (.sl 2 true []), .p (.int .i64 0), .p (.int .i64 0)], [], none⟩,
    ⟨none, .store (.t 22) (.t 116) 7, [], none⟩]
def r6_16 : IC := (.reg o6_16 [13, 15, 17, 19, 21, 22])
def o6_17 : List IOp := [⟨none, .val 117 .mov [.t 19], [], none⟩,
    ⟨none, .val 118 .mov [.t 117], [0], none⟩,
    ⟨(some (118, true)), .val 119 (.faddr 6) [.t 15], [0, 1], none⟩,
    ⟨(some (118, true)), .loadL 120 (.t 119) 1 false, [0, 1, 2], none⟩,
    ⟨(some (118, true)), .val 121 .mov [.t 17], [0, 1], none⟩,
    ⟨(some (118, true)), .val 122 (.bin .geq) [.t 120, .t 121], [0, 1, 2, 3, 4], none⟩,
    ⟨none, .val 123 .pick [.t 118, .t 122, .k (.p (.bool false))], [0, 1, 2, 3, 4, 5], none⟩,
    ⟨none, .val 124 .mov [.t 123], [0, 1, 2, 3, 4, 5, 6], none⟩,
    ⟨(some (124, true)), .val 125 (.faddr 6) [.t 15], [0, 1, 2, 3, 4, 5, 6, 7], none⟩,
    ⟨(some (124, true)), .loadL 126 (.t 125) 1 false, [0, 1, 2, 3, 4, 5, 6, 7, 8], none⟩,
    ⟨(some (124, true)), .val 127 (.faddr 0) [.t 13], [0, 1, 2, 3, 4, 5, 6, 7], none⟩,
    ⟨(some (124, true)), .val 128 (.faddr 1) [.t 127], [0, 1, 2, 3, 4, 5, 6, 7, 10], none⟩,
    ⟨(some (124, true)), .loadL 129 (.t 128) 1 false, [0, 1, 2, 3, 4, 5, 6, 7, 10, 11], none⟩,
    ⟨(some (124, true)), .val 130 (.bin .sub) [.t 126, .t 129], [0, 1, 2, 3, 4, 5, 6, 7, 8, 9, 10, 11, 12], none⟩,
    ⟨(some (124, true)), .val 131 .mov [.t 17], [0, 1, 2, 3, 4, 5, 6, 7], none⟩,
    ⟨(some (124, true)), .val 132 (.bin .lss) [.t 130, .t 131], [0, 1, 2, 3, 4, 5, 6, 7, 8, 9, 10, 11, 12, 13, 14], none⟩,
    ⟨none, .val 133 .pick [.t 124, .t 132, .k (.p (.bool false))], [0, 1, 2, 3, 4, 5, 6, 7, 8, 9, 10, 11, 12, 13, 14, 15], none⟩,
    ⟨none, .val 134 .mov [.t 133], [0, 1, 2, 3, 4, 5, 6, 7, 8, 9, 10, 11, 12, 13, 14, 15, 16], none⟩,
    ⟨(some (134, true)), .val 135 (.faddr 6) [.t 15], [0, 1, 2, 3, 4, 5, 6, 7, 8, 9, 10, 11, 12, 13, 14, 15, 16, 17], none⟩,
    ⟨(some (134, true)), .loadL 136 (.t 135) 1 false, [0, 1, 2, 3, 4, 5, 6, 7, 8, 9, 10, 11, 12, 13, 14, 15, 16, 17, 18], none⟩,
    ⟨(some (134, true)), .val 137 (.faddr 2) [.t 13], [0, 1, 2, 3, 4, 5, 6, 7, 8, 9, 10, 11, 12, 13, 14, 15, 16, 17], none⟩,
    ⟨(some (134, true)), .loadL 138 (.t 137) 1 false, [0, 1, 2, 3, 4, 5, 6, 7, 8, 9, 10, 11, 12, 13, 14, 15, 16, 17, 20], none⟩,
    ⟨(some (134, true)), .val 139 (.bin .sub) [.t 136, .t 138], [0, 1, 2, 3, 4, 5, 6, 7, 8, 9, 10, 11, 12, 13, 14, 15, 16, 17, 18, 19, 20, 21], none⟩,
    ⟨(some (134, true)), .val 140 (.faddr 0) [.t 13], [0, 1, 2, 3, 4, 5, 6, 7, 8, 9, 10, 11, 12, 13, 14, 15, 16, 17], none⟩,
    ⟨(some (134, true)), .val 141 (.faddr 1) [.t 140], [0, 1, 2, 3, 4, 5, 6, 7, 8, 9, 10, 11, 12, 13, 14, 15, 16, 17, 23], none⟩,
    ⟨(some (134, true)), .loadL 142 (.t 141) 1 false, [0, 1, 2, 3, 4, 5, 6, 7, 8, 9, 10, 11, 12, 13, 14, 15, 16, 17, 23, 24], none⟩,
    ⟨(some (134, true)), .val 143 (.bin .rem) [.t 139, .t 142], [0, 1, 2, 3, 4, 5, 6, 7, 8, 9, 10, 11, 12, 13, 14, 15, 16, 17, 18, 19, 20, 21, 22, 23, 24, 25], none⟩,
    ⟨(some (134, true)), .val 144 (.bin .eql) [.t 143, .k (.p (.int .i64 0))], [0, 1, 2, 3, 4, 5, 6, 7, 8, 9, 10, 11, 12, 13, 14, 15, 16, 17, 18, 19, 20, 21, 22, 23, 24, 25, 26], none⟩,
    ⟨none, .val 145 .pick [.t 134, .t 144, .k (.p (.bool false))], [0, 1, 2, 3, 4, 5, 6, 7, 8, 9, 10, 11, 12, 13, 14, 15, 16, 17, 18, 19, 20, 21, 22, 23, 24, 25, 26, 27], none⟩,
    ⟨none, .val 146 .mov [.t 145], [0, 1, 2, 3, 4, 5, 6, 7, 8, 9, 10, 11, 12, 13, 14, 15, 16, 17, 18, 19, 20, 21, 22, 23, 24, 25, 26, 27, 28], none⟩,
    ⟨(some (146, true)), .loadL 147 (.t 15) 7 true, [0, 1, 2, 3, 4, 5, 6, 7, 8, 9, 10, 11, 12, 13, 14, 15, 16, 17, 18, 19, 20, 21, 22, 23, 24, 25, 26, 27, 28, 29], none⟩,
    ⟨(some (146, true)), .val 148 (.faddr 6) [.t 15], [0, 1, 2, 3, 4, 5, 6, 7, 8, 9, 10, 11, 12, 13, 14, 15, 16, 17, 18, 19, 20, 21, 22, 23, 24, 25, 26, 27, 28, 29], none⟩,
    ⟨(some (146, true)), .loadL 149 (.t 148) 1 false, [0, 1, 2, 3, 4, 5, 6, 7, 8, 9, 10, 11, 12, 13, 14, 15, 16, 17, 18, 19, 20, 21, 22, 23, 24, 25, 26, 27, 28, 29, 31], none⟩,
    ⟨(some (146, true)), .val 150 .mov [.t 21], [0, 1, 2, 3, 4, 5, 6, 7, 8, 9, 10, 11, 12, 13, 14, 15, 16, 17, 18, 19, 20, 21, 22, 23, 24, 25, 26, 27, 28, 29], none⟩,
    ⟨(some (146, true)), .val 151 (.bin .add) [.t 149, .t 150], [0, 1, 2, 3, 4, 5, 6, 7, 8, 9, 10, 11, 12, 13, 14, 15, 16, 17, 18, 19, 20, 21, 22, 23, 24, 25, 26, 27, 28, 29, 31, 32, 33], none⟩,
    ⟨(some (146, true)), .callP 152 26 [.t 147, .t 151], [0, 1, 2, 3, 4, 5, 6, 7, 8, 9, 10, 11, 12, 13, 14, 15, 16, 17, 18, 19, 20, 21, 22, 23, 24, 25, 26, 27, 28, 29, 30, 31, 32, 33, 34], none⟩,
    ⟨(some (146, true)), .loadL 153 (.t 22) 7 true, [0, 1, 2, 3, 4, 5, 6, 7, 8, 9, 10, 11, 12, 13, 14, 15, 16, 17, 18, 19, 20, 21, 22, 23, 24, 25, 26, 27, 28, 29], none⟩,
    ⟨(some (146, true)), .val 154 .mov [.t 21], [0, 1, 2, 3, 4, 5, 6, 7, 8, 9, 10, 11, 12, 13, 14, 15, 16, 17, 18, 19, 20, 21, 22, 23, 24, 25, 26, 27, 28, 29], none⟩,
    ⟨(some (146, true)), .callP 155 26 [.t 153, .t 154], [0, 1, 2, 3, 4, 5, 6, 7, 8, 9, 10, 11, 12, 13, 14, 15, 16, 17, 18, 19, 20, 21, 22, 23, 24, 25, 26, 27, 28, 29, 30, 31, 32, 33, 34, 35, 36, 37], none⟩,
    ⟨(some (146, true)), .val 156 (.bin .eql) [.t 152, .t 155], [0, 1, 2, 3, 4, 5, 6, 7, 8, 9, 10, 11, 12, 13, 14, 15, 16, 17, 18, 19, 20, 21, 22, 23, 24, 25, 26, 27, 28, 29, 30, 31, 32, 33, 34, 35, 36, 37, 38], none⟩,
    ⟨none, .val 157 .pick [.t 146, .t 156, .k (.p (.bool false))], [0, 1, 2, 3, 4, 5, 6, 7, 8, 9, 10, 11, 12, 13, 14, 15, 16, 17, 18, 19, 20, 21, 22, 23, 24, 25, 26, 27, 28, 29, 30, 31, 32, 33, 34, 35, 36, 37, 38, 39], none⟩,
    ⟨none, .val 10 .mov [.t 157], [0, 1, 2, 3, 4, 5, 6, 7, 8, 9, 10, 11, 12, 13, 14, 15, 16, 17, 18, 19, 20, 21, 22, 23, 24, 25, 26, 27, 28, 29, 30, 31, 32, 33, 34, 35, 36, 37, 38, 39, 40], none⟩]
def r6_17 : IC := (.regD o6_17 [10])
def b6 : IC := (.seq r6_0 (.seq (.seq r6_1 (.cond (.t 24) (.seq r6_2 .ret) .skip)) (.kp [2, 3, 4, 5, 6] (.seq r6_3 (.seq r6_4 (.seq r6_5 (.seq (.seq r6_6 (.cond (.t 66) (.seq r6_7 .ret) .skip)) (.kp [2, 3, 4, 11, 12, 13, 15] (.seq r6_8 (.seq r6_9 (.seq r6_10 (.seq (.seq r6_11 (.cond (.t 93) (.seq r6_12 (.seq r6_13 r6_14)) .skip)) (.kp [4, 12, 13, 15, 17, 19] (.seq r6_15 (.seq r6_16 (.seq r6_17 .ret))))))))))))))))
def i6 : IFn := ⟨5, 158, b6, [.tmp 10]⟩
/- isochronlaw29.SwapMeans -/
def o7_0 : List IOp := [⟨none, .boxL 5 (.t 0), [], none⟩,
    ⟨none, .val 10 .mov [.k (.p (.bool false))], [], none⟩]
def r7_0 : IC := (.reg o7_0 [1, 2, 3, 4, 5])
def o7_1 : List IOp := [⟨none, .call (some 21) 18 [], [], none⟩,
    ⟨none, .val 22 .not [.t 21], [], none⟩]
def r7_1 : IC := (.reg o7_1 [1, 2, 3, 4, 5, 22])
def o7_2 : List IOp := [⟨none, .val 10 .mov [.k (.p (.bool false))], [], none⟩]
def r7_2 : IC := (.reg o7_2 [10])
def o7_3 : List IOp := [⟨none, .load 23 (.t 5) 7 true, [], none⟩,
    ⟨none, .call (some 24) 9 [.t 23], [], none⟩,
    ⟨none, .newL 11 [.p (.sl 2 true []), .p (.int .i64 0), .p (.int .i64 0), .p (.bool false), .p (.sl 2 true []), .p (.int .i64 0), .p (.int .i64 0)], [], none⟩,
    ⟨none, .store (.t 11) (.t 24) 7, [], none⟩]
def r7_3 : IC := (.reg o7_3 [1, 2, 3, 4, 11])
def o7_4 : List IOp := [⟨none, .val 25 .mov [.t 1], [], none⟩,
    ⟨none, .val 26 (.bin .rem) [.t 25, .k (.p (.int .u8 8))], [], none⟩,
    ⟨none, .val 27 (.conv .i64) [.t 26], [], none⟩,
    ⟨none, .val 12 .mov [.t 27], [], none⟩]
def r7_4 : IC := (.reg o7_4 [2, 3, 4, 11, 12])
def o7_5 : List IOp := [⟨none, .val 28 .mov [.t 2], [], none⟩,
    ⟨none, .val 29 (.conv .i64) [.t 28], [], none⟩,
    ⟨none, .val 30 (.faddr 6) [.t 11], [], none⟩,
    ⟨none, .load 31 (.t 30) 1 false, [], none⟩,
    ⟨none, .val 32 .mov [.t 3], [], none⟩,
    ⟨none, .val 33 (.bin .rem) [.t 32, .k (.p (.int .u8 40))], [], none⟩,
    ⟨none, .val 34 (.conv .i64) [.t 33], [], none⟩,
    ⟨none, .val 35 (.bin .sub) [.t 31, .t 34], [], none⟩,
    ⟨none, .val 36 (.build [.p (.int .i64 0), .p (.int .i64 0)] [(0, 1), (1, 1)]) [.t 29, .t 35], [], none⟩,
    ⟨none, .val 37 .mov [.k (.p (.int .i64 0))], [], none⟩]
def r7_5 : IC := (.reg o7_5 [4, 11, 12, 36, 37])
def o7_6 : List IOp := [⟨none, .val 38 (.bin .lss) [.t 37, .k (.p (.int .i64 2))], [], none⟩]
def r7_6 : IC := (.reg o7_6 [4, 11, 12, 36, 37, 38])
def o7_7 : List IOp := [⟨none, .val 39 (.idx 2 1 false) [.t 36, .t 37], [], none⟩,
    ⟨none, .val 14 .mov [.t 39], [], none⟩]
def r7_7 : IC := (.reg o7_7 [4, 11, 12, 14, 36, 37])
def o7_8 : List IOp := [⟨none, .val 40 .mov [.t 4], [], none⟩,
    ⟨none, .val 41 (.bin .rem) [.t 40, .k (.p (.int .u8 60))], [], none⟩,
    ⟨none, .val 42 (.conv .i64) [.t 41], [], none⟩,
    ⟨none, .val 43 (.faddr 0) [.t 11], [], none⟩,
    ⟨none, .val 44 (.faddr 1) [.t 43], [], none⟩,
    ⟨none, .load 45 (.t 44) 1 false, [], none⟩,
    ⟨none, .val 46 (.bin .mul) [.k (.p (.int .i64 4)), .t 45], [], none⟩,
    ⟨none, .val 47 .min [.t 42, .t 46], [], none⟩,
    ⟨none, .val 15 .mov [.t 47], [], none⟩]
def r7_8 : IC := (.reg o7_8 [4, 11, 12, 14, 15, 36, 37])
def o7_9 : List IOp := [⟨none, .val 16 .mov [.k (.p (.bool true))], [], none⟩]
def r7_9 : IC := (.reg o7_9 [4, 11, 12, 14, 15, 16, 36, 37])
def o7_10 : List IOp := [⟨none, .val 17 .mov [.k (.p (.int .i64 0))], [], none⟩]
def r7_10 : IC := (.reg o7_10 [4, 11, 12, 14, 15, 16, 17, 36, 37])
def o7_11 : List IOp := [⟨none, .val 48 .mov [.t 17], [], none⟩,
    ⟨none, .val 49 .mov [.t 15], [], none⟩,
    ⟨none, .val 50 (.bin .lss) [.t 48, .t 49], [], none⟩]
def r7_11 : IC := (.reg o7_11 [4, 11, 12, 14, 15, 16, 17, 36, 37, 50])
def o7_13 : List IOp := [⟨none, .load 53 (.t 11) 7 true, [], none⟩,
    ⟨none, .val 54 .mov [.t 14], [], none⟩,
    ⟨none, .val 55 .mov [.t 17], [], none⟩,
    ⟨none, .val 56 (.bin .add) [.t 54, .t 55], [], none⟩,
    ⟨none, .call (some 57) 26 [.t 53, .t 56], [], none⟩,
    ⟨none, .val 18 .mov [.t 57], [], none⟩]
def r7_13 : IC := (.reg o7_13 [4, 11, 12, 14, 15, 16, 17, 18, 36, 37])
def o7_14 : List IOp := [⟨none, .val 58 .mov [.t 18], [], none⟩,
    ⟨none, .val 59 (.bin .lss) [.t 58, .k (.p (.int .i64 0))], [], none⟩]
def r7_14 : IC := (.reg o7_14 [4, 11, 12, 14, 15, 16, 17, 18, 36, 37, 59])
def o7_15 : List IOp := [⟨none, .val 10 .mov [.k (.p (.bool false))], [], none⟩]
def r7_15 : IC := (.reg o7_15 [10])
def o7_16 : List IOp := [⟨none, .val 60 .mov [.t 16], [], none⟩,
    ⟨none, .val 61 .mov [.t 60], [], none⟩,
    ⟨(some (61, true)), .val 62 .mov [.t 18], [], none⟩,
    ⟨(some (61, true)), .val 63 .mov [.t 12], [], none⟩,
    ⟨(some (61, true)), .val 64 (.conv .u64) [.t 63], [], none⟩,
    ⟨(some (61, true)), .val 65 (.sh .shr) [.t 62, .t 64], [], none⟩,
    ⟨(some (61, true)), .val 66 (.bin .and) [.t 65, .k (.p (.int .i64 1))], [], none⟩,
    ⟨(some (61, true)), .val 67 (.bin .eql) [.t 66, .k (.p (.int .i64 1))], [], none⟩,
    ⟨none, .val 68 .pick [.t 61, .t 67, .k (.p (.bool false))], [], none⟩,
    ⟨none, .val 16 .mov [.t 68], [], none⟩]
def r7_16 : IC := (.reg o7_16 [4, 11, 12, 14, 15, 16, 17, 36, 37])
def o7_12 : List IOp := [⟨none, .val 51 .mov [.t 17], [], none⟩,
    ⟨none, .val 52 (.bin .add) [.t 51, .k (.p (.int .i64 1))], [], none⟩,
    ⟨none, .val 17 .mov [.t 52], [], none⟩]
def r7_12 : IC := (.reg o7_12 [4, 11, 12, 14, 15, 16, 17, 36, 37])
def l7_2 : IC := (.seq (.seq r7_11 (.cond (.t 50) .skip (.exit 2))) (.kp [4, 11, 12, 14, 15, 16, 17, 36, 37] (.seq (.block 3 (.seq r7_13 (.seq (.seq r7_14 (.cond (.t 59) (.seq r7_15 .ret) .skip)) (.kp [4, 11, 12, 14, 15, 16, 17, 18, 36, 37] r7_16)))) (.kp [4, 11, 12, 14, 15, 16, 17, 36, 37] r7_12))))
def o7_17 : List IOp := [⟨none, .load 70 (.t 11) 7 true, [], none⟩,
    ⟨none, .val 71 .mov [.t 14], [], none⟩,
    ⟨none, .call (some 72) 19 [.t 70, .t 71], [], none⟩,
    ⟨none, .val 69 .mov [.t 72], [], none⟩,
    ⟨none, .val 73 (.ext 0) [.t 69], [], none⟩,
    ⟨none, .val 74 (.ext 1) [.t 69], [], none⟩,
    ⟨none, .newL 19 [.p (.sl 2 true []), .p (.int .i64 0), .p (.int .i64 0), .p (.bool false), .p (.sl 2 true []), .p (.int .i64 0), .p (.int .i64 0)], [], none⟩,
    ⟨none, .store (.t 19) (.t 73) 7, [], none⟩,
    ⟨none, .val 20 .mov [.t 74], [], none⟩]
def r7_17 : IC := (.reg o7_17 [4, 11, 12, 14, 15, 16, 19, 20, 36, 37])
def o7_18 : List IOp := [⟨none, .val 75 .mov [.t 20], [], none⟩,
    ⟨none, .val 76 (.bin .neq) [.t 75, .k (.p (.int .i64 0))], [], none⟩,
    ⟨none, .val 77 .mov [.t 76], [], none⟩,
    ⟨(some (77, false)), .load 78 (.t 11) 7 true, [], none⟩,
    ⟨(some (77, false)), .val 79 .mov [.t 12], [], none⟩,
    ⟨(some (77, false)), .val 80 .mov [.t 14], [], none⟩,
    ⟨(some (77, false)), .val 81 .mov [.t 15], [], none⟩,
    ⟨(some (77, false)), .call (some 82) 27 [.t 78, .t 79, .t 80, .t 81], [], none⟩,
    ⟨(some (77, false)), .val 83 .mov [.t 16], [], none⟩,
    ⟨(some (77, false)), .val 84 (.eqB true) [.t 82, .t 83], [], none⟩,
    ⟨none, .val 85 .pick [.t 77, .k (.p (.bool true)), .t 84], [], none⟩,
    ⟨none, .val 86 .mov [.t 85], [], none⟩,
    ⟨(some (86, false)), .val 87 .mov [.t 15], [], none⟩,
    ⟨(some (86, false)), .val 88 (.faddr 0) [.t 19], [], none⟩,
    ⟨(some (86, false)), .val 89 (.faddr 1) [.t 88], [], none⟩,
    ⟨(some (86, false)), .load 90 (.t 89) 1 false, [], none⟩,
    ⟨(some (86, false)), .val 91 (.bin .mul) [.k (.p (.int .i64 4)), .t 90], [], none⟩,
    ⟨(some (86, false)), .val 92 (.bin .leq) [.t 87, .t 91], [], none⟩,
    ⟨(some (86, false)), .val 93 .mov [.t 92], [], none⟩,
    ⟨(some (93, true)), .load 94 (.t 19) 7 true, [], none⟩,
    ⟨(some (93, true)), .val 95 .mov [.t 12], [], none⟩,
    ⟨(some (93, true)), .val 96 .mov [.t 14], [], none⟩,
    ⟨(some (93, true)), .val 97 .mov [.t 15], [], none⟩,
    ⟨(some (93, true)), .call (some 98) 27 [.t 94, .t 95, .t 96, .t 97], [], none⟩,
    ⟨(some (93, true)), .val 99 .mov [.t 16], [], none⟩,
    ⟨(some (93, true)), .val 100 (.eqB true) [.t 98, .t 99], [], none⟩,
    ⟨(some (86, false)), .val 101 .pick [.t 93, .t 100, .k (.p (.bool false))], [], none⟩,
    ⟨none, .val 102 .pick [.t 86, .k (.p (.bool true)), .t 101], [], none⟩]
def r7_18 : IC := (.reg o7_18 [4, 11, 12, 36, 37, 102])
def o7_19 : List IOp := [⟨none, .val 10 .mov [.k (.p (.bool false))], [], none⟩]
def r7_19 : IC := (.reg o7_19 [10])
def o7_20 : List IOp := [⟨none, .val 103 (.bin .add) [.t 37, .k (.p (.int .i64 1))], [], none⟩,
    ⟨none, .val 37 .mov [.t 103], [], none⟩]
def r7_20 : IC := (.reg o7_20 [4, 11, 12, 36, 37])
def l7_1 : IC := (.seq r7_6 (.seq (.cond (.t 38) .skip (.exit 0)) (.kp [4, 11, 12, 36, 37] (.seq (.block 1 (.seq r7_7 (.seq r7_8 (.seq r7_9 (.seq (.seq r7_10 (.block 2 (.loop l7_2))) (.seq r7_17 (.seq r7_18 (.cond (.t 102) (.seq r7_19 .ret) .skip)))))))) (.kp [4, 11, 12, 36, 37] r7_20)))))
def o7_21 : List IOp := [⟨none, .val 10 .mov [.k (.p (.bool true))], [], none⟩]
def r7_21 : IC := (.reg o7_21 [10])
def b7 : IC := (.seq r7_0 (.seq (.seq r7_1 (.cond (.t 22) (.seq r7_2 .ret) .skip)) (.kp [1, 2, 3, 4, 5] (.seq r7_3 (.seq r7_4 (.seq (.seq r7_5 (.block 0 (.loop l7_1))) (.seq r7_21 .ret)))))))
def i7 : IFn := ⟨5, 104, b7, [.tmp 10]⟩
/- isochronlaw29.SwapKnown -/
def o8_0 : List IOp := [⟨none, .val 0 .mov [.k (.p (.bool false))], [], none⟩]
def r8_0 : IC := (.reg o8_0 [])
def o8_1 : List IOp := [⟨none, .litP 36 1 [.k (.p (.int .i64 128)), .k (.p (.int .i64 10)), .k (.p (.int .i64 127)), .k (.p (.int .i64 30))], [], none⟩,
    ⟨none, .call (some 37) 28 [.t 36], [], none⟩,
    ⟨none, .newL 1 [.p (.sl 2 true []), .p (.int .i64 0)], [], none⟩,
    ⟨none, .store (.t 1) (.t 37) 2, [], none⟩]
def r8_1 : IC := (.reg o8_1 [1])
def o8_2 : List IOp := [⟨none, .load 38 (.t 1) 2 true, [], none⟩,
    ⟨none, .load 39 (.t 1) 2 true, [], none⟩,
    ⟨none, .val 40 (.build [.p (.sl 2 true []), .p (.int .i64 0), .p (.int .i64 0), .p (.bool false), .p (.sl 2 true []), .p (.int .i64 0), .p (.int .i64 0)] [(0, 2), (2, 1), (3, 1), (4, 2), (6, 1)]) [.t 38, .k (.p (.int .i64 7)), .k (.p (.bool true)), .t 39, .k (.p (.int .i64 47))], [], none⟩,
    ⟨none, .newL 2 [.p (.sl 2 true []), .p (.int .i64 0), .p (.int .i64 0), .p (.bool false), .p (.sl 2 true []), .p (.int .i64 0), .p (.int .i64 0)], [], none⟩,
    ⟨none, .store (.t 2) (.t 40) 7, [], none⟩]
def r8_2 : IC := (.reg o8_2 [1, 2])
def o8_3 : List IOp := [⟨none, .val 41 (.build [.p (.sl 2 true []), .p (.int .i64 0), .p (.int .i64 0), .p (.bool false), .p (.sl 2 true []), .p (.int .i64 0), .p (.int .i64 0)] []) [], [], none⟩,
    ⟨none, .load 42 (.t 2) 7 true, [], none⟩,
    ⟨none, .load 43 (.t 2) 7 true, [], none⟩,
    ⟨none, .load 44 (.t 2) 7 true, [], none⟩,
    ⟨none, .load 45 (.t 2) 7 true, [], none⟩,
    ⟨none, .load 46 (.t 2) 7 true, [], none⟩,
    ⟨none, .load 47 (.t 2) 7 true, [], none⟩,
    ⟨none, .load 48 (.t 2) 7 true, [], none⟩,
    ⟨none, .val 49 (.build [.p (.sl 2 true []), .p (.int .i64 0), .p (.int .i64 0), .p (.bool false), .p (.sl 2 true []), .p (.int .i64 0), .p (.int .i64 0), .p (.sl 2 true []), .p (.int .i64 0), .p (.int .i64 0), .p (.bool false), .p (.sl 2 true []), .p (.int .i64 0), .p (.int .i64 0), .p (.sl 2 true []), .p (.int .i64 0), .p (.int .i64 0), .p (.bool false), .p (.sl 2 true []), .p (.int .i64 0), .p (.int .i64 0), .p (.sl 2 true []), .p (.int .i64 0), .p (.int .i64 0), .p (.bool false), .p (.sl 2 true []), .p (.int .i64 0), .p (.int .i64 0), .p (.sl 2 true []), .p (.int .i64 0), .p (.int .i64 0), .p (.bool false), .p (.sl 2 true []), .p (.int .i64 0), .p (.int .i64 0), .p (.sl 2 true []), .p (.int .i64 0), .p (.int .i64 0), .p (.bool false), .p (.sl 2 true []), .p (.int .i64 0), .p (.int .i64 0), .p (.sl 2 true []), .p (.int .i64 0), .p (.int .i64 0), .p (.bool false), .p (.sl 2 true []), .p (.int .i64 0), .p (.int .i64 0), .p (.sl 2 true []), .p (.int .i64 0), .p (.int .i64 0), .p (.bool false), .p (.sl 2 true []), .p (.int .i64 0), .p (.int .i64 0)] [(0, 7), (7, 7), (14, 7), (21, 7), (28, 7), (35, 7), (42, 7), (49, 7)]) [.t 41, .t 42, .t 43, .t 44, .t 45, .t 46, .t 47, .t 48], [], none⟩,
    ⟨none, .newL 3 [.p (.sl 2 true []), .p (.int .i64 0), .p (.int .i64 0), .p (.bool false), .p (.sl 2 true []), .p (.int .i64 0), .p (.int .i64 0), .p (.sl 2 true []), .p (.int .i64 0), .p (.int .i64 0), .p (.bool false), .p (.sl 2 true []), .p (.int .i64 0), .p (.int .i64 0), .p (.sl 2 true []), .p (.int .i64 0), .p (.int .i64 0), .p (.bool false), .p (.sl 2 true []), .p (.int .i64 0), .p (.int .i64 0), .p (.sl 2 true []), .p (.int .i64 0), .p (.int .i64 0), .p (.bool false), .p (.sl 2 true []), .p (.int .i64 0), .p (.int .i64 0), .p (.sl 2 true []), .p (.int .i64 0), .p (.int .i64 0), .p (.bool false), .p (.sl 2 true []), .p (.int .i64 0), .p (.int .i64 0), .p (.sl 2 true []), .p (.int .i64 0), .p (.int .i64 0), .p (.bool false), .p (.sl 2 true []), .p (.int .i64 0), .p (.int .i64 0), .p (.sl 2 true []), .p (.int .i64 0), .p (.int .i64 0), .p (.bool false), .p (.sl 2 true []), .p (.int .i64 0), .p (.int .i64 0), .p (.sl 2 true []), .p (.int .i64 0), .p (.int .i64 0), .p (.bool false), .p (.sl 2 true []), .p (.int .i64 0), .p (.int .i64 0)], [], none⟩,
    ⟨none, .store (.t 3) (.t 49) 56, [], none⟩]
def r8_3 : IC := (.reg o8_3 [1, 2, 3])
def o8_4 : List IOp := [⟨none, .val 50 (.build [.p (.sl 2 true []), .p (.int .i64 0)] []) [], [], none⟩,
    ⟨none, .val 51 (.iaddr 8 7) [.t 3, .k (.p (.int .i64 1))], [], none⟩,
    ⟨none, .val 52 (.faddr 2) [.t 51], [], none⟩,
    ⟨none, .store (.t 52) (.k (.p (.int .i64 1099511627777))) 1, [], none⟩,
    ⟨none, .val 53 (.iaddr 8 7) [.t 3, .k (.p (.int .i64 2))], [], none⟩,
    ⟨none, .val 54 (.faddr 6) [.t 53], [], none⟩,
    ⟨none, .store (.t 54) (.k (.p (.int .i64 48))) 1, [], none⟩,
    ⟨none, .val 55 (.iaddr 8 7) [.t 3, .k (.p (.int .i64 3))], [], none⟩,
    ⟨none, .val 56 (.faddr 4) [.t 55], [], none⟩,
    ⟨none, .store (.t 56) (.t 50) 2, [], none⟩,
    ⟨none, .val 57 (.iaddr 8 7) [.t 3, .k (.p (.int .i64 4))], [], none⟩,
    ⟨none, .val 58 (.faddr 3) [.t 57], [], none⟩,
    ⟨none, .store (.t 58) (.k (.p (.bool false))) 1, [], none⟩,
    ⟨none, .val 59 (.iaddr 8 7) [.t 3, .k (.p (.int .i64 5))], [], none⟩,
    ⟨none, .val 60 (.faddr 6) [.t 59], [], none⟩,
    ⟨none, .store (.t 60) (.k (.p (.int .i64 2199023255559))) 1, [], none⟩,
    ⟨none, .val 61 (.iaddr 8 7) [.t 3, .k (.p (.int .i64 6))], [], none⟩,
    ⟨none, .val 62 (.faddr 0) [.t 61], [], none⟩,
    ⟨none, .val 63 (.faddr 1) [.t 62], [], none⟩,
    ⟨none, .store (.t 63) (.k (.p (.int .i64 41))) 1, [], none⟩]
def r8_4 : IC := (.reg o8_4 [1, 2, 3])
def o8_5 : List IOp := [⟨none, .load 64 (.t 1) 2 true, [], none⟩,
    ⟨none, .val 65 (.build [.p (.sl 2 true []), .p (.int .i64 0), .p (.int .i64 0), .p (.bool false), .p (.sl 2 true []), .p (.int .i64 0), .p (.int .i64 0)] [(0, 2), (6, 1)]) [.t 64, .k (.p (.int .i64 1))], [], none⟩,
    ⟨none, .val 66 (.iaddr 8 7) [.t 3, .k (.p (.int .i64 7))], [], none⟩,
    ⟨none, .store (.t 66) (.t 65) 7, [], none⟩]
def r8_5 : IC := (.reg o8_5 [1, 2, 3])
def o8_6 : List IOp := [⟨none, .val 4 .mov [.k (.p (.int .i64 0))], [], none⟩]
def r8_6 : IC := (.reg o8_6 [1, 2, 3, 4])
def o8_7 : List IOp := [⟨none, .val 67 .mov [.t 4], [], none⟩,
    ⟨none, .val 68 (.bin .lss) [.t 67, .k (.p (.int .i64 8))], [], none⟩]
def r8_7 : IC := (.reg o8_7 [1, 2, 3, 4, 68])
def o8_9 : List IOp := [⟨none, .val 72 .mov [.t 4], [], none⟩,
    ⟨none, .val 73 (.iaddr 8 7) [.t 3, .t 72], [], none⟩,
    ⟨none, .load 74 (.t 73) 7 true, [], none⟩,
    ⟨none, .val 75 (.build [.p (.sl 2 true []), .p (.int .i64 0)] []) [], [], none⟩,
    ⟨none, .call (some 76) 22 [.t 74, .k (.p (.int .i64 1099511627777)), .t 75, .k (.p (.int .i64 0))], [], none⟩,
    ⟨none, .val 71 .mov [.t 76], [], none⟩,
    ⟨none, .val 77 (.ext 0) [.t 71], [], none⟩,
    ⟨none, .val 78 (.ext 1) [.t 71], [], none⟩,
    ⟨none, .newL 5 [.p (.sl 2 true []), .p (.int .i64 0), .p (.int .i64 0), .p (.bool false), .p (.sl 2 true []), .p (.int .i64 0), .p (.int .i64 0)], [], none⟩,
    ⟨none, .store (.t 5) (.t 77) 7, [], none⟩,
    ⟨none, .val 6 .mov [.t 78], [], none⟩]
def r8_9 : IC := (.reg o8_9 [1, 2, 3, 4, 6])
def o8_10 : List IOp := [⟨none, .val 80 .mov [.t 4], [], none⟩,
    ⟨none, .val 81 (.iaddr 8 7) [.t 3, .t 80], [], none⟩,
    ⟨none, .load 82 (.t 81) 7 true, [], none⟩,
    ⟨none, .call (some 83) 19 [.t 82, .k (.p (.int .i64 1099511627777))], [], none⟩,
    ⟨none, .val 79 .mov [.t 83], [], none⟩,
    ⟨none, .val 84 (.ext 0) [.t 79], [], none⟩,
    ⟨none, .val 85 (.ext 1) [.t 79], [], none⟩,
    ⟨none, .newL 7 [.p (.sl 2 true []), .p (.int .i64 0), .p (.int .i64 0), .p (.bool false), .p (.sl 2 true []), .p (.int .i64 0), .p (.int .i64 0)], [], none⟩,
    ⟨none, .store (.t 7) (.t 84) 7, [], none⟩,
    ⟨none, .val 8 .mov [.t 85], [], none⟩]
def r8_10 : IC := (.reg o8_10 [1, 2, 3, 4, 6, 8])
def o8_11 : List IOp := [⟨none, .val 87 .mov [.t 4], [], none⟩,
    ⟨none, .val 88 (.iaddr 8 7) [.t 3, .t 87], [], none⟩,
    ⟨none, .load 89 (.t 88) 7 true, [], none⟩,
    ⟨none, .call (some 90) 13 [.t 89, .k (.p (.int .i64 1099511627777))], [], none⟩,
    ⟨none, .val 86 .mov [.t 90], [], none⟩,
    ⟨none, .val 91 (.ext 0) [.t 86], [], none⟩,
    ⟨none, .val 92 (.ext 1) [.t 86], [], none⟩,
    ⟨none, .val 9 .mov [.t 91], [], none⟩,
    ⟨none, .val 10 .mov [.t 92], [], none⟩]
def r8_11 : IC := (.reg o8_11 [1, 2, 3, 4, 6, 8, 10])
def o8_12 : List IOp := [⟨none, .val 94 .mov [.t 4], [], none⟩,
    ⟨none, .val 95 (.iaddr 8 7) [.t 3, .t 94], [], none⟩,
    ⟨none, .load 96 (.t 95) 7 true, [], none⟩,
    ⟨none, .call (some 97) 24 [.t 96, .k (.p (.int .i64 8)), .k (.p (.int .i64 0)), .k (.p (.int .i64 0))], [], none⟩,
    ⟨none, .val 93 .mov [.t 97], [], none⟩,
    ⟨none, .val 98 (.ext 0) [.t 93], [], none⟩,
    ⟨none, .val 99 (.ext 1) [.t 93], [], none⟩,
    ⟨none, .val 11 .mov [.t 98], [], none⟩,
    ⟨none, .val 12 .mov [.t 99], [], none⟩]
def r8_12 : IC := (.reg o8_12 [1, 2, 3, 4, 6, 8, 10, 12])
def o8_13 : List IOp := [⟨none, .val 100 .mov [.t 4], [], none⟩,
    ⟨none, .val 101 (.iaddr 8 7) [.t 3, .t 100], [], none⟩,
    ⟨none, .load 102 (.t 101) 7 true, [], none⟩,
    ⟨none, .call (some 103) 11 [.t 102], [], none⟩,
    ⟨none, .val 104 (.bin .neq) [.t 103, .k (.p (.int .i64 390))], [], none⟩,
    ⟨none, .val 105 .mov [.t 104], [], none⟩,
    ⟨(some (105, false)), .val 106 .mov [.t 6], [], none⟩,
    ⟨(some (105, false)), .val 107 (.bin .neq) [.t 106, .k (.p (.int .i64 390))], [], none⟩,
    ⟨none, .val 108 .pick [.t 105, .k (.p (.bool true)), .t 107], [], none⟩,
    ⟨none, .val 109 .mov [.t 108], [], none⟩,
    ⟨(some (109, false)), .val 110 .mov [.t 8], [], none⟩,
    ⟨(some (109, false)), .val 111 (.bin .neq) [.t 110, .k (.p (.int .i64 390))], [], none⟩,
    ⟨none, .val 112 .pick [.t 109, .k (.p (.bool true)), .t 111], [], none⟩,
    ⟨none, .val 113 .mov [.t 112], [], none⟩,
    ⟨(some (113, false)), .val 114 .mov [.t 10], [], none⟩,
    ⟨(some (113, false)), .val 115 (.bin .neq) [.t 114, .k (.p (.int .i64 390))], [], none⟩,
    ⟨none, .val 116 .pick [.t 113, .k (.p (.bool true)), .t 115], [], none⟩,
    ⟨none, .val 117 .mov [.t 116], [], none⟩,
    ⟨(some (117, false)), .val 118 .mov [.t 12], [], none⟩,
    ⟨(some (117, false)), .val 119 (.bin .neq) [.t 118, .k (.p (.int .i64 390))], [], none⟩,
    ⟨none, .val 120 .pick [.t 117, .k (.p (.bool true)), .t 119], [], none⟩]
def r8_13 : IC := (.reg o8_13 [1, 2, 3, 4, 120])
def o8_14 : List IOp := [⟨none, .val 0 .mov [.k (.p (.bool false))], [], none⟩]
def r8_14 : IC := (.reg o8_14 [0])
def o8_8 : List IOp := [⟨none, .val 69 .mov [.t 4], [], none⟩,
    ⟨none, .val 70 (.bin .add) [.t 69, .k (.p (.int .i64 1))], [], none⟩,
    ⟨none, .val 4 .mov [.t 70], [], none⟩]
def r8_8 : IC := (.reg o8_8 [1, 2, 3, 4])
def l8_1 : IC := (.seq (.seq r8_7 (.cond (.t 68) .skip (.exit 0))) (.kp [1, 2, 3, 4] (.seq (.block 1 (.seq r8_9 (.seq r8_10 (.seq r8_11 (.seq r8_12 (.seq r8_13 (.cond (.t 120) (.seq r8_14 .ret) .skip))))))) (.kp [1, 2, 3, 4] r8_8))))
def o8_15 : List IOp := [⟨none, .val 122 (.build [.p (.sl 2 true []), .p (.int .i64 0)] []) [], [], none⟩,
    ⟨none, .call (some 123) 15 [.t 122, .k (.p (.int .i64 1099511627777))], [], none⟩,
    ⟨none, .val 121 .mov [.t 123], [], none⟩,
    ⟨none, .val 124 (.ext 0) [.t 121], [], none⟩,
    ⟨none, .val 125 (.ext 1) [.t 121], [], none⟩,
    ⟨none, .newL 13 [.p (.sl 2 true []), .p (.int .i64 0), .p (.int .i64 0), .p (.bool false), .p (.sl 2 true []), .p (.int .i64 0), .p (.int .i64 0)], [], none⟩,
    ⟨none, .store (.t 13) (.t 124) 7, [], none⟩,
    ⟨none, .val 14 .mov [.t 125], [], none⟩]
def r8_15 : IC := (.reg o8_15 [1, 2, 14])
def o8_16 : List IOp := [⟨none, .load 127 (.t 1) 2 true, [], none⟩,
    ⟨none, .call (some 128) 15 [.t 127, .k (.p (.int .i64 1099511627777))], [], none⟩,
    ⟨none, .val 126 .mov [.t 128], [], none⟩,
    ⟨none, .val 129 (.ext 0) [.t 126], [], none⟩,
    ⟨none, .val 130 (.ext 1) [.t 126], [], none⟩,
    ⟨none, .newL 15 [.p (.sl 2 true []), .p (.int .i64 0), .p (.int .i64 0), .p (.bool false), .p (.sl 2 true []), .p (.int .i64 0), .p (.int .i64 0)], [], none⟩,
    ⟨none, .store (.t 15) (.t 129) 7, [], none⟩,
    ⟨none, .val 16 .mov [.t 130], [], none⟩]
def r8_16 : IC := (.reg o8_16 [1, 2, 14, 16])
def o8_17 : List IOp := [⟨none, .load 132 (.t 2) 7 true, [], none⟩,
    ⟨none, .val 133 (.build [.p (.sl 2 true []), .p (.int .i64 0)] []) [], [], none⟩,
    ⟨none, .call (some 134) 22 [.t 132, .k (.p (.int .i64 1099511627777)), .t 133, .k (.p (.int .i64 0))], [], none⟩,
    ⟨none, .val 131 .mov [.t 134], [], none⟩,
    ⟨none, .val 135 (.ext 0) [.t 131], [], none⟩,
    ⟨none, .val 136 (.ext 1) [.t 131], [], none⟩,
    ⟨none, .newL 17 [.p (.sl 2 true []), .p (.int .i64 0), .p (.int .i64 0), .p (.bool false), .p (.sl 2 true []), .p (.int .i64 0), .p (.int .i64 0)], [], none⟩,
    ⟨none, .store (.t 17) (.t 135) 7, [], none⟩,
    ⟨none, .val 18 .mov [.t 136], [], none⟩]
def r8_17 : IC := (.reg o8_17 [1, 2, 14, 16, 18])
def o8_18 : List IOp := [⟨none, .load 138 (.t 2) 7 true, [], none⟩,
    ⟨none, .val 139 (.build [.p (.sl 2 true []), .p (.int .i64 0)] []) [], [], none⟩,
    ⟨none, .call (some 140) 22 [.t 138, .k (.p (.int .i64 0)), .t 139, .k (.p (.int .i64 1099511627777))], [], none⟩,
    ⟨none, .val 137 .mov [.t 140], [], none⟩,
    ⟨none, .val 141 (.ext 0) [.t 137], [], none⟩,
    ⟨none, .val 142 (.ext 1) [.t 137], [], none⟩,
    ⟨none, .newL 19 [.p (.sl 2 true []), .p (.int .i64 0), .p (.int .i64 0), .p (.bool false), .p (.sl 2 true []), .p (.int .i64 0), .p (.int .i64 0)], [], none⟩,
    ⟨none, .store (.t 19) (.t 141) 7, [], none⟩,
    ⟨none, .val 20 .mov [.t 142], [], none⟩]
def r8_18 : IC := (.reg o8_18 [1, 2, 14, 16, 18, 20])
def o8_19 : List IOp := [⟨none, .load 144 (.t 2) 7 true, [], none⟩,
    ⟨none, .load 145 (.t 1) 2 true, [], none⟩,
    ⟨none, .call (some 146) 22 [.t 144, .k (.p (.int .i64 0)), .t 145, .k (.p (.int .i64 (-1099511627777)))], [], none⟩,
    ⟨none, .val 143 .mov [.t 146], [], none⟩,
    ⟨none, .val 147 (.ext 0) [.t 143], [], none⟩,
    ⟨none, .val 148 (.ext 1) [.t 143], [], none⟩,
    ⟨none, .newL 21 [.p (.sl 2 true []), .p (.int .i64 0), .p (.int .i64 0), .p (.bool false), .p (.sl 2 true []), .p (.int .i64 0), .p (.int .i64 0)], [], none⟩,
    ⟨none, .store (.t 21) (.t 147) 7, [], none⟩,
    ⟨none, .val 22 .mov [.t 148], [], none⟩]
def r8_19 : IC := (.reg o8_19 [1, 2, 14, 16, 18, 20, 22])
def o8_20 : List IOp := [⟨none, .load 150 (.t 2) 7 true, [], none⟩,
    ⟨none, .call (some 151) 24 [.t 150, .k (.p (.int .i64 0)), .k (.p (.int .i64 0)), .k (.p (.int .i64 161))], [], none⟩,
    ⟨none, .val 149 .mov [.t 151], [], none⟩,
    ⟨none, .val 152 (.ext 0) [.t 149], [], none⟩,
    ⟨none, .val 153 (.ext 1) [.t 149], [], none⟩,
    ⟨none, .val 23 .mov [.t 152], [], none⟩,
    ⟨none, .val 24 .mov [.t 153], [], none⟩]
def r8_20 : IC := (.reg o8_20 [1, 2, 14, 16, 18, 20, 22, 24])
def o8_21 : List IOp := [⟨none, .load 155 (.t 2) 7 true, [], none⟩,
    ⟨none, .call (some 156) 24 [.t 155, .k (.p (.int .i64 8)), .k (.p (.int .i64 0)), .k (.p (.int .i64 0))], [], none⟩,
    ⟨none, .val 154 .mov [.t 156], [], none⟩,
    ⟨none, .val 157 (.ext 0) [.t 154], [], none⟩,
    ⟨none, .val 158 (.ext 1) [.t 154], [], none⟩,
    ⟨none, .val 25 .mov [.t 157], [], none⟩,
    ⟨none, .val 26 .mov [.t 158], [], none⟩]
def r8_21 : IC := (.reg o8_21 [1, 2, 14, 16, 18, 20, 22, 24, 26])
def o8_22 : List IOp := [⟨none, .load 160 (.t 2) 7 true, [], none⟩,
    ⟨none, .call (some 161) 19 [.t 160, .k (.p (.int .i64 1099511627777))], [], none⟩,
    ⟨none, .val 159 .mov [.t 161], [], none⟩,
    ⟨none, .val 162 (.ext 0) [.t 159], [], none⟩,
    ⟨none, .val 163 (.ext 1) [.t 159], [], none⟩,
    ⟨none, .newL 27 [.p (.sl 2 true []), .p (.int .i64 0), .p (.int .i64 0), .p (.bool false), .p (.sl 2 true []), .p (.int .i64 0), .p (.int .i64 0)], [], none⟩,
    ⟨none, .store (.t 27) (.t 162) 7, [], none⟩,
    ⟨none, .val 28 .mov [.t 163], [], none⟩]
def r8_22 : IC := (.reg o8_22 [1, 2, 14, 16, 18, 20, 22, 24, 26, 28])
def o8_23 : List IOp := [⟨none, .load 165 (.t 1) 2 true, [], none⟩,
    ⟨none, .val 166 (.build [.p (.sl 2 true []), .p (.int .i64 0), .p (.int .i64 0), .p (.bool false), .p (.sl 2 true []), .p (.int .i64 0), .p (.int .i64 0)] [(0, 2), (2, 1)]) [.t 165, .k (.p (.int .i64 1))], [], none⟩,
    ⟨none, .load 167 (.t 1) 2 true, [], none⟩,
    ⟨none, .call (some 168) 22 [.t 166, .k (.p (.int .i64 1099511627776)), .t 167, .k (.p (.int .i64 0))], [], none⟩,
    ⟨none, .val 164 .mov [.t 168], [], none⟩,
    ⟨none, .val 169 (.ext 0) [.t 164], [], none⟩,
    ⟨none, .val 170 (.ext 1) [.t 164], [], none⟩,
    ⟨none, .newL 29 [.p (.sl 2 true []), .p (.int .i64 0), .p (.int .i64 0), .p (.bool false), .p (.sl 2 true []), .p (.int .i64 0), .p (.int .i64 0)], [], none⟩,
    ⟨none, .store (.t 29) (.t 169) 7, [], none⟩,
    ⟨none, .val 30 .mov [.t 170], [], none⟩]
def r8_23 : IC := (.reg o8_23 [2, 14, 16, 18, 20, 22, 24, 26, 28, 29, 30])
def o8_24 : List IOp := [⟨none, .load 172 (.t 29) 7 true, [], none⟩,
    ⟨none, .call (some 173) 19 [.t 172, .k (.p (.int .i64 1099511627776))], [], none⟩,
    ⟨none, .val 171 .mov [.t 173], [], none⟩,
    ⟨none, .val 174 (.ext 0) [.t 171], [], none⟩,
    ⟨none, .val 175 (.ext 1) [.t 171], [], none⟩,
    ⟨none, .newL 31 [.p (.sl 2 true []), .p (.int .i64 0), .p (.int .i64 0), .p (.bool false), .p (.sl 2 true []), .p (.int .i64 0), .p (.int .i64 0)], [], none⟩,
    ⟨none, .store (.t 31) (.t 174) 7, [], none⟩,
    ⟨none, .val 32 .mov [.t 175], [], none⟩]
def r8_24 : IC := (.reg o8_24 [2, 14, 16, 18, 20, 22, 24, 26, 28, 29, 30, 31, 32])
def o8_25 : List IOp := [⟨none, .loadL 177 (.t 2) 7 true, [], none⟩,
    ⟨none, .litP 178 1 [.k (.p (.int .i64 127)), .k (.p (.int .i64 9))], [], none⟩,
    ⟨none, .callP 179 28 [.t 178], [1], none⟩,
    ⟨none, .callP 180 22 [.t 177, .k (.p (.int .i64 47)), .t 179, .k (.p (.int .i64 0))], [0, 1, 2], none⟩,
    ⟨none, .val 176 .mov [.t 180], [0, 1, 2, 3], none⟩,
    ⟨none, .val 181 (.ext 0) [.t 176], [0, 1, 2, 3, 4], none⟩,
    ⟨none, .val 182 (.ext 1) [.t 176], [0, 1, 2, 3, 4], none⟩,
    ⟨none, .newL 33 [.p (.sl 2 true []), .p (.int .i64 0), .p (.int .i64 0), .p (.bool false), .p (.sl 2 true []), .p (.int .i64 0), .p (.int .i64 0)], [], none⟩,
    ⟨none, .store (.t 33) (.t 181) 7, [0, 1, 2, 3, 4, 5, 7], none⟩,
    ⟨none, .val 34 .mov [.t 182], [0, 1, 2, 3, 4, 5, 6, 7, 8], none⟩]
def r8_25 : IC := (.regD o8_25 [2, 14, 16, 18, 20, 22, 24, 26, 28, 29, 30, 31, 32, 33, 34])
def o8_26 : List IOp := [⟨none, .val 183 .mov [.t 14], [], none⟩,
    ⟨none, .val 184 (.bin .eql) [.t 183, .k (.p (.int .i64 370))], [], none⟩,
    ⟨none, .val 185 .mov [.t 184], [], none⟩,
    ⟨(some (185, true)), .val 186 .mov [.t 16], [], none⟩,
    ⟨(some (185, true)), .val 187 (.bin .eql) [.t 186, .k (.p (.int .i64 2))], [], none⟩,
    ⟨none, .val 188 .pick [.t 185, .t 187, .k (.p (.bool false))], [], none⟩,
    ⟨none, .val 189 .mov [.t 188], [], none⟩,
    ⟨(some (189, true)), .val 190 .mov [.t 18], [], none⟩,
    ⟨(some (189, true)), .val 191 (.bin .eql) [.t 190, .k (.p (.int .i64 2))], [], none⟩,
    ⟨none, .val 192 .pick [.t 189, .t 191, .k (.p (.bool false))], [], none⟩,
    ⟨none, .val 193 .mov [.t 192], [], none⟩,
    ⟨(some (193, true)), .val 194 .mov [.t 20], [], none⟩,
    ⟨(some (193, true)), .val 195 (.bin .eql) [.t 194, .k (.p (.int .i64 370))], [], none⟩,
    ⟨none, .val 196 .pick [.t 193, .t 195, .k (.p (.bool false))], [], none⟩,
    ⟨none, .val 197 .mov [.t 196], [], none⟩,
    ⟨(some (197, true)), .val 198 .mov [.t 22], [], none⟩,
    ⟨(some (197, true)), .val 199 (.bin .eql) [.t 198, .k (.p (.int .i64 2))], [], none⟩,
    ⟨none, .val 200 .pick [.t 197, .t 199, .k (.p (.bool false))], [], none⟩,
    ⟨none, .val 201 .mov [.t 200], [], none⟩,
    ⟨(some (201, true)), .val 202 .mov [.t 24], [], none⟩,
    ⟨(some (201, true)), .val 203 (.bin .eql) [.t 202, .k (.p (.int .i64 2))], [], none⟩,
    ⟨none, .val 204 .pick [.t 201, .t 203, .k (.p (.bool false))], [], none⟩,
    ⟨none, .val 205 .mov [.t 204], [], none⟩,
    ⟨(some (205, true)), .val 206 .mov [.t 26], [], none⟩,
    ⟨(some (205, true)), .val 207 (.bin .eql) [.t 206, .k (.p (.int .i64 2))], [], none⟩,
    ⟨none, .val 208 .pick [.t 205, .t 207, .k (.p (.bool false))], [], none⟩,
    ⟨none, .val 209 .mov [.t 208], [], none⟩,
    ⟨(some (209, true)), .val 210 .mov [.t 28], [], none⟩,
    ⟨(some (209, true)), .val 211 (.bin .eql) [.t 210, .k (.p (.int .i64 2))], [], none⟩,
    ⟨none, .val 212 .pick [.t 209, .t 211, .k (.p (.bool false))], [], none⟩,
    ⟨none, .val 35 .mov [.t 212], [], none⟩]
def r8_26 : IC := (.reg o8_26 [2, 29, 30, 31, 32, 33, 34, 35])
def o8_27 : List IOp := [⟨none, .val 213 .mov [.k (.p (.bool true))], [], none⟩,
    ⟨(some (213, true)), .call (some 214) 18 [], [], none⟩,
    ⟨none, .val 215 .pick [.t 213, .t 214, .k (.p (.bool false))], [], none⟩,
    ⟨none, .val 216 .mov [.t 215], [], none⟩,
    ⟨(some (216, true)), .val 217 .mov [.t 35], [], none⟩,
    ⟨none, .val 218 .pick [.t 216, .t 217, .k (.p (.bool false))], [], none⟩,
    ⟨none, .val 219 .mov [.t 218], [], none⟩,
    ⟨(some (219, true)), .load 220 (.t 2) 7 true, [], none⟩,
    ⟨(some (219, true)), .call (some 221) 11 [.t 220], [], none⟩,
    ⟨(some (219, true)), .val 222 (.bin .eql) [.t 221, .k (.p (.int .i64 0))], [], none⟩,
    ⟨none, .val 223 .pick [.t 219, .t 222, .k (.p (.bool false))], [], none⟩,
    ⟨none, .val 224 .mov [.t 223], [], none⟩,
    ⟨(some (224, true)), .val 225 .mov [.t 30], [], none⟩,
    ⟨(some (224, true)), .val 226 (.bin .eql) [.t 225, .k (.p (.int .i64 0))], [], none⟩,
    ⟨none, .val 227 .pick [.t 224, .t 226, .k (.p (.bool false))], [], none⟩,
    ⟨none, .val 228 .mov [.t 227], [], none⟩,
    ⟨(some (228, true)), .val 229 (.faddr 6) [.t 29], [], none⟩,
    ⟨(some (228, true)), .load 230 (.t 229) 1 false, [], none⟩,
    ⟨(some (228, true)), .val 231 (.bin .gtr) [.t 230, .k (.p (.int .i64 1099511627776))], [], none⟩,
    ⟨none, .val 232 .pick [.t 228, .t 231, .k (.p (.bool false))], [], none⟩,
    ⟨none, .val 233 .mov [.t 232], [], none⟩,
    ⟨(some (233, true)), .load 234 (.t 29) 7 true, [], none⟩,
    ⟨(some (233, true)), .call (some 235) 11 [.t 234], [], none⟩,
    ⟨(some (233, true)), .val 236 (.bin .eql) [.t 235, .k (.p (.int .i64 0))], [], none⟩,
    ⟨none, .val 237 .pick [.t 233, .t 236, .k (.p (.bool false))], [], none⟩,
    ⟨none, .val 238 .mov [.t 237], [], none⟩,
    ⟨(some (238, true)), .val 239 .mov [.t 32], [], none⟩,
    ⟨(some (238, true)), .val 240 (.bin .eql) [.t 239, .k (.p (.int .i64 0))], [], none⟩,
    ⟨none, .val 241 .pick [.t 238, .t 240, .k (.p (.bool false))], [], none⟩,
    ⟨none, .val 242 .mov [.t 241], [], none⟩,
    ⟨(some (242, true)), .load 243 (.t 31) 7 true, [], none⟩,
    ⟨(some (242, true)), .load 244 (.t 29) 7 true, [], none⟩,
    ⟨(some (242, true)), .call (some 245) 17 [.t 243, .t 244], [], none⟩,
    ⟨none, .val 246 .pick [.t 242, .t 245, .k (.p (.bool false))], [], none⟩,
    ⟨none, .val 247 .mov [.t 246], [], none⟩,
    ⟨(some (247, true)), .val 248 .mov [.t 34], [], none⟩,
    ⟨(some (247, true)), .val 249 (.bin .eql) [.t 248, .k (.p (.int .i64 0))], [], none⟩,
    ⟨none, .val 250 .pick [.t 247, .t 249, .k (.p (.bool false))], [], none⟩,
    ⟨none, .val 251 .mov [.t 250], [], none⟩,
    ⟨(some (251, true)), .val 252 (.faddr 2) [.t 33], [], none⟩,
    ⟨(some (251, true)), .load 253 (.t 252) 1 false, [], none⟩,
    ⟨(some (251, true)), .val 254 (.bin .eql) [.t 253, .k (.p (.int .i64 47))], [], none⟩,
    ⟨none, .val 255 .pick [.t 251, .t 254, .k (.p (.bool false))], [], none⟩,
    ⟨none, .val 256 .mov [.t 255], [], none⟩,
    ⟨(some (256, true)), .val 257 (.faddr 6) [.t 33], [], none⟩,
    ⟨(some (256, true)), .load 258 (.t 257) 1 false, [], none⟩,
    ⟨(some (256, true)), .val 259 (.bin .eql) [.t 258, .k (.p (.int .i64 47))], [], none⟩,
    ⟨none, .val 260 .pick [.t 256, .t 259, .k (.p (.bool false))], [], none⟩,
    ⟨none, .val 261 .mov [.t 260], [], none⟩,
    ⟨(some (261, true)), .load 262 (.t 2) 7 true, [], none⟩,
    ⟨(some (261, true)), .call (some 263) 27 [.t 262, .k (.p (.int .i64 0)), .k (.p (.int .i64 20)), .k (.p (.int .i64 27))], [], none⟩,
    ⟨none, .val 264 .pick [.t 261, .t 263, .k (.p (.bool false))], [], none⟩,
    ⟨none, .val 265 .mov [.t 264], [], none⟩,
    ⟨(some (265, true)), .load 266 (.t 2) 7 true, [], none⟩,
    ⟨(some (265, true)), .call (some 267) 27 [.t 266, .k (.p (.int .i64 0)), .k (.p (.int .i64 20)), .k (.p (.int .i64 28))], [], none⟩,
    ⟨(some (265, true)), .val 268 .not [.t 267], [], none⟩,
    ⟨none, .val 269 .pick [.t 265, .t 268, .k (.p (.bool false))], [], none⟩,
    ⟨none, .val 0 .mov [.t 269], [], none⟩]
def r8_27 : IC := (.reg o8_27 [0])
def b8 : IC := (.seq r8_0 (.seq r8_1 (.seq r8_2 (.seq r8_3 (.seq r8_4 (.seq r8_5 (.seq (.seq r8_6 (.block 0 (.loop l8_1))) (.seq r8_15 (.seq r8_16 (.seq r8_17 (.seq r8_18 (.seq r8_19 (.seq r8_20 (.seq r8_21 (.seq r8_22 (.seq r8_23 (.seq r8_24 (.seq r8_25 (.seq r8_26 (.seq r8_27 .ret))))))))))))))))))))
def i8 : IFn := ⟨0, 270, b8, [.tmp 0]⟩
/- (isochronref29.Draft).Change -/
def o9_0 : List IOp := [⟨none, .boxL 1 (.t 0), [], none⟩,
    ⟨none, .newL 2 [.p (.sl 2 true []), .p (.int .i64 0), .p (.int .i64 0), .p (.bool false), .p (.sl 2 true []), .p (.int .i64 0), .p (.int .i64 0)], [], none⟩]
def r9_0 : IC := (.reg o9_0 [1, 2])
def o9_1 : List IOp := [⟨none, .val 4 (.faddr 0) [.t 1], [], none⟩,
    ⟨none, .loadL 5 (.t 4) 2 true, [0], none⟩,
    ⟨none, .callP 6 21 [.t 5], [0, 1], none⟩,
    ⟨none, .val 7 (.faddr 4) [.t 1], [], none⟩,
    ⟨none, .loadL 8 (.t 7) 1 false, [3], none⟩,
    ⟨none, .val 9 (.conv .i64) [.t 8], [3, 4], none⟩,
    ⟨none, .val 10 (.build [.p (.sl 2 true []), .p (.int .i64 0), .p (.int .i64 0), .p (.bool false), .p (.sl 2 true []), .p (.int .i64 0), .p (.int .i64 0)] [(0, 2), (2, 1)]) [.t 6, .t 9], [0, 1, 2, 3, 4, 5], none⟩,
    ⟨none, .newL 3 [.p (.sl 2 true []), .p (.int .i64 0), .p (.int .i64 0), .p (.bool false), .p (.sl 2 true []), .p (.int .i64 0), .p (.int .i64 0)], [], none⟩,
    ⟨none, .store (.t 3) (.t 10) 7, [0, 1, 2, 3, 4, 5, 6, 7], none⟩]
def r9_1 : IC := (.regD o9_1 [1, 2, 3])
def o9_2 : List IOp := [⟨none, .val 11 (.faddr 5) [.t 1], [], none⟩,
    ⟨none, .load 12 (.t 11) 1 false, [], none⟩]
def r9_2 : IC := (.reg o9_2 [1, 2, 3, 12])
def o9_3 : List IOp := [⟨none, .val 13 (.faddr 2) [.t 1], [], none⟩,
    ⟨none, .load 14 (.t 13) 2 true, [], none⟩,
    ⟨none, .call (some 15) 21 [.t 14], [], none⟩,
    ⟨none, .val 16 (.faddr 3) [.t 3], [], none⟩,
    ⟨none, .store (.t 16) (.k (.p (.bool true))) 1, [], none⟩,
    ⟨none, .val 17 (.faddr 4) [.t 3], [], none⟩,
    ⟨none, .store (.t 17) (.t 15) 2, [], none⟩]
def r9_3 : IC := (.reg o9_3 [1, 2, 3])
def o9_4 : List IOp := [⟨none, .val 18 (.faddr 2) [.t 3], [], none⟩,
    ⟨none, .load 19 (.t 18) 1 false, [], none⟩,
    ⟨none, .val 20 (.faddr 6) [.t 1], [], none⟩,
    ⟨none, .load 21 (.t 20) 1 false, [], none⟩,
    ⟨none, .val 22 (.conv .i64) [.t 21], [], none⟩,
    ⟨none, .val 23 (.bin .sub) [.t 22, .k (.p (.int .i64 100))], [], none⟩,
    ⟨none, .val 24 (.faddr 0) [.t 3], [], none⟩,
    ⟨none, .val 25 (.faddr 1) [.t 24], [], none⟩,
    ⟨none, .load 26 (.t 25) 1 false, [], none⟩,
    ⟨none, .val 27 (.bin .mul) [.t 23, .t 26], [], none⟩,
    ⟨none, .val 28 (.bin .add) [.t 19, .t 27], [], none⟩,
    ⟨none, .val 29 (.faddr 6) [.t 3], [], none⟩,
    ⟨none, .store (.t 29) (.t 28) 1, [], none⟩]
def r9_4 : IC := (.reg o9_4 [2, 3])
def o9_5 : List IOp := [⟨none, .load 30 (.t 3) 7 true, [], none⟩,
    ⟨none, .store (.t 2) (.t 30) 7, [], none⟩]
def r9_5 : IC := (.reg o9_5 [2])
def b9 : IC := (.seq r9_0 (.seq r9_1 (.seq (.seq r9_2 (.cond (.t 12) (.seq r9_3 r9_4) .skip)) (.kp [2, 3] (.seq r9_5 .ret)))))
def i9 : IFn := ⟨1, 31, b9, [.cell 2 7 true]⟩
/- (isochronlaw29.Bend).of -/
def o10_0 : List IOp := [⟨none, .boxL 2 (.t 0), [], none⟩,
    ⟨none, .boxL 3 (.t 1), [], none⟩,
    ⟨none, .newL 4 [.p (.sl 2 true []), .p (.int .i64 0), .p (.int .i64 0), .p (.bool false), .p (.sl 2 true []), .p (.int .i64 0), .p (.int .i64 0)], [], none⟩]
def r10_0 : IC := (.reg o10_0 [2, 3, 4])
def o10_1 : List IOp := [⟨none, .val 6 (.faddr 2) [.t 2], [], none⟩,
    ⟨none, .load 7 (.t 6) 2 true, [], none⟩,
    ⟨none, .newL 5 [.p (.sl 2 true []), .p (.int .i64 0)], [], none⟩,
    ⟨none, .store (.t 5) (.t 7) 2, [], none⟩]
def r10_1 : IC := (.reg o10_1 [2, 3, 4, 5])
def o10_2 : List IOp := [⟨none, .val 8 (.faddr 0) [.t 5], [], none⟩,
    ⟨none, .load 9 (.t 8) 1 false, [], none⟩,
    ⟨none, .val 10 (.faddr 0) [.t 5], [], none⟩,
    ⟨none, .load 11 (.t 10) 1 false, [], none⟩,
    ⟨none, .val 12 .len [.t 11], [], none⟩,
    ⟨none, .val 13 .min [.t 12, .k (.p (.int .i64 130))], [], none⟩,
    ⟨none, .val 14 (.slice 2 false true false) [.t 9, .t 13], [], none⟩,
    ⟨none, .val 15 (.faddr 0) [.t 5], [], none⟩,
    ⟨none, .store (.t 15) (.t 14) 1, [], none⟩]
def r10_2 : IC := (.reg o10_2 [2, 3, 4, 5])
def o10_3 : List IOp := [⟨none, .val 16 (.faddr 0) [.t 2], [], none⟩,
    ⟨none, .load 17 (.t 16) 1 false, [], none⟩,
    ⟨none, .val 18 (.bin .rem) [.t 17, .k (.p (.int .u8 6))], [], none⟩]
def r10_3 : IC := (.reg o10_3 [2, 3, 4, 5, 18])
def o10_5 : List IOp := [⟨none, .val 27 (.bin .eql) [.t 18, .k (.p (.int .u8 0))], [], none⟩,
    ⟨none, .val 26 .mov [.t 27], [], none⟩]
def r10_5 : IC := (.reg o10_5 [2, 3, 4, 5, 18, 26])
def o10_6 : List IOp := [⟨none, .load 28 (.t 5) 2 true, [], none⟩,
    ⟨none, .val 29 (.faddr 0) [.t 3], [], none⟩,
    ⟨none, .store (.t 29) (.t 28) 2, [], none⟩]
def r10_6 : IC := (.reg o10_6 [3, 4])
def o10_7 : List IOp := [⟨none, .val 31 (.bin .eql) [.t 18, .k (.p (.int .u8 1))], [], none⟩,
    ⟨none, .val 30 .mov [.t 31], [], none⟩]
def r10_7 : IC := (.reg o10_7 [2, 3, 4, 5, 18, 30])
def o10_8 : List IOp := [⟨none, .load 32 (.t 5) 2 true, [], none⟩,
    ⟨none, .val 33 (.faddr 4) [.t 3], [], none⟩,
    ⟨none, .store (.t 33) (.t 32) 2, [], none⟩]
def r10_8 : IC := (.reg o10_8 [3, 4])
def o10_9 : List IOp := [⟨none, .val 35 (.bin .eql) [.t 18, .k (.p (.int .u8 2))], [], none⟩,
    ⟨none, .val 34 .mov [.t 35], [], none⟩]
def r10_9 : IC := (.reg o10_9 [2, 3, 4, 18, 34])
def o10_10 : List IOp := [⟨none, .val 36 (.faddr 1) [.t 2], [], none⟩,
    ⟨none, .load 37 (.t 36) 1 false, [], none⟩,
    ⟨none, .val 38 (.faddr 2) [.t 3], [], none⟩,
    ⟨none, .store (.t 38) (.t 37) 1, [], none⟩]
def r10_10 : IC := (.reg o10_10 [3, 4])
def o10_11 : List IOp := [⟨none, .val 40 (.bin .eql) [.t 18, .k (.p (.int .u8 3))], [], none⟩,
    ⟨none, .val 39 .mov [.t 40], [], none⟩]
def r10_11 : IC := (.reg o10_11 [2, 3, 4, 18, 39])
def o10_12 : List IOp := [⟨none, .val 41 (.faddr 1) [.t 2], [], none⟩,
    ⟨none, .load 42 (.t 41) 1 false, [], none⟩,
    ⟨none, .val 43 (.faddr 6) [.t 3], [], none⟩,
    ⟨none, .store (.t 43) (.t 42) 1, [], none⟩]
def r10_12 : IC := (.reg o10_12 [3, 4])
def o10_13 : List IOp := [⟨none, .val 45 (.bin .eql) [.t 18, .k (.p (.int .u8 4))], [], none⟩,
    ⟨none, .val 44 .mov [.t 45], [], none⟩]
def r10_13 : IC := (.reg o10_13 [2, 3, 4, 44])
def o10_14 : List IOp := [⟨none, .val 46 (.faddr 3) [.t 3], [], none⟩,
    ⟨none, .load 47 (.t 46) 1 false, [], none⟩,
    ⟨none, .val 48 .not [.t 47], [], none⟩,
    ⟨none, .val 49 (.faddr 3) [.t 3], [], none⟩,
    ⟨none, .store (.t 49) (.t 48) 1, [], none⟩]
def r10_14 : IC := (.reg o10_14 [3, 4])
def o10_4 : List IOp := [⟨none, .val 19 (.faddr 6) [.t 3], [], none⟩,
    ⟨none, .load 20 (.t 19) 1 false, [], none⟩,
    ⟨none, .val 21 (.faddr 1) [.t 2], [], none⟩,
    ⟨none, .load 22 (.t 21) 1 false, [], none⟩,
    ⟨none, .val 23 (.bin .rem) [.t 22, .k (.p (.int .i64 3))], [], none⟩,
    ⟨none, .val 24 (.bin .add) [.t 20, .t 23], [], none⟩,
    ⟨none, .val 25 (.faddr 6) [.t 3], [], none⟩,
    ⟨none, .store (.t 25) (.t 24) 1, [], none⟩]
def r10_4 : IC := (.reg o10_4 [3, 4])
def o10_15 : List IOp := [⟨none, .load 50 (.t 3) 7 true, [], none⟩,
    ⟨none, .store (.t 4) (.t 50) 7, [], none⟩]
def r10_15 : IC := (.reg o10_15 [4])
def b10 : IC := (.seq r10_0 (.seq r10_1 (.seq r10_2 (.seq (.seq r10_3 (.block 0 (.seq r10_5 (.cond (.t 26) r10_6 (.seq r10_7 (.cond (.t 30) r10_8 (.seq r10_9 (.cond (.t 34) r10_10 (.seq r10_11 (.cond (.t 39) r10_12 (.seq r10_13 (.cond (.t 44) r10_14 r10_4)))))))))))) (.kp [3, 4] (.seq r10_15 .ret))))))
def i10 : IFn := ⟨2, 51, b10, [.cell 4 7 true]⟩
/- swap.Check -/
def o11_0 : List IOp := [⟨none, .boxL 1 (.t 0), [], none⟩,
    ⟨none, .val 2 .mov [.k (.p (.int .i64 0))], [], none⟩]
def r11_0 : IC := (.reg o11_0 [1])
def o11_1 : List IOp := [⟨none, .val 3 (.faddr 0) [.t 1], [], none⟩,
    ⟨none, .load 4 (.t 3) 2 true, [], none⟩,
    ⟨none, .call (some 5) 29 [.t 4], [], none⟩,
    ⟨none, .val 6 (.bin .neq) [.t 5, .k (.p (.int .i64 0))], [], none⟩,
    ⟨none, .val 7 .mov [.t 6], [], none⟩,
    ⟨(some (7, false)), .val 8 (.faddr 2) [.t 1], [], none⟩,
    ⟨(some (7, false)), .load 9 (.t 8) 1 false, [], none⟩,
    ⟨(some (7, false)), .litP 10 1 [.t 9], [], none⟩,
    ⟨(some (7, false)), .call (some 11) 30 [.t 10], [], none⟩,
    ⟨(some (7, false)), .val 12 .not [.t 11], [], none⟩,
    ⟨none, .val 13 .pick [.t 7, .k (.p (.bool true)), .t 12], [], none⟩]
def r11_1 : IC := (.reg o11_1 [1, 13])
def o11_2 : List IOp := [⟨none, .val 2 .mov [.k (.p (.int .i64 390))], [], none⟩]
def r11_2 : IC := (.reg o11_2 [2])
def o11_3 : List IOp := [⟨none, .val 14 (.faddr 3) [.t 1], [], none⟩,
    ⟨none, .load 15 (.t 14) 1 false, [], none⟩,
    ⟨none, .val 16 .not [.t 15], [], none⟩]
def r11_3 : IC := (.reg o11_3 [1, 16])
def o11_4 : List IOp := [⟨none, .val 17 (.faddr 4) [.t 1], [], none⟩,
    ⟨none, .val 18 (.faddr 0) [.t 17], [], none⟩,
    ⟨none, .load 19 (.t 18) 1 false, [], none⟩,
    ⟨none, .val 20 .len [.t 19], [], none⟩,
    ⟨none, .val 21 (.bin .neq) [.t 20, .k (.p (.int .i64 0))], [], none⟩,
    ⟨none, .val 22 .mov [.t 21], [], none⟩,
    ⟨(some (22, false)), .val 23 (.faddr 4) [.t 1], [], none⟩,
    ⟨(some (22, false)), .val 24 (.faddr 1) [.t 23], [], none⟩,
    ⟨(some (22, false)), .load 25 (.t 24) 1 false, [], none⟩,
    ⟨(some (22, false)), .val 26 (.bin .neq) [.t 25, .k (.p (.int .i64 0))], [], none⟩,
    ⟨none, .val 27 .pick [.t 22, .k (.p (.bool true)), .t 26], [], none⟩,
    ⟨none, .val 28 .mov [.t 27], [], none⟩,
    ⟨(some (28, false)), .val 29 (.faddr 6) [.t 1], [], none⟩,
    ⟨(some (28, false)), .load 30 (.t 29) 1 false, [], none⟩,
    ⟨(some (28, false)), .val 31 (.bin .neq) [.t 30, .k (.p (.int .i64 0))], [], none⟩,
    ⟨none, .val 32 .pick [.t 28, .k (.p (.bool true)), .t 31], [], none⟩]
def r11_4 : IC := (.reg o11_4 [32])
def o11_5 : List IOp := [⟨none, .val 2 .mov [.k (.p (.int .i64 390))], [], none⟩]
def r11_5 : IC := (.reg o11_5 [2])
def o11_6 : List IOp := [⟨none, .val 2 .mov [.k (.p (.int .i64 0))], [], none⟩]
def r11_6 : IC := (.reg o11_6 [2])
def o11_7 : List IOp := [⟨none, .val 33 (.faddr 4) [.t 1], [], none⟩,
    ⟨none, .load 34 (.t 33) 2 true, [], none⟩,
    ⟨none, .call (some 35) 29 [.t 34], [], none⟩,
    ⟨none, .val 36 (.bin .neq) [.t 35, .k (.p (.int .i64 0))], [], none⟩,
    ⟨none, .val 37 .mov [.t 36], [], none⟩,
    ⟨(some (37, false)), .val 38 (.faddr 6) [.t 1], [], none⟩,
    ⟨(some (37, false)), .load 39 (.t 38) 1 false, [], none⟩,
    ⟨(some (37, false)), .val 40 (.bin .lss) [.t 39, .k (.p (.int .i64 (-1099511627776)))], [], none⟩,
    ⟨none, .val 41 .pick [.t 37, .k (.p (.bool true)), .t 40], [], none⟩,
    ⟨none, .val 42 .mov [.t 41], [], none⟩,
    ⟨(some (42, false)), .val 43 (.faddr 6) [.t 1], [], none⟩,
    ⟨(some (42, false)), .load 44 (.t 43) 1 false, [], none⟩,
    ⟨(some (42, false)), .val 45 (.bin .gtr) [.t 44, .k (.p (.int .i64 2199023255552))], [], none⟩,
    ⟨none, .val 46 .pick [.t 42, .k (.p (.bool true)), .t 45], [], none⟩]
def r11_7 : IC := (.reg o11_7 [1, 46])
def o11_8 : List IOp := [⟨none, .val 2 .mov [.k (.p (.int .i64 390))], [], none⟩]
def r11_8 : IC := (.reg o11_8 [2])
def o11_9 : List IOp := [⟨none, .val 47 (.faddr 6) [.t 1], [], none⟩,
    ⟨none, .load 48 (.t 47) 1 false, [], none⟩,
    ⟨none, .val 49 (.faddr 2) [.t 1], [], none⟩,
    ⟨none, .load 50 (.t 49) 1 false, [], none⟩,
    ⟨none, .val 51 (.bin .sub) [.t 48, .t 50], [], none⟩,
    ⟨none, .val 52 (.faddr 0) [.t 1], [], none⟩,
    ⟨none, .val 53 (.faddr 1) [.t 52], [], none⟩,
    ⟨none, .load 54 (.t 53) 1 false, [], none⟩,
    ⟨none, .val 55 (.bin .rem) [.t 51, .t 54], [], none⟩,
    ⟨none, .val 56 (.bin .neq) [.t 55, .k (.p (.int .i64 0))], [], none⟩]
def r11_9 : IC := (.reg o11_9 [56])
def o11_10 : List IOp := [⟨none, .val 2 .mov [.k (.p (.int .i64 390))], [], none⟩]
def r11_10 : IC := (.reg o11_10 [2])
def o11_11 : List IOp := [⟨none, .val 2 .mov [.k (.p (.int .i64 0))], [], none⟩]
def r11_11 : IC := (.reg o11_11 [2])
def b11 : IC := (.seq r11_0 (.seq (.seq r11_1 (.cond (.t 13) (.seq r11_2 .ret) .skip)) (.kp [1] (.seq (.seq r11_3 (.cond (.t 16) (.seq (.seq r11_4 (.cond (.t 32) (.seq r11_5 .ret) .skip)) (.kp [] (.seq r11_6 .ret))) .skip)) (.kp [1] (.seq (.seq r11_7 (.cond (.t 46) (.seq r11_8 .ret) .skip)) (.kp [1] (.seq (.seq r11_9 (.cond (.t 56) (.seq r11_10 .ret) .skip)) (.kp [] (.seq r11_11 .ret))))))))))
def i11 : IFn := ⟨1, 57, b11, [.tmp 2]⟩
/- isochronref29.Check -/
def o12_0 : List IOp := [⟨none, .boxL 1 (.t 0), [], none⟩,
    ⟨none, .val 2 .mov [.k (.p (.int .i64 0))], [], none⟩]
def r12_0 : IC := (.reg o12_0 [1])
def o12_1 : List IOp := [⟨none, .load 3 (.t 1) 7 true, [], none⟩,
    ⟨none, .call (some 4) 31 [.t 3], [], none⟩]
def r12_1 : IC := (.reg o12_1 [4])
def o12_2 : List IOp := [⟨none, .val 2 .mov [.k (.p (.int .i64 0))], [], none⟩]
def r12_2 : IC := (.reg o12_2 [2])
def o12_3 : List IOp := [⟨none, .val 2 .mov [.k (.p (.int .i64 390))], [], none⟩]
def r12_3 : IC := (.reg o12_3 [2])
def b12 : IC := (.seq r12_0 (.seq (.seq r12_1 (.cond (.t 4) (.seq r12_2 .ret) .skip)) (.kp [] (.seq r12_3 .ret))))
def i12 : IFn := ⟨1, 5, b12, [.tmp 2]⟩
/- swap.Mask -/
def o13_0 : List IOp := [⟨none, .boxL 2 (.t 0), [], none⟩,
    ⟨none, .newH 4 [.p (.int .i64 0)], [], none⟩,
    ⟨none, .newH 5 [.p (.int .i64 0)], [], none⟩]
def r13_0 : IC := (.reg o13_0 [1, 2, 4, 5])
def o13_1 : List IOp := [⟨none, .load 8 (.t 2) 7 true, [], none⟩,
    ⟨none, .call (some 9) 11 [.t 8], [], none⟩,
    ⟨none, .val 6 .mov [.t 9], [], none⟩]
def r13_1 : IC := (.reg o13_1 [1, 2, 4, 5, 6])
def o13_2 : List IOp := [⟨none, .val 10 .mov [.t 6], [], none⟩,
    ⟨none, .val 11 (.bin .neq) [.t 10, .k (.p (.int .i64 0))], [], none⟩]
def r13_2 : IC := (.reg o13_2 [1, 2, 4, 5, 6, 11])
def o13_3 : List IOp := [⟨none, .val 12 .mov [.t 6], [], none⟩,
    ⟨none, .store (.t 4) (.k (.p (.int .i64 0))) 1, [], none⟩,
    ⟨none, .store (.t 5) (.t 12) 1, [], none⟩]
def r13_3 : IC := (.reg o13_3 [4, 5])
def o13_4 : List IOp := [⟨none, .val 13 .mov [.t 1], [], none⟩,
    ⟨none, .litP 14 1 [.t 13], [], none⟩,
    ⟨none, .call (some 15) 30 [.t 14], [], none⟩,
    ⟨none, .val 16 .not [.t 15], [], none⟩]
def r13_4 : IC := (.reg o13_4 [1, 2, 4, 5, 16])
def o13_5 : List IOp := [⟨none, .store (.t 4) (.k (.p (.int .i64 0))) 1, [], none⟩,
    ⟨none, .store (.t 5) (.k (.p (.int .i64 2))) 1, [], none⟩]
def r13_5 : IC := (.reg o13_5 [4, 5])
def o13_6 : List IOp := [⟨none, .load 17 (.t 2) 7 true, [], none⟩,
    ⟨none, .val 18 (.build [.p (.sl 2 true []), .p (.int .i64 0), .p (.int .i64 0), .p (.bool false), .p (.sl 2 true []), .p (.int .i64 0), .p (.int .i64 0)] [(0, 7)]) [.t 17], [], none⟩,
    ⟨none, .val 19 .mov [.t 1], [], none⟩,
    ⟨none, .call (some 20) 32 [.t 18, .t 19, .k (.p (.int .i64 1))], [], none⟩]
def r13_6 : IC := (.reg o13_6 [4, 5, 20])
def o13_7 : List IOp := [⟨none, .newL 7 [.p (.sl 2 true []), .p (.int .i64 0), .p (.int .i64 0), .p (.int .i64 0)], [], none⟩,
    ⟨none, .store (.t 7) (.t 21) 4, [], none⟩]
def r13_7 : IC := (.reg o13_7 [4, 5, 7])
def o13_8 : List IOp := [⟨none, .val 22 (.faddr 0) [.t 7], [], none⟩,
    ⟨none, .load 23 (.t 22) 2 true, [], none⟩,
    ⟨none, .val 24 (.faddr 2) [.t 7], [], none⟩,
    ⟨none, .load 25 (.t 24) 1 false, [], none⟩,
    ⟨none, .call (some 26) 33 [.t 23, .t 25], [], none⟩,
    ⟨none, .val 27 (.ext 0) [.t 26], [], none⟩,
    ⟨none, .val 28 (.ext 1) [.t 26], [], none⟩,
    ⟨none, .store (.t 4) (.t 27) 1, [], none⟩,
    ⟨none, .store (.t 5) (.t 28) 1, [], none⟩]
def r13_8 : IC := (.reg o13_8 [])
def ra13_1 : IC := r13_7
def rb13_1 : IC := (.block 1 (.seq r13_8 .ret))
def o13_9 : List IOp := [⟨none, .store (.t 4) (.k (.p (.int .i64 0))) 1, [], none⟩,
    ⟨none, .store (.t 5) (.k (.p (.int .i64 0))) 1, [], none⟩]
def r13_9 : IC := (.reg o13_9 [4, 5])
def b13 : IC := (.seq r13_0 (.seq (.seq r13_1 (.seq r13_2 (.cond (.t 11) (.seq r13_3 .ret) .skip))) (.kp [1, 2, 4, 5] (.seq (.seq r13_4 (.cond (.t 16) (.seq r13_5 .ret) .skip)) (.kp [1, 2, 4, 5] (.seq (.seq r13_6 (.block 0 (.rangeF (.t 20) [21] ra13_1 rb13_1))) (.seq r13_9 .ret)))))))
def i13 : IFn := ⟨2, 29, b13, [.cell 4 1 false, .cell 5 1 false]⟩
/- isochronref29.Mask -/
def o14_0 : List IOp := [⟨none, .boxL 2 (.t 0), [], none⟩,
    ⟨none, .val 4 .mov [.k (.p (.int .i64 0))], [], none⟩,
    ⟨none, .val 5 .mov [.k (.p (.int .i64 0))], [], none⟩]
def r14_0 : IC := (.reg o14_0 [1, 2])
def o14_1 : List IOp := [⟨none, .load 6 (.t 2) 7 true, [], none⟩,
    ⟨none, .call (some 7) 31 [.t 6], [], none⟩,
    ⟨none, .val 8 .not [.t 7], [], none⟩]
def r14_1 : IC := (.reg o14_1 [1, 2, 8])
def o14_2 : List IOp := [⟨none, .val 4 .mov [.k (.p (.int .i64 0))], [], none⟩,
    ⟨none, .val 5 .mov [.k (.p (.int .i64 390))], [], none⟩]
def r14_2 : IC := (.reg o14_2 [4, 5])
def o14_3 : List IOp := [⟨none, .val 9 .mov [.t 1], [], none⟩,
    ⟨none, .call (some 10) 34 [.t 9], [], none⟩,
    ⟨none, .val 11 .not [.t 10], [], none⟩]
def r14_3 : IC := (.reg o14_3 [1, 2, 11])
def o14_4 : List IOp := [⟨none, .val 4 .mov [.k (.p (.int .i64 0))], [], none⟩,
    ⟨none, .val 5 .mov [.k (.p (.int .i64 2))], [], none⟩]
def r14_4 : IC := (.reg o14_4 [4, 5])
def o14_5 : List IOp := [⟨none, .load 12 (.t 2) 7 true, [], none⟩,
    ⟨none, .val 13 .mov [.t 1], [], none⟩,
    ⟨none, .call (some 14) 35 [.t 12, .t 13], [], none⟩,
    ⟨none, .val 4 .mov [.t 14], [], none⟩,
    ⟨none, .val 5 .mov [.k (.p (.int .i64 0))], [], none⟩]
def r14_5 : IC := (.reg o14_5 [4, 5])
def b14 : IC := (.seq r14_0 (.seq (.seq r14_1 (.cond (.t 8) (.seq r14_2 .ret) .skip)) (.kp [1, 2] (.seq (.seq r14_3 (.cond (.t 11) (.seq r14_4 .ret) .skip)) (.kp [1, 2] (.seq r14_5 .ret))))))
def i14 : IFn := ⟨2, 15, b14, [.tmp 4, .tmp 5]⟩
/- swap.New -/
def o15_0 : List IOp := [⟨none, .boxL 2 (.t 0), [], none⟩,
    ⟨none, .newL 4 [.p (.sl 2 true []), .p (.int .i64 0), .p (.int .i64 0), .p (.bool false), .p (.sl 2 true []), .p (.int .i64 0), .p (.int .i64 0)], [], none⟩,
    ⟨none, .val 5 .mov [.k (.p (.int .i64 0))], [], none⟩]
def r15_0 : IC := (.reg o15_0 [1, 2, 4])
def o15_1 : List IOp := [⟨none, .load 7 (.t 2) 2 true, [], none⟩,
    ⟨none, .call (some 8) 29 [.t 7], [], none⟩,
    ⟨none, .val 6 .mov [.t 8], [], none⟩]
def r15_1 : IC := (.reg o15_1 [1, 2, 4, 6])
def o15_2 : List IOp := [⟨none, .val 9 .mov [.t 6], [], none⟩,
    ⟨none, .val 10 (.bin .neq) [.t 9, .k (.p (.int .i64 0))], [], none⟩]
def r15_2 : IC := (.reg o15_2 [1, 2, 4, 6, 10])
def o15_3 : List IOp := [⟨none, .val 11 (.build [.p (.sl 2 true []), .p (.int .i64 0), .p (.int .i64 0), .p (.bool false), .p (.sl 2 true []), .p (.int .i64 0), .p (.int .i64 0)] []) [], [], none⟩,
    ⟨none, .val 12 .mov [.t 6], [], none⟩,
    ⟨none, .store (.t 4) (.t 11) 7, [], none⟩,
    ⟨none, .val 5 .mov [.t 12], [], none⟩]
def r15_3 : IC := (.reg o15_3 [4, 5])
def o15_4 : List IOp := [⟨none, .val 13 .mov [.t 1], [], none⟩,
    ⟨none, .litP 14 1 [.t 13], [], none⟩,
    ⟨none, .call (some 15) 30 [.t 14], [], none⟩,
    ⟨none, .val 16 .not [.t 15], [], none⟩]
def r15_4 : IC := (.reg o15_4 [1, 2, 4, 16])
def o15_5 : List IOp := [⟨none, .val 17 (.build [.p (.sl 2 true []), .p (.int .i64 0), .p (.int .i64 0), .p (.bool false), .p (.sl 2 true []), .p (.int .i64 0), .p (.int .i64 0)] []) [], [], none⟩,
    ⟨none, .store (.t 4) (.t 17) 7, [], none⟩,
    ⟨none, .val 5 .mov [.k (.p (.int .i64 2))], [], none⟩]
def r15_5 : IC := (.reg o15_5 [4, 5])
def o15_6 : List IOp := [⟨none, .load 18 (.t 2) 2 true, [], none⟩,
    ⟨none, .val 19 .mov [.t 1], [], none⟩,
    ⟨none, .val 20 (.build [.p (.sl 2 true []), .p (.int .i64 0), .p (.int .i64 0), .p (.bool false), .p (.sl 2 true []), .p (.int .i64 0), .p (.int .i64 0)] [(0, 2), (2, 1)]) [.t 18, .t 19], [], none⟩,
    ⟨none, .store (.t 4) (.t 20) 7, [], none⟩,
    ⟨none, .val 5 .mov [.k (.p (.int .i64 0))], [], none⟩]
def r15_6 : IC := (.reg o15_6 [4, 5])
def b15 : IC := (.seq r15_0 (.seq (.seq r15_1 (.seq r15_2 (.cond (.t 10) (.seq r15_3 .ret) .skip))) (.kp [1, 2, 4] (.seq (.seq r15_4 (.cond (.t 16) (.seq r15_5 .ret) .skip)) (.kp [1, 2, 4] (.seq r15_6 .ret))))))
def i15 : IFn := ⟨2, 21, b15, [.cell 4 7 true, .tmp 5]⟩
/- isochronref29.New -/
def o16_0 : List IOp := [⟨none, .boxL 2 (.t 0), [], none⟩,
    ⟨none, .newL 4 [.p (.sl 2 true []), .p (.int .i64 0), .p (.int .i64 0), .p (.bool false), .p (.sl 2 true []), .p (.int .i64 0), .p (.int .i64 0)], [], none⟩,
    ⟨none, .val 5 .mov [.k (.p (.int .i64 0))], [], none⟩]
def r16_0 : IC := (.reg o16_0 [1, 2, 4])
def o16_1 : List IOp := [⟨none, .load 6 (.t 2) 2 true, [], none⟩,
    ⟨none, .call (some 7) 36 [.t 6], [], none⟩,
    ⟨none, .val 8 .not [.t 7], [], none⟩]
def r16_1 : IC := (.reg o16_1 [1, 2, 4, 8])
def o16_2 : List IOp := [⟨none, .val 9 (.build [.p (.sl 2 true []), .p (.int .i64 0), .p (.int .i64 0), .p (.bool false), .p (.sl 2 true []), .p (.int .i64 0), .p (.int .i64 0)] []) [], [], none⟩,
    ⟨none, .store (.t 4) (.t 9) 7, [], none⟩,
    ⟨none, .val 5 .mov [.k (.p (.int .i64 370))], [], none⟩]
def r16_2 : IC := (.reg o16_2 [4, 5])
def o16_3 : List IOp := [⟨none, .val 10 .mov [.t 1], [], none⟩,
    ⟨none, .call (some 11) 34 [.t 10], [], none⟩,
    ⟨none, .val 12 .not [.t 11], [], none⟩]
def r16_3 : IC := (.reg o16_3 [1, 2, 4, 12])
def o16_4 : List IOp := [⟨none, .val 13 (.build [.p (.sl 2 true []), .p (.int .i64 0), .p (.int .i64 0), .p (.bool false), .p (.sl 2 true []), .p (.int .i64 0), .p (.int .i64 0)] []) [], [], none⟩,
    ⟨none, .store (.t 4) (.t 13) 7, [], none⟩,
    ⟨none, .val 5 .mov [.k (.p (.int .i64 2))], [], none⟩]
def r16_4 : IC := (.reg o16_4 [4, 5])
def o16_5 : List IOp := [⟨none, .load 14 (.t 2) 2 true, [], none⟩,
    ⟨none, .val 15 .mov [.t 1], [], none⟩,
    ⟨none, .val 16 (.build [.p (.sl 2 true []), .p (.int .i64 0), .p (.int .i64 0), .p (.bool false), .p (.sl 2 true []), .p (.int .i64 0), .p (.int .i64 0)] [(0, 2), (2, 1)]) [.t 14, .t 15], [], none⟩,
    ⟨none, .store (.t 4) (.t 16) 7, [], none⟩,
    ⟨none, .val 5 .mov [.k (.p (.int .i64 0))], [], none⟩]
def r16_5 : IC := (.reg o16_5 [4, 5])
def b16 : IC := (.seq r16_0 (.seq (.seq r16_1 (.cond (.t 8) (.seq r16_2 .ret) .skip)) (.kp [1, 2, 4] (.seq (.seq r16_3 (.cond (.t 12) (.seq r16_4 .ret) .skip)) (.kp [1, 2, 4] (.seq r16_5 .ret))))))
def i16 : IFn := ⟨2, 17, b16, [.cell 4 7 true, .tmp 5]⟩
/- isochronref29.Same -/
def o17_0 : List IOp := [⟨none, .boxL 2 (.t 0), [], none⟩,
    ⟨none, .boxL 3 (.t 1), [], none⟩,
    ⟨none, .val 4 .mov [.k (.p (.bool false))], [], none⟩]
def r17_0 : IC := (.reg o17_0 [2, 3])
def o17_1 : List IOp := [⟨none, .val 5 (.faddr 0) [.t 2], [], none⟩,
    ⟨none, .load 6 (.t 5) 2 true, [], none⟩,
    ⟨none, .val 7 (.faddr 0) [.t 3], [], none⟩,
    ⟨none, .load 8 (.t 7) 2 true, [], none⟩,
    ⟨none, .call (some 9) 37 [.t 6, .t 8], [], none⟩,
    ⟨none, .val 10 .mov [.t 9], [], none⟩,
    ⟨(some (10, true)), .val 11 (.faddr 2) [.t 2], [], none⟩,
    ⟨(some (10, true)), .load 12 (.t 11) 1 false, [], none⟩,
    ⟨(some (10, true)), .val 13 (.faddr 2) [.t 3], [], none⟩,
    ⟨(some (10, true)), .load 14 (.t 13) 1 false, [], none⟩,
    ⟨(some (10, true)), .val 15 (.bin .eql) [.t 12, .t 14], [], none⟩,
    ⟨none, .val 16 .pick [.t 10, .t 15, .k (.p (.bool false))], [], none⟩,
    ⟨none, .val 17 .mov [.t 16], [], none⟩,
    ⟨(some (17, true)), .val 18 (.faddr 3) [.t 2], [], none⟩,
    ⟨(some (17, true)), .load 19 (.t 18) 1 false, [], none⟩,
    ⟨(some (17, true)), .val 20 (.faddr 3) [.t 3], [], none⟩,
    ⟨(some (17, true)), .load 21 (.t 20) 1 false, [], none⟩,
    ⟨(some (17, true)), .val 22 (.eqB false) [.t 19, .t 21], [], none⟩,
    ⟨none, .val 23 .pick [.t 17, .t 22, .k (.p (.bool false))], [], none⟩,
    ⟨none, .val 24 .mov [.t 23], [], none⟩,
    ⟨(some (24, true)), .val 25 (.faddr 4) [.t 2], [], none⟩,
    ⟨(some (24, true)), .load 26 (.t 25) 2 true, [], none⟩,
    ⟨(some (24, true)), .val 27 (.faddr 4) [.t 3], [], none⟩,
    ⟨(some (24, true)), .load 28 (.t 27) 2 true, [], none⟩,
    ⟨(some (24, true)), .call (some 29) 37 [.t 26, .t 28], [], none⟩,
    ⟨none, .val 30 .pick [.t 24, .t 29, .k (.p (.bool false))], [], none⟩,
    ⟨none, .val 31 .mov [.t 30], [], none⟩,
    ⟨(some (31, true)), .val 32 (.faddr 6) [.t 2], [], none⟩,
    ⟨(some (31, true)), .load 33 (.t 32) 1 false, [], none⟩,
    ⟨(some (31, true)), .val 34 (.faddr 6) [.t 3], [], none⟩,
    ⟨(some (31, true)), .load 35 (.t 34) 1 false, [], none⟩,
    ⟨(some (31, true)), .val 36 (.bin .eql) [.t 33, .t 35], [], none⟩,
    ⟨none, .val 37 .pick [.t 31, .t 36, .k (.p (.bool false))], [], none⟩,
    ⟨none, .val 4 .mov [.t 37], [], none⟩]
def r17_1 : IC := (.reg o17_1 [4])
def b17 : IC := (.seq r17_0 (.seq r17_1 .ret))
def i17 : IFn := ⟨2, 38, b17, [.tmp 4]⟩
/- isochronlaw29.works -/
def o18_0 : List IOp := [⟨none, .val 0 .mov [.k (.p (.bool false))], [], none⟩]
def r18_0 : IC := (.reg o18_0 [])
def o18_1 : List IOp := [⟨none, .litP 15 1 [.k (.p (.int .i64 128)), .k (.p (.int .i64 10)), .k (.p (.int .i64 127)), .k (.p (.int .i64 30))], [], none⟩,
    ⟨none, .call (some 16) 28 [.t 15], [], none⟩,
    ⟨none, .litP 17 1 [.k (.p (.int .i64 255)), .k (.p (.int .i64 5)), .k (.p (.int .i64 127)), .k (.p (.int .i64 5))], [], none⟩,
    ⟨none, .call (some 18) 28 [.t 17], [], none⟩,
    ⟨none, .newL 1 [.p (.sl 2 true []), .p (.int .i64 0)], [], none⟩,
    ⟨none, .newL 2 [.p (.sl 2 true []), .p (.int .i64 0)], [], none⟩,
    ⟨none, .store (.t 1) (.t 16) 2, [], none⟩,
    ⟨none, .store (.t 2) (.t 18) 2, [], none⟩]
def r18_1 : IC := (.reg o18_1 [1, 2])
def o18_2 : List IOp := [⟨none, .load 20 (.t 1) 2 true, [], none⟩,
    ⟨none, .call (some 21) 15 [.t 20, .k (.p (.int .i64 100))], [], none⟩,
    ⟨none, .val 19 .mov [.t 21], [], none⟩,
    ⟨none, .val 22 (.ext 0) [.t 19], [], none⟩,
    ⟨none, .val 23 (.ext 1) [.t 19], [], none⟩,
    ⟨none, .newL 3 [.p (.sl 2 true []), .p (.int .i64 0), .p (.int .i64 0), .p (.bool false), .p (.sl 2 true []), .p (.int .i64 0), .p (.int .i64 0)], [], none⟩,
    ⟨none, .store (.t 3) (.t 22) 7, [], none⟩,
    ⟨none, .val 4 .mov [.t 23], [], none⟩]
def r18_2 : IC := (.reg o18_2 [2, 3, 4])
def o18_3 : List IOp := [⟨none, .load 25 (.t 3) 7 true, [], none⟩,
    ⟨none, .load 26 (.t 2) 2 true, [], none⟩,
    ⟨none, .call (some 27) 22 [.t 25, .k (.p (.int .i64 150)), .t 26, .k (.p (.int .i64 0))], [], none⟩,
    ⟨none, .val 24 .mov [.t 27], [], none⟩,
    ⟨none, .val 28 (.ext 0) [.t 24], [], none⟩,
    ⟨none, .val 29 (.ext 1) [.t 24], [], none⟩,
    ⟨none, .newL 5 [.p (.sl 2 true []), .p (.int .i64 0), .p (.int .i64 0), .p (.bool false), .p (.sl 2 true []), .p (.int .i64 0), .p (.int .i64 0)], [], none⟩,
    ⟨none, .store (.t 5) (.t 28) 7, [], none⟩,
    ⟨none, .val 6 .mov [.t 29], [], none⟩]
def r18_3 : IC := (.reg o18_3 [2, 3, 4, 5, 6])
def o18_4 : List IOp := [⟨none, .load 31 (.t 3) 7 true, [], none⟩,
    ⟨none, .load 32 (.t 2) 2 true, [], none⟩,
    ⟨none, .call (some 33) 22 [.t 31, .k (.p (.int .i64 150)), .t 32, .k (.p (.int .i64 181))], [], none⟩,
    ⟨none, .val 30 .mov [.t 33], [], none⟩,
    ⟨none, .val 34 (.ext 0) [.t 30], [], none⟩,
    ⟨none, .val 35 (.ext 1) [.t 30], [], none⟩,
    ⟨none, .newL 7 [.p (.sl 2 true []), .p (.int .i64 0), .p (.int .i64 0), .p (.bool false), .p (.sl 2 true []), .p (.int .i64 0), .p (.int .i64 0)], [], none⟩,
    ⟨none, .store (.t 7) (.t 34) 7, [], none⟩,
    ⟨none, .val 8 .mov [.t 35], [], none⟩]
def r18_4 : IC := (.reg o18_4 [3, 4, 5, 6, 7, 8])
def o18_5 : List IOp := [⟨none, .load 37 (.t 5) 7 true, [], none⟩,
    ⟨none, .call (some 38) 19 [.t 37, .k (.p (.int .i64 179))], [], none⟩,
    ⟨none, .val 36 .mov [.t 38], [], none⟩,
    ⟨none, .val 39 (.ext 0) [.t 36], [], none⟩,
    ⟨none, .val 40 (.ext 1) [.t 36], [], none⟩,
    ⟨none, .newL 9 [.p (.sl 2 true []), .p (.int .i64 0), .p (.int .i64 0), .p (.bool false), .p (.sl 2 true []), .p (.int .i64 0), .p (.int .i64 0)], [], none⟩,
    ⟨none, .store (.t 9) (.t 39) 7, [], none⟩,
    ⟨none, .val 10 .mov [.t 40], [], none⟩]
def r18_5 : IC := (.reg o18_5 [3, 4, 5, 6, 7, 8, 9, 10])
def o18_6 : List IOp := [⟨none, .load 42 (.t 5) 7 true, [], none⟩,
    ⟨none, .call (some 43) 19 [.t 42, .k (.p (.int .i64 180))], [], none⟩,
    ⟨none, .val 41 .mov [.t 43], [], none⟩,
    ⟨none, .val 44 (.ext 0) [.t 41], [], none⟩,
    ⟨none, .val 45 (.ext 1) [.t 41], [], none⟩,
    ⟨none, .newL 11 [.p (.sl 2 true []), .p (.int .i64 0), .p (.int .i64 0), .p (.bool false), .p (.sl 2 true []), .p (.int .i64 0), .p (.int .i64 0)], [], none⟩,
    ⟨none, .store (.t 11) (.t 44) 7, [], none⟩,
    ⟨none, .val 12 .mov [.t 45], [], none⟩]
def r18_6 : IC := (.reg o18_6 [3, 4, 5, 6, 7, 8, 9, 10, 11, 12])
def o18_7 : List IOp := [⟨none, .val 46 .mov [.t 4], [], none⟩,
    ⟨none, .val 47 (.bin .neq) [.t 46, .k (.p (.int .i64 0))], [], none⟩,
    ⟨none, .val 48 .mov [.t 47], [], none⟩,
    ⟨(some (48, false)), .val 49 .mov [.t 6], [], none⟩,
    ⟨(some (48, false)), .val 50 (.bin .neq) [.t 49, .k (.p (.int .i64 0))], [], none⟩,
    ⟨none, .val 51 .pick [.t 48, .k (.p (.bool true)), .t 50], [], none⟩,
    ⟨none, .val 52 .mov [.t 51], [], none⟩,
    ⟨(some (52, false)), .val 53 .mov [.t 8], [], none⟩,
    ⟨(some (52, false)), .val 54 (.bin .neq) [.t 53, .k (.p (.int .i64 0))], [], none⟩,
    ⟨none, .val 55 .pick [.t 52, .k (.p (.bool true)), .t 54], [], none⟩,
    ⟨none, .val 56 .mov [.t 55], [], none⟩,
    ⟨(some (56, false)), .val 57 .mov [.t 10], [], none⟩,
    ⟨(some (56, false)), .val 58 (.bin .neq) [.t 57, .k (.p (.int .i64 0))], [], none⟩,
    ⟨none, .val 59 .pick [.t 56, .k (.p (.bool true)), .t 58], [], none⟩,
    ⟨none, .val 60 .mov [.t 59], [], none⟩,
    ⟨(some (60, false)), .val 61 .mov [.t 12], [], none⟩,
    ⟨(some (60, false)), .val 62 (.bin .neq) [.t 61, .k (.p (.int .i64 0))], [], none⟩,
    ⟨none, .val 63 .pick [.t 60, .k (.p (.bool true)), .t 62], [], none⟩]
def r18_7 : IC := (.reg o18_7 [3, 5, 7, 9, 11, 63])
def o18_8 : List IOp := [⟨none, .val 0 .mov [.k (.p (.bool false))], [], none⟩]
def r18_8 : IC := (.reg o18_8 [0])
def o18_9 : List IOp := [⟨none, .load 64 (.t 3) 7 true, [], none⟩,
    ⟨none, .call (some 65) 26 [.t 64, .k (.p (.int .i64 105))], [], none⟩,
    ⟨none, .val 66 (.bin .eql) [.t 65, .k (.p (.int .i64 128))], [], none⟩,
    ⟨none, .val 67 .mov [.t 66], [], none⟩,
    ⟨(some (67, true)), .load 68 (.t 3) 7 true, [], none⟩,
    ⟨(some (67, true)), .call (some 69) 26 [.t 68, .k (.p (.int .i64 99))], [], none⟩,
    ⟨(some (67, true)), .val 70 (.bin .eql) [.t 69, .k (.p (.int .i64 127))], [], none⟩,
    ⟨none, .val 71 .pick [.t 67, .t 70, .k (.p (.bool false))], [], none⟩,
    ⟨none, .val 72 .mov [.t 71], [], none⟩,
    ⟨(some (72, true)), .load 73 (.t 3) 7 true, [], none⟩,
    ⟨(some (72, true)), .call (some 74) 26 [.t 73, .k (.p (.int .i64 140))], [], none⟩,
    ⟨(some (72, true)), .val 75 (.bin .eql) [.t 74, .k (.p (.int .i64 128))], [], none⟩,
    ⟨none, .val 76 .pick [.t 72, .t 75, .k (.p (.bool false))], [], none⟩,
    ⟨none, .val 77 .mov [.t 76], [], none⟩,
    ⟨(some (77, true)), .val 78 (.faddr 6) [.t 5], [], none⟩,
    ⟨(some (77, true)), .load 79 (.t 78) 1 false, [], none⟩,
    ⟨(some (77, true)), .val 80 (.bin .eql) [.t 79, .k (.p (.int .i64 180))], [], none⟩,
    ⟨none, .val 81 .pick [.t 77, .t 80, .k (.p (.bool false))], [], none⟩,
    ⟨none, .val 82 .mov [.t 81], [], none⟩,
    ⟨(some (82, true)), .val 83 (.faddr 6) [.t 7], [], none⟩,
    ⟨(some (82, true)), .load 84 (.t 83) 1 false, [], none⟩,
    ⟨(some (82, true)), .val 85 (.bin .eql) [.t 84, .k (.p (.int .i64 220))], [], none⟩,
    ⟨none, .val 86 .pick [.t 82, .t 85, .k (.p (.bool false))], [], none⟩,
    ⟨none, .val 13 .mov [.t 86], [], none⟩]
def r18_9 : IC := (.reg o18_9 [5, 9, 11, 13])
def o18_10 : List IOp := [⟨none, .load 87 (.t 5) 7 true, [], none⟩,
    ⟨none, .call (some 88) 26 [.t 87, .k (.p (.int .i64 179))], [], none⟩,
    ⟨none, .val 89 (.bin .eql) [.t 88, .k (.p (.int .i64 127))], [], none⟩,
    ⟨none, .val 90 .mov [.t 89], [], none⟩,
    ⟨(some (90, true)), .load 91 (.t 5) 7 true, [], none⟩,
    ⟨(some (90, true)), .call (some 92) 26 [.t 91, .k (.p (.int .i64 180))], [], none⟩,
    ⟨(some (90, true)), .val 93 (.bin .eql) [.t 92, .k (.p (.int .i64 255))], [], none⟩,
    ⟨none, .val 94 .pick [.t 90, .t 93, .k (.p (.bool false))], [], none⟩,
    ⟨none, .val 95 .mov [.t 94], [], none⟩,
    ⟨(some (95, true)), .load 96 (.t 5) 7 true, [], none⟩,
    ⟨(some (95, true)), .call (some 97) 26 [.t 96, .k (.p (.int .i64 185))], [], none⟩,
    ⟨(some (95, true)), .val 98 (.bin .eql) [.t 97, .k (.p (.int .i64 127))], [], none⟩,
    ⟨none, .val 99 .pick [.t 95, .t 98, .k (.p (.bool false))], [], none⟩,
    ⟨none, .val 100 .mov [.t 99], [], none⟩,
    ⟨(some (100, true)), .load 101 (.t 5) 7 true, [], none⟩,
    ⟨(some (100, true)), .call (some 102) 26 [.t 101, .k (.p (.int .i64 190))], [], none⟩,
    ⟨(some (100, true)), .val 103 (.bin .eql) [.t 102, .k (.p (.int .i64 255))], [], none⟩,
    ⟨none, .val 104 .pick [.t 100, .t 103, .k (.p (.bool false))], [], none⟩,
    ⟨none, .val 14 .mov [.t 104], [], none⟩]
def r18_10 : IC := (.reg o18_10 [5, 9, 11, 13, 14])
def o18_11 : List IOp := [⟨none, .val 105 .mov [.t 13], [], none⟩,
    ⟨none, .val 106 .mov [.t 105], [], none⟩,
    ⟨(some (106, true)), .val 107 .mov [.t 14], [], none⟩,
    ⟨none, .val 108 .pick [.t 106, .t 107, .k (.p (.bool false))], [], none⟩,
    ⟨none, .val 109 .mov [.t 108], [], none⟩,
    ⟨(some (109, true)), .load 110 (.t 5) 7 true, [], none⟩,
    ⟨(some (109, true)), .call (some 111) 27 [.t 110, .k (.p (.int .i64 0)), .k (.p (.int .i64 175)), .k (.p (.int .i64 20))], [], none⟩,
    ⟨none, .val 112 .pick [.t 109, .t 111, .k (.p (.bool false))], [], none⟩,
    ⟨none, .val 113 .mov [.t 112], [], none⟩,
    ⟨(some (113, true)), .load 114 (.t 5) 7 true, [], none⟩,
    ⟨(some (113, true)), .call (some 115) 27 [.t 114, .k (.p (.int .i64 7)), .k (.p (.int .i64 175)), .k (.p (.int .i64 1))], [], none⟩,
    ⟨(some (113, true)), .val 116 .not [.t 115], [], none⟩,
    ⟨none, .val 117 .pick [.t 113, .t 116, .k (.p (.bool false))], [], none⟩,
    ⟨none, .val 118 .mov [.t 117], [], none⟩,
    ⟨(some (118, true)), .load 119 (.t 5) 7 true, [], none⟩,
    ⟨(some (118, true)), .call (some 120) 27 [.t 119, .k (.p (.int .i64 7)), .k (.p (.int .i64 180)), .k (.p (.int .i64 6))], [], none⟩,
    ⟨(some (118, true)), .val 121 .not [.t 120], [], none⟩,
    ⟨none, .val 122 .pick [.t 118, .t 121, .k (.p (.bool false))], [], none⟩,
    ⟨none, .val 123 .mov [.t 122], [], none⟩,
    ⟨(some (123, true)), .load 124 (.t 9) 7 true, [], none⟩,
    ⟨(some (123, true)), .load 125 (.t 5) 7 true, [], none⟩,
    ⟨(some (123, true)), .call (some 126) 17 [.t 124, .t 125], [], none⟩,
    ⟨none, .val 127 .pick [.t 123, .t 126, .k (.p (.bool false))], [], none⟩,
    ⟨none, .val 128 .mov [.t 127], [], none⟩,
    ⟨(some (128, true)), .val 129 (.faddr 2) [.t 11], [], none⟩,
    ⟨(some (128, true)), .load 130 (.t 129) 1 false, [], none⟩,
    ⟨(some (128, true)), .val 131 (.bin .eql) [.t 130, .k (.p (.int .i64 180))], [], none⟩,
    ⟨none, .val 132 .pick [.t 128, .t 131, .k (.p (.bool false))], [], none⟩,
    ⟨none, .val 133 .mov [.t 132], [], none⟩,
    ⟨(some (133, true)), .val 134 (.faddr 3) [.t 11], [], none⟩,
    ⟨(some (133, true)), .load 135 (.t 134) 1 false, [], none⟩,
    ⟨(some (133, true)), .val 136 .not [.t 135], [], none⟩,
    ⟨none, .val 137 .pick [.t 133, .t 136, .k (.p (.bool false))], [], none⟩,
    ⟨none, .val 0 .mov [.t 137], [], none⟩]
def r18_11 : IC := (.reg o18_11 [0])
def b18 : IC := (.seq r18_0 (.seq r18_1 (.seq r18_2 (.seq r18_3 (.seq r18_4 (.seq r18_5 (.seq r18_6 (.seq (.seq r18_7 (.cond (.t 63) (.seq r18_8 .ret) .skip)) (.kp [3, 5, 7, 9, 11] (.seq r18_9 (.seq r18_10 (.seq r18_11 .ret))))))))))))
def i18 : IFn := ⟨0, 138, b18, [.tmp 0]⟩
/- swap.Advance -/
def o19_0 : List IOp := [⟨none, .boxL 2 (.t 0), [], none⟩,
    ⟨none, .newL 4 [.p (.sl 2 true []), .p (.int .i64 0), .p (.int .i64 0), .p (.bool false), .p (.sl 2 true []), .p (.int .i64 0), .p (.int .i64 0)], [], none⟩,
    ⟨none, .val 5 .mov [.k (.p (.int .i64 0))], [], none⟩]
def r19_0 : IC := (.reg o19_0 [1, 2, 4])
def o19_1 : List IOp := [⟨none, .load 8 (.t 2) 7 true, [], none⟩,
    ⟨none, .call (some 9) 11 [.t 8], [], none⟩,
    ⟨none, .val 6 .mov [.t 9], [], none⟩]
def r19_1 : IC := (.reg o19_1 [1, 2, 4, 6])
def o19_2 : List IOp := [⟨none, .val 10 .mov [.t 6], [], none⟩,
    ⟨none, .val 11 (.bin .neq) [.t 10, .k (.p (.int .i64 0))], [], none⟩]
def r19_2 : IC := (.reg o19_2 [1, 2, 4, 6, 11])
def o19_3 : List IOp := [⟨none, .val 12 (.build [.p (.sl 2 true []), .p (.int .i64 0), .p (.int .i64 0), .p (.bool false), .p (.sl 2 true []), .p (.int .i64 0), .p (.int .i64 0)] []) [], [], none⟩,
    ⟨none, .val 13 .mov [.t 6], [], none⟩,
    ⟨none, .store (.t 4) (.t 12) 7, [], none⟩,
    ⟨none, .val 5 .mov [.t 13], [], none⟩]
def r19_3 : IC := (.reg o19_3 [4, 5])
def o19_4 : List IOp := [⟨none, .val 14 .mov [.t 1], [], none⟩,
    ⟨none, .litP 15 1 [.t 14], [], none⟩,
    ⟨none, .call (some 16) 30 [.t 15], [], none⟩,
    ⟨none, .val 17 .not [.t 16], [], none⟩]
def r19_4 : IC := (.reg o19_4 [1, 2, 4, 17])
def o19_5 : List IOp := [⟨none, .val 18 (.build [.p (.sl 2 true []), .p (.int .i64 0), .p (.int .i64 0), .p (.bool false), .p (.sl 2 true []), .p (.int .i64 0), .p (.int .i64 0)] []) [], [], none⟩,
    ⟨none, .store (.t 4) (.t 18) 7, [], none⟩,
    ⟨none, .val 5 .mov [.k (.p (.int .i64 2))], [], none⟩]
def r19_5 : IC := (.reg o19_5 [4, 5])
def o19_6 : List IOp := [⟨none, .load 19 (.t 2) 7 true, [], none⟩,
    ⟨none, .val 20 (.build [.p (.sl 2 true []), .p (.int .i64 0), .p (.int .i64 0), .p (.bool false), .p (.sl 2 true []), .p (.int .i64 0), .p (.int .i64 0)] [(0, 7)]) [.t 19], [], none⟩,
    ⟨none, .newH 7 [.p (.sl 2 true []), .p (.int .i64 0), .p (.int .i64 0), .p (.bool false), .p (.sl 2 true []), .p (.int .i64 0), .p (.int .i64 0)], [], none⟩,
    ⟨none, .store (.t 7) (.t 20) 7, [], none⟩]
def r19_6 : IC := (.reg o19_6 [1, 4, 7])
def o19_7 : List IOp := [⟨none, .val 21 .mov [.t 1], [], none⟩,
    ⟨none, .call (some 22) 38 [.t 7, .t 21], [], none⟩]
def r19_7 : IC := (.reg o19_7 [4, 7])
def o19_8 : List IOp := [⟨none, .val 23 (.faddr 0) [.t 7], [], none⟩,
    ⟨none, .load 24 (.t 23) 7 true, [], none⟩,
    ⟨none, .store (.t 4) (.t 24) 7, [], none⟩,
    ⟨none, .val 5 .mov [.k (.p (.int .i64 0))], [], none⟩]
def r19_8 : IC := (.reg o19_8 [4, 5])
def b19 : IC := (.seq r19_0 (.seq (.seq r19_1 (.seq r19_2 (.cond (.t 11) (.seq r19_3 .ret) .skip))) (.kp [1, 2, 4] (.seq (.seq r19_4 (.cond (.t 17) (.seq r19_5 .ret) .skip)) (.kp [1, 2, 4] (.seq r19_6 (.seq r19_7 (.seq r19_8 .ret))))))))
def i19 : IFn := ⟨2, 25, b19, [.cell 4 7 true, .tmp 5]⟩
/- isochronref29.Advance -/
def o20_0 : List IOp := [⟨none, .boxL 2 (.t 0), [], none⟩,
    ⟨none, .newL 4 [.p (.sl 2 true []), .p (.int .i64 0), .p (.int .i64 0), .p (.bool false), .p (.sl 2 true []), .p (.int .i64 0), .p (.int .i64 0)], [], none⟩,
    ⟨none, .val 5 .mov [.k (.p (.int .i64 0))], [], none⟩]
def r20_0 : IC := (.reg o20_0 [1, 2, 4])
def o20_1 : List IOp := [⟨none, .load 6 (.t 2) 7 true, [], none⟩,
    ⟨none, .call (some 7) 31 [.t 6], [], none⟩,
    ⟨none, .val 8 .not [.t 7], [], none⟩]
def r20_1 : IC := (.reg o20_1 [1, 2, 4, 8])
def o20_2 : List IOp := [⟨none, .val 9 (.build [.p (.sl 2 true []), .p (.int .i64 0), .p (.int .i64 0), .p (.bool false), .p (.sl 2 true []), .p (.int .i64 0), .p (.int .i64 0)] []) [], [], none⟩,
    ⟨none, .store (.t 4) (.t 9) 7, [], none⟩,
    ⟨none, .val 5 .mov [.k (.p (.int .i64 390))], [], none⟩]
def r20_2 : IC := (.reg o20_2 [4, 5])
def o20_3 : List IOp := [⟨none, .val 10 .mov [.t 1], [], none⟩,
    ⟨none, .call (some 11) 34 [.t 10], [], none⟩,
    ⟨none, .val 12 .not [.t 11], [], none⟩]
def r20_3 : IC := (.reg o20_3 [1, 2, 4, 12])
def o20_4 : List IOp := [⟨none, .val 13 (.build [.p (.sl 2 true []), .p (.int .i64 0), .p (.int .i64 0), .p (.bool false), .p (.sl 2 true []), .p (.int .i64 0), .p (.int .i64 0)] []) [], [], none⟩,
    ⟨none, .store (.t 4) (.t 13) 7, [], none⟩,
    ⟨none, .val 5 .mov [.k (.p (.int .i64 2))], [], none⟩]
def r20_4 : IC := (.reg o20_4 [4, 5])
def o20_5 : List IOp := [⟨none, .load 14 (.t 2) 7 true, [], none⟩,
    ⟨none, .val 15 .mov [.t 1], [], none⟩,
    ⟨none, .call (some 16) 39 [.t 14, .t 15], [], none⟩,
    ⟨none, .store (.t 4) (.t 16) 7, [], none⟩,
    ⟨none, .val 5 .mov [.k (.p (.int .i64 0))], [], none⟩]
def r20_5 : IC := (.reg o20_5 [4, 5])
def b20 : IC := (.seq r20_0 (.seq (.seq r20_1 (.cond (.t 8) (.seq r20_2 .ret) .skip)) (.kp [1, 2, 4] (.seq (.seq r20_3 (.cond (.t 12) (.seq r20_4 .ret) .skip)) (.kp [1, 2, 4] (.seq r20_5 .ret))))))
def i20 : IFn := ⟨2, 17, b20, [.cell 4 7 true, .tmp 5]⟩
/- (isochronref27.Draft).Gates -/
def o21_0 : List IOp := [⟨none, .boxL 1 (.t 0), [], none⟩,
    ⟨none, .newL 2 [.p (.sl 2 true []), .p (.int .i64 0)], [], none⟩]
def r21_0 : IC := (.reg o21_0 [1, 2])
def o21_1 : List IOp := [⟨none, .newL 3 [.p (.sl 2 true []), .p (.int .i64 0)], [], none⟩]
def r21_1 : IC := (.reg o21_1 [1, 2, 3])
def o21_2 : List IOp := [⟨none, .val 4 .mov [.k (.p (.int .i64 0))], [], none⟩]
def r21_2 : IC := (.reg o21_2 [1, 2, 3, 4])
def o21_3 : List IOp := [⟨none, .val 6 .mov [.t 4], [], none⟩,
    ⟨none, .val 7 (.faddr 0) [.t 1], [], none⟩,
    ⟨none, .load 8 (.t 7) 1 false, [], none⟩,
    ⟨none, .val 9 .len [.t 8], [], none⟩,
    ⟨none, .val 10 .min [.t 9, .k (.p (.int .i64 16))], [], none⟩,
    ⟨none, .val 11 .max [.k (.p (.int .i64 1)), .t 10], [], none⟩,
    ⟨none, .val 12 (.bin .lss) [.t 6, .t 11], [], none⟩]
def r21_3 : IC := (.reg o21_3 [1, 2, 3, 4, 12])
def o21_5 : List IOp := [⟨none, .val 15 (.build [.p (.int .i64 0), .p (.int .i64 0)] [(0, 1), (1, 1)]) [.k (.p (.int .i64 127)), .k (.p (.int .i64 1))], [], none⟩,
    ⟨none, .newL 5 [.p (.int .i64 0), .p (.int .i64 0)], [], none⟩,
    ⟨none, .store (.t 5) (.t 15) 2, [], none⟩]
def r21_5 : IC := (.reg o21_5 [1, 2, 3, 4, 5])
def o21_6 : List IOp := [⟨none, .val 16 .mov [.t 4], [], none⟩,
    ⟨none, .val 17 (.faddr 0) [.t 1], [], none⟩,
    ⟨none, .load 18 (.t 17) 1 false, [], none⟩,
    ⟨none, .val 19 .len [.t 18], [], none⟩,
    ⟨none, .val 20 (.bin .lss) [.t 16, .t 19], [], none⟩]
def r21_6 : IC := (.reg o21_6 [1, 2, 3, 4, 5, 20])
def o21_7 : List IOp := [⟨none, .val 21 (.faddr 0) [.t 1], [], none⟩,
    ⟨none, .load 22 (.t 21) 1 false, [], none⟩,
    ⟨none, .val 23 .mov [.t 4], [], none⟩,
    ⟨none, .val 24 (.iaddrS 1) [.t 22, .t 23], [], none⟩,
    ⟨none, .load 25 (.t 24) 1 false, [], none⟩,
    ⟨none, .val 26 (.conv .i64) [.t 25], [], none⟩,
    ⟨none, .val 27 (.faddr 0) [.t 5], [], none⟩,
    ⟨none, .store (.t 27) (.t 26) 1, [], none⟩]
def r21_7 : IC := (.reg o21_7 [1, 2, 3, 4, 5])
def o21_8 : List IOp := [⟨none, .val 28 .mov [.t 4], [], none⟩,
    ⟨none, .val 29 (.faddr 1) [.t 1], [], none⟩,
    ⟨none, .load 30 (.t 29) 1 false, [], none⟩,
    ⟨none, .val 31 .len [.t 30], [], none⟩,
    ⟨none, .val 32 (.bin .lss) [.t 28, .t 31], [], none⟩]
def r21_8 : IC := (.reg o21_8 [1, 2, 3, 4, 5, 32])
def o21_9 : List IOp := [⟨none, .val 33 (.faddr 1) [.t 1], [], none⟩,
    ⟨none, .load 34 (.t 33) 1 false, [], none⟩,
    ⟨none, .val 35 .mov [.t 4], [], none⟩,
    ⟨none, .val 36 (.iaddrS 1) [.t 34, .t 35], [], none⟩,
    ⟨none, .load 37 (.t 36) 1 false, [], none⟩,
    ⟨none, .val 38 (.bin .rem) [.t 37, .k (.p (.int .u8 20))], [], none⟩,
    ⟨none, .val 39 (.conv .i64) [.t 38], [], none⟩,
    ⟨none, .val 40 (.bin .add) [.k (.p (.int .i64 1)), .t 39], [], none⟩,
    ⟨none, .val 41 (.faddr 1) [.t 5], [], none⟩,
    ⟨none, .store (.t 41) (.t 40) 1, [], none⟩]
def r21_9 : IC := (.reg o21_9 [1, 2, 3, 4, 5])
def o21_10 : List IOp := [⟨none, .val 42 (.faddr 0) [.t 3], [], none⟩,
    ⟨none, .load 43 (.t 42) 1 false, [], none⟩,
    ⟨none, .load 44 (.t 5) 2 true, [], none⟩,
    ⟨none, .litP 45 2 [.t 44], [], none⟩,
    ⟨none, .app 46 (.t 43) (.t 45) 2 16, [], none⟩,
    ⟨none, .val 47 (.faddr 0) [.t 3], [], none⟩,
    ⟨none, .store (.t 47) (.t 46) 1, [], none⟩]
def r21_10 : IC := (.reg o21_10 [1, 2, 3, 4, 5])
def o21_11 : List IOp := [⟨none, .val 48 (.faddr 1) [.t 3], [], none⟩,
    ⟨none, .load 49 (.t 48) 1 false, [], none⟩,
    ⟨none, .val 50 (.faddr 1) [.t 5], [], none⟩,
    ⟨none, .load 51 (.t 50) 1 false, [], none⟩,
    ⟨none, .val 52 (.bin .add) [.t 49, .t 51], [], none⟩,
    ⟨none, .val 53 (.faddr 1) [.t 3], [], none⟩,
    ⟨none, .store (.t 53) (.t 52) 1, [], none⟩]
def r21_11 : IC := (.reg o21_11 [1, 2, 3, 4])
def o21_4 : List IOp := [⟨none, .val 13 .mov [.t 4], [], none⟩,
    ⟨none, .val 14 (.bin .add) [.t 13, .k (.p (.int .i64 1))], [], none⟩,
    ⟨none, .val 4 .mov [.t 14], [], none⟩]
def r21_4 : IC := (.reg o21_4 [1, 2, 3, 4])
def l21_1 : IC := (.seq (.seq r21_3 (.cond (.t 12) .skip (.exit 0))) (.kp [1, 2, 3, 4] (.seq (.block 1 (.seq r21_5 (.seq (.seq r21_6 (.cond (.t 20) r21_7 .skip)) (.kp [1, 2, 3, 4, 5] (.seq (.seq r21_8 (.cond (.t 32) r21_9 .skip)) (.kp [1, 2, 3, 4, 5] (.seq r21_10 r21_11))))))) (.kp [1, 2, 3, 4] r21_4))))
def o21_12 : List IOp := [⟨none, .load 54 (.t 3) 2 true, [], none⟩,
    ⟨none, .store (.t 2) (.t 54) 2, [], none⟩]
def r21_12 : IC := (.reg o21_12 [2])
def b21 : IC := (.seq r21_0 (.seq r21_1 (.seq (.seq r21_2 (.block 0 (.loop l21_1))) (.seq r21_12 .ret))))
def i21 : IFn := ⟨1, 55, b21, [.cell 2 2 true]⟩
/- swap.Set -/
def o22_0 : List IOp := [⟨none, .boxL 4 (.t 0), [], none⟩,
    ⟨none, .boxL 6 (.t 2), [], none⟩,
    ⟨none, .newL 8 [.p (.sl 2 true []), .p (.int .i64 0), .p (.int .i64 0), .p (.bool false), .p (.sl 2 true []), .p (.int .i64 0), .p (.int .i64 0)], [], none⟩,
    ⟨none, .val 9 .mov [.k (.p (.int .i64 0))], [], none⟩]
def r22_0 : IC := (.reg o22_0 [1, 3, 4, 6, 8])
def o22_1 : List IOp := [⟨none, .load 14 (.t 4) 7 true, [], none⟩,
    ⟨none, .call (some 15) 11 [.t 14], [], none⟩,
    ⟨none, .val 10 .mov [.t 15], [], none⟩]
def r22_1 : IC := (.reg o22_1 [1, 3, 4, 6, 8, 10])
def o22_2 : List IOp := [⟨none, .val 16 .mov [.t 10], [], none⟩,
    ⟨none, .val 17 (.bin .neq) [.t 16, .k (.p (.int .i64 0))], [], none⟩]
def r22_2 : IC := (.reg o22_2 [1, 3, 4, 6, 8, 10, 17])
def o22_3 : List IOp := [⟨none, .val 18 (.build [.p (.sl 2 true []), .p (.int .i64 0), .p (.int .i64 0), .p (.bool false), .p (.sl 2 true []), .p (.int .i64 0), .p (.int .i64 0)] []) [], [], none⟩,
    ⟨none, .val 19 .mov [.t 10], [], none⟩,
    ⟨none, .store (.t 8) (.t 18) 7, [], none⟩,
    ⟨none, .val 9 .mov [.t 19], [], none⟩]
def r22_3 : IC := (.reg o22_3 [8, 9])
def o22_4 : List IOp := [⟨none, .val 20 .mov [.t 1], [], none⟩,
    ⟨none, .litP 21 1 [.t 20], [], none⟩,
    ⟨none, .call (some 22) 30 [.t 21], [], none⟩,
    ⟨none, .val 23 .not [.t 22], [], none⟩]
def r22_4 : IC := (.reg o22_4 [1, 3, 4, 6, 8, 23])
def o22_5 : List IOp := [⟨none, .val 24 (.build [.p (.sl 2 true []), .p (.int .i64 0), .p (.int .i64 0), .p (.bool false), .p (.sl 2 true []), .p (.int .i64 0), .p (.int .i64 0)] []) [], [], none⟩,
    ⟨none, .store (.t 8) (.t 24) 7, [], none⟩,
    ⟨none, .val 9 .mov [.k (.p (.int .i64 2))], [], none⟩]
def r22_5 : IC := (.reg o22_5 [8, 9])
def o22_6 : List IOp := [⟨none, .load 25 (.t 6) 2 true, [], none⟩,
    ⟨none, .call (some 26) 29 [.t 25], [], none⟩,
    ⟨none, .val 11 .mov [.t 26], [], none⟩]
def r22_6 : IC := (.reg o22_6 [1, 3, 4, 6, 8, 11])
def o22_7 : List IOp := [⟨none, .val 27 .mov [.t 11], [], none⟩,
    ⟨none, .val 28 (.bin .neq) [.t 27, .k (.p (.int .i64 0))], [], none⟩]
def r22_7 : IC := (.reg o22_7 [1, 3, 4, 6, 8, 11, 28])
def o22_8 : List IOp := [⟨none, .val 29 (.build [.p (.sl 2 true []), .p (.int .i64 0), .p (.int .i64 0), .p (.bool false), .p (.sl 2 true []), .p (.int .i64 0), .p (.int .i64 0)] []) [], [], none⟩,
    ⟨none, .val 30 .mov [.t 11], [], none⟩,
    ⟨none, .store (.t 8) (.t 29) 7, [], none⟩,
    ⟨none, .val 9 .mov [.t 30], [], none⟩]
def r22_8 : IC := (.reg o22_8 [8, 9])
def o22_9 : List IOp := [⟨none, .val 31 .mov [.t 3], [], none⟩,
    ⟨none, .litP 32 1 [.t 31], [], none⟩,
    ⟨none, .call (some 33) 30 [.t 32], [], none⟩,
    ⟨none, .val 34 .not [.t 33], [], none⟩]
def r22_9 : IC := (.reg o22_9 [1, 3, 4, 6, 8, 34])
def o22_10 : List IOp := [⟨none, .val 35 (.build [.p (.sl 2 true []), .p (.int .i64 0), .p (.int .i64 0), .p (.bool false), .p (.sl 2 true []), .p (.int .i64 0), .p (.int .i64 0)] []) [], [], none⟩,
    ⟨none, .store (.t 8) (.t 35) 7, [], none⟩,
    ⟨none, .val 9 .mov [.k (.p (.int .i64 2))], [], none⟩]
def r22_10 : IC := (.reg o22_10 [8, 9])
def o22_11 : List IOp := [⟨none, .load 36 (.t 4) 7 true, [], none⟩,
    ⟨none, .val 37 (.build [.p (.sl 2 true []), .p (.int .i64 0), .p (.int .i64 0), .p (.bool false), .p (.sl 2 true []), .p (.int .i64 0), .p (.int .i64 0)] [(0, 7)]) [.t 36], [], none⟩,
    ⟨none, .newH 12 [.p (.sl 2 true []), .p (.int .i64 0), .p (.int .i64 0), .p (.bool false), .p (.sl 2 true []), .p (.int .i64 0), .p (.int .i64 0)], [], none⟩,
    ⟨none, .store (.t 12) (.t 37) 7, [], none⟩]
def r22_11 : IC := (.reg o22_11 [1, 3, 6, 8, 12])
def o22_12 : List IOp := [⟨none, .val 38 .mov [.t 1], [], none⟩,
    ⟨none, .call (some 39) 38 [.t 12, .t 38], [], none⟩]
def r22_12 : IC := (.reg o22_12 [1, 3, 6, 8, 12])
def o22_13 : List IOp := [⟨none, .val 40 .mov [.t 1], [], none⟩,
    ⟨none, .val 41 .mov [.t 3], [], none⟩,
    ⟨none, .val 42 .max [.t 40, .t 41], [], none⟩,
    ⟨none, .val 13 .mov [.t 42], [], none⟩]
def r22_13 : IC := (.reg o22_13 [6, 8, 12, 13])
def o22_14 : List IOp := [⟨none, .val 43 (.faddr 0) [.t 12], [], none⟩,
    ⟨none, .val 44 (.faddr 3) [.t 43], [], none⟩,
    ⟨none, .store (.t 44) (.k (.p (.bool true))) 1, [], none⟩]
def r22_14 : IC := (.reg o22_14 [6, 8, 12, 13])
def o22_15 : List IOp := [⟨none, .load 45 (.t 6) 2 true, [], none⟩,
    ⟨none, .val 46 (.faddr 0) [.t 12], [], none⟩,
    ⟨none, .val 47 (.faddr 4) [.t 46], [], none⟩,
    ⟨none, .store (.t 47) (.t 45) 2, [], none⟩]
def r22_15 : IC := (.reg o22_15 [8, 12, 13])
def o22_16 : List IOp := [⟨none, .val 48 .mov [.t 13], [], none⟩,
    ⟨none, .val 49 (.faddr 0) [.t 12], [], none⟩,
    ⟨none, .val 50 (.faddr 2) [.t 49], [], none⟩,
    ⟨none, .load 51 (.t 50) 1 false, [], none⟩,
    ⟨none, .val 52 .mov [.t 13], [], none⟩,
    ⟨none, .val 53 (.bin .sub) [.t 51, .t 52], [], none⟩,
    ⟨none, .val 54 (.faddr 0) [.t 12], [], none⟩,
    ⟨none, .val 55 (.faddr 0) [.t 54], [], none⟩,
    ⟨none, .val 56 (.faddr 1) [.t 55], [], none⟩,
    ⟨none, .load 57 (.t 56) 1 false, [], none⟩,
    ⟨none, .call (some 58) 40 [.t 53, .t 57], [], none⟩,
    ⟨none, .val 59 (.bin .add) [.t 48, .t 58], [], none⟩,
    ⟨none, .val 60 (.faddr 0) [.t 12], [], none⟩,
    ⟨none, .val 61 (.faddr 6) [.t 60], [], none⟩,
    ⟨none, .store (.t 61) (.t 59) 1, [], none⟩]
def r22_16 : IC := (.reg o22_16 [8, 12])
def o22_17 : List IOp := [⟨none, .val 62 (.faddr 0) [.t 12], [], none⟩,
    ⟨none, .load 63 (.t 62) 7 true, [], none⟩,
    ⟨none, .store (.t 8) (.t 63) 7, [], none⟩,
    ⟨none, .val 9 .mov [.k (.p (.int .i64 0))], [], none⟩]
def r22_17 : IC := (.reg o22_17 [8, 9])
def b22 : IC := (.seq r22_0 (.seq (.seq r22_1 (.seq r22_2 (.cond (.t 17) (.seq r22_3 .ret) .skip))) (.kp [1, 3, 4, 6, 8] (.seq (.seq r22_4 (.cond (.t 23) (.seq r22_5 .ret) .skip)) (.kp [1, 3, 4, 6, 8] (.seq (.seq r22_6 (.seq r22_7 (.cond (.t 28) (.seq r22_8 .ret) .skip))) (.kp [1, 3, 4, 6, 8] (.seq (.seq r22_9 (.cond (.t 34) (.seq r22_10 .ret) .skip)) (.kp [1, 3, 4, 6, 8] (.seq r22_11 (.seq r22_12 (.seq r22_13 (.seq r22_14 (.seq r22_15 (.seq r22_16 (.seq r22_17 .ret))))))))))))))))
def i22 : IFn := ⟨4, 64, b22, [.cell 8 7 true, .tmp 9]⟩
/- isochronref29.Set -/
def o23_0 : List IOp := [⟨none, .boxL 4 (.t 0), [], none⟩,
    ⟨none, .boxL 6 (.t 2), [], none⟩,
    ⟨none, .newL 8 [.p (.sl 2 true []), .p (.int .i64 0), .p (.int .i64 0), .p (.bool false), .p (.sl 2 true []), .p (.int .i64 0), .p (.int .i64 0)], [], none⟩,
    ⟨none, .val 9 .mov [.k (.p (.int .i64 0))], [], none⟩]
def r23_0 : IC := (.reg o23_0 [1, 3, 4, 6, 8])
def o23_1 : List IOp := [⟨none, .load 11 (.t 4) 7 true, [], none⟩,
    ⟨none, .call (some 12) 31 [.t 11], [], none⟩,
    ⟨none, .val 13 .not [.t 12], [], none⟩]
def r23_1 : IC := (.reg o23_1 [1, 3, 4, 6, 8, 13])
def o23_2 : List IOp := [⟨none, .val 14 (.build [.p (.sl 2 true []), .p (.int .i64 0), .p (.int .i64 0), .p (.bool false), .p (.sl 2 true []), .p (.int .i64 0), .p (.int .i64 0)] []) [], [], none⟩,
    ⟨none, .store (.t 8) (.t 14) 7, [], none⟩,
    ⟨none, .val 9 .mov [.k (.p (.int .i64 390))], [], none⟩]
def r23_2 : IC := (.reg o23_2 [8, 9])
def o23_3 : List IOp := [⟨none, .val 15 .mov [.t 1], [], none⟩,
    ⟨none, .call (some 16) 34 [.t 15], [], none⟩,
    ⟨none, .val 17 .not [.t 16], [], none⟩]
def r23_3 : IC := (.reg o23_3 [1, 3, 4, 6, 8, 17])
def o23_4 : List IOp := [⟨none, .val 18 (.build [.p (.sl 2 true []), .p (.int .i64 0), .p (.int .i64 0), .p (.bool false), .p (.sl 2 true []), .p (.int .i64 0), .p (.int .i64 0)] []) [], [], none⟩,
    ⟨none, .store (.t 8) (.t 18) 7, [], none⟩,
    ⟨none, .val 9 .mov [.k (.p (.int .i64 2))], [], none⟩]
def r23_4 : IC := (.reg o23_4 [8, 9])
def o23_5 : List IOp := [⟨none, .load 19 (.t 6) 2 true, [], none⟩,
    ⟨none, .call (some 20) 36 [.t 19], [], none⟩,
    ⟨none, .val 21 .not [.t 20], [], none⟩]
def r23_5 : IC := (.reg o23_5 [1, 3, 4, 6, 8, 21])
def o23_6 : List IOp := [⟨none, .val 22 (.build [.p (.sl 2 true []), .p (.int .i64 0), .p (.int .i64 0), .p (.bool false), .p (.sl 2 true []), .p (.int .i64 0), .p (.int .i64 0)] []) [], [], none⟩,
    ⟨none, .store (.t 8) (.t 22) 7, [], none⟩,
    ⟨none, .val 9 .mov [.k (.p (.int .i64 370))], [], none⟩]
def r23_6 : IC := (.reg o23_6 [8, 9])
def o23_7 : List IOp := [⟨none, .val 23 .mov [.t 3], [], none⟩,
    ⟨none, .call (some 24) 34 [.t 23], [], none⟩,
    ⟨none, .val 25 .not [.t 24], [], none⟩]
def r23_7 : IC := (.reg o23_7 [1, 3, 4, 6, 8, 25])
def o23_8 : List IOp := [⟨none, .val 26 (.build [.p (.sl 2 true []), .p (.int .i64 0), .p (.int .i64 0), .p (.bool false), .p (.sl 2 true []), .p (.int .i64 0), .p (.int .i64 0)] []) [], [], none⟩,
    ⟨none, .store (.t 8) (.t 26) 7, [], none⟩,
    ⟨none, .val 9 .mov [.k (.p (.int .i64 2))], [], none⟩]
def r23_8 : IC := (.reg o23_8 [8, 9])
def o23_9 : List IOp := [⟨none, .load 27 (.t 4) 7 true, [], none⟩,
    ⟨none, .val 28 .mov [.t 1], [], none⟩,
    ⟨none, .call (some 29) 39 [.t 27, .t 28], [], none⟩,
    ⟨none, .store (.t 4) (.t 29) 7, [], none⟩]
def r23_9 : IC := (.reg o23_9 [1, 3, 4, 6, 8])
def o23_10 : List IOp := [⟨none, .val 30 .mov [.t 1], [], none⟩,
    ⟨none, .val 31 .mov [.t 3], [], none⟩,
    ⟨none, .val 32 .max [.t 30, .t 31], [], none⟩,
    ⟨none, .val 10 .mov [.t 32], [], none⟩]
def r23_10 : IC := (.reg o23_10 [4, 6, 8, 10])
def o23_11 : List IOp := [⟨none, .val 33 (.faddr 3) [.t 4], [], none⟩,
    ⟨none, .store (.t 33) (.k (.p (.bool true))) 1, [], none⟩]
def r23_11 : IC := (.reg o23_11 [4, 6, 8, 10])
def o23_12 : List IOp := [⟨none, .load 34 (.t 6) 2 true, [], none⟩,
    ⟨none, .val 35 (.faddr 4) [.t 4], [], none⟩,
    ⟨none, .store (.t 35) (.t 34) 2, [], none⟩]
def r23_12 : IC := (.reg o23_12 [4, 8, 10])
def o23_13 : List IOp := [⟨none, .val 36 .mov [.t 10], [], none⟩,
    ⟨none, .val 37 (.faddr 2) [.t 4], [], none⟩,
    ⟨none, .load 38 (.t 37) 1 false, [], none⟩,
    ⟨none, .val 39 .mov [.t 10], [], none⟩,
    ⟨none, .val 40 (.bin .sub) [.t 38, .t 39], [], none⟩,
    ⟨none, .val 41 (.faddr 0) [.t 4], [], none⟩,
    ⟨none, .val 42 (.faddr 1) [.t 41], [], none⟩,
    ⟨none, .load 43 (.t 42) 1 false, [], none⟩,
    ⟨none, .call (some 44) 41 [.t 40, .t 43], [], none⟩,
    ⟨none, .val 45 (.bin .add) [.t 36, .t 44], [], none⟩,
    ⟨none, .val 46 (.faddr 6) [.t 4], [], none⟩,
    ⟨none, .store (.t 46) (.t 45) 1, [], none⟩]
def r23_13 : IC := (.reg o23_13 [4, 8])
def o23_14 : List IOp := [⟨none, .load 47 (.t 4) 7 true, [], none⟩,
    ⟨none, .store (.t 8) (.t 47) 7, [], none⟩,
    ⟨none, .val 9 .mov [.k (.p (.int .i64 0))], [], none⟩]
def r23_14 : IC := (.reg o23_14 [8, 9])
def b23 : IC := (.seq r23_0 (.seq (.seq r23_1 (.cond (.t 13) (.seq r23_2 .ret) .skip)) (.kp [1, 3, 4, 6, 8] (.seq (.seq r23_3 (.cond (.t 17) (.seq r23_4 .ret) .skip)) (.kp [1, 3, 4, 6, 8] (.seq (.seq r23_5 (.cond (.t 21) (.seq r23_6 .ret) .skip)) (.kp [1, 3, 4, 6, 8] (.seq (.seq r23_7 (.cond (.t 25) (.seq r23_8 .ret) .skip)) (.kp [1, 3, 4, 6, 8] (.seq r23_9 (.seq r23_10 (.seq r23_11 (.seq r23_12 (.seq r23_13 (.seq r23_14 .ret)))))))))))))))
def i23 : IFn := ⟨4, 48, b23, [.cell 8 7 true, .tmp 9]⟩
/- swap.Fits -/
def o24_0 : List IOp := [⟨none, .boxL 4 (.t 0), [], none⟩,
    ⟨none, .boxH 5 (.t 1), [], none⟩,
    ⟨none, .newH 8 [.p (.bool false)], [], none⟩,
    ⟨none, .newH 9 [.p (.int .i64 0)], [], none⟩]
def r24_0 : IC := (.reg o24_0 [2, 3, 4, 5, 8, 9])
def o24_1 : List IOp := [⟨none, .load 14 (.t 4) 7 true, [], none⟩,
    ⟨none, .call (some 15) 11 [.t 14], [], none⟩,
    ⟨none, .val 10 .mov [.t 15], [], none⟩]
def r24_1 : IC := (.reg o24_1 [2, 3, 4, 5, 8, 9, 10])
def o24_2 : List IOp := [⟨none, .val 16 .mov [.t 10], [], none⟩,
    ⟨none, .val 17 (.bin .neq) [.t 16, .k (.p (.int .i64 0))], [], none⟩]
def r24_2 : IC := (.reg o24_2 [2, 3, 4, 5, 8, 9, 10, 17])
def o24_3 : List IOp := [⟨none, .val 18 .mov [.t 10], [], none⟩,
    ⟨none, .store (.t 8) (.k (.p (.bool false))) 1, [], none⟩,
    ⟨none, .store (.t 9) (.t 18) 1, [], none⟩]
def r24_3 : IC := (.reg o24_3 [8, 9])
def o24_4 : List IOp := [⟨none, .load 19 (.t 5) 1 false, [], none⟩,
    ⟨none, .val 20 (.bin .lss) [.t 19, .k (.p (.int .i64 0))], [], none⟩,
    ⟨none, .val 21 .mov [.t 20], [], none⟩,
    ⟨(some (21, false)), .load 22 (.t 5) 1 false, [], none⟩,
    ⟨(some (21, false)), .val 23 (.bin .geq) [.t 22, .k (.p (.int .i64 8))], [], none⟩,
    ⟨none, .val 24 .pick [.t 21, .k (.p (.bool true)), .t 23], [], none⟩,
    ⟨none, .val 25 .mov [.t 24], [], none⟩,
    ⟨(some (25, false)), .val 26 .mov [.t 2], [], none⟩,
    ⟨(some (25, false)), .litP 27 1 [.t 26], [], none⟩,
    ⟨(some (25, false)), .call (some 28) 30 [.t 27], [], none⟩,
    ⟨(some (25, false)), .val 29 .not [.t 28], [], none⟩,
    ⟨none, .val 30 .pick [.t 25, .k (.p (.bool true)), .t 29], [], none⟩,
    ⟨none, .val 31 .mov [.t 30], [], none⟩,
    ⟨(some (31, false)), .val 32 .mov [.t 3], [], none⟩,
    ⟨(some (31, false)), .val 33 (.bin .lss) [.t 32, .k (.p (.int .i64 0))], [], none⟩,
    ⟨none, .val 34 .pick [.t 31, .k (.p (.bool true)), .t 33], [], none⟩,
    ⟨none, .val 35 .mov [.t 34], [], none⟩,
    ⟨(some (35, false)), .val 36 .mov [.t 3], [], none⟩,
    ⟨(some (35, false)), .val 37 (.faddr 0) [.t 4], [], none⟩,
    ⟨(some (35, false)), .val 38 (.faddr 1) [.t 37], [], none⟩,
    ⟨(some (35, false)), .load 39 (.t 38) 1 false, [], none⟩,
    ⟨(some (35, false)), .val 40 (.bin .mul) [.k (.p (.int .i64 4)), .t 39], [], none⟩,
    ⟨(some (35, false)), .val 41 (.bin .gtr) [.t 36, .t 40], [], none⟩,
    ⟨none, .val 42 .pick [.t 35, .k (.p (.bool true)), .t 41], [], none⟩]
def r24_4 : IC := (.reg o24_4 [2, 3, 4, 5, 8, 9, 42])
def o24_5 : List IOp := [⟨none, .store (.t 8) (.k (.p (.bool false))) 1, [], none⟩,
    ⟨none, .store (.t 9) (.k (.p (.int .i64 2))) 1, [], none⟩]
def r24_5 : IC := (.reg o24_5 [8, 9])
def o24_6 : List IOp := [⟨none, .load 43 (.t 4) 7 true, [], none⟩,
    ⟨none, .val 44 (.build [.p (.sl 2 true []), .p (.int .i64 0), .p (.int .i64 0), .p (.bool false), .p (.sl 2 true []), .p (.int .i64 0), .p (.int .i64 0)] [(0, 7)]) [.t 43], [], none⟩,
    ⟨none, .val 45 .mov [.t 2], [], none⟩,
    ⟨none, .val 46 .mov [.t 3], [], none⟩,
    ⟨none, .call (some 47) 32 [.t 44, .t 45, .t 46], [], none⟩]
def r24_6 : IC := (.reg o24_6 [5, 8, 9, 47])
def o24_7 : List IOp := [⟨none, .newL 11 [.p (.sl 2 true []), .p (.int .i64 0), .p (.int .i64 0), .p (.int .i64 0)], [], none⟩,
    ⟨none, .store (.t 11) (.t 48) 4, [], none⟩]
def r24_7 : IC := (.reg o24_7 [5, 8, 9, 11])
def o24_8 : List IOp := [⟨none, .val 50 (.faddr 0) [.t 11], [], none⟩,
    ⟨none, .load 51 (.t 50) 2 true, [], none⟩,
    ⟨none, .load 52 (.t 5) 1 false, [], none⟩,
    ⟨none, .val 53 (.faddr 2) [.t 11], [], none⟩,
    ⟨none, .load 54 (.t 53) 1 false, [], none⟩,
    ⟨none, .val 55 (.faddr 3) [.t 11], [], none⟩,
    ⟨none, .load 56 (.t 55) 1 false, [], none⟩,
    ⟨none, .call (some 57) 42 [.t 51, .t 52, .t 54, .t 56], [], none⟩,
    ⟨none, .val 49 .mov [.t 57], [], none⟩,
    ⟨none, .val 58 (.ext 0) [.t 49], [], none⟩,
    ⟨none, .val 59 (.ext 1) [.t 49], [], none⟩,
    ⟨none, .val 12 .mov [.t 58], [], none⟩,
    ⟨none, .val 13 .mov [.t 59], [], none⟩]
def r24_8 : IC := (.reg o24_8 [8, 9, 12, 13])
def o24_9 : List IOp := [⟨none, .val 60 .mov [.t 13], [], none⟩,
    ⟨none, .val 61 (.bin .neq) [.t 60, .k (.p (.int .i64 0))], [], none⟩,
    ⟨none, .val 62 .mov [.t 61], [], none⟩,
    ⟨(some (62, false)), .val 63 .mov [.t 12], [], none⟩,
    ⟨(some (62, false)), .val 64 .not [.t 63], [], none⟩,
    ⟨none, .val 65 .pick [.t 62, .k (.p (.bool true)), .t 64], [], none⟩]
def r24_9 : IC := (.reg o24_9 [8, 9, 13, 65])
def o24_10 : List IOp := [⟨none, .val 66 .mov [.t 13], [], none⟩,
    ⟨none, .store (.t 8) (.k (.p (.bool false))) 1, [], none⟩,
    ⟨none, .store (.t 9) (.t 66) 1, [], none⟩]
def r24_10 : IC := (.reg o24_10 [])
def ra24_1 : IC := r24_7
def rb24_1 : IC := (.block 1 (.seq r24_8 (.seq r24_9 (.cond (.t 65) (.seq r24_10 .ret) .skip))))
def o24_11 : List IOp := [⟨none, .store (.t 8) (.k (.p (.bool true))) 1, [], none⟩,
    ⟨none, .store (.t 9) (.k (.p (.int .i64 0))) 1, [], none⟩]
def r24_11 : IC := (.reg o24_11 [8, 9])
def b24 : IC := (.seq r24_0 (.seq (.seq r24_1 (.seq r24_2 (.cond (.t 17) (.seq r24_3 .ret) .skip))) (.kp [2, 3, 4, 5, 8, 9] (.seq (.seq r24_4 (.cond (.t 42) (.seq r24_5 .ret) .skip)) (.kp [2, 3, 4, 5, 8, 9] (.seq (.seq r24_6 (.block 0 (.rangeF (.t 47) [48] ra24_1 rb24_1))) (.seq r24_11 .ret)))))))
def i24 : IFn := ⟨4, 67, b24, [.cell 8 1 false, .cell 9 1 false]⟩
/- isochronref29.Fits -/
def o25_0 : List IOp := [⟨none, .boxL 4 (.t 0), [], none⟩,
    ⟨none, .val 8 .mov [.k (.p (.bool false))], [], none⟩,
    ⟨none, .val 9 .mov [.k (.p (.int .i64 0))], [], none⟩]
def r25_0 : IC := (.reg o25_0 [1, 2, 3, 4])
def o25_1 : List IOp := [⟨none, .load 16 (.t 4) 7 true, [], none⟩,
    ⟨none, .call (some 17) 31 [.t 16], [], none⟩,
    ⟨none, .val 18 .not [.t 17], [], none⟩]
def r25_1 : IC := (.reg o25_1 [1, 2, 3, 4, 18])
def o25_2 : List IOp := [⟨none, .val 8 .mov [.k (.p (.bool false))], [], none⟩,
    ⟨none, .val 9 .mov [.k (.p (.int .i64 390))], [], none⟩]
def r25_2 : IC := (.reg o25_2 [8, 9])
def o25_3 : List IOp := [⟨none, .val 19 .mov [.t 1], [], none⟩,
    ⟨none, .val 20 (.bin .lss) [.t 19, .k (.p (.int .i64 0))], [], none⟩,
    ⟨none, .val 21 .mov [.t 20], [], none⟩,
    ⟨(some (21, false)), .val 22 .mov [.t 1], [], none⟩,
    ⟨(some (21, false)), .val 23 (.bin .gtr) [.t 22, .k (.p (.int .i64 7))], [], none⟩,
    ⟨none, .val 24 .pick [.t 21, .k (.p (.bool true)), .t 23], [], none⟩,
    ⟨none, .val 25 .mov [.t 24], [], none⟩,
    ⟨(some (25, false)), .val 26 .mov [.t 2], [], none⟩,
    ⟨(some (25, false)), .call (some 27) 34 [.t 26], [], none⟩,
    ⟨(some (25, false)), .val 28 .not [.t 27], [], none⟩,
    ⟨none, .val 29 .pick [.t 25, .k (.p (.bool true)), .t 28], [], none⟩,
    ⟨none, .val 30 .mov [.t 29], [], none⟩,
    ⟨(some (30, false)), .val 31 .mov [.t 3], [], none⟩,
    ⟨(some (30, false)), .val 32 (.bin .lss) [.t 31, .k (.p (.int .i64 0))], [], none⟩,
    ⟨none, .val 33 .pick [.t 30, .k (.p (.bool true)), .t 32], [], none⟩,
    ⟨none, .val 34 .mov [.t 33], [], none⟩,
    ⟨(some (34, false)), .val 35 .mov [.t 3], [], none⟩,
    ⟨(some (34, false)), .val 36 (.faddr 0) [.t 4], [], none⟩,
    ⟨(some (34, false)), .val 37 (.faddr 1) [.t 36], [], none⟩,
    ⟨(some (34, false)), .load 38 (.t 37) 1 false, [], none⟩,
    ⟨(some (34, false)), .val 39 (.bin .mul) [.k (.p (.int .i64 4)), .t 38], [], none⟩,
    ⟨(some (34, false)), .val 40 (.bin .gtr) [.t 35, .t 39], [], none⟩,
    ⟨none, .val 41 .pick [.t 34, .k (.p (.bool true)), .t 40], [], none⟩]
def r25_3 : IC := (.reg o25_3 [1, 2, 3, 4, 41])
def o25_4 : List IOp := [⟨none, .val 8 .mov [.k (.p (.bool false))], [], none⟩,
    ⟨none, .val 9 .mov [.k (.p (.int .i64 2))], [], none⟩]
def r25_4 : IC := (.reg o25_4 [8, 9])
def o25_5 : List IOp := [⟨none, .val 42 .mov [.t 2], [], none⟩,
    ⟨none, .val 10 .mov [.t 42], [], none⟩]
def r25_5 : IC := (.reg o25_5 [1, 2, 3, 4, 10])
def o25_6 : List IOp := [⟨none, .val 43 .mov [.t 10], [], none⟩,
    ⟨none, .val 44 .mov [.t 2], [], none⟩,
    ⟨none, .val 45 .mov [.t 3], [], none⟩,
    ⟨none, .val 46 (.bin .add) [.t 44, .t 45], [], none⟩,
    ⟨none, .val 47 (.bin .lss) [.t 43, .t 46], [], none⟩]
def r25_6 : IC := (.reg o25_6 [1, 2, 3, 4, 10, 47])
def o25_7 : List IOp := [⟨none, .val 48 (.faddr 0) [.t 4], [], none⟩,
    ⟨none, .loadL 49 (.t 48) 2 true, [0], none⟩,
    ⟨none, .val 50 (.faddr 2) [.t 4], [], none⟩,
    ⟨none, .loadL 51 (.t 50) 1 false, [2], (some 4)⟩,
    ⟨none, .val 52 .mov [.t 2], [], none⟩,
    ⟨none, .val 53 .mov [.t 3], [], none⟩,
    ⟨none, .val 54 (.bin .add) [.t 52, .t 53], [4, 5], none⟩,
    ⟨none, .newL 11 [.p (.sl 2 true []), .p (.int .i64 0)], [], none⟩,
    ⟨none, .store (.t 11) (.t 49) 2, [0, 1, 7], (some 11)⟩,
    ⟨none, .val 12 .mov [.t 51], [0, 1, 2, 3, 7, 8], none⟩,
    ⟨none, .val 13 .mov [.t 54], [0, 1, 2, 3, 4, 5, 6, 7, 8, 9], none⟩]
def r25_7 : IC := (.regD o25_7 [1, 2, 3, 4, 10, 11, 12, 13])
def o25_8 : List IOp := [⟨none, .val 55 (.faddr 3) [.t 4], [], none⟩,
    ⟨none, .load 56 (.t 55) 1 false, [], none⟩,
    ⟨none, .val 57 .mov [.t 56], [], none⟩,
    ⟨(some (57, true)), .val 58 .mov [.t 10], [], none⟩,
    ⟨(some (57, true)), .val 59 (.faddr 6) [.t 4], [], none⟩,
    ⟨(some (57, true)), .load 60 (.t 59) 1 false, [], none⟩,
    ⟨(some (57, true)), .val 61 (.bin .geq) [.t 58, .t 60], [], none⟩,
    ⟨none, .val 62 .pick [.t 57, .t 61, .k (.p (.bool false))], [], none⟩]
def r25_8 : IC := (.reg o25_8 [1, 2, 3, 4, 10, 11, 12, 13, 62])
def o25_9 : List IOp := [⟨none, .val 63 (.faddr 4) [.t 4], [], none⟩,
    ⟨none, .loadL 64 (.t 63) 2 true, [0], none⟩,
    ⟨none, .val 65 (.faddr 6) [.t 4], [], none⟩,
    ⟨none, .loadL 66 (.t 65) 1 false, [2], (some 4)⟩,
    ⟨none, .store (.t 11) (.t 64) 2, [0, 1], (some 11)⟩,
    ⟨none, .val 12 .mov [.t 66], [0, 1, 2, 3, 4], none⟩]
def r25_9 : IC := (.regD o25_9 [1, 2, 3, 4, 10, 11, 12, 13])
def o25_10 : List IOp := [⟨none, .val 67 (.faddr 3) [.t 4], [], none⟩,
    ⟨none, .load 68 (.t 67) 1 false, [], none⟩]
def r25_10 : IC := (.reg o25_10 [1, 2, 3, 4, 10, 11, 12, 13, 68])
def o25_11 : List IOp := [⟨none, .val 69 .mov [.t 13], [], none⟩,
    ⟨none, .val 70 (.faddr 6) [.t 4], [], none⟩,
    ⟨none, .load 71 (.t 70) 1 false, [], none⟩,
    ⟨none, .val 72 .min [.t 69, .t 71], [], none⟩,
    ⟨none, .val 13 .mov [.t 72], [], none⟩]
def r25_11 : IC := (.reg o25_11 [1, 2, 3, 4, 10, 11, 12, 13])
def o25_12 : List IOp := [⟨none, .load 74 (.t 11) 2 true, [], none⟩,
    ⟨none, .val 75 .mov [.t 10], [], none⟩,
    ⟨none, .val 76 .mov [.t 12], [], none⟩,
    ⟨none, .val 77 (.bin .sub) [.t 75, .t 76], [], none⟩,
    ⟨none, .call (some 78) 43 [.t 74, .t 77], [], none⟩,
    ⟨none, .val 73 .mov [.t 78], [], none⟩,
    ⟨none, .val 79 (.ext 0) [.t 73], [], none⟩,
    ⟨none, .val 80 (.ext 1) [.t 73], [], none⟩,
    ⟨none, .val 14 .mov [.t 79], [], none⟩,
    ⟨none, .val 15 .mov [.t 80], [], none⟩]
def r25_12 : IC := (.reg o25_12 [1, 2, 3, 4, 10, 11, 13, 14, 15])
def o25_13 : List IOp := [⟨none, .val 81 (.faddr 0) [.t 11], [], none⟩,
    ⟨none, .load 82 (.t 81) 1 false, [], none⟩,
    ⟨none, .val 83 .mov [.t 14], [], none⟩,
    ⟨none, .val 84 (.iaddrS 2) [.t 82, .t 83], [], none⟩,
    ⟨none, .val 85 (.faddr 0) [.t 84], [], none⟩,
    ⟨none, .load 86 (.t 85) 1 false, [], none⟩,
    ⟨none, .val 87 .mov [.t 1], [], none⟩,
    ⟨none, .call (some 88) 44 [.t 86, .t 87], [], none⟩,
    ⟨none, .val 89 .not [.t 88], [], none⟩]
def r25_13 : IC := (.reg o25_13 [1, 2, 3, 4, 10, 11, 13, 14, 15, 89])
def o25_14 : List IOp := [⟨none, .val 8 .mov [.k (.p (.bool false))], [], none⟩,
    ⟨none, .val 9 .mov [.k (.p (.int .i64 0))], [], none⟩]
def r25_14 : IC := (.reg o25_14 [8, 9])
def o25_15 : List IOp := [⟨none, .val 90 .mov [.t 13], [], none⟩,
    ⟨none, .val 91 .mov [.t 10], [], none⟩,
    ⟨none, .val 92 .mov [.t 15], [], none⟩,
    ⟨none, .val 93 (.bin .sub) [.t 91, .t 92], [], none⟩,
    ⟨none, .val 94 (.faddr 0) [.t 11], [], none⟩,
    ⟨none, .load 95 (.t 94) 1 false, [], none⟩,
    ⟨none, .val 96 .mov [.t 14], [], none⟩,
    ⟨none, .val 97 (.iaddrS 2) [.t 95, .t 96], [], none⟩,
    ⟨none, .val 98 (.faddr 1) [.t 97], [], none⟩,
    ⟨none, .load 99 (.t 98) 1 false, [], none⟩,
    ⟨none, .val 100 (.bin .add) [.t 93, .t 99], [], none⟩,
    ⟨none, .val 101 .min [.t 90, .t 100], [], none⟩,
    ⟨none, .val 10 .mov [.t 101], [], none⟩]
def r25_15 : IC := (.reg o25_15 [1, 2, 3, 4, 10])
def l25_1 : IC := (.seq (.seq r25_6 (.cond (.t 47) .skip (.exit 0))) (.kp [1, 2, 3, 4, 10] (.block 1 (.seq r25_7 (.seq (.seq r25_8 (.cond (.t 62) r25_9 (.seq r25_10 (.cond (.t 68) r25_11 .skip)))) (.kp [1, 2, 3, 4, 10, 11, 12, 13] (.seq r25_12 (.seq (.seq r25_13 (.cond (.t 89) (.seq r25_14 .ret) .skip)) (.kp [1, 2, 3, 4, 10, 11, 13, 14, 15] r25_15)))))))))
def o25_16 : List IOp := [⟨none, .val 8 .mov [.k (.p (.bool true))], [], none⟩,
    ⟨none, .val 9 .mov [.k (.p (.int .i64 0))], [], none⟩]
def r25_16 : IC := (.reg o25_16 [8, 9])
def b25 : IC := (.seq r25_0 (.seq (.seq r25_1 (.cond (.t 18) (.seq r25_2 .ret) .skip)) (.kp [1, 2, 3, 4] (.seq (.seq r25_3 (.cond (.t 41) (.seq r25_4 .ret) .skip)) (.kp [1, 2, 3, 4] (.seq (.seq r25_5 (.block 0 (.loop l25_1))) (.seq r25_16 .ret)))))))
def i25 : IFn := ⟨4, 102, b25, [.tmp 8, .tmp 9]⟩
/- isochronlaw29.mask -/
def o26_0 : List IOp := [⟨none, .boxL 2 (.t 0), [], none⟩,
    ⟨none, .val 4 .mov [.k (.p (.int .i64 0))], [], none⟩]
def r26_0 : IC := (.reg o26_0 [1, 2])
def o26_1 : List IOp := [⟨none, .load 8 (.t 2) 7 true, [], none⟩,
    ⟨none, .val 9 .mov [.t 1], [], none⟩,
    ⟨none, .call (some 10) 13 [.t 8, .t 9], [], none⟩,
    ⟨none, .val 7 .mov [.t 10], [], none⟩,
    ⟨none, .val 11 (.ext 0) [.t 7], [], none⟩,
    ⟨none, .val 12 (.ext 1) [.t 7], [], none⟩,
    ⟨none, .val 5 .mov [.t 11], [], none⟩,
    ⟨none, .val 6 .mov [.t 12], [], none⟩]
def r26_1 : IC := (.reg o26_1 [5, 6])
def o26_2 : List IOp := [⟨none, .val 13 .mov [.t 6], [], none⟩,
    ⟨none, .val 14 (.bin .neq) [.t 13, .k (.p (.int .i64 0))], [], none⟩]
def r26_2 : IC := (.reg o26_2 [5, 14])
def o26_3 : List IOp := [⟨none, .val 4 .mov [.k (.p (.int .i64 (-1)))], [], none⟩]
def r26_3 : IC := (.reg o26_3 [4])
def o26_4 : List IOp := [⟨none, .val 15 .mov [.t 5], [], none⟩,
    ⟨none, .val 4 .mov [.t 15], [], none⟩]
def r26_4 : IC := (.reg o26_4 [4])
def b26 : IC := (.seq r26_0 (.seq r26_1 (.seq (.seq r26_2 (.cond (.t 14) (.seq r26_3 .ret) .skip)) (.kp [5] (.seq r26_4 .ret)))))
def i26 : IFn := ⟨2, 16, b26, [.tmp 4]⟩
/- isochronlaw29.fits -/
def o27_0 : List IOp := [⟨none, .boxL 4 (.t 0), [], none⟩,
    ⟨none, .val 8 .mov [.k (.p (.bool false))], [], none⟩]
def r27_0 : IC := (.reg o27_0 [1, 2, 3, 4])
def o27_1 : List IOp := [⟨none, .load 12 (.t 4) 7 true, [], none⟩,
    ⟨none, .val 13 .mov [.t 1], [], none⟩,
    ⟨none, .val 14 .mov [.t 2], [], none⟩,
    ⟨none, .val 15 .mov [.t 3], [], none⟩,
    ⟨none, .call (some 16) 24 [.t 12, .t 13, .t 14, .t 15], [], none⟩,
    ⟨none, .val 11 .mov [.t 16], [], none⟩,
    ⟨none, .val 17 (.ext 0) [.t 11], [], none⟩,
    ⟨none, .val 18 (.ext 1) [.t 11], [], none⟩,
    ⟨none, .val 9 .mov [.t 17], [], none⟩,
    ⟨none, .val 10 .mov [.t 18], [], none⟩]
def r27_1 : IC := (.reg o27_1 [9, 10])
def o27_2 : List IOp := [⟨none, .val 19 .mov [.t 9], [], none⟩,
    ⟨none, .val 20 .mov [.t 19], [], none⟩,
    ⟨(some (20, true)), .val 21 .mov [.t 10], [], none⟩,
    ⟨(some (20, true)), .val 22 (.bin .eql) [.t 21, .k (.p (.int .i64 0))], [], none⟩,
    ⟨none, .val 23 .pick [.t 20, .t 22, .k (.p (.bool false))], [], none⟩,
    ⟨none, .val 8 .mov [.t 23], [], none⟩]
def r27_2 : IC := (.reg o27_2 [8])
def b27 : IC := (.seq r27_0 (.seq r27_1 (.seq r27_2 .ret)))
def i27 : IFn := ⟨4, 24, b27, [.tmp 8]⟩
/- isochronlaw29.list -/
def o28_0 : List IOp := [⟨none, .newL 2 [.p (.sl 2 true []), .p (.int .i64 0)], [], none⟩]
def r28_0 : IC := (.reg o28_0 [0, 2])
def o28_1 : List IOp := [⟨none, .newL 3 [.p (.sl 2 true []), .p (.int .i64 0)], [], none⟩]
def r28_1 : IC := (.reg o28_1 [0, 2, 3])
def o28_2 : List IOp := [⟨none, .val 4 .mov [.k (.p (.int .i64 0))], [], none⟩]
def r28_2 : IC := (.reg o28_2 [0, 2, 3, 4])
def o28_3 : List IOp := [⟨none, .val 5 .mov [.t 4], [], none⟩,
    ⟨none, .val 6 (.bin .add) [.t 5, .k (.p (.int .i64 1))], [], none⟩,
    ⟨none, .val 7 .mov [.t 0], [], none⟩,
    ⟨none, .val 8 .len [.t 7], [], none⟩,
    ⟨none, .val 9 (.bin .lss) [.t 6, .t 8], [], none⟩]
def r28_3 : IC := (.reg o28_3 [0, 2, 3, 4, 9])
def o28_5 : List IOp := [⟨none, .val 12 (.faddr 0) [.t 3], [], none⟩,
    ⟨none, .loadL 13 (.t 12) 1 false, [0], none⟩,
    ⟨none, .val 14 .mov [.t 0], [], none⟩,
    ⟨none, .val 15 .mov [.t 4], [], none⟩,
    ⟨none, .val 16 (.iaddrS 1) [.t 14, .t 15], [2, 3], none⟩,
    ⟨none, .load 17 (.t 16) 1 false, [2, 3, 4], none⟩,
    ⟨none, .val 18 .mov [.t 0], [], none⟩,
    ⟨none, .val 19 .mov [.t 4], [], none⟩,
    ⟨none, .val 20 (.bin .add) [.t 19, .k (.p (.int .i64 1))], [7], none⟩,
    ⟨none, .val 21 (.iaddrS 1) [.t 18, .t 20], [6, 7, 8], none⟩,
    ⟨none, .load 22 (.t 21) 1 false, [6, 7, 8, 9], none⟩,
    ⟨none, .val 23 (.build [.p (.int .i64 0), .p (.int .i64 0)] [(0, 1), (1, 1)]) [.t 17, .t 22], [2, 3, 4, 5, 6, 7, 8, 9, 10], none⟩,
    ⟨none, .litP 24 2 [.t 23], [2, 3, 4, 5, 6, 7, 8, 9, 10, 11], none⟩,
    ⟨none, .app 25 (.t 13) (.t 24) 2 16, [0, 1, 2, 3, 4, 5, 6, 7, 8, 9, 10, 11, 12], none⟩,
    ⟨none, .val 26 (.faddr 0) [.t 3], [0, 1, 2, 3, 4, 5, 6, 7, 8, 9, 10, 11, 12, 13], none⟩,
    ⟨none, .store (.t 26) (.t 25) 1, [0, 1, 2, 3, 4, 5, 6, 7, 8, 9, 10, 11, 12, 13, 14], none⟩]
def r28_5 : IC := (.regD o28_5 [0, 2, 3, 4])
def o28_6 : List IOp := [⟨none, .val 27 (.faddr 1) [.t 3], [], none⟩,
    ⟨none, .loadL 28 (.t 27) 1 false, [0], none⟩,
    ⟨none, .val 29 .mov [.t 0], [], none⟩,
    ⟨none, .val 30 .mov [.t 4], [], none⟩,
    ⟨none, .val 31 (.bin .add) [.t 30, .k (.p (.int .i64 1))], [3], none⟩,
    ⟨none, .val 32 (.iaddrS 1) [.t 29, .t 31], [2, 3, 4], none⟩,
    ⟨none, .load 33 (.t 32) 1 false, [2, 3, 4, 5], none⟩,
    ⟨none, .val 34 (.bin .add) [.t 28, .t 33], [0, 1, 2, 3, 4, 5, 6], none⟩,
    ⟨none, .val 35 (.faddr 1) [.t 3], [0, 1, 2, 3, 4, 5, 6, 7], none⟩,
    ⟨none, .store (.t 35) (.t 34) 1, [0, 1, 2, 3, 4, 5, 6, 7, 8], none⟩]
def r28_6 : IC := (.regD o28_6 [0, 2, 3, 4])
def o28_4 : List IOp := [⟨none, .val 10 .mov [.t 4], [], none⟩,
    ⟨none, .val 11 (.bin .add) [.t 10, .k (.p (.int .i64 2))], [], none⟩,
    ⟨none, .val 4 .mov [.t 11], [], none⟩]
def r28_4 : IC := (.reg o28_4 [0, 2, 3, 4])
def l28_1 : IC := (.seq (.seq r28_3 (.cond (.t 9) .skip (.exit 0))) (.kp [0, 2, 3, 4] (.seq (.block 1 (.seq r28_5 r28_6)) r28_4)))
def o28_7 : List IOp := [⟨none, .load 36 (.t 3) 2 true, [], none⟩,
    ⟨none, .store (.t 2) (.t 36) 2, [], none⟩]
def r28_7 : IC := (.reg o28_7 [2])
def b28 : IC := (.seq r28_0 (.seq r28_1 (.seq (.seq r28_2 (.block 0 (.loop l28_1))) (.seq r28_7 .ret))))
def i28 : IFn := ⟨1, 37, b28, [.cell 2 2 true]⟩
/- gates.Check -/
def o29_0 : List IOp := [⟨none, .boxL 1 (.t 0), [], none⟩,
    ⟨none, .val 2 .mov [.k (.p (.int .i64 0))], [], none⟩]
def r29_0 : IC := (.reg o29_0 [1])
def o29_1 : List IOp := [⟨none, .val 6 (.faddr 0) [.t 1], [], none⟩,
    ⟨none, .load 7 (.t 6) 1 false, [], none⟩,
    ⟨none, .val 8 .len [.t 7], [], none⟩,
    ⟨none, .val 9 (.bin .lss) [.t 8, .k (.p (.int .i64 1))], [], none⟩,
    ⟨none, .val 10 .mov [.t 9], [], none⟩,
    ⟨(some (10, false)), .val 11 (.faddr 0) [.t 1], [], none⟩,
    ⟨(some (10, false)), .load 12 (.t 11) 1 false, [], none⟩,
    ⟨(some (10, false)), .val 13 .len [.t 12], [], none⟩,
    ⟨(some (10, false)), .val 14 (.bin .gtr) [.t 13, .k (.p (.int .i64 128))], [], none⟩,
    ⟨none, .val 15 .pick [.t 10, .k (.p (.bool true)), .t 14], [], none⟩]
def r29_1 : IC := (.reg o29_1 [1, 15])
def o29_2 : List IOp := [⟨none, .val 2 .mov [.k (.p (.int .i64 370))], [], none⟩]
def r29_2 : IC := (.reg o29_2 [2])
def o29_3 : List IOp := [⟨none, .val 3 .mov [.k (.p (.int .i64 0))], [], none⟩]
def r29_3 : IC := (.reg o29_3 [1, 3])
def o29_4 : List IOp := [⟨none, .val 16 (.faddr 0) [.t 1], [], none⟩,
    ⟨none, .load 17 (.t 16) 1 false, [], none⟩,
    ⟨none, .val 18 .len [.t 17], [], none⟩,
    ⟨none, .val 19 .mov [.k (.p (.int .i64 0))], [], none⟩]
def r29_4 : IC := (.reg o29_4 [1, 3, 17, 18, 19])
def o29_5 : List IOp := [⟨none, .val 20 (.bin .lss) [.t 19, .t 18], [], none⟩]
def r29_5 : IC := (.reg o29_5 [1, 3, 17, 18, 19, 20])
def o29_6 : List IOp := [⟨none, .val 21 (.iaddrS 2) [.t 17, .t 19], [], none⟩,
    ⟨none, .load 22 (.t 21) 2 true, [], none⟩,
    ⟨none, .newL 5 [.p (.int .i64 0), .p (.int .i64 0)], [], none⟩,
    ⟨none, .store (.t 5) (.t 22) 2, [], none⟩]
def r29_6 : IC := (.reg o29_6 [1, 3, 5, 17, 18, 19])
def o29_7 : List IOp := [⟨none, .val 23 (.faddr 0) [.t 5], [], none⟩,
    ⟨none, .load 24 (.t 23) 1 false, [], none⟩,
    ⟨none, .val 25 (.bin .lss) [.t 24, .k (.p (.int .i64 0))], [], none⟩,
    ⟨none, .val 26 .mov [.t 25], [], none⟩,
    ⟨(some (26, false)), .val 27 (.faddr 0) [.t 5], [], none⟩,
    ⟨(some (26, false)), .load 28 (.t 27) 1 false, [], none⟩,
    ⟨(some (26, false)), .val 29 (.bin .gtr) [.t 28, .k (.p (.int .i64 255))], [], none⟩,
    ⟨none, .val 30 .pick [.t 26, .k (.p (.bool true)), .t 29], [], none⟩,
    ⟨none, .val 31 .mov [.t 30], [], none⟩,
    ⟨(some (31, false)), .val 32 (.faddr 1) [.t 5], [], none⟩,
    ⟨(some (31, false)), .load 33 (.t 32) 1 false, [], none⟩,
    ⟨(some (31, false)), .val 34 (.bin .lss) [.t 33, .k (.p (.int .i64 1))], [], none⟩,
    ⟨none, .val 35 .pick [.t 31, .k (.p (.bool true)), .t 34], [], none⟩,
    ⟨none, .val 36 .mov [.t 35], [], none⟩,
    ⟨(some (36, false)), .val 37 (.faddr 1) [.t 5], [], none⟩,
    ⟨(some (36, false)), .load 38 (.t 37) 1 false, [], none⟩,
    ⟨(some (36, false)), .val 39 (.bin .gtr) [.t 38, .k (.p (.int .i64 9600000))], [], none⟩,
    ⟨none, .val 40 .pick [.t 36, .k (.p (.bool true)), .t 39], [], none⟩]
def r29_7 : IC := (.reg o29_7 [1, 3, 5, 17, 18, 19, 40])
def o29_8 : List IOp := [⟨none, .val 2 .mov [.k (.p (.int .i64 370))], [], none⟩]
def r29_8 : IC := (.reg o29_8 [2])
def o29_9 : List IOp := [⟨none, .val 41 .mov [.t 3], [], none⟩,
    ⟨none, .val 42 (.faddr 1) [.t 5], [], none⟩,
    ⟨none, .load 43 (.t 42) 1 false, [], none⟩,
    ⟨none, .val 44 (.bin .add) [.t 41, .t 43], [], none⟩,
    ⟨none, .val 3 .mov [.t 44], [], none⟩]
def r29_9 : IC := (.reg o29_9 [1, 3, 17, 18, 19])
def o29_10 : List IOp := [⟨none, .val 45 (.bin .add) [.t 19, .k (.p (.int .i64 1))], [], none⟩,
    ⟨none, .val 19 .mov [.t 45], [], none⟩]
def r29_10 : IC := (.reg o29_10 [1, 3, 17, 18, 19])
def l29_1 : IC := (.seq r29_5 (.seq (.cond (.t 20) .skip (.exit 0)) (.kp [1, 3, 17, 18, 19] (.seq (.block 1 (.seq r29_6 (.seq (.seq r29_7 (.cond (.t 40) (.seq r29_8 .ret) .skip)) (.kp [1, 3, 5, 17, 18, 19] r29_9)))) (.kp [1, 3, 17, 18, 19] r29_10)))))
def o29_11 : List IOp := [⟨none, .val 46 .mov [.t 3], [], none⟩,
    ⟨none, .val 47 (.faddr 1) [.t 1], [], none⟩,
    ⟨none, .load 48 (.t 47) 1 false, [], none⟩,
    ⟨none, .val 49 (.bin .neq) [.t 46, .t 48], [], none⟩,
    ⟨none, .val 50 .mov [.t 49], [], none⟩,
    ⟨(some (50, false)), .val 51 .mov [.t 3], [], none⟩,
    ⟨(some (50, false)), .val 52 (.bin .gtr) [.t 51, .k (.p (.int .i64 9600000))], [], none⟩,
    ⟨none, .val 53 .pick [.t 50, .k (.p (.bool true)), .t 52], [], none⟩]
def r29_11 : IC := (.reg o29_11 [53])
def o29_12 : List IOp := [⟨none, .val 2 .mov [.k (.p (.int .i64 370))], [], none⟩]
def r29_12 : IC := (.reg o29_12 [2])
def o29_13 : List IOp := [⟨none, .val 2 .mov [.k (.p (.int .i64 0))], [], none⟩]
def r29_13 : IC := (.reg o29_13 [2])
def b29 : IC := (.seq r29_0 (.seq (.seq r29_1 (.cond (.t 15) (.seq r29_2 .ret) .skip)) (.kp [1] (.seq r29_3 (.seq (.seq r29_4 (.block 0 (.loop l29_1))) (.seq (.seq r29_11 (.cond (.t 53) (.seq r29_12 .ret) .skip)) (.kp [] (.seq r29_13 .ret))))))))
def i29 : IFn := ⟨1, 54, b29, [.tmp 2]⟩
/- swap.times -/
def o30_0 : List IOp := [⟨none, .val 2 .mov [.k (.p (.bool false))], [], none⟩]
def r30_0 : IC := (.reg o30_0 [0])
def o30_1 : List IOp := [⟨none, .val 5 .mov [.t 0], [], none⟩,
    ⟨none, .val 6 .len [.t 5], [], none⟩,
    ⟨none, .val 7 .mov [.k (.p (.int .i64 0))], [], none⟩]
def r30_1 : IC := (.reg o30_1 [5, 6, 7])
def o30_2 : List IOp := [⟨none, .val 8 (.bin .lss) [.t 7, .t 6], [], none⟩]
def r30_2 : IC := (.reg o30_2 [5, 6, 7, 8])
def o30_3 : List IOp := [⟨none, .val 9 (.iaddrS 1) [.t 5, .t 7], [], none⟩,
    ⟨none, .load 10 (.t 9) 1 false, [], none⟩,
    ⟨none, .val 4 .mov [.t 10], [], none⟩]
def r30_3 : IC := (.reg o30_3 [4, 5, 6, 7])
def o30_4 : List IOp := [⟨none, .val 11 .mov [.t 4], [], none⟩,
    ⟨none, .val 12 (.bin .lss) [.t 11, .k (.p (.int .i64 (-1099511627776)))], [], none⟩,
    ⟨none, .val 13 .mov [.t 12], [], none⟩,
    ⟨(some (13, false)), .val 14 .mov [.t 4], [], none⟩,
    ⟨(some (13, false)), .val 15 (.bin .gtr) [.t 14, .k (.p (.int .i64 1099511627776))], [], none⟩,
    ⟨none, .val 16 .pick [.t 13, .k (.p (.bool true)), .t 15], [], none⟩]
def r30_4 : IC := (.reg o30_4 [5, 6, 7, 16])
def o30_5 : List IOp := [⟨none, .val 2 .mov [.k (.p (.bool false))], [], none⟩]
def r30_5 : IC := (.reg o30_5 [2])
def o30_6 : List IOp := [⟨none, .val 17 (.bin .add) [.t 7, .k (.p (.int .i64 1))], [], none⟩,
    ⟨none, .val 7 .mov [.t 17], [], none⟩]
def r30_6 : IC := (.reg o30_6 [5, 6, 7])
def l30_1 : IC := (.seq r30_2 (.seq (.cond (.t 8) .skip (.exit 0)) (.kp [5, 6, 7] (.seq (.block 1 (.seq r30_3 (.seq r30_4 (.cond (.t 16) (.seq r30_5 .ret) .skip)))) (.kp [5, 6, 7] r30_6)))))
def o30_7 : List IOp := [⟨none, .val 2 .mov [.k (.p (.bool true))], [], none⟩]
def r30_7 : IC := (.reg o30_7 [2])
def b30 : IC := (.seq r30_0 (.seq (.seq r30_1 (.block 0 (.loop l30_1))) (.seq r30_7 .ret)))
def i30 : IFn := ⟨1, 18, b30, [.tmp 2]⟩
/- isochronref29.Right -/
def o31_0 : List IOp := [⟨none, .boxL 1 (.t 0), [], none⟩,
    ⟨none, .val 2 .mov [.k (.p (.bool false))], [], none⟩]
def r31_0 : IC := (.reg o31_0 [1])
def o31_1 : List IOp := [⟨none, .val 3 (.faddr 0) [.t 1], [], none⟩,
    ⟨none, .load 4 (.t 3) 2 true, [], none⟩,
    ⟨none, .call (some 5) 36 [.t 4], [], none⟩,
    ⟨none, .val 6 .not [.t 5], [], none⟩,
    ⟨none, .val 7 .mov [.t 6], [], none⟩,
    ⟨(some (7, false)), .val 8 (.faddr 2) [.t 1], [], none⟩,
    ⟨(some (7, false)), .load 9 (.t 8) 1 false, [], none⟩,
    ⟨(some (7, false)), .call (some 10) 34 [.t 9], [], none⟩,
    ⟨(some (7, false)), .val 11 .not [.t 10], [], none⟩,
    ⟨none, .val 12 .pick [.t 7, .k (.p (.bool true)), .t 11], [], none⟩]
def r31_1 : IC := (.reg o31_1 [1, 12])
def o31_2 : List IOp := [⟨none, .val 2 .mov [.k (.p (.bool false))], [], none⟩]
def r31_2 : IC := (.reg o31_2 [2])
def o31_3 : List IOp := [⟨none, .val 13 (.faddr 3) [.t 1], [], none⟩,
    ⟨none, .load 14 (.t 13) 1 false, [], none⟩,
    ⟨none, .val 15 .not [.t 14], [], none⟩]
def r31_3 : IC := (.reg o31_3 [1, 15])
def o31_4 : List IOp := [⟨none, .val 16 (.faddr 4) [.t 1], [], none⟩,
    ⟨none, .val 17 (.faddr 0) [.t 16], [], none⟩,
    ⟨none, .load 18 (.t 17) 1 false, [], none⟩,
    ⟨none, .val 19 .len [.t 18], [], none⟩,
    ⟨none, .val 20 (.bin .eql) [.t 19, .k (.p (.int .i64 0))], [], none⟩,
    ⟨none, .val 21 .mov [.t 20], [], none⟩,
    ⟨(some (21, true)), .val 22 (.faddr 4) [.t 1], [], none⟩,
    ⟨(some (21, true)), .val 23 (.faddr 1) [.t 22], [], none⟩,
    ⟨(some (21, true)), .load 24 (.t 23) 1 false, [], none⟩,
    ⟨(some (21, true)), .val 25 (.bin .eql) [.t 24, .k (.p (.int .i64 0))], [], none⟩,
    ⟨none, .val 26 .pick [.t 21, .t 25, .k (.p (.bool false))], [], none⟩,
    ⟨none, .val 27 .mov [.t 26], [], none⟩,
    ⟨(some (27, true)), .val 28 (.faddr 6) [.t 1], [], none⟩,
    ⟨(some (27, true)), .load 29 (.t 28) 1 false, [], none⟩,
    ⟨(some (27, true)), .val 30 (.bin .eql) [.t 29, .k (.p (.int .i64 0))], [], none⟩,
    ⟨none, .val 31 .pick [.t 27, .t 30, .k (.p (.bool false))], [], none⟩,
    ⟨none, .val 2 .mov [.t 31], [], none⟩]
def r31_4 : IC := (.reg o31_4 [2])
def o31_5 : List IOp := [⟨none, .val 32 (.faddr 4) [.t 1], [], none⟩,
    ⟨none, .load 33 (.t 32) 2 true, [], none⟩,
    ⟨none, .call (some 34) 36 [.t 33], [], none⟩,
    ⟨none, .val 35 .mov [.t 34], [], none⟩,
    ⟨(some (35, true)), .val 36 (.faddr 6) [.t 1], [], none⟩,
    ⟨(some (35, true)), .load 37 (.t 36) 1 false, [], none⟩,
    ⟨(some (35, true)), .val 38 (.bin .geq) [.t 37, .k (.p (.int .i64 (-1099511627776)))], [], none⟩,
    ⟨none, .val 39 .pick [.t 35, .t 38, .k (.p (.bool false))], [], none⟩,
    ⟨none, .val 40 .mov [.t 39], [], none⟩,
    ⟨(some (40, true)), .val 41 (.faddr 6) [.t 1], [], none⟩,
    ⟨(some (40, true)), .load 42 (.t 41) 1 false, [], none⟩,
    ⟨(some (40, true)), .val 43 (.bin .leq) [.t 42, .k (.p (.int .i64 2199023255552))], [], none⟩,
    ⟨none, .val 44 .pick [.t 40, .t 43, .k (.p (.bool false))], [], none⟩,
    ⟨none, .val 45 .mov [.t 44], [], none⟩,
    ⟨(some (45, true)), .val 46 (.faddr 6) [.t 1], [], none⟩,
    ⟨(some (45, true)), .load 47 (.t 46) 1 false, [], none⟩,
    ⟨(some (45, true)), .val 48 (.faddr 2) [.t 1], [], none⟩,
    ⟨(some (45, true)), .load 49 (.t 48) 1 false, [], none⟩,
    ⟨(some (45, true)), .val 50 (.bin .sub) [.t 47, .t 49], [], none⟩,
    ⟨(some (45, true)), .val 51 (.faddr 0) [.t 1], [], none⟩,
    ⟨(some (45, true)), .val 52 (.faddr 1) [.t 51], [], none⟩,
    ⟨(some (45, true)), .load 53 (.t 52) 1 false, [], none⟩,
    ⟨(some (45, true)), .call (some 54) 41 [.t 50, .t 53], [], none⟩,
    ⟨(some (45, true)), .val 55 (.bin .eql) [.t 54, .k (.p (.int .i64 0))], [], none⟩,
    ⟨none, .val 56 .pick [.t 45, .t 55, .k (.p (.bool false))], [], none⟩,
    ⟨none, .val 2 .mov [.t 56], [], none⟩]
def r31_5 : IC := (.reg o31_5 [2])
def b31 : IC := (.seq r31_0 (.seq (.seq r31_1 (.cond (.t 12) (.seq r31_2 .ret) .skip)) (.kp [1] (.seq (.seq r31_3 (.cond (.t 15) (.seq r31_4 .ret) .skip)) (.kp [1] (.seq r31_5 .ret))))))
def i31 : IFn := ⟨1, 57, b31, [.tmp 2]⟩
/- (swap.state).parts -/
def o32_0 : List IOp := [⟨none, .boxH 3 (.t 0), [], none⟩,
    ⟨none, .boxH 4 (.t 1), [], none⟩,
    ⟨none, .boxH 5 (.t 2), [], none⟩,
    ⟨none, .val 6 .mov [.k (.nl .nilFunc)], [], none⟩]
def r32_0 : IC := (.reg o32_0 [3, 4, 5])
def o32_1 : List IOp := [⟨none, .val 7 (.mkfn 45 0) [.t 3, .t 4, .t 5], [], none⟩,
    ⟨none, .val 6 .mov [.t 7], [], none⟩]
def r32_1 : IC := (.reg o32_1 [6])
def b32 : IC := (.seq r32_0 (.seq r32_1 .ret))
def i32 : IFn := ⟨3, 8, b32, [.tmp 6]⟩
/- gates.Mask -/
def o33_0 : List IOp := [⟨none, .boxL 2 (.t 0), [], none⟩,
    ⟨none, .val 4 .mov [.k (.p (.int .i64 0))], [], none⟩,
    ⟨none, .val 5 .mov [.k (.p (.int .i64 0))], [], none⟩]
def r33_0 : IC := (.reg o33_0 [1, 2])
def o33_1 : List IOp := [⟨none, .load 9 (.t 2) 2 true, [], none⟩,
    ⟨none, .val 10 .mov [.t 1], [], none⟩,
    ⟨none, .call (some 11) 46 [.t 9, .k (.p (.int .i64 0)), .t 10, .k (.p (.int .i64 0))], [], none⟩,
    ⟨none, .val 6 .mov [.t 11], [], none⟩]
def r33_1 : IC := (.reg o33_1 [1, 2, 6])
def o33_2 : List IOp := [⟨none, .val 12 .mov [.t 6], [], none⟩,
    ⟨none, .val 13 (.bin .neq) [.t 12, .k (.p (.int .i64 0))], [], none⟩]
def r33_2 : IC := (.reg o33_2 [1, 2, 6, 13])
def o33_3 : List IOp := [⟨none, .val 14 .mov [.t 6], [], none⟩,
    ⟨none, .val 4 .mov [.k (.p (.int .i64 0))], [], none⟩,
    ⟨none, .val 5 .mov [.t 14], [], none⟩]
def r33_3 : IC := (.reg o33_3 [4, 5])
def o33_4 : List IOp := [⟨none, .load 16 (.t 2) 2 true, [], none⟩,
    ⟨none, .val 17 .mov [.t 1], [], none⟩,
    ⟨none, .call (some 18) 47 [.t 16, .t 17], [], none⟩,
    ⟨none, .val 15 .mov [.t 18], [], none⟩,
    ⟨none, .val 19 (.ext 0) [.t 15], [], none⟩,
    ⟨none, .val 20 (.ext 1) [.t 15], [], none⟩,
    ⟨none, .val 7 .mov [.t 19], [], none⟩,
    ⟨none, .val 8 .mov [.t 20], [], none⟩]
def r33_4 : IC := (.reg o33_4 [2, 7])
def o33_5 : List IOp := [⟨none, .val 21 (.faddr 0) [.t 2], [], none⟩,
    ⟨none, .load 22 (.t 21) 1 false, [], none⟩,
    ⟨none, .val 23 .mov [.t 7], [], none⟩,
    ⟨none, .val 24 (.iaddrS 2) [.t 22, .t 23], [], none⟩,
    ⟨none, .val 25 (.faddr 0) [.t 24], [], none⟩,
    ⟨none, .load 26 (.t 25) 1 false, [], none⟩,
    ⟨none, .val 4 .mov [.t 26], [], none⟩,
    ⟨none, .val 5 .mov [.k (.p (.int .i64 0))], [], none⟩]
def r33_5 : IC := (.reg o33_5 [4, 5])
def b33 : IC := (.seq r33_0 (.seq (.seq r33_1 (.seq r33_2 (.cond (.t 13) (.seq r33_3 .ret) .skip))) (.kp [1, 2] (.seq r33_4 (.seq r33_5 .ret)))))
def i33 : IFn := ⟨2, 27, b33, [.tmp 4, .tmp 5]⟩
/- isochronref29.time -/
def o34_0 : List IOp := [⟨none, .val 2 .mov [.k (.p (.bool false))], [], none⟩]
def r34_0 : IC := (.reg o34_0 [0])
def o34_1 : List IOp := [⟨none, .val 3 .mov [.t 0], [], none⟩,
    ⟨none, .val 4 (.bin .geq) [.t 3, .k (.p (.int .i64 (-1099511627776)))], [], none⟩,
    ⟨none, .val 5 .mov [.t 4], [], none⟩,
    ⟨(some (5, true)), .val 6 .mov [.t 0], [], none⟩,
    ⟨(some (5, true)), .val 7 (.bin .leq) [.t 6, .k (.p (.int .i64 1099511627776))], [], none⟩,
    ⟨none, .val 8 .pick [.t 5, .t 7, .k (.p (.bool false))], [], none⟩,
    ⟨none, .val 2 .mov [.t 8], [], none⟩]
def r34_1 : IC := (.reg o34_1 [2])
def b34 : IC := (.seq r34_0 (.seq r34_1 .ret))
def i34 : IFn := ⟨1, 9, b34, [.tmp 2]⟩
/- isochronref29.At -/
def o35_0 : List IOp := [⟨none, .boxL 2 (.t 0), [], none⟩,
    ⟨none, .val 4 .mov [.k (.p (.int .i64 0))], [], none⟩]
def r35_0 : IC := (.reg o35_0 [1, 2])
def o35_1 : List IOp := [⟨none, .val 5 (.faddr 3) [.t 2], [], none⟩,
    ⟨none, .load 6 (.t 5) 1 false, [], none⟩,
    ⟨none, .val 7 .mov [.t 6], [], none⟩,
    ⟨(some (7, true)), .val 8 .mov [.t 1], [], none⟩,
    ⟨(some (7, true)), .val 9 (.faddr 6) [.t 2], [], none⟩,
    ⟨(some (7, true)), .load 10 (.t 9) 1 false, [], none⟩,
    ⟨(some (7, true)), .val 11 (.bin .geq) [.t 8, .t 10], [], none⟩,
    ⟨none, .val 12 .pick [.t 7, .t 11, .k (.p (.bool false))], [], none⟩]
def r35_1 : IC := (.reg o35_1 [1, 2, 12])
def o35_2 : List IOp := [⟨none, .val 13 (.faddr 4) [.t 2], [], none⟩,
    ⟨none, .load 14 (.t 13) 2 true, [], none⟩,
    ⟨none, .val 15 .mov [.t 1], [], none⟩,
    ⟨none, .val 16 (.faddr 6) [.t 2], [], none⟩,
    ⟨none, .load 17 (.t 16) 1 false, [], none⟩,
    ⟨none, .val 18 (.bin .sub) [.t 15, .t 17], [], none⟩,
    ⟨none, .call (some 19) 48 [.t 14, .t 18], [], none⟩,
    ⟨none, .val 4 .mov [.t 19], [], none⟩]
def r35_2 : IC := (.reg o35_2 [4])
def o35_3 : List IOp := [⟨none, .val 20 (.faddr 0) [.t 2], [], none⟩,
    ⟨none, .load 21 (.t 20) 2 true, [], none⟩,
    ⟨none, .val 22 .mov [.t 1], [], none⟩,
    ⟨none, .val 23 (.faddr 2) [.t 2], [], none⟩,
    ⟨none, .load 24 (.t 23) 1 false, [], none⟩,
    ⟨none, .val 25 (.bin .sub) [.t 22, .t 24], [], none⟩,
    ⟨none, .call (some 26) 48 [.t 21, .t 25], [], none⟩,
    ⟨none, .val 4 .mov [.t 26], [], none⟩]
def r35_3 : IC := (.reg o35_3 [4])
def b35 : IC := (.seq r35_0 (.seq (.seq r35_1 (.cond (.t 12) (.seq r35_2 .ret) .skip)) (.kp [1, 2] (.seq r35_3 .ret))))
def i35 : IFn := ⟨2, 27, b35, [.tmp 4]⟩
/- isochronref27.Right -/
def o36_0 : List IOp := [⟨none, .boxL 1 (.t 0), [], none⟩,
    ⟨none, .val 2 .mov [.k (.p (.bool false))], [], none⟩]
def r36_0 : IC := (.reg o36_0 [1])
def o36_1 : List IOp := [⟨none, .val 6 (.faddr 0) [.t 1], [], none⟩,
    ⟨none, .load 7 (.t 6) 1 false, [], none⟩,
    ⟨none, .val 8 .len [.t 7], [], none⟩,
    ⟨none, .val 9 (.bin .lss) [.t 8, .k (.p (.int .i64 1))], [], none⟩,
    ⟨none, .val 10 .mov [.t 9], [], none⟩,
    ⟨(some (10, false)), .val 11 (.faddr 0) [.t 1], [], none⟩,
    ⟨(some (10, false)), .load 12 (.t 11) 1 false, [], none⟩,
    ⟨(some (10, false)), .val 13 .len [.t 12], [], none⟩,
    ⟨(some (10, false)), .val 14 (.bin .gtr) [.t 13, .k (.p (.int .i64 128))], [], none⟩,
    ⟨none, .val 15 .pick [.t 10, .k (.p (.bool true)), .t 14], [], none⟩]
def r36_1 : IC := (.reg o36_1 [1, 15])
def o36_2 : List IOp := [⟨none, .val 2 .mov [.k (.p (.bool false))], [], none⟩]
def r36_2 : IC := (.reg o36_2 [2])
def o36_3 : List IOp := [⟨none, .val 3 .mov [.k (.p (.int .i64 0))], [], none⟩]
def r36_3 : IC := (.reg o36_3 [1, 3])
def o36_4 : List IOp := [⟨none, .val 4 .mov [.k (.p (.int .i64 0))], [], none⟩]
def r36_4 : IC := (.reg o36_4 [1, 3, 4])
def o36_5 : List IOp := [⟨none, .val 16 .mov [.t 4], [], none⟩,
    ⟨none, .val 17 (.faddr 0) [.t 1], [], none⟩,
    ⟨none, .load 18 (.t 17) 1 false, [], none⟩,
    ⟨none, .val 19 .len [.t 18], [], none⟩,
    ⟨none, .val 20 (.bin .lss) [.t 16, .t 19], [], none⟩]
def r36_5 : IC := (.reg o36_5 [1, 3, 4, 20])
def o36_7 : List IOp := [⟨none, .val 23 (.faddr 0) [.t 1], [], none⟩,
    ⟨none, .load 24 (.t 23) 1 false, [], none⟩,
    ⟨none, .val 25 .mov [.t 4], [], none⟩,
    ⟨none, .val 26 (.iaddrS 2) [.t 24, .t 25], [], none⟩,
    ⟨none, .load 27 (.t 26) 2 true, [], none⟩,
    ⟨none, .newL 5 [.p (.int .i64 0), .p (.int .i64 0)], [], none⟩,
    ⟨none, .store (.t 5) (.t 27) 2, [], none⟩]
def r36_7 : IC := (.reg o36_7 [1, 3, 4, 5])
def o36_8 : List IOp := [⟨none, .val 28 (.faddr 0) [.t 5], [], none⟩,
    ⟨none, .load 29 (.t 28) 1 false, [], none⟩,
    ⟨none, .val 30 (.bin .lss) [.t 29, .k (.p (.int .i64 0))], [], none⟩,
    ⟨none, .val 31 .mov [.t 30], [], none⟩,
    ⟨(some (31, false)), .val 32 (.faddr 0) [.t 5], [], none⟩,
    ⟨(some (31, false)), .load 33 (.t 32) 1 false, [], none⟩,
    ⟨(some (31, false)), .val 34 (.bin .gtr) [.t 33, .k (.p (.int .i64 255))], [], none⟩,
    ⟨none, .val 35 .pick [.t 31, .k (.p (.bool true)), .t 34], [], none⟩,
    ⟨none, .val 36 .mov [.t 35], [], none⟩,
    ⟨(some (36, false)), .val 37 (.faddr 1) [.t 5], [], none⟩,
    ⟨(some (36, false)), .load 38 (.t 37) 1 false, [], none⟩,
    ⟨(some (36, false)), .val 39 (.bin .lss) [.t 38, .k (.p (.int .i64 1))], [], none⟩,
    ⟨none, .val 40 .pick [.t 36, .k (.p (.bool true)), .t 39], [], none⟩,
    ⟨none, .val 41 .mov [.t 40], [], none⟩,
    ⟨(some (41, false)), .val 42 (.faddr 1) [.t 5], [], none⟩,
    ⟨(some (41, false)), .load 43 (.t 42) 1 false, [], none⟩,
    ⟨(some (41, false)), .val 44 (.bin .gtr) [.t 43, .k (.p (.int .i64 9600000))], [], none⟩,
    ⟨none, .val 45 .pick [.t 41, .k (.p (.bool true)), .t 44], [], none⟩]
def r36_8 : IC := (.reg o36_8 [1, 3, 4, 5, 45])
def o36_9 : List IOp := [⟨none, .val 2 .mov [.k (.p (.bool false))], [], none⟩]
def r36_9 : IC := (.reg o36_9 [2])
def o36_10 : List IOp := [⟨none, .val 46 .mov [.t 3], [], none⟩,
    ⟨none, .val 47 (.faddr 1) [.t 5], [], none⟩,
    ⟨none, .load 48 (.t 47) 1 false, [], none⟩,
    ⟨none, .val 49 (.bin .add) [.t 46, .t 48], [], none⟩,
    ⟨none, .val 3 .mov [.t 49], [], none⟩]
def r36_10 : IC := (.reg o36_10 [1, 3, 4])
def o36_6 : List IOp := [⟨none, .val 21 .mov [.t 4], [], none⟩,
    ⟨none, .val 22 (.bin .add) [.t 21, .k (.p (.int .i64 1))], [], none⟩,
    ⟨none, .val 4 .mov [.t 22], [], none⟩]
def r36_6 : IC := (.reg o36_6 [1, 3, 4])
def l36_1 : IC := (.seq (.seq r36_5 (.cond (.t 20) .skip (.exit 0))) (.kp [1, 3, 4] (.seq (.block 1 (.seq r36_7 (.seq (.seq r36_8 (.cond (.t 45) (.seq r36_9 .ret) .skip)) (.kp [1, 3, 4, 5] r36_10)))) (.kp [1, 3, 4] r36_6))))
def o36_11 : List IOp := [⟨none, .val 50 .mov [.t 3], [], none⟩,
    ⟨none, .val 51 (.faddr 1) [.t 1], [], none⟩,
    ⟨none, .load 52 (.t 51) 1 false, [], none⟩,
    ⟨none, .val 53 (.bin .eql) [.t 50, .t 52], [], none⟩,
    ⟨none, .val 54 .mov [.t 53], [], none⟩,
    ⟨(some (54, true)), .val 55 .mov [.t 3], [], none⟩,
    ⟨(some (54, true)), .val 56 (.bin .leq) [.t 55, .k (.p (.int .i64 9600000))], [], none⟩,
    ⟨none, .val 57 .pick [.t 54, .t 56, .k (.p (.bool false))], [], none⟩,
    ⟨none, .val 2 .mov [.t 57], [], none⟩]
def r36_11 : IC := (.reg o36_11 [2])
def b36 : IC := (.seq r36_0 (.seq (.seq r36_1 (.cond (.t 15) (.seq r36_2 .ret) .skip)) (.kp [1] (.seq r36_3 (.seq (.seq r36_4 (.block 0 (.loop l36_1))) (.seq r36_11 .ret))))))
def i36 : IFn := ⟨1, 58, b36, [.tmp 2]⟩
/- isochronref29.same -/
def o37_0 : List IOp := [⟨none, .boxL 2 (.t 0), [], none⟩,
    ⟨none, .boxL 3 (.t 1), [], none⟩,
    ⟨none, .val 4 .mov [.k (.p (.bool false))], [], none⟩]
def r37_0 : IC := (.reg o37_0 [2, 3])
def o37_1 : List IOp := [⟨none, .val 6 (.faddr 1) [.t 2], [], none⟩,
    ⟨none, .load 7 (.t 6) 1 false, [], none⟩,
    ⟨none, .val 8 (.faddr 1) [.t 3], [], none⟩,
    ⟨none, .load 9 (.t 8) 1 false, [], none⟩,
    ⟨none, .val 10 (.bin .neq) [.t 7, .t 9], [], none⟩,
    ⟨none, .val 11 .mov [.t 10], [], none⟩,
    ⟨(some (11, false)), .val 12 (.faddr 0) [.t 2], [], none⟩,
    ⟨(some (11, false)), .load 13 (.t 12) 1 false, [], none⟩,
    ⟨(some (11, false)), .val 14 .len [.t 13], [], none⟩,
    ⟨(some (11, false)), .val 15 (.faddr 0) [.t 3], [], none⟩,
    ⟨(some (11, false)), .load 16 (.t 15) 1 false, [], none⟩,
    ⟨(some (11, false)), .val 17 .len [.t 16], [], none⟩,
    ⟨(some (11, false)), .val 18 (.bin .neq) [.t 14, .t 17], [], none⟩,
    ⟨none, .val 19 .pick [.t 11, .k (.p (.bool true)), .t 18], [], none⟩]
def r37_1 : IC := (.reg o37_1 [2, 3, 19])
def o37_2 : List IOp := [⟨none, .val 4 .mov [.k (.p (.bool false))], [], none⟩]
def r37_2 : IC := (.reg o37_2 [4])
def o37_3 : List IOp := [⟨none, .val 5 .mov [.k (.p (.int .i64 0))], [], none⟩]
def r37_3 : IC := (.reg o37_3 [2, 3, 5])
def o37_4 : List IOp := [⟨none, .val 20 .mov [.t 5], [], none⟩,
    ⟨none, .val 21 (.faddr 0) [.t 2], [], none⟩,
    ⟨none, .load 22 (.t 21) 1 false, [], none⟩,
    ⟨none, .val 23 .len [.t 22], [], none⟩,
    ⟨none, .val 24 (.bin .lss) [.t 20, .t 23], [], none⟩]
def r37_4 : IC := (.reg o37_4 [2, 3, 5, 24])
def o37_6 : List IOp := [⟨none, .val 27 (.faddr 0) [.t 2], [], none⟩,
    ⟨none, .loadL 28 (.t 27) 1 false, [0], none⟩,
    ⟨none, .val 29 .mov [.t 5], [], none⟩,
    ⟨none, .val 30 (.iaddrS 2) [.t 28, .t 29], [0, 1, 2], none⟩,
    ⟨none, .load 31 (.t 30) 2 true, [0, 1, 2, 3], none⟩,
    ⟨none, .val 32 (.faddr 0) [.t 3], [], none⟩,
    ⟨none, .loadL 33 (.t 32) 1 false, [5], none⟩,
    ⟨none, .val 34 .mov [.t 5], [], none⟩,
    ⟨none, .val 35 (.iaddrS 2) [.t 33, .t 34], [5, 6, 7], none⟩,
    ⟨none, .load 36 (.t 35) 2 true, [5, 6, 7, 8], none⟩,
    ⟨none, .val 37 (.eqS true [true, true]) [.t 31, .t 36], [0, 1, 2, 3, 4, 5, 6, 7, 8, 9], none⟩]
def r37_6 : IC := (.regD o37_6 [2, 3, 5, 37])
def o37_7 : List IOp := [⟨none, .val 4 .mov [.k (.p (.bool false))], [], none⟩]
def r37_7 : IC := (.reg o37_7 [4])
def o37_5 : List IOp := [⟨none, .val 25 .mov [.t 5], [], none⟩,
    ⟨none, .val 26 (.bin .add) [.t 25, .k (.p (.int .i64 1))], [], none⟩,
    ⟨none, .val 5 .mov [.t 26], [], none⟩]
def r37_5 : IC := (.reg o37_5 [2, 3, 5])
def l37_1 : IC := (.seq (.seq r37_4 (.cond (.t 24) .skip (.exit 0))) (.kp [2, 3, 5] (.seq (.block 1 (.seq r37_6 (.cond (.t 37) (.seq r37_7 .ret) .skip))) (.kp [2, 3, 5] r37_5))))
def o37_8 : List IOp := [⟨none, .val 4 .mov [.k (.p (.bool true))], [], none⟩]
def r37_8 : IC := (.reg o37_8 [4])
def b37 : IC := (.seq r37_0 (.seq (.seq r37_1 (.cond (.t 19) (.seq r37_2 .ret) .skip)) (.kp [2, 3] (.seq (.seq r37_3 (.block 0 (.loop l37_1))) (.seq r37_8 .ret)))))
def i37 : IFn := ⟨2, 38, b37, [.tmp 4]⟩
/- (*swap.state).advance -/
def o38_0 : List IOp := [⟨none, .val 4 .mov [.t 0], [], none⟩,
    ⟨none, .val 5 .nilChk [.t 4], [], none⟩,
    ⟨none, .val 6 (.faddr 0) [.t 5], [], none⟩,
    ⟨none, .val 7 (.faddr 3) [.t 6], [], none⟩,
    ⟨none, .load 8 (.t 7) 1 false, [], none⟩,
    ⟨none, .val 9 .not [.t 8], [], none⟩,
    ⟨none, .val 10 .mov [.t 9], [], none⟩,
    ⟨(some (10, false)), .val 11 .mov [.t 1], [], none⟩,
    ⟨(some (10, false)), .val 12 .mov [.t 0], [], none⟩,
    ⟨(some (10, false)), .val 13 .nilChk [.t 12], [], none⟩,
    ⟨(some (10, false)), .val 14 (.faddr 0) [.t 13], [], none⟩,
    ⟨(some (10, false)), .val 15 (.faddr 6) [.t 14], [], none⟩,
    ⟨(some (10, false)), .load 16 (.t 15) 1 false, [], none⟩,
    ⟨(some (10, false)), .val 17 (.bin .lss) [.t 11, .t 16], [], none⟩,
    ⟨none, .val 18 .pick [.t 10, .k (.p (.bool true)), .t 17], [], none⟩,
    ⟨none, .val 19 .mov [.t 18], [], none⟩,
    ⟨(some (19, false)), .val 20 .mov [.t 0], [], none⟩,
    ⟨(some (19, false)), .val 21 .nilChk [.t 20], [], none⟩,
    ⟨(some (19, false)), .val 22 (.faddr 0) [.t 21], [], none⟩,
    ⟨(some (19, false)), .val 23 (.faddr 6) [.t 22], [], none⟩,
    ⟨(some (19, false)), .load 24 (.t 23) 1 false, [], none⟩,
    ⟨(some (19, false)), .val 25 (.bin .gtr) [.t 24, .k (.p (.int .i64 1099511627776))], [], none⟩,
    ⟨none, .val 26 .pick [.t 19, .k (.p (.bool true)), .t 25], [], none⟩]
def r38_0 : IC := (.reg o38_0 [0, 26])
def o38_1 : List IOp := [⟨none, .val 27 .mov [.t 0], [], none⟩,
    ⟨none, .val 28 .mov [.t 0], [], none⟩,
    ⟨none, .val 29 .nilChk [.t 28], [1], none⟩,
    ⟨none, .val 30 (.faddr 0) [.t 29], [1, 2], none⟩,
    ⟨none, .val 31 (.faddr 4) [.t 30], [1, 2, 3], none⟩,
    ⟨none, .load 32 (.t 31) 2 true, [1, 2, 3, 4], none⟩,
    ⟨none, .val 33 .mov [.t 0], [], none⟩,
    ⟨none, .val 34 .nilChk [.t 33], [6], none⟩,
    ⟨none, .val 35 (.faddr 0) [.t 34], [6, 7], none⟩,
    ⟨none, .val 36 (.faddr 6) [.t 35], [6, 7, 8], none⟩,
    ⟨none, .load 37 (.t 36) 1 false, [6, 7, 8, 9], none⟩,
    ⟨none, .val 38 (.build [.p (.sl 2 true []), .p (.int .i64 0), .p (.int .i64 0), .p (.bool false), .p (.sl 2 true []), .p (.int .i64 0), .p (.int .i64 0)] [(0, 2), (2, 1)]) [.t 32, .t 37], [1, 2, 3, 4, 5, 6, 7, 8, 9, 10], none⟩,
    ⟨none, .val 39 .nilChk [.t 27], [0, 1, 2, 3, 4, 5, 6, 7, 8, 9, 10, 11], none⟩,
    ⟨none, .val 40 (.faddr 0) [.t 39], [0, 1, 2, 3, 4, 5, 6, 7, 8, 9, 10, 11, 12], none⟩,
    ⟨none, .store (.t 40) (.t 38) 7, [0, 1, 2, 3, 4, 5, 6, 7, 8, 9, 10, 11, 12, 13], none⟩]
def r38_1 : IC := (.regD o38_1 [])
def b38 : IC := (.seq (.seq r38_0 (.cond (.t 26) .ret .skip)) (.kp [0] r38_1))
def i38 : IFn := ⟨2, 41, b38, []⟩
/- isochronref29.Later -/
def o39_0 : List IOp := [⟨none, .boxL 2 (.t 0), [], none⟩,
    ⟨none, .newL 4 [.p (.sl 2 true []), .p (.int .i64 0), .p (.int .i64 0), .p (.bool false), .p (.sl 2 true []), .p (.int .i64 0), .p (.int .i64 0)], [], none⟩]
def r39_0 : IC := (.reg o39_0 [1, 2, 4])
def o39_1 : List IOp := [⟨none, .val 5 (.faddr 3) [.t 2], [], none⟩,
    ⟨none, .load 6 (.t 5) 1 false, [], none⟩,
    ⟨none, .val 7 .not [.t 6], [], none⟩,
    ⟨none, .val 8 .mov [.t 7], [], none⟩,
    ⟨(some (8, false)), .val 9 .mov [.t 1], [], none⟩,
    ⟨(some (8, false)), .val 10 (.faddr 6) [.t 2], [], none⟩,
    ⟨(some (8, false)), .load 11 (.t 10) 1 false, [], none⟩,
    ⟨(some (8, false)), .val 12 (.bin .lss) [.t 9, .t 11], [], none⟩,
    ⟨none, .val 13 .pick [.t 8, .k (.p (.bool true)), .t 12], [], none⟩,
    ⟨none, .val 14 .mov [.t 13], [], none⟩,
    ⟨(some (14, false)), .val 15 (.faddr 6) [.t 2], [], none⟩,
    ⟨(some (14, false)), .load 16 (.t 15) 1 false, [], none⟩,
    ⟨(some (14, false)), .val 17 (.bin .gtr) [.t 16, .k (.p (.int .i64 1099511627776))], [], none⟩,
    ⟨none, .val 18 .pick [.t 14, .k (.p (.bool true)), .t 17], [], none⟩]
def r39_1 : IC := (.reg o39_1 [2, 4, 18])
def o39_2 : List IOp := [⟨none, .load 19 (.t 2) 7 true, [], none⟩,
    ⟨none, .store (.t 4) (.t 19) 7, [], none⟩]
def r39_2 : IC := (.reg o39_2 [4])
def o39_3 : List IOp := [⟨none, .val 20 (.faddr 4) [.t 2], [], none⟩,
    ⟨none, .load 21 (.t 20) 2 true, [], none⟩,
    ⟨none, .val 22 (.faddr 6) [.t 2], [], none⟩,
    ⟨none, .load 23 (.t 22) 1 false, [], none⟩,
    ⟨none, .val 24 (.build [.p (.sl 2 true []), .p (.int .i64 0), .p (.int .i64 0), .p (.bool false), .p (.sl 2 true []), .p (.int .i64 0), .p (.int .i64 0)] [(0, 2), (2, 1)]) [.t 21, .t 23], [], none⟩,
    ⟨none, .store (.t 4) (.t 24) 7, [], none⟩]
def r39_3 : IC := (.reg o39_3 [4])
def b39 : IC := (.seq r39_0 (.seq (.seq r39_1 (.cond (.t 18) (.seq r39_2 .ret) .skip)) (.kp [2, 4] (.seq r39_3 .ret))))
def i39 : IFn := ⟨2, 25, b39, [.cell 4 7 true]⟩
/- swap.mod -/
def o40_0 : List IOp := [⟨none, .val 4 .mov [.k (.p (.int .i64 0))], [], none⟩]
def r40_0 : IC := (.reg o40_0 [0, 1])
def o40_1 : List IOp := [⟨none, .val 5 .mov [.t 0], [], none⟩,
    ⟨none, .val 6 .mov [.t 1], [], none⟩,
    ⟨none, .val 7 (.bin .rem) [.t 5, .t 6], [], none⟩,
    ⟨none, .val 8 .mov [.t 1], [], none⟩,
    ⟨none, .val 9 (.bin .add) [.t 7, .t 8], [], none⟩,
    ⟨none, .val 10 .mov [.t 1], [], none⟩,
    ⟨none, .val 11 (.bin .rem) [.t 9, .t 10], [], none⟩,
    ⟨none, .val 4 .mov [.t 11], [], none⟩]
def r40_1 : IC := (.reg o40_1 [4])
def b40 : IC := (.seq r40_0 (.seq r40_1 .ret))
def i40 : IFn := ⟨2, 12, b40, [.tmp 4]⟩
/- isochronref23.Mod -/
def o41_0 : List IOp := [⟨none, .val 4 .mov [.k (.p (.int .i64 0))], [], none⟩]
def r41_0 : IC := (.reg o41_0 [0, 1])
def o41_1 : List IOp := [⟨none, .val 6 .mov [.t 0], [], none⟩,
    ⟨none, .val 7 .mov [.t 1], [], none⟩,
    ⟨none, .val 8 (.bin .rem) [.t 6, .t 7], [], none⟩,
    ⟨none, .val 5 .mov [.t 8], [], none⟩]
def r41_1 : IC := (.reg o41_1 [1, 5])
def o41_2 : List IOp := [⟨none, .val 9 .mov [.t 5], [], none⟩,
    ⟨none, .val 10 (.bin .lss) [.t 9, .k (.p (.int .i64 0))], [], none⟩]
def r41_2 : IC := (.reg o41_2 [1, 5, 10])
def o41_3 : List IOp := [⟨none, .val 11 .mov [.t 5], [], none⟩,
    ⟨none, .val 12 .mov [.t 1], [], none⟩,
    ⟨none, .val 13 (.bin .add) [.t 11, .t 12], [], none⟩,
    ⟨none, .val 5 .mov [.t 13], [], none⟩]
def r41_3 : IC := (.reg o41_3 [5])
def o41_4 : List IOp := [⟨none, .val 14 .mov [.t 5], [], none⟩,
    ⟨none, .val 4 .mov [.t 14], [], none⟩]
def r41_4 : IC := (.reg o41_4 [4])
def b41 : IC := (.seq r41_0 (.seq r41_1 (.seq (.seq r41_2 (.cond (.t 10) r41_3 .skip)) (.kp [5] (.seq r41_4 .ret)))))
def i41 : IFn := ⟨2, 15, b41, [.tmp 4]⟩
/- gates.Fits -/
def o42_0 : List IOp := [⟨none, .boxL 4 (.t 0), [], none⟩,
    ⟨none, .val 8 .mov [.k (.p (.bool false))], [], none⟩,
    ⟨none, .val 9 .mov [.k (.p (.int .i64 0))], [], none⟩]
def r42_0 : IC := (.reg o42_0 [1, 2, 3, 4])
def o42_1 : List IOp := [⟨none, .load 11 (.t 4) 2 true, [], none⟩,
    ⟨none, .val 12 .mov [.t 1], [], none⟩,
    ⟨none, .val 13 .mov [.t 2], [], none⟩,
    ⟨none, .val 14 .mov [.t 3], [], none⟩,
    ⟨none, .call (some 15) 46 [.t 11, .t 12, .t 13, .t 14], [], none⟩,
    ⟨none, .val 10 .mov [.t 15], [], none⟩]
def r42_1 : IC := (.reg o42_1 [1, 2, 3, 4, 10])
def o42_2 : List IOp := [⟨none, .val 16 .mov [.t 10], [], none⟩,
    ⟨none, .val 17 (.bin .neq) [.t 16, .k (.p (.int .i64 0))], [], none⟩]
def r42_2 : IC := (.reg o42_2 [1, 2, 3, 4, 10, 17])
def o42_3 : List IOp := [⟨none, .val 18 .mov [.t 10], [], none⟩,
    ⟨none, .val 8 .mov [.k (.p (.bool false))], [], none⟩,
    ⟨none, .val 9 .mov [.t 18], [], none⟩]
def r42_3 : IC := (.reg o42_3 [8, 9])
def o42_4 : List IOp := [⟨none, .load 19 (.t 4) 2 true, [], none⟩,
    ⟨none, .val 20 .mov [.t 1], [], none⟩,
    ⟨none, .val 21 .mov [.t 2], [], none⟩,
    ⟨none, .call (some 22) 49 [.t 19, .t 20, .t 21], [], none⟩,
    ⟨none, .val 23 .mov [.t 3], [], none⟩,
    ⟨none, .val 24 (.bin .geq) [.t 22, .t 23], [], none⟩,
    ⟨none, .val 8 .mov [.t 24], [], none⟩,
    ⟨none, .val 9 .mov [.k (.p (.int .i64 0))], [], none⟩]
def r42_4 : IC := (.reg o42_4 [8, 9])
def b42 : IC := (.seq r42_0 (.seq (.seq r42_1 (.seq r42_2 (.cond (.t 17) (.seq r42_3 .ret) .skip))) (.kp [1, 2, 3, 4] (.seq r42_4 .ret))))
def i42 : IFn := ⟨4, 25, b42, [.tmp 8, .tmp 9]⟩
/- isochronref27.At -/
def o43_0 : List IOp := [⟨none, .boxL 2 (.t 0), [], none⟩,
    ⟨none, .val 4 .mov [.k (.p (.int .i64 0))], [], none⟩,
    ⟨none, .val 5 .mov [.k (.p (.int .i64 0))], [], none⟩]
def r43_0 : IC := (.reg o43_0 [1, 2])
def o43_1 : List IOp := [⟨none, .val 8 .mov [.t 1], [], none⟩,
    ⟨none, .val 9 (.faddr 1) [.t 2], [], none⟩,
    ⟨none, .load 10 (.t 9) 1 false, [], none⟩,
    ⟨none, .val 11 (.bin .rem) [.t 8, .t 10], [], none⟩,
    ⟨none, .val 6 .mov [.t 11], [], none⟩]
def r43_1 : IC := (.reg o43_1 [2, 6])
def o43_2 : List IOp := [⟨none, .val 12 .mov [.t 6], [], none⟩,
    ⟨none, .val 13 (.bin .lss) [.t 12, .k (.p (.int .i64 0))], [], none⟩]
def r43_2 : IC := (.reg o43_2 [2, 6, 13])
def o43_3 : List IOp := [⟨none, .val 14 .mov [.t 6], [], none⟩,
    ⟨none, .val 15 (.faddr 1) [.t 2], [], none⟩,
    ⟨none, .load 16 (.t 15) 1 false, [], none⟩,
    ⟨none, .val 17 (.bin .add) [.t 14, .t 16], [], none⟩,
    ⟨none, .val 6 .mov [.t 17], [], none⟩]
def r43_3 : IC := (.reg o43_3 [2, 6])
def o43_4 : List IOp := [⟨none, .val 7 .mov [.k (.p (.int .i64 0))], [], none⟩]
def r43_4 : IC := (.reg o43_4 [2, 6, 7])
def o43_5 : List IOp := [⟨none, .val 18 .mov [.t 6], [], none⟩,
    ⟨none, .val 19 (.faddr 0) [.t 2], [], none⟩,
    ⟨none, .load 20 (.t 19) 1 false, [], none⟩,
    ⟨none, .val 21 .mov [.t 7], [], none⟩,
    ⟨none, .val 22 (.iaddrS 2) [.t 20, .t 21], [], none⟩,
    ⟨none, .val 23 (.faddr 1) [.t 22], [], none⟩,
    ⟨none, .load 24 (.t 23) 1 false, [], none⟩,
    ⟨none, .val 25 (.bin .geq) [.t 18, .t 24], [], none⟩]
def r43_5 : IC := (.reg o43_5 [2, 6, 7, 25])
def o43_6 : List IOp := [⟨none, .val 26 .mov [.t 6], [], none⟩,
    ⟨none, .val 27 (.faddr 0) [.t 2], [], none⟩,
    ⟨none, .load 28 (.t 27) 1 false, [], none⟩,
    ⟨none, .val 29 .mov [.t 7], [], none⟩,
    ⟨none, .val 30 (.iaddrS 2) [.t 28, .t 29], [], none⟩,
    ⟨none, .val 31 (.faddr 1) [.t 30], [], none⟩,
    ⟨none, .load 32 (.t 31) 1 false, [], none⟩,
    ⟨none, .val 33 (.bin .sub) [.t 26, .t 32], [], none⟩,
    ⟨none, .val 6 .mov [.t 33], [], none⟩]
def r43_6 : IC := (.reg o43_6 [2, 6, 7])
def o43_7 : List IOp := [⟨none, .val 34 .mov [.t 7], [], none⟩,
    ⟨none, .val 35 (.bin .add) [.t 34, .k (.p (.int .i64 1))], [], none⟩,
    ⟨none, .val 7 .mov [.t 35], [], none⟩]
def r43_7 : IC := (.reg o43_7 [2, 6, 7])
def l43_1 : IC := (.seq (.seq r43_5 (.cond (.t 25) .skip (.exit 0))) (.kp [2, 6, 7] (.block 1 (.seq r43_6 r43_7))))
def o43_8 : List IOp := [⟨none, .val 36 .mov [.t 7], [], none⟩,
    ⟨none, .val 37 .mov [.t 6], [], none⟩,
    ⟨none, .val 4 .mov [.t 36], [], none⟩,
    ⟨none, .val 5 .mov [.t 37], [], none⟩]
def r43_8 : IC := (.reg o43_8 [4, 5])
def b43 : IC := (.seq r43_0 (.seq r43_1 (.seq (.seq r43_2 (.cond (.t 13) r43_3 .skip)) (.kp [2, 6] (.seq r43_4 (.seq (.block 0 (.loop l43_1)) (.seq r43_8 .ret)))))))
def i43 : IFn := ⟨2, 38, b43, [.tmp 4, .tmp 5]⟩
/- isochronref27.Bit -/
def o44_0 : List IOp := [⟨none, .val 4 .mov [.k (.p (.bool false))], [], none⟩]
def r44_0 : IC := (.reg o44_0 [0, 1])
def o44_1 : List IOp := [⟨none, .val 5 .mov [.t 0], [], none⟩,
    ⟨none, .val 6 .mov [.t 1], [], none⟩,
    ⟨none, .val 7 (.conv .u64) [.t 6], [], none⟩,
    ⟨none, .val 8 (.sh .shr) [.t 5, .t 7], [], none⟩,
    ⟨none, .val 9 (.bin .rem) [.t 8, .k (.p (.int .i64 2))], [], none⟩,
    ⟨none, .val 10 (.bin .eql) [.t 9, .k (.p (.int .i64 1))], [], none⟩,
    ⟨none, .val 4 .mov [.t 10], [], none⟩]
def r44_1 : IC := (.reg o44_1 [4])
def b44 : IC := (.seq r44_0 (.seq r44_1 .ret))
def i44 : IFn := ⟨2, 11, b44, [.tmp 4]⟩
/- (swap.state).parts$1 -/
def o45_0 : List IOp := [⟨none, .val 6 (.faddr 0) [.t 1], [], none⟩,
    ⟨none, .val 7 (.faddr 3) [.t 6], [], none⟩,
    ⟨none, .load 8 (.t 7) 1 false, [], none⟩,
    ⟨none, .val 9 .mov [.t 8], [], none⟩,
    ⟨(some (9, true)), .load 10 (.t 2) 1 false, [], none⟩,
    ⟨(some (9, true)), .val 11 (.faddr 0) [.t 1], [], none⟩,
    ⟨(some (9, true)), .val 12 (.faddr 6) [.t 11], [], none⟩,
    ⟨(some (9, true)), .load 13 (.t 12) 1 false, [], none⟩,
    ⟨(some (9, true)), .val 14 (.bin .geq) [.t 10, .t 13], [], none⟩,
    ⟨none, .val 15 .pick [.t 9, .t 14, .k (.p (.bool false))], [], none⟩]
def r45_0 : IC := (.reg o45_0 [0, 1, 2, 3, 15])
def o45_1 : List IOp := [⟨none, .val 16 .mov [.t 0], [], none⟩,
    ⟨none, .val 17 (.faddr 0) [.t 1], [], none⟩,
    ⟨none, .val 18 (.faddr 4) [.t 17], [1], none⟩,
    ⟨none, .load 19 (.t 18) 2 true, [1, 2], none⟩,
    ⟨none, .load 20 (.t 2) 1 false, [], none⟩,
    ⟨none, .val 21 (.faddr 0) [.t 1], [], none⟩,
    ⟨none, .val 22 (.faddr 6) [.t 21], [5], none⟩,
    ⟨none, .load 23 (.t 22) 1 false, [5, 6], none⟩,
    ⟨none, .val 24 (.bin .sub) [.t 20, .t 23], [4, 5, 6, 7], none⟩,
    ⟨none, .val 25 (.faddr 0) [.t 1], [], none⟩,
    ⟨none, .val 26 (.faddr 4) [.t 25], [9], none⟩,
    ⟨none, .val 27 (.faddr 1) [.t 26], [9, 10], none⟩,
    ⟨none, .load 28 (.t 27) 1 false, [9, 10, 11], none⟩,
    ⟨none, .callP 29 40 [.t 24, .t 28], [4, 5, 6, 7, 8, 9, 10, 11, 12], none⟩,
    ⟨none, .load 30 (.t 3) 1 false, [], none⟩,
    ⟨none, .val 31 (.build [.p (.sl 2 true []), .p (.int .i64 0), .p (.int .i64 0), .p (.int .i64 0)] [(0, 2), (2, 1), (3, 1)]) [.t 19, .t 29, .t 30], [1, 2, 3, 4, 5, 6, 7, 8, 9, 10, 11, 12, 13, 14], none⟩,
    ⟨none, .callY (some 32) (.t 16) [.t 31], [0, 1, 2, 3, 4, 5, 6, 7, 8, 9, 10, 11, 12, 13, 14, 15], none⟩]
def r45_1 : IC := (.regD o45_1 [])
def o45_2 : List IOp := [⟨none, .load 33 (.t 3) 1 false, [], none⟩,
    ⟨none, .val 5 .mov [.t 33], [], none⟩]
def r45_2 : IC := (.reg o45_2 [0, 1, 2, 3, 5])
def o45_3 : List IOp := [⟨none, .val 34 (.faddr 0) [.t 1], [], none⟩,
    ⟨none, .val 35 (.faddr 3) [.t 34], [], none⟩,
    ⟨none, .load 36 (.t 35) 1 false, [], none⟩]
def r45_3 : IC := (.reg o45_3 [0, 1, 2, 3, 5, 36])
def o45_4 : List IOp := [⟨none, .load 37 (.t 3) 1 false, [], none⟩,
    ⟨none, .val 38 (.faddr 0) [.t 1], [], none⟩,
    ⟨none, .val 39 (.faddr 6) [.t 38], [], none⟩,
    ⟨none, .load 40 (.t 39) 1 false, [], none⟩,
    ⟨none, .load 41 (.t 2) 1 false, [], none⟩,
    ⟨none, .val 42 (.bin .sub) [.t 40, .t 41], [], none⟩,
    ⟨none, .val 43 .min [.t 37, .t 42], [], none⟩,
    ⟨none, .val 5 .mov [.t 43], [], none⟩]
def r45_4 : IC := (.reg o45_4 [0, 1, 2, 3, 5])
def o45_5 : List IOp := [⟨none, .val 44 .mov [.t 0], [], none⟩,
    ⟨none, .val 45 (.faddr 0) [.t 1], [], none⟩,
    ⟨none, .val 46 (.faddr 0) [.t 45], [1], none⟩,
    ⟨none, .load 47 (.t 46) 2 true, [1, 2], none⟩,
    ⟨none, .load 48 (.t 2) 1 false, [], none⟩,
    ⟨none, .val 49 (.faddr 0) [.t 1], [], none⟩,
    ⟨none, .val 50 (.faddr 2) [.t 49], [5], none⟩,
    ⟨none, .load 51 (.t 50) 1 false, [5, 6], none⟩,
    ⟨none, .val 52 (.bin .sub) [.t 48, .t 51], [4, 5, 6, 7], none⟩,
    ⟨none, .val 53 (.faddr 0) [.t 1], [], none⟩,
    ⟨none, .val 54 (.faddr 0) [.t 53], [9], none⟩,
    ⟨none, .val 55 (.faddr 1) [.t 54], [9, 10], none⟩,
    ⟨none, .load 56 (.t 55) 1 false, [9, 10, 11], none⟩,
    ⟨none, .callP 57 40 [.t 52, .t 56], [4, 5, 6, 7, 8, 9, 10, 11, 12], none⟩,
    ⟨none, .val 58 .mov [.t 5], [], none⟩,
    ⟨none, .val 59 (.build [.p (.sl 2 true []), .p (.int .i64 0), .p (.int .i64 0), .p (.int .i64 0)] [(0, 2), (2, 1), (3, 1)]) [.t 47, .t 57, .t 58], [1, 2, 3, 4, 5, 6, 7, 8, 9, 10, 11, 12, 13, 14], none⟩,
    ⟨none, .callY (some 60) (.t 44) [.t 59], [0, 1, 2, 3, 4, 5, 6, 7, 8, 9, 10, 11, 12, 13, 14, 15], none⟩,
    ⟨none, .val 61 .mov [.t 60], [0, 1, 2, 3, 4, 5, 6, 7, 8, 9, 10, 11, 12, 13, 14, 15, 16], none⟩,
    ⟨(some (61, true)), .val 62 .mov [.t 5], [0, 1, 2, 3, 4, 5, 6, 7, 8, 9, 10, 11, 12, 13, 14, 15, 16, 17], none⟩,
    ⟨(some (61, true)), .load 63 (.t 3) 1 false, [0, 1, 2, 3, 4, 5, 6, 7, 8, 9, 10, 11, 12, 13, 14, 15, 16, 17], none⟩,
    ⟨(some (61, true)), .val 64 (.bin .lss) [.t 62, .t 63], [0, 1, 2, 3, 4, 5, 6, 7, 8, 9, 10, 11, 12, 13, 14, 15, 16, 17, 18, 19], none⟩,
    ⟨none, .val 65 .pick [.t 61, .t 64, .k (.p (.bool false))], [0, 1, 2, 3, 4, 5, 6, 7, 8, 9, 10, 11, 12, 13, 14, 15, 16, 17, 18, 19, 20], none⟩]
def r45_5 : IC := (.regD o45_5 [0, 1, 3, 5, 65])
def o45_6 : List IOp := [⟨none, .val 66 .mov [.t 0], [], none⟩,
    ⟨none, .val 67 (.faddr 0) [.t 1], [], none⟩,
    ⟨none, .val 68 (.faddr 4) [.t 67], [], none⟩,
    ⟨none, .load 69 (.t 68) 2 true, [], none⟩,
    ⟨none, .load 70 (.t 3) 1 false, [], none⟩,
    ⟨none, .val 71 .mov [.t 5], [], none⟩,
    ⟨none, .val 72 (.bin .sub) [.t 70, .t 71], [], none⟩,
    ⟨none, .val 73 (.build [.p (.sl 2 true []), .p (.int .i64 0), .p (.int .i64 0), .p (.int .i64 0)] [(0, 2), (2, 1), (3, 1)]) [.t 69, .k (.p (.int .i64 0)), .t 72], [], none⟩,
    ⟨none, .callY (some 74) (.t 66) [.t 73], [], none⟩]
def r45_6 : IC := (.reg o45_6 [])
def b45 : IC := (.seq (.seq r45_0 (.cond (.t 15) (.seq r45_1 .ret) .skip)) (.kp [0, 1, 2, 3] (.seq r45_2 (.seq (.seq r45_3 (.cond (.t 36) r45_4 .skip)) (.kp [0, 1, 2, 3, 5] (.seq r45_5 (.cond (.t 65) r45_6 .skip)))))))
def i45 : IFn := ⟨4, 75, b45, []⟩
/- gates.check -/
def o46_0 : List IOp := [⟨none, .boxL 4 (.t 0), [], none⟩,
    ⟨none, .val 8 .mov [.k (.p (.int .i64 0))], [], none⟩]
def r46_0 : IC := (.reg o46_0 [1, 2, 3, 4])
def o46_1 : List IOp := [⟨none, .load 10 (.t 4) 2 true, [], none⟩,
    ⟨none, .call (some 11) 29 [.t 10], [], none⟩,
    ⟨none, .val 9 .mov [.t 11], [], none⟩]
def r46_1 : IC := (.reg o46_1 [1, 2, 3, 9])
def o46_2 : List IOp := [⟨none, .val 12 .mov [.t 9], [], none⟩,
    ⟨none, .val 13 (.bin .neq) [.t 12, .k (.p (.int .i64 0))], [], none⟩]
def r46_2 : IC := (.reg o46_2 [1, 2, 3, 9, 13])
def o46_3 : List IOp := [⟨none, .val 14 .mov [.t 9], [], none⟩,
    ⟨none, .val 8 .mov [.t 14], [], none⟩]
def r46_3 : IC := (.reg o46_3 [8])
def o46_4 : List IOp := [⟨none, .val 15 .mov [.t 1], [], none⟩,
    ⟨none, .val 16 (.bin .lss) [.t 15, .k (.p (.int .i64 0))], [], none⟩,
    ⟨none, .val 17 .mov [.t 16], [], none⟩,
    ⟨(some (17, false)), .val 18 .mov [.t 1], [], none⟩,
    ⟨(some (17, false)), .val 19 (.bin .geq) [.t 18, .k (.p (.int .i64 8))], [], none⟩,
    ⟨none, .val 20 .pick [.t 17, .k (.p (.bool true)), .t 19], [], none⟩,
    ⟨none, .val 21 .mov [.t 20], [], none⟩,
    ⟨(some (21, false)), .val 22 .mov [.t 2], [], none⟩,
    ⟨(some (21, false)), .val 23 (.bin .lss) [.t 22, .k (.p (.int .i64 (-1099511627776)))], [], none⟩,
    ⟨none, .val 24 .pick [.t 21, .k (.p (.bool true)), .t 23], [], none⟩,
    ⟨none, .val 25 .mov [.t 24], [], none⟩,
    ⟨(some (25, false)), .val 26 .mov [.t 2], [], none⟩,
    ⟨(some (25, false)), .val 27 (.bin .gtr) [.t 26, .k (.p (.int .i64 1099511627776))], [], none⟩,
    ⟨none, .val 28 .pick [.t 25, .k (.p (.bool true)), .t 27], [], none⟩,
    ⟨none, .val 29 .mov [.t 28], [], none⟩,
    ⟨(some (29, false)), .val 30 .mov [.t 3], [], none⟩,
    ⟨(some (29, false)), .val 31 (.bin .lss) [.t 30, .k (.p (.int .i64 0))], [], none⟩,
    ⟨none, .val 32 .pick [.t 29, .k (.p (.bool true)), .t 31], [], none⟩,
    ⟨none, .val 33 .mov [.t 32], [], none⟩,
    ⟨(some (33, false)), .val 34 .mov [.t 3], [], none⟩,
    ⟨(some (33, false)), .val 35 (.bin .gtr) [.t 34, .k (.p (.int .i64 1099511627776))], [], none⟩,
    ⟨none, .val 36 .pick [.t 33, .k (.p (.bool true)), .t 35], [], none⟩]
def r46_4 : IC := (.reg o46_4 [36])
def o46_5 : List IOp := [⟨none, .val 8 .mov [.k (.p (.int .i64 2))], [], none⟩]
def r46_5 : IC := (.reg o46_5 [8])
def o46_6 : List IOp := [⟨none, .val 8 .mov [.k (.p (.int .i64 0))], [], none⟩]
def r46_6 : IC := (.reg o46_6 [8])
def b46 : IC := (.seq r46_0 (.seq (.seq r46_1 (.seq r46_2 (.cond (.t 13) (.seq r46_3 .ret) .skip))) (.kp [1, 2, 3] (.seq (.seq r46_4 (.cond (.t 36) (.seq r46_5 .ret) .skip)) (.kp [] (.seq r46_6 .ret))))))
def i46 : IFn := ⟨4, 37, b46, [.tmp 8]⟩
/- gates.find -/
def o47_0 : List IOp := [⟨none, .boxL 2 (.t 0), [], none⟩,
    ⟨none, .val 4 .mov [.k (.p (.int .i64 0))], [], none⟩,
    ⟨none, .val 5 .mov [.k (.p (.int .i64 0))], [], none⟩]
def r47_0 : IC := (.reg o47_0 [1, 2, 4])
def o47_1 : List IOp := [⟨none, .val 6 .mov [.t 1], [], none⟩,
    ⟨none, .val 7 (.faddr 1) [.t 2], [], none⟩,
    ⟨none, .loadL 8 (.t 7) 1 false, [1], none⟩,
    ⟨none, .val 9 (.bin .rem) [.t 6, .t 8], [0, 1, 2], none⟩,
    ⟨none, .val 10 (.faddr 1) [.t 2], [], none⟩,
    ⟨none, .loadL 11 (.t 10) 1 false, [4], none⟩,
    ⟨none, .val 12 (.bin .add) [.t 9, .t 11], [0, 1, 2, 3, 4, 5], none⟩,
    ⟨none, .val 13 (.faddr 1) [.t 2], [], none⟩,
    ⟨none, .loadL 14 (.t 13) 1 false, [7], none⟩,
    ⟨none, .val 15 (.bin .rem) [.t 12, .t 14], [0, 1, 2, 3, 4, 5, 6, 7, 8], none⟩,
    ⟨none, .val 1 .mov [.t 15], [0, 1, 2, 3, 4, 5, 6, 7, 8, 9], none⟩]
def r47_1 : IC := (.regD o47_1 [1, 2, 4])
def o47_2 : List IOp := [⟨none, .val 16 .mov [.t 1], [], none⟩,
    ⟨none, .val 17 (.faddr 0) [.t 2], [], none⟩,
    ⟨none, .load 18 (.t 17) 1 false, [], none⟩,
    ⟨none, .val 19 .mov [.t 4], [], none⟩,
    ⟨none, .val 20 (.iaddrS 2) [.t 18, .t 19], [], none⟩,
    ⟨none, .val 21 (.faddr 1) [.t 20], [], none⟩,
    ⟨none, .load 22 (.t 21) 1 false, [], none⟩,
    ⟨none, .val 23 (.bin .geq) [.t 16, .t 22], [], none⟩]
def r47_2 : IC := (.reg o47_2 [1, 2, 4, 23])
def o47_3 : List IOp := [⟨none, .val 24 .mov [.t 1], [], none⟩,
    ⟨none, .val 25 (.faddr 0) [.t 2], [], none⟩,
    ⟨none, .load 26 (.t 25) 1 false, [], none⟩,
    ⟨none, .val 27 .mov [.t 4], [], none⟩,
    ⟨none, .val 28 (.iaddrS 2) [.t 26, .t 27], [], none⟩,
    ⟨none, .val 29 (.faddr 1) [.t 28], [], none⟩,
    ⟨none, .load 30 (.t 29) 1 false, [], none⟩,
    ⟨none, .val 31 (.bin .sub) [.t 24, .t 30], [], none⟩,
    ⟨none, .val 1 .mov [.t 31], [], none⟩]
def r47_3 : IC := (.reg o47_3 [1, 2, 4])
def o47_4 : List IOp := [⟨none, .val 32 .mov [.t 4], [], none⟩,
    ⟨none, .val 33 (.bin .add) [.t 32, .k (.p (.int .i64 1))], [], none⟩,
    ⟨none, .val 4 .mov [.t 33], [], none⟩]
def r47_4 : IC := (.reg o47_4 [1, 2, 4])
def o47_5 : List IOp := [⟨none, .val 34 .mov [.t 4], [], none⟩,
    ⟨none, .val 35 (.faddr 0) [.t 2], [], none⟩,
    ⟨none, .loadL 36 (.t 35) 1 false, [1], none⟩,
    ⟨none, .val 37 .mov [.t 4], [], none⟩,
    ⟨none, .val 38 (.iaddrS 2) [.t 36, .t 37], [1, 2, 3], none⟩,
    ⟨none, .val 39 (.faddr 1) [.t 38], [1, 2, 3, 4], none⟩,
    ⟨none, .load 40 (.t 39) 1 false, [1, 2, 3, 4, 5], none⟩,
    ⟨none, .val 41 .mov [.t 1], [], none⟩,
    ⟨none, .val 42 (.bin .sub) [.t 40, .t 41], [1, 2, 3, 4, 5, 6, 7], none⟩,
    ⟨none, .val 4 .mov [.t 34], [0, 3], none⟩,
    ⟨none, .val 5 .mov [.t 42], [0, 1, 2, 3, 4, 5, 6, 7, 8, 9], none⟩]
def r47_5 : IC := (.regD o47_5 [4, 5])
def s47 : IC := (.seq r47_1 (.seq (.label 0) (.seq (.seq r47_2 (.cond (.t 23) (.seq r47_3 (.seq r47_4 (.goto 0))) .skip)) (.kp [1, 2, 4] (.seq r47_5 .ret)))))
def b47 : IC := (.seq r47_0 (.scope s47))
def i47 : IFn := ⟨2, 43, b47, [.tmp 4, .tmp 5]⟩
/- isochronref27.State -/
def o48_0 : List IOp := [⟨none, .boxL 2 (.t 0), [], none⟩,
    ⟨none, .val 4 .mov [.k (.p (.int .i64 0))], [], none⟩]
def r48_0 : IC := (.reg o48_0 [1, 2])
def o48_1 : List IOp := [⟨none, .load 8 (.t 2) 2 true, [], none⟩,
    ⟨none, .val 9 .mov [.t 1], [], none⟩,
    ⟨none, .call (some 10) 43 [.t 8, .t 9], [], none⟩,
    ⟨none, .val 7 .mov [.t 10], [], none⟩,
    ⟨none, .val 11 (.ext 0) [.t 7], [], none⟩,
    ⟨none, .val 12 (.ext 1) [.t 7], [], none⟩,
    ⟨none, .val 5 .mov [.t 11], [], none⟩,
    ⟨none, .val 6 .mov [.t 12], [], none⟩]
def r48_1 : IC := (.reg o48_1 [2, 5])
def o48_2 : List IOp := [⟨none, .val 13 (.faddr 0) [.t 2], [], none⟩,
    ⟨none, .load 14 (.t 13) 1 false, [], none⟩,
    ⟨none, .val 15 .mov [.t 5], [], none⟩,
    ⟨none, .val 16 (.iaddrS 2) [.t 14, .t 15], [], none⟩,
    ⟨none, .val 17 (.faddr 0) [.t 16], [], none⟩,
    ⟨none, .load 18 (.t 17) 1 false, [], none⟩,
    ⟨none, .val 4 .mov [.t 18], [], none⟩]
def r48_2 : IC := (.reg o48_2 [4])
def b48 : IC := (.seq r48_0 (.seq r48_1 (.seq r48_2 .ret)))
def i48 : IFn := ⟨2, 19, b48, [.tmp 4]⟩
/- gates.open -/
def o49_0 : List IOp := [⟨none, .boxL 3 (.t 0), [], none⟩,
    ⟨none, .boxH 4 (.t 1), [], none⟩,
    ⟨none, .val 6 .mov [.k (.p (.int .i64 0))], [], none⟩]
def r49_0 : IC := (.reg o49_0 [2, 3, 4])
def o49_1 : List IOp := [⟨none, .load 8 (.t 3) 2 true, [], none⟩,
    ⟨none, .val 9 .mov [.t 2], [], none⟩,
    ⟨none, .val 10 (.mkfn 51 0) [.t 4], [], none⟩,
    ⟨none, .call (some 11) 50 [.t 8, .t 9, .t 10], [], none⟩,
    ⟨none, .val 7 .mov [.t 11], [], none⟩]
def r49_1 : IC := (.reg o49_1 [3, 7])
def o49_2 : List IOp := [⟨none, .val 12 .mov [.t 7], [], none⟩,
    ⟨none, .val 13 (.faddr 1) [.t 3], [], none⟩,
    ⟨none, .load 14 (.t 13) 1 false, [], none⟩,
    ⟨none, .val 15 (.bin .eql) [.t 12, .t 14], [], none⟩]
def r49_2 : IC := (.reg o49_2 [7, 15])
def o49_3 : List IOp := [⟨none, .val 6 .mov [.k (.p (.int .i64 1099511627776))], [], none⟩]
def r49_3 : IC := (.reg o49_3 [6])
def o49_4 : List IOp := [⟨none, .val 16 .mov [.t 7], [], none⟩,
    ⟨none, .val 6 .mov [.t 16], [], none⟩]
def r49_4 : IC := (.reg o49_4 [6])
def b49 : IC := (.seq r49_0 (.seq r49_1 (.seq (.seq r49_2 (.cond (.t 15) (.seq r49_3 .ret) .skip)) (.kp [7] (.seq r49_4 .ret)))))
def i49 : IFn := ⟨3, 17, b49, [.tmp 6]⟩
/- gates.stretch -/
def o50_0 : List IOp := [⟨none, .boxL 3 (.t 0), [], none⟩,
    ⟨none, .val 6 .mov [.k (.p (.int .i64 0))], [], none⟩]
def r50_0 : IC := (.reg o50_0 [1, 2, 3])
def o50_1 : List IOp := [⟨none, .load 11 (.t 3) 2 true, [], none⟩,
    ⟨none, .val 12 .mov [.t 1], [], none⟩,
    ⟨none, .call (some 13) 47 [.t 11, .t 12], [], none⟩,
    ⟨none, .val 10 .mov [.t 13], [], none⟩,
    ⟨none, .val 14 (.ext 0) [.t 10], [], none⟩,
    ⟨none, .val 15 (.ext 1) [.t 10], [], none⟩,
    ⟨none, .val 7 .mov [.t 14], [], none⟩,
    ⟨none, .val 8 .mov [.t 15], [], none⟩]
def r50_1 : IC := (.reg o50_1 [2, 3, 7, 8])
def o50_2 : List IOp := [⟨none, .val 9 .mov [.k (.p (.int .i64 0))], [], none⟩]
def r50_2 : IC := (.reg o50_2 [2, 3, 7, 8, 9])
def o50_3 : List IOp := [⟨none, .val 16 (.faddr 0) [.t 3], [], none⟩,
    ⟨none, .load 17 (.t 16) 1 false, [], none⟩,
    ⟨none, .val 18 .len [.t 17], [], none⟩,
    ⟨none, .val 19 (.bin .add) [.t 18, .k (.p (.int .i64 1))], [], none⟩,
    ⟨none, .val 20 .mov [.k (.p (.int .i64 0))], [], none⟩]
def r50_3 : IC := (.reg o50_3 [2, 3, 7, 8, 9, 19, 20])
def o50_4 : List IOp := [⟨none, .val 21 (.bin .lss) [.t 20, .t 19], [], none⟩]
def r50_4 : IC := (.reg o50_4 [2, 3, 7, 8, 9, 19, 20, 21])
def o50_5 : List IOp := [⟨none, .val 22 .mov [.t 2], [], none⟩,
    ⟨none, .val 23 (.faddr 0) [.t 3], [], none⟩,
    ⟨none, .load 24 (.t 23) 1 false, [], none⟩,
    ⟨none, .val 25 .mov [.t 7], [], none⟩,
    ⟨none, .val 26 (.iaddrS 2) [.t 24, .t 25], [], none⟩,
    ⟨none, .val 27 (.faddr 0) [.t 26], [], none⟩,
    ⟨none, .load 28 (.t 27) 1 false, [], none⟩,
    ⟨none, .callV (some 29) (.t 22) [.t 28], [], none⟩,
    ⟨none, .val 30 .not [.t 29], [], none⟩]
def r50_5 : IC := (.reg o50_5 [2, 3, 7, 8, 9, 19, 20, 30])
def o50_6 : List IOp := [⟨none, .val 31 .mov [.t 9], [], none⟩,
    ⟨none, .val 6 .mov [.t 31], [], none⟩]
def r50_6 : IC := (.reg o50_6 [6])
def o50_7 : List IOp := [⟨none, .val 32 .mov [.t 9], [], none⟩,
    ⟨none, .val 33 .mov [.t 8], [], none⟩,
    ⟨none, .val 34 (.bin .add) [.t 32, .t 33], [], none⟩,
    ⟨none, .val 9 .mov [.t 34], [], none⟩]
def r50_7 : IC := (.reg o50_7 [2, 3, 7, 9, 19, 20])
def o50_8 : List IOp := [⟨none, .val 35 .mov [.t 7], [], none⟩,
    ⟨none, .val 36 (.bin .add) [.t 35, .k (.p (.int .i64 1))], [], none⟩,
    ⟨none, .val 37 (.faddr 0) [.t 3], [], none⟩,
    ⟨none, .load 38 (.t 37) 1 false, [], none⟩,
    ⟨none, .val 39 .len [.t 38], [], none⟩,
    ⟨none, .val 40 (.bin .rem) [.t 36, .t 39], [], none⟩,
    ⟨none, .val 7 .mov [.t 40], [], none⟩]
def r50_8 : IC := (.reg o50_8 [2, 3, 7, 9, 19, 20])
def o50_9 : List IOp := [⟨none, .val 41 (.faddr 0) [.t 3], [], none⟩,
    ⟨none, .load 42 (.t 41) 1 false, [], none⟩,
    ⟨none, .val 43 .mov [.t 7], [], none⟩,
    ⟨none, .val 44 (.iaddrS 2) [.t 42, .t 43], [], none⟩,
    ⟨none, .val 45 (.faddr 1) [.t 44], [], none⟩,
    ⟨none, .load 46 (.t 45) 1 false, [], none⟩,
    ⟨none, .val 8 .mov [.t 46], [], none⟩]
def r50_9 : IC := (.reg o50_9 [2, 3, 7, 8, 9, 19, 20])
def o50_10 : List IOp := [⟨none, .val 47 (.bin .add) [.t 20, .k (.p (.int .i64 1))], [], none⟩,
    ⟨none, .val 20 .mov [.t 47], [], none⟩]
def r50_10 : IC := (.reg o50_10 [2, 3, 7, 8, 9, 19, 20])
def l50_1 : IC := (.seq r50_4 (.seq (.cond (.t 21) .skip (.exit 0)) (.kp [2, 3, 7, 8, 9, 19, 20] (.seq (.block 1 (.seq (.seq r50_5 (.cond (.t 30) (.seq r50_6 .ret) .skip)) (.kp [2, 3, 7, 8, 9, 19, 20] (.seq r50_7 (.seq r50_8 r50_9))))) (.kp [2, 3, 7, 8, 9, 19, 20] r50_10)))))
def o50_11 : List IOp := [⟨none, .val 48 (.faddr 1) [.t 3], [], none⟩,
    ⟨none, .load 49 (.t 48) 1 false, [], none⟩,
    ⟨none, .val 6 .mov [.t 49], [], none⟩]
def r50_11 : IC := (.reg o50_11 [6])
def b50 : IC := (.seq r50_0 (.seq r50_1 (.seq r50_2 (.seq (.seq r50_3 (.block 0 (.loop l50_1))) (.seq r50_11 .ret)))))
def i50 : IFn := ⟨3, 50, b50, [.tmp 6]⟩
/- gates.open$1 -/
def o51_0 : List IOp := [⟨none, .val 3 .mov [.k (.p (.bool false))], [], none⟩]
def r51_0 : IC := (.reg o51_0 [0, 1])
def o51_1 : List IOp := [⟨none, .val 4 .mov [.t 0], [], none⟩,
    ⟨none, .load 5 (.t 1) 1 false, [], none⟩,
    ⟨none, .val 6 (.sh .shr) [.t 4, .t 5], [], none⟩,
    ⟨none, .val 7 (.bin .and) [.t 6, .k (.p (.int .i64 1))], [], none⟩,
    ⟨none, .val 8 (.bin .eql) [.t 7, .k (.p (.int .i64 1))], [], none⟩,
    ⟨none, .val 3 .mov [.t 8], [], none⟩]
def r51_1 : IC := (.reg o51_1 [3])
def b51 : IC := (.seq r51_0 (.seq r51_1 .ret))
def i51 : IFn := ⟨2, 9, b51, [.tmp 3]⟩
end Go.Eng
