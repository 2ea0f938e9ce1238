/- The machine's form of the functions of this seat; written by gen.py, checked by Lean ('chk..'). -/
import Derived.Test.YtiobnpdikleanaaE16
import Derived.Test.YtiobnpdikleanaaProg
import Derived.KernelRfl
namespace Go.Eng
open Go Go.Proofs
set_option maxRecDepth 100000
set_option linter.unusedVariables false
set_option linter.unusedSimpArgs false
/- isochronlaw23.ResidueChecks -/
def o3_0 : List IOp := [⟨none, .boxL 3 (.t 0), []⟩,
    ⟨none, .boxL 4 (.t 1), []⟩,
    ⟨none, .val 6 .mov [.k (.p (.bool false))], []⟩]
def r3_0 : IC := (.reg o3_0 [2, 3, 4])
def o3_1 : List IOp := [⟨none, .loadL 15 (.t 3) 3 true, []⟩,
    ⟨none, .val 16 (.iaddr 3 1) [.t 4, .k (.p (.int .i64 0))], []⟩,
    ⟨none, .loadL 17 (.t 16) 1 false, [1]⟩,
    ⟨none, .val 18 (.iaddr 3 1) [.t 4, .k (.p (.int .i64 1))], []⟩,
    ⟨none, .loadL 19 (.t 18) 1 false, [3]⟩,
    ⟨none, .val 20 (.iaddr 3 1) [.t 4, .k (.p (.int .i64 2))], []⟩,
    ⟨none, .loadL 21 (.t 20) 1 false, [5]⟩,
    ⟨none, .callP 22 10 [.t 17, .t 19, .t 21], [1, 2, 3, 4, 5, 6]⟩,
    ⟨none, .val 23 (.build [.p (.int .i64 0), .p (.int .i64 0), .p (.int .i64 0), .p (.int .i64 0), .p (.int .i64 0), .p (.int .i64 0)] [(0, 3), (3, 3)]) [.t 15, .t 22], [0, 1, 2, 3, 4, 5, 6, 7]⟩,
    ⟨none, .val 24 .mov [.k (.p (.int .i64 0))], []⟩]
def r3_1 : IC := (.regD o3_1 [2, 23, 24])
def o3_2 : List IOp := [⟨none, .val 25 (.bin .lss) [.t 24, .k (.p (.int .i64 2))], []⟩]
def r3_2 : IC := (.reg o3_2 [2, 23, 24, 25])
def o3_3 : List IOp := [⟨none, .val 26 (.idx 2 3 true) [.t 23, .t 24], []⟩,
    ⟨none, .newL 8 [.p (.int .i64 0), .p (.int .i64 0), .p (.int .i64 0)], []⟩,
    ⟨none, .store (.t 8) (.t 26) 3, []⟩]
def r3_3 : IC := (.reg o3_3 [2, 8, 23, 24])
def o3_4 : List IOp := [⟨none, .val 27 .mov [.t 2], []⟩,
    ⟨none, .val 28 .mov [.t 2], []⟩,
    ⟨none, .val 29 (.bin .rem) [.t 28, .k (.p (.int .i64 100))], []⟩,
    ⟨none, .val 30 .mov [.t 2], []⟩,
    ⟨none, .val 31 (.bin .rem) [.t 30, .k (.p (.int .i64 1000))], []⟩,
    ⟨none, .val 32 .neg [.t 31], []⟩,
    ⟨none, .val 33 (.build [.p (.int .i64 0), .p (.int .i64 0), .p (.int .i64 0)] [(0, 1), (1, 1), (2, 1)]) [.t 27, .t 29, .t 32], []⟩,
    ⟨none, .val 34 .mov [.k (.p (.int .i64 0))], []⟩]
def r3_4 : IC := (.reg o3_4 [2, 8, 23, 24, 33, 34])
def o3_5 : List IOp := [⟨none, .val 35 (.bin .lss) [.t 34, .k (.p (.int .i64 3))], []⟩]
def r3_5 : IC := (.reg o3_5 [2, 8, 23, 24, 33, 34, 35])
def o3_6 : List IOp := [⟨none, .val 36 (.idx 3 1 false) [.t 33, .t 34], []⟩,
    ⟨none, .val 10 .mov [.t 36], []⟩]
def r3_6 : IC := (.reg o3_6 [2, 8, 10, 23, 24, 33, 34])
def o3_7 : List IOp := [⟨none, .load 38 (.t 8) 3 true, []⟩,
    ⟨none, .val 39 .mov [.t 10], []⟩,
    ⟨none, .call (some 40) 11 [.t 38, .t 39], []⟩,
    ⟨none, .val 37 .mov [.t 40], []⟩,
    ⟨none, .val 41 (.ext 0) [.t 37], []⟩,
    ⟨none, .val 42 (.ext 1) [.t 37], []⟩,
    ⟨none, .val 11 .mov [.t 41], []⟩,
    ⟨none, .val 12 .mov [.t 42], []⟩]
def r3_7 : IC := (.reg o3_7 [2, 8, 10, 11, 12, 23, 24, 33, 34])
def o3_8 : List IOp := [⟨none, .load 44 (.t 8) 3 true, []⟩,
    ⟨none, .val 45 .mov [.t 10], []⟩,
    ⟨none, .call (some 46) 12 [.t 44, .t 45], []⟩,
    ⟨none, .val 43 .mov [.t 46], []⟩,
    ⟨none, .val 47 (.ext 0) [.t 43], []⟩,
    ⟨none, .val 48 (.ext 1) [.t 43], []⟩,
    ⟨none, .val 13 .mov [.t 47], []⟩,
    ⟨none, .val 14 .mov [.t 48], []⟩]
def r3_8 : IC := (.reg o3_8 [2, 8, 11, 12, 13, 14, 23, 24, 33, 34])
def o3_9 : List IOp := [⟨none, .val 49 .mov [.t 11], []⟩,
    ⟨none, .val 50 .mov [.t 13], []⟩,
    ⟨none, .val 51 (.eqB true) [.t 49, .t 50], []⟩,
    ⟨none, .val 52 .mov [.t 51], []⟩,
    ⟨(some (52, false)), .val 53 .mov [.t 12], []⟩,
    ⟨(some (52, false)), .val 54 .mov [.t 14], []⟩,
    ⟨(some (52, false)), .val 55 (.bin .neq) [.t 53, .t 54], []⟩,
    ⟨none, .val 56 .pick [.t 52, .k (.p (.bool true)), .t 55], []⟩]
def r3_9 : IC := (.reg o3_9 [2, 8, 23, 24, 33, 34, 56])
def o3_10 : List IOp := [⟨none, .val 6 .mov [.k (.p (.bool false))], []⟩]
def r3_10 : IC := (.reg o3_10 [6])
def o3_11 : List IOp := [⟨none, .val 57 (.bin .add) [.t 34, .k (.p (.int .i64 1))], []⟩,
    ⟨none, .val 34 .mov [.t 57], []⟩]
def r3_11 : IC := (.reg o3_11 [2, 8, 23, 24, 33, 34])
def l3_2 : IC := (.seq r3_5 (.seq (.cond (.t 35) .skip (.exit 2)) (.kp [2, 8, 23, 24, 33, 34] (.seq (.block 3 (.seq r3_6 (.seq r3_7 (.seq r3_8 (.seq r3_9 (.cond (.t 56) (.seq r3_10 .ret) .skip)))))) (.kp [2, 8, 23, 24, 33, 34] r3_11)))))
def o3_12 : List IOp := [⟨none, .loadL 58 (.t 8) 3 true, []⟩,
    ⟨none, .callP 59 13 [.t 58], [0]⟩,
    ⟨none, .loadL 60 (.t 8) 3 true, []⟩,
    ⟨none, .callP 61 14 [.t 60], [0, 1, 2]⟩,
    ⟨none, .val 62 (.bin .neq) [.t 59, .t 61], [0, 1, 2, 3]⟩]
def r3_12 : IC := (.regD o3_12 [2, 23, 24, 62])
def o3_13 : List IOp := [⟨none, .val 6 .mov [.k (.p (.bool false))], []⟩]
def r3_13 : IC := (.reg o3_13 [6])
def o3_14 : List IOp := [⟨none, .val 63 (.bin .add) [.t 24, .k (.p (.int .i64 1))], []⟩,
    ⟨none, .val 24 .mov [.t 63], []⟩]
def r3_14 : IC := (.reg o3_14 [2, 23, 24])
def l3_1 : IC := (.seq r3_2 (.seq (.cond (.t 25) .skip (.exit 0)) (.kp [2, 23, 24] (.seq (.block 1 (.seq r3_3 (.seq (.seq r3_4 (.block 2 (.loop l3_2))) (.seq r3_12 (.cond (.t 62) (.seq r3_13 .ret) .skip))))) (.kp [2, 23, 24] r3_14)))))
def o3_15 : List IOp := [⟨none, .call (some 64) 15 [], []⟩,
    ⟨none, .val 6 .mov [.t 64], []⟩]
def r3_15 : IC := (.reg o3_15 [6])
def b3 : IC := (.seq r3_0 (.seq (.seq r3_1 (.block 0 (.loop l3_1))) (.seq r3_15 .ret)))
def i3 : IFn := ⟨3, 65, b3, [.tmp 6]⟩
/- isochronlaw23.ResidueAparts -/
def o4_0 : List IOp := [⟨none, .boxL 3 (.t 0), []⟩,
    ⟨none, .boxL 4 (.t 1), []⟩,
    ⟨none, .boxL 5 (.t 2), []⟩,
    ⟨none, .val 6 .mov [.k (.p (.bool false))], []⟩]
def r4_0 : IC := (.reg o4_0 [3, 4, 5])
def o4_1 : List IOp := [⟨none, .val 23 (.iaddr 6 1) [.t 5, .k (.p (.int .i64 0))], []⟩,
    ⟨none, .loadL 24 (.t 23) 1 false, [0]⟩,
    ⟨none, .val 25 (.iaddr 6 1) [.t 5, .k (.p (.int .i64 1))], []⟩,
    ⟨none, .loadL 26 (.t 25) 1 false, [2]⟩,
    ⟨none, .val 27 (.iaddr 6 1) [.t 5, .k (.p (.int .i64 2))], []⟩,
    ⟨none, .loadL 28 (.t 27) 1 false, [4]⟩,
    ⟨none, .callP 29 10 [.t 24, .t 26, .t 28], [0, 1, 2, 3, 4, 5]⟩,
    ⟨none, .val 30 (.iaddr 6 1) [.t 5, .k (.p (.int .i64 3))], []⟩,
    ⟨none, .loadL 31 (.t 30) 1 false, [7]⟩,
    ⟨none, .val 32 (.iaddr 6 1) [.t 5, .k (.p (.int .i64 4))], []⟩,
    ⟨none, .loadL 33 (.t 32) 1 false, [9]⟩,
    ⟨none, .val 34 (.iaddr 6 1) [.t 5, .k (.p (.int .i64 5))], []⟩,
    ⟨none, .loadL 35 (.t 34) 1 false, [11]⟩,
    ⟨none, .callP 36 10 [.t 31, .t 33, .t 35], [0, 1, 2, 3, 4, 5, 6, 7, 8, 9, 10, 11, 12]⟩,
    ⟨none, .newL 7 [.p (.int .i64 0), .p (.int .i64 0), .p (.int .i64 0)], []⟩,
    ⟨none, .newL 8 [.p (.int .i64 0), .p (.int .i64 0), .p (.int .i64 0)], []⟩,
    ⟨none, .store (.t 7) (.t 29) 3, [0, 1, 2, 3, 4, 5, 6, 7, 8, 9, 10, 11, 12, 13, 14, 15]⟩,
    ⟨none, .store (.t 8) (.t 36) 3, [0, 1, 2, 3, 4, 5, 6, 7, 8, 9, 10, 11, 12, 13, 14, 15, 16]⟩]
def r4_1 : IC := (.regD o4_1 [3, 4, 7, 8])
def o4_2 : List IOp := [⟨none, .load 37 (.t 3) 3 true, []⟩,
    ⟨none, .load 38 (.t 4) 3 true, []⟩,
    ⟨none, .val 39 (.build [.p (.int .i64 0), .p (.int .i64 0), .p (.int .i64 0), .p (.int .i64 0), .p (.int .i64 0), .p (.int .i64 0)] [(0, 3), (3, 3)]) [.t 37, .t 38], []⟩,
    ⟨none, .load 40 (.t 7) 3 true, []⟩,
    ⟨none, .load 41 (.t 8) 3 true, []⟩,
    ⟨none, .val 42 (.build [.p (.int .i64 0), .p (.int .i64 0), .p (.int .i64 0), .p (.int .i64 0), .p (.int .i64 0), .p (.int .i64 0)] [(0, 3), (3, 3)]) [.t 40, .t 41], []⟩,
    ⟨none, .load 43 (.t 7) 3 true, []⟩,
    ⟨none, .load 44 (.t 4) 3 true, []⟩,
    ⟨none, .val 45 (.build [.p (.int .i64 0), .p (.int .i64 0), .p (.int .i64 0), .p (.int .i64 0), .p (.int .i64 0), .p (.int .i64 0)] [(0, 3), (3, 3)]) [.t 43, .t 44], []⟩,
    ⟨none, .load 46 (.t 3) 3 true, []⟩,
    ⟨none, .load 47 (.t 8) 3 true, []⟩,
    ⟨none, .val 48 (.build [.p (.int .i64 0), .p (.int .i64 0), .p (.int .i64 0), .p (.int .i64 0), .p (.int .i64 0), .p (.int .i64 0)] [(0, 3), (3, 3)]) [.t 46, .t 47], []⟩,
    ⟨none, .val 49 (.build (List.replicate 24 (.p (.int .i64 0))) [(0, 6), (6, 6), (12, 6), (18, 6)]) [.t 39, .t 42, .t 45, .t 48], []⟩,
    ⟨none, .val 50 .mov [.k (.p (.int .i64 0))], []⟩]
def r4_2 : IC := (.reg o4_2 [49, 50])
def o4_3 : List IOp := [⟨none, .val 51 (.bin .lss) [.t 50, .k (.p (.int .i64 4))], []⟩]
def r4_3 : IC := (.reg o4_3 [49, 50, 51])
def o4_4 : List IOp := [⟨none, .val 52 (.idx 4 6 true) [.t 49, .t 50], []⟩,
    ⟨none, .newL 10 [.p (.int .i64 0), .p (.int .i64 0), .p (.int .i64 0), .p (.int .i64 0), .p (.int .i64 0), .p (.int .i64 0)], []⟩,
    ⟨none, .store (.t 10) (.t 52) 6, []⟩]
def r4_4 : IC := (.reg o4_4 [10, 49, 50])
def o4_5 : List IOp := [⟨none, .val 54 (.iaddr 2 3) [.t 10, .k (.p (.int .i64 0))], []⟩,
    ⟨none, .load 55 (.t 54) 3 true, []⟩,
    ⟨none, .val 56 (.iaddr 2 3) [.t 10, .k (.p (.int .i64 1))], []⟩,
    ⟨none, .load 57 (.t 56) 3 true, []⟩,
    ⟨none, .call (some 58) 16 [.t 55, .t 57], []⟩,
    ⟨none, .val 53 .mov [.t 58], []⟩,
    ⟨none, .val 59 (.ext 0) [.t 53], []⟩,
    ⟨none, .val 60 (.ext 1) [.t 53], []⟩,
    ⟨none, .val 11 .mov [.t 59], []⟩,
    ⟨none, .val 12 .mov [.t 60], []⟩]
def r4_5 : IC := (.reg o4_5 [10, 11, 12, 49, 50])
def o4_6 : List IOp := [⟨none, .val 62 (.iaddr 2 3) [.t 10, .k (.p (.int .i64 0))], []⟩,
    ⟨none, .load 63 (.t 62) 3 true, []⟩,
    ⟨none, .val 64 (.iaddr 2 3) [.t 10, .k (.p (.int .i64 1))], []⟩,
    ⟨none, .load 65 (.t 64) 3 true, []⟩,
    ⟨none, .call (some 66) 17 [.t 63, .t 65], []⟩,
    ⟨none, .val 61 .mov [.t 66], []⟩,
    ⟨none, .val 67 (.ext 0) [.t 61], []⟩,
    ⟨none, .val 68 (.ext 1) [.t 61], []⟩,
    ⟨none, .val 13 .mov [.t 67], []⟩,
    ⟨none, .val 14 .mov [.t 68], []⟩]
def r4_6 : IC := (.reg o4_6 [10, 11, 12, 13, 14, 49, 50])
def o4_7 : List IOp := [⟨none, .val 70 (.iaddr 2 3) [.t 10, .k (.p (.int .i64 0))], []⟩,
    ⟨none, .load 71 (.t 70) 3 true, []⟩,
    ⟨none, .val 72 (.iaddr 2 3) [.t 10, .k (.p (.int .i64 1))], []⟩,
    ⟨none, .load 73 (.t 72) 3 true, []⟩,
    ⟨none, .call (some 74) 18 [.t 71, .t 73], []⟩,
    ⟨none, .val 69 .mov [.t 74], []⟩,
    ⟨none, .val 75 (.ext 0) [.t 69], []⟩,
    ⟨none, .val 76 (.ext 1) [.t 69], []⟩,
    ⟨none, .val 77 (.ext 2) [.t 69], []⟩,
    ⟨none, .val 78 (.ext 3) [.t 69], []⟩,
    ⟨none, .val 15 .mov [.t 75], []⟩,
    ⟨none, .val 16 .mov [.t 76], []⟩,
    ⟨none, .val 17 .mov [.t 77], []⟩,
    ⟨none, .val 18 .mov [.t 78], []⟩]
def r4_7 : IC := (.reg o4_7 [10, 11, 12, 13, 14, 15, 16, 17, 18, 49, 50])
def o4_8 : List IOp := [⟨none, .val 80 (.iaddr 2 3) [.t 10, .k (.p (.int .i64 0))], []⟩,
    ⟨none, .load 81 (.t 80) 3 true, []⟩,
    ⟨none, .val 82 (.iaddr 2 3) [.t 10, .k (.p (.int .i64 1))], []⟩,
    ⟨none, .load 83 (.t 82) 3 true, []⟩,
    ⟨none, .call (some 84) 19 [.t 81, .t 83], []⟩,
    ⟨none, .val 79 .mov [.t 84], []⟩,
    ⟨none, .val 85 (.ext 0) [.t 79], []⟩,
    ⟨none, .val 86 (.ext 1) [.t 79], []⟩,
    ⟨none, .val 87 (.ext 2) [.t 79], []⟩,
    ⟨none, .val 88 (.ext 3) [.t 79], []⟩,
    ⟨none, .val 19 .mov [.t 85], []⟩,
    ⟨none, .val 20 .mov [.t 86], []⟩,
    ⟨none, .val 21 .mov [.t 87], []⟩,
    ⟨none, .val 22 .mov [.t 88], []⟩]
def r4_8 : IC := (.reg o4_8 [11, 12, 13, 14, 15, 16, 17, 18, 19, 20, 21, 22, 49, 50])
def o4_9 : List IOp := [⟨none, .val 89 .mov [.t 11], []⟩,
    ⟨none, .val 90 .mov [.t 13], []⟩,
    ⟨none, .val 91 (.eqB true) [.t 89, .t 90], []⟩,
    ⟨none, .val 92 .mov [.t 91], []⟩,
    ⟨(some (92, false)), .val 93 .mov [.t 12], []⟩,
    ⟨(some (92, false)), .val 94 .mov [.t 14], []⟩,
    ⟨(some (92, false)), .val 95 (.bin .neq) [.t 93, .t 94], []⟩,
    ⟨none, .val 96 .pick [.t 92, .k (.p (.bool true)), .t 95], []⟩,
    ⟨none, .val 97 .mov [.t 96], []⟩,
    ⟨(some (97, false)), .val 98 .mov [.t 15], []⟩,
    ⟨(some (97, false)), .val 99 .mov [.t 19], []⟩,
    ⟨(some (97, false)), .val 100 (.bin .neq) [.t 98, .t 99], []⟩,
    ⟨none, .val 101 .pick [.t 97, .k (.p (.bool true)), .t 100], []⟩,
    ⟨none, .val 102 .mov [.t 101], []⟩,
    ⟨(some (102, false)), .val 103 .mov [.t 16], []⟩,
    ⟨(some (102, false)), .val 104 .mov [.t 20], []⟩,
    ⟨(some (102, false)), .val 105 (.bin .neq) [.t 103, .t 104], []⟩,
    ⟨none, .val 106 .pick [.t 102, .k (.p (.bool true)), .t 105], []⟩,
    ⟨none, .val 107 .mov [.t 106], []⟩,
    ⟨(some (107, false)), .val 108 .mov [.t 17], []⟩,
    ⟨(some (107, false)), .val 109 .mov [.t 21], []⟩,
    ⟨(some (107, false)), .val 110 (.bin .neq) [.t 108, .t 109], []⟩,
    ⟨none, .val 111 .pick [.t 107, .k (.p (.bool true)), .t 110], []⟩,
    ⟨none, .val 112 .mov [.t 111], []⟩,
    ⟨(some (112, false)), .val 113 .mov [.t 18], []⟩,
    ⟨(some (112, false)), .val 114 .mov [.t 22], []⟩,
    ⟨(some (112, false)), .val 115 (.bin .neq) [.t 113, .t 114], []⟩,
    ⟨none, .val 116 .pick [.t 112, .k (.p (.bool true)), .t 115], []⟩]
def r4_9 : IC := (.reg o4_9 [49, 50, 116])
def o4_10 : List IOp := [⟨none, .val 6 .mov [.k (.p (.bool false))], []⟩]
def r4_10 : IC := (.reg o4_10 [6])
def o4_11 : List IOp := [⟨none, .val 117 (.bin .add) [.t 50, .k (.p (.int .i64 1))], []⟩,
    ⟨none, .val 50 .mov [.t 117], []⟩]
def r4_11 : IC := (.reg o4_11 [49, 50])
def l4_1 : IC := (.seq r4_3 (.seq (.cond (.t 51) .skip (.exit 0)) (.kp [49, 50] (.seq (.block 1 (.seq r4_4 (.seq r4_5 (.seq r4_6 (.seq r4_7 (.seq r4_8 (.seq r4_9 (.cond (.t 116) (.seq r4_10 .ret) .skip)))))))) (.kp [49, 50] r4_11)))))
def o4_12 : List IOp := [⟨none, .call (some 118) 15 [], []⟩,
    ⟨none, .val 6 .mov [.t 118], []⟩]
def r4_12 : IC := (.reg o4_12 [6])
def b4 : IC := (.seq r4_0 (.seq r4_1 (.seq (.seq r4_2 (.block 0 (.loop l4_1))) (.seq r4_12 .ret))))
def i4 : IFn := ⟨3, 119, b4, [.tmp 6]⟩
/- isochronlaw23.ResidueNexts -/
def o5_0 : List IOp := [⟨none, .boxL 6 (.t 1), []⟩,
    ⟨none, .boxL 8 (.t 3), []⟩,
    ⟨none, .boxL 9 (.t 4), []⟩,
    ⟨none, .val 10 .mov [.k (.p (.bool false))], []⟩]
def r5_0 : IC := (.reg o5_0 [0, 2, 6, 8, 9])
def o5_1 : List IOp := [⟨none, .val 25 .mov [.t 0], []⟩,
    ⟨none, .call (some 26) 20 [.t 25, .k (.p (.int .i64 34))], []⟩,
    ⟨none, .val 11 .mov [.t 26], []⟩]
def r5_1 : IC := (.reg o5_1 [2, 6, 8, 9, 11])
def o5_2 : List IOp := [⟨none, .litP 27 3 [], []⟩,
    ⟨none, .val 28 .mov [.t 11], []⟩,
    ⟨none, .app 29 (.t 27) (.t 28) 3 24, []⟩,
    ⟨none, .val 12 .mov [.t 29], []⟩]
def r5_2 : IC := (.reg o5_2 [2, 6, 8, 9, 11, 12])
def o5_3 : List IOp := [⟨none, .val 30 .mov [.t 12], []⟩,
    ⟨none, .val 31 .len [.t 30], []⟩,
    ⟨none, .val 32 (.bin .gtr) [.t 31, .k (.p (.int .i64 0))], []⟩]
def r5_3 : IC := (.reg o5_3 [2, 6, 8, 9, 11, 12, 32])
def o5_4 : List IOp := [⟨none, .val 33 .mov [.t 12], []⟩,
    ⟨none, .val 34 .mov [.t 2], []⟩,
    ⟨none, .val 35 (.conv .i64) [.t 34], [1]⟩,
    ⟨none, .val 36 .mov [.t 12], []⟩,
    ⟨none, .val 37 .len [.t 36], [3]⟩,
    ⟨none, .val 38 (.bin .rem) [.t 35, .t 37], [1, 2, 3, 4]⟩,
    ⟨none, .loadL 39 (.t 6) 3 true, []⟩,
    ⟨none, .val 40 (.iaddrS 3) [.t 33, .t 38], [0, 1, 2, 3, 4, 5, 6]⟩,
    ⟨none, .store (.t 40) (.t 39) 3, [0, 1, 2, 3, 4, 5, 6, 7]⟩]
def r5_4 : IC := (.regD o5_4 [8, 9, 11, 12])
def o5_5 : List IOp := [⟨none, .val 41 .mov [.t 11], []⟩,
    ⟨none, .val 42 .mov [.t 12], []⟩,
    ⟨none, .val 43 (.build [.p (.sl 3 true []), .p (.sl 3 true [])] [(0, 1), (1, 1)]) [.t 41, .t 42], []⟩,
    ⟨none, .val 44 .mov [.k (.p (.int .i64 0))], []⟩]
def r5_5 : IC := (.reg o5_5 [8, 9, 43, 44])
def o5_6 : List IOp := [⟨none, .val 45 (.bin .lss) [.t 44, .k (.p (.int .i64 2))], []⟩]
def r5_6 : IC := (.reg o5_6 [8, 9, 43, 44, 45])
def o5_7 : List IOp := [⟨none, .val 46 (.idx 2 1 false) [.t 43, .t 44], []⟩,
    ⟨none, .val 14 .mov [.t 46], []⟩]
def r5_7 : IC := (.reg o5_7 [8, 9, 14, 43, 44])
def o5_8 : List IOp := [⟨none, .loadL 47 (.t 8) 3 true, []⟩,
    ⟨none, .val 48 (.iaddr 3 1) [.t 9, .k (.p (.int .i64 0))], []⟩,
    ⟨none, .loadL 49 (.t 48) 1 false, [1]⟩,
    ⟨none, .val 50 (.iaddr 3 1) [.t 9, .k (.p (.int .i64 1))], []⟩,
    ⟨none, .loadL 51 (.t 50) 1 false, [3]⟩,
    ⟨none, .val 52 (.iaddr 3 1) [.t 9, .k (.p (.int .i64 2))], []⟩,
    ⟨none, .loadL 53 (.t 52) 1 false, [5]⟩,
    ⟨none, .callP 54 10 [.t 49, .t 51, .t 53], [1, 2, 3, 4, 5, 6]⟩,
    ⟨none, .val 55 (.build [.p (.int .i64 0), .p (.int .i64 0), .p (.int .i64 0), .p (.int .i64 0), .p (.int .i64 0), .p (.int .i64 0)] [(0, 3), (3, 3)]) [.t 47, .t 54], [0, 1, 2, 3, 4, 5, 6, 7]⟩,
    ⟨none, .val 56 .mov [.k (.p (.int .i64 0))], []⟩]
def r5_8 : IC := (.regD o5_8 [8, 9, 14, 43, 44, 55, 56])
def o5_9 : List IOp := [⟨none, .val 57 (.bin .lss) [.t 56, .k (.p (.int .i64 2))], []⟩]
def r5_9 : IC := (.reg o5_9 [8, 9, 14, 43, 44, 55, 56, 57])
def o5_10 : List IOp := [⟨none, .val 58 (.idx 2 3 true) [.t 55, .t 56], []⟩,
    ⟨none, .newL 16 [.p (.int .i64 0), .p (.int .i64 0), .p (.int .i64 0)], []⟩,
    ⟨none, .store (.t 16) (.t 58) 3, []⟩]
def r5_10 : IC := (.reg o5_10 [8, 9, 14, 16, 43, 44, 55, 56])
def o5_11 : List IOp := [⟨none, .val 60 .mov [.t 14], []⟩,
    ⟨none, .load 61 (.t 16) 3 true, []⟩,
    ⟨none, .call (some 62) 21 [.t 60, .t 61], []⟩,
    ⟨none, .val 59 .mov [.t 62], []⟩,
    ⟨none, .val 63 (.ext 0) [.t 59], []⟩,
    ⟨none, .val 64 (.ext 1) [.t 59], []⟩,
    ⟨none, .val 17 .mov [.t 63], []⟩,
    ⟨none, .val 18 .mov [.t 64], []⟩]
def r5_11 : IC := (.reg o5_11 [8, 9, 14, 16, 17, 18, 43, 44, 55, 56])
def o5_12 : List IOp := [⟨none, .val 66 .mov [.t 14], []⟩,
    ⟨none, .load 67 (.t 16) 3 true, []⟩,
    ⟨none, .call (some 68) 22 [.t 66, .t 67], []⟩,
    ⟨none, .val 65 .mov [.t 68], []⟩,
    ⟨none, .val 69 (.ext 0) [.t 65], []⟩,
    ⟨none, .val 70 (.ext 1) [.t 65], []⟩,
    ⟨none, .val 19 .mov [.t 69], []⟩,
    ⟨none, .val 20 .mov [.t 70], []⟩]
def r5_12 : IC := (.reg o5_12 [8, 9, 14, 17, 18, 19, 20, 43, 44, 55, 56])
def o5_13 : List IOp := [⟨none, .val 71 .mov [.t 17], []⟩,
    ⟨none, .val 72 .mov [.t 19], []⟩,
    ⟨none, .val 73 (.bin .neq) [.t 71, .t 72], []⟩,
    ⟨none, .val 74 .mov [.t 73], []⟩,
    ⟨(some (74, false)), .val 75 .mov [.t 18], []⟩,
    ⟨(some (74, false)), .val 76 .mov [.t 20], []⟩,
    ⟨(some (74, false)), .val 77 (.bin .neq) [.t 75, .t 76], []⟩,
    ⟨none, .val 78 .pick [.t 74, .k (.p (.bool true)), .t 77], []⟩]
def r5_13 : IC := (.reg o5_13 [8, 9, 14, 43, 44, 55, 56, 78])
def o5_14 : List IOp := [⟨none, .val 10 .mov [.k (.p (.bool false))], []⟩]
def r5_14 : IC := (.reg o5_14 [10])
def o5_15 : List IOp := [⟨none, .val 79 (.bin .add) [.t 56, .k (.p (.int .i64 1))], []⟩,
    ⟨none, .val 56 .mov [.t 79], []⟩]
def r5_15 : IC := (.reg o5_15 [8, 9, 14, 43, 44, 55, 56])
def l5_2 : IC := (.seq r5_9 (.seq (.cond (.t 57) .skip (.exit 2)) (.kp [8, 9, 14, 43, 44, 55, 56] (.seq (.block 3 (.seq r5_10 (.seq r5_11 (.seq r5_12 (.seq r5_13 (.cond (.t 78) (.seq r5_14 .ret) .skip)))))) (.kp [8, 9, 14, 43, 44, 55, 56] r5_15)))))
def o5_16 : List IOp := [⟨none, .val 81 .mov [.t 14], []⟩,
    ⟨none, .call (some 82) 23 [.t 81], []⟩,
    ⟨none, .val 80 .mov [.t 82], []⟩,
    ⟨none, .val 83 (.ext 0) [.t 80], []⟩,
    ⟨none, .val 84 (.ext 1) [.t 80], []⟩,
    ⟨none, .val 21 .mov [.t 83], []⟩,
    ⟨none, .val 22 .mov [.t 84], []⟩]
def r5_16 : IC := (.reg o5_16 [8, 9, 14, 21, 22, 43, 44])
def o5_17 : List IOp := [⟨none, .val 86 .mov [.t 14], []⟩,
    ⟨none, .call (some 87) 24 [.t 86], []⟩,
    ⟨none, .val 85 .mov [.t 87], []⟩,
    ⟨none, .val 88 (.ext 0) [.t 85], []⟩,
    ⟨none, .val 89 (.ext 1) [.t 85], []⟩,
    ⟨none, .val 23 .mov [.t 88], []⟩,
    ⟨none, .val 24 .mov [.t 89], []⟩]
def r5_17 : IC := (.reg o5_17 [8, 9, 21, 22, 23, 24, 43, 44])
def o5_18 : List IOp := [⟨none, .val 90 .mov [.t 21], []⟩,
    ⟨none, .val 91 .mov [.t 23], []⟩,
    ⟨none, .val 92 (.bin .neq) [.t 90, .t 91], []⟩,
    ⟨none, .val 93 .mov [.t 92], []⟩,
    ⟨(some (93, false)), .val 94 .mov [.t 22], []⟩,
    ⟨(some (93, false)), .val 95 .mov [.t 24], []⟩,
    ⟨(some (93, false)), .val 96 (.bin .neq) [.t 94, .t 95], []⟩,
    ⟨none, .val 97 .pick [.t 93, .k (.p (.bool true)), .t 96], []⟩]
def r5_18 : IC := (.reg o5_18 [8, 9, 43, 44, 97])
def o5_19 : List IOp := [⟨none, .val 10 .mov [.k (.p (.bool false))], []⟩]
def r5_19 : IC := (.reg o5_19 [10])
def o5_20 : List IOp := [⟨none, .val 98 (.bin .add) [.t 44, .k (.p (.int .i64 1))], []⟩,
    ⟨none, .val 44 .mov [.t 98], []⟩]
def r5_20 : IC := (.reg o5_20 [8, 9, 43, 44])
def l5_1 : IC := (.seq r5_6 (.seq (.cond (.t 45) .skip (.exit 0)) (.kp [8, 9, 43, 44] (.seq (.block 1 (.seq r5_7 (.seq (.seq r5_8 (.block 2 (.loop l5_2))) (.seq r5_16 (.seq r5_17 (.seq r5_18 (.cond (.t 97) (.seq r5_19 .ret) .skip))))))) (.kp [8, 9, 43, 44] r5_20)))))
def o5_21 : List IOp := [⟨none, .call (some 99) 15 [], []⟩,
    ⟨none, .val 10 .mov [.t 99], []⟩]
def r5_21 : IC := (.reg o5_21 [10])
def b5 : IC := (.seq r5_0 (.seq r5_1 (.seq r5_2 (.seq (.seq r5_3 (.cond (.t 32) r5_4 .skip)) (.kp [8, 9, 11, 12] (.seq (.seq r5_5 (.block 0 (.loop l5_1))) (.seq r5_21 .ret)))))))
def i5 : IFn := ⟨5, 100, b5, [.tmp 10]⟩
/- isochronlaw23.ResidueMeans -/
def o6_0 : List IOp := [⟨none, .boxL 2 (.t 0), []⟩,
    ⟨none, .val 4 .mov [.k (.p (.bool false))], []⟩]
def r6_0 : IC := (.reg o6_0 [1, 2])
def o6_1 : List IOp := [⟨none, .call (some 10) 15 [], []⟩,
    ⟨none, .val 11 .not [.t 10], []⟩]
def r6_1 : IC := (.reg o6_1 [1, 2, 11])
def o6_2 : List IOp := [⟨none, .val 4 .mov [.k (.p (.bool false))], []⟩]
def r6_2 : IC := (.reg o6_2 [4])
def o6_3 : List IOp := [⟨none, .val 12 (.iaddr 6 1) [.t 2, .k (.p (.int .i64 0))], []⟩,
    ⟨none, .loadL 13 (.t 12) 1 false, [0]⟩,
    ⟨none, .val 14 (.iaddr 6 1) [.t 2, .k (.p (.int .i64 1))], []⟩,
    ⟨none, .loadL 15 (.t 14) 1 false, [2]⟩,
    ⟨none, .val 16 (.iaddr 6 1) [.t 2, .k (.p (.int .i64 2))], []⟩,
    ⟨none, .loadL 17 (.t 16) 1 false, [4]⟩,
    ⟨none, .callP 18 10 [.t 13, .t 15, .t 17], [0, 1, 2, 3, 4, 5]⟩,
    ⟨none, .val 19 (.iaddr 6 1) [.t 2, .k (.p (.int .i64 3))], []⟩,
    ⟨none, .loadL 20 (.t 19) 1 false, [7]⟩,
    ⟨none, .val 21 (.iaddr 6 1) [.t 2, .k (.p (.int .i64 4))], []⟩,
    ⟨none, .loadL 22 (.t 21) 1 false, [9]⟩,
    ⟨none, .val 23 (.iaddr 6 1) [.t 2, .k (.p (.int .i64 5))], []⟩,
    ⟨none, .loadL 24 (.t 23) 1 false, [11]⟩,
    ⟨none, .callP 25 10 [.t 20, .t 22, .t 24], [0, 1, 2, 3, 4, 5, 6, 7, 8, 9, 10, 11, 12]⟩,
    ⟨none, .newL 5 [.p (.int .i64 0), .p (.int .i64 0), .p (.int .i64 0)], []⟩,
    ⟨none, .newL 6 [.p (.int .i64 0), .p (.int .i64 0), .p (.int .i64 0)], []⟩,
    ⟨none, .store (.t 5) (.t 18) 3, [0, 1, 2, 3, 4, 5, 6, 7, 8, 9, 10, 11, 12, 13, 14, 15]⟩,
    ⟨none, .store (.t 6) (.t 25) 3, [0, 1, 2, 3, 4, 5, 6, 7, 8, 9, 10, 11, 12, 13, 14, 15, 16]⟩]
def r6_3 : IC := (.regD o6_3 [1, 5, 6])
def o6_4 : List IOp := [⟨none, .val 7 .mov [.k (.p (.bool false))], []⟩]
def r6_4 : IC := (.reg o6_4 [1, 5, 6, 7])
def o6_5 : List IOp := [⟨none, .val 8 .mov [.k (.p (.int .i64 0))], []⟩]
def r6_5 : IC := (.reg o6_5 [1, 5, 6, 7, 8])
def o6_6 : List IOp := [⟨none, .val 26 .mov [.t 8], []⟩,
    ⟨none, .val 27 (.faddr 0) [.t 5], []⟩,
    ⟨none, .load 28 (.t 27) 1 false, []⟩,
    ⟨none, .val 29 (.faddr 0) [.t 6], []⟩,
    ⟨none, .load 30 (.t 29) 1 false, []⟩,
    ⟨none, .val 31 (.bin .mul) [.t 28, .t 30], []⟩,
    ⟨none, .val 32 (.bin .lss) [.t 26, .t 31], []⟩]
def r6_6 : IC := (.reg o6_6 [1, 5, 6, 7, 8, 32])
def o6_8 : List IOp := [⟨none, .val 35 .mov [.t 7], []⟩,
    ⟨none, .val 36 .mov [.t 35], []⟩,
    ⟨(some (36, false)), .load 37 (.t 5) 3 true, []⟩,
    ⟨(some (36, false)), .val 38 .mov [.t 8], []⟩,
    ⟨(some (36, false)), .call (some 39) 25 [.t 37, .t 38], []⟩,
    ⟨(some (36, false)), .val 40 .mov [.t 39], []⟩,
    ⟨(some (40, true)), .load 41 (.t 6) 3 true, []⟩,
    ⟨(some (40, true)), .val 42 .mov [.t 8], []⟩,
    ⟨(some (40, true)), .call (some 43) 25 [.t 41, .t 42], []⟩,
    ⟨(some (36, false)), .val 44 .pick [.t 40, .t 43, .k (.p (.bool false))], []⟩,
    ⟨none, .val 45 .pick [.t 36, .k (.p (.bool true)), .t 44], []⟩,
    ⟨none, .val 7 .mov [.t 45], []⟩]
def r6_8 : IC := (.reg o6_8 [1, 5, 6, 7, 8])
def o6_7 : List IOp := [⟨none, .val 33 .mov [.t 8], []⟩,
    ⟨none, .val 34 (.bin .add) [.t 33, .k (.p (.int .i64 1))], []⟩,
    ⟨none, .val 8 .mov [.t 34], []⟩]
def r6_7 : IC := (.reg o6_7 [1, 5, 6, 7, 8])
def l6_1 : IC := (.seq (.seq r6_6 (.cond (.t 32) .skip (.exit 0))) (.kp [1, 5, 6, 7, 8] (.seq (.block 1 r6_8) r6_7)))
def o6_9 : List IOp := [⟨none, .val 46 .mov [.t 1], []⟩,
    ⟨none, .val 47 (.bin .rem) [.t 46, .k (.p (.int .i64 100000))], []⟩,
    ⟨none, .val 1 .mov [.t 47], []⟩]
def r6_9 : IC := (.reg o6_9 [1, 5, 6, 7])
def o6_10 : List IOp := [⟨none, .loadL 48 (.t 5) 3 true, []⟩,
    ⟨none, .val 49 .mov [.t 1], []⟩,
    ⟨none, .callP 50 25 [.t 48, .t 49], [0, 1]⟩,
    ⟨none, .loadL 51 (.t 5) 3 true, []⟩,
    ⟨none, .val 52 .mov [.t 1], []⟩,
    ⟨none, .val 53 (.faddr 0) [.t 5], []⟩,
    ⟨none, .loadL 54 (.t 53) 1 false, [5]⟩,
    ⟨none, .val 55 (.bin .add) [.t 52, .t 54], [4, 5, 6]⟩,
    ⟨none, .callP 56 25 [.t 51, .t 55], [0, 1, 2, 3, 4, 5, 6, 7]⟩,
    ⟨none, .val 57 (.eqB false) [.t 50, .t 56], [0, 1, 2, 3, 4, 5, 6, 7, 8]⟩,
    ⟨none, .val 58 .mov [.t 57], [0, 1, 2, 3, 4, 5, 6, 7, 8, 9]⟩,
    ⟨(some (58, true)), .loadL 59 (.t 5) 3 true, [0, 1, 2, 3, 4, 5, 6, 7, 8, 9, 10]⟩,
    ⟨(some (58, true)), .val 60 .mov [.t 1], [0, 1, 2, 3, 4, 5, 6, 7, 8, 9, 10]⟩,
    ⟨(some (58, true)), .callP 61 25 [.t 59, .t 60], [0, 1, 2, 3, 4, 5, 6, 7, 8, 9, 10, 11, 12]⟩,
    ⟨(some (58, true)), .loadL 62 (.t 5) 3 true, [0, 1, 2, 3, 4, 5, 6, 7, 8, 9, 10]⟩,
    ⟨(some (58, true)), .val 63 .mov [.t 1], [0, 1, 2, 3, 4, 5, 6, 7, 8, 9, 10]⟩,
    ⟨(some (58, true)), .val 64 (.faddr 0) [.t 5], [0, 1, 2, 3, 4, 5, 6, 7, 8, 9, 10]⟩,
    ⟨(some (58, true)), .loadL 65 (.t 64) 1 false, [0, 1, 2, 3, 4, 5, 6, 7, 8, 9, 10, 16]⟩,
    ⟨(some (58, true)), .val 66 (.bin .mul) [.k (.p (.int .i64 3)), .t 65], [0, 1, 2, 3, 4, 5, 6, 7, 8, 9, 10, 16, 17]⟩,
    ⟨(some (58, true)), .val 67 (.bin .sub) [.t 63, .t 66], [0, 1, 2, 3, 4, 5, 6, 7, 8, 9, 10, 15, 16, 17, 18]⟩,
    ⟨(some (58, true)), .callP 68 25 [.t 62, .t 67], [0, 1, 2, 3, 4, 5, 6, 7, 8, 9, 10, 11, 12, 13, 14, 15, 16, 17, 18, 19]⟩,
    ⟨(some (58, true)), .val 69 (.eqB false) [.t 61, .t 68], [0, 1, 2, 3, 4, 5, 6, 7, 8, 9, 10, 11, 12, 13, 14, 15, 16, 17, 18, 19, 20]⟩,
    ⟨none, .val 70 .pick [.t 58, .t 69, .k (.p (.bool false))], [0, 1, 2, 3, 4, 5, 6, 7, 8, 9, 10, 11, 12, 13, 14, 15, 16, 17, 18, 19, 20, 21]⟩,
    ⟨none, .val 9 .mov [.t 70], [0, 1, 2, 3, 4, 5, 6, 7, 8, 9, 10, 11, 12, 13, 14, 15, 16, 17, 18, 19, 20, 21, 22]⟩]
def r6_10 : IC := (.regD o6_10 [5, 6, 7, 9])
def o6_11 : List IOp := [⟨none, .load 71 (.t 5) 3 true, []⟩,
    ⟨none, .load 72 (.t 6) 3 true, []⟩,
    ⟨none, .call (some 73) 26 [.t 71, .t 72], []⟩,
    ⟨none, .val 74 .mov [.t 7], []⟩,
    ⟨none, .val 75 .not [.t 74], []⟩,
    ⟨none, .val 76 (.eqB false) [.t 73, .t 75], []⟩,
    ⟨none, .val 77 .mov [.t 76], []⟩,
    ⟨(some (77, true)), .val 78 .mov [.t 9], []⟩,
    ⟨none, .val 79 .pick [.t 77, .t 78, .k (.p (.bool false))], []⟩,
    ⟨none, .val 4 .mov [.t 79], []⟩]
def r6_11 : IC := (.reg o6_11 [4])
def b6 : IC := (.seq r6_0 (.seq (.seq r6_1 (.cond (.t 11) (.seq r6_2 .ret) .skip)) (.kp [1, 2] (.seq r6_3 (.seq r6_4 (.seq (.seq r6_5 (.block 0 (.loop l6_1))) (.seq r6_9 (.seq r6_10 (.seq r6_11 .ret)))))))))
def i6 : IFn := ⟨2, 80, b6, [.tmp 4]⟩
/- isochronlaw23.ResidueMoves -/
def o7_0 : List IOp := [⟨none, .boxL 2 (.t 0), []⟩,
    ⟨none, .val 4 .mov [.k (.p (.bool false))], []⟩]
def r7_0 : IC := (.reg o7_0 [1, 2])
def o7_1 : List IOp := [⟨none, .call (some 17) 15 [], []⟩,
    ⟨none, .val 18 .not [.t 17], []⟩]
def r7_1 : IC := (.reg o7_1 [1, 2, 18])
def o7_2 : List IOp := [⟨none, .val 4 .mov [.k (.p (.bool false))], []⟩]
def r7_2 : IC := (.reg o7_2 [4])
def o7_3 : List IOp := [⟨none, .val 19 (.iaddr 6 1) [.t 2, .k (.p (.int .i64 0))], []⟩,
    ⟨none, .loadL 20 (.t 19) 1 false, [0]⟩,
    ⟨none, .val 21 (.iaddr 6 1) [.t 2, .k (.p (.int .i64 1))], []⟩,
    ⟨none, .loadL 22 (.t 21) 1 false, [2]⟩,
    ⟨none, .val 23 (.iaddr 6 1) [.t 2, .k (.p (.int .i64 2))], []⟩,
    ⟨none, .loadL 24 (.t 23) 1 false, [4]⟩,
    ⟨none, .callP 25 10 [.t 20, .t 22, .t 24], [0, 1, 2, 3, 4, 5]⟩,
    ⟨none, .val 26 (.iaddr 6 1) [.t 2, .k (.p (.int .i64 3))], []⟩,
    ⟨none, .loadL 27 (.t 26) 1 false, [7]⟩,
    ⟨none, .val 28 (.iaddr 6 1) [.t 2, .k (.p (.int .i64 4))], []⟩,
    ⟨none, .loadL 29 (.t 28) 1 false, [9]⟩,
    ⟨none, .val 30 (.iaddr 6 1) [.t 2, .k (.p (.int .i64 5))], []⟩,
    ⟨none, .loadL 31 (.t 30) 1 false, [11]⟩,
    ⟨none, .callP 32 10 [.t 27, .t 29, .t 31], [0, 1, 2, 3, 4, 5, 6, 7, 8, 9, 10, 11, 12]⟩,
    ⟨none, .newL 5 [.p (.int .i64 0), .p (.int .i64 0), .p (.int .i64 0)], []⟩,
    ⟨none, .newL 6 [.p (.int .i64 0), .p (.int .i64 0), .p (.int .i64 0)], []⟩,
    ⟨none, .store (.t 5) (.t 25) 3, [0, 1, 2, 3, 4, 5, 6, 7, 8, 9, 10, 11, 12, 13, 14, 15]⟩,
    ⟨none, .store (.t 6) (.t 32) 3, [0, 1, 2, 3, 4, 5, 6, 7, 8, 9, 10, 11, 12, 13, 14, 15, 16]⟩]
def r7_3 : IC := (.regD o7_3 [1, 5, 6])
def o7_4 : List IOp := [⟨none, .loadL 33 (.t 5) 3 true, []⟩,
    ⟨none, .val 34 .mov [.t 1], []⟩,
    ⟨none, .val 35 (.conv .i64) [.t 34], [1]⟩,
    ⟨none, .callP 36 27 [.t 33, .t 35], [0, 1, 2]⟩,
    ⟨none, .loadL 37 (.t 6) 3 true, []⟩,
    ⟨none, .val 38 .mov [.t 1], []⟩,
    ⟨none, .val 39 (.conv .i64) [.t 38], [5]⟩,
    ⟨none, .callP 40 27 [.t 37, .t 39], [0, 1, 2, 3, 4, 5, 6]⟩,
    ⟨none, .newL 7 [.p (.int .i64 0), .p (.int .i64 0), .p (.int .i64 0)], []⟩,
    ⟨none, .newL 8 [.p (.int .i64 0), .p (.int .i64 0), .p (.int .i64 0)], []⟩,
    ⟨none, .store (.t 7) (.t 36) 3, [0, 1, 2, 3, 4, 5, 6, 7, 8, 9]⟩,
    ⟨none, .store (.t 8) (.t 40) 3, [0, 1, 2, 3, 4, 5, 6, 7, 8, 9, 10]⟩]
def r7_4 : IC := (.regD o7_4 [5, 6, 7, 8])
def o7_5 : List IOp := [⟨none, .loadL 41 (.t 5) 3 true, []⟩,
    ⟨none, .loadL 42 (.t 6) 3 true, []⟩,
    ⟨none, .callP 43 26 [.t 41, .t 42], [0, 1]⟩,
    ⟨none, .loadL 44 (.t 6) 3 true, []⟩,
    ⟨none, .loadL 45 (.t 5) 3 true, []⟩,
    ⟨none, .callP 46 26 [.t 44, .t 45], [0, 1, 2, 3, 4]⟩,
    ⟨none, .val 47 (.eqB true) [.t 43, .t 46], [0, 1, 2, 3, 4, 5]⟩,
    ⟨none, .val 48 .mov [.t 47], [0, 1, 2, 3, 4, 5, 6]⟩,
    ⟨(some (48, false)), .loadL 49 (.t 5) 3 true, [0, 1, 2, 3, 4, 5, 6, 7]⟩,
    ⟨(some (48, false)), .loadL 50 (.t 6) 3 true, [0, 1, 2, 3, 4, 5, 6, 7]⟩,
    ⟨(some (48, false)), .callP 51 26 [.t 49, .t 50], [0, 1, 2, 3, 4, 5, 6, 7, 8, 9]⟩,
    ⟨(some (48, false)), .loadL 52 (.t 7) 3 true, [0, 1, 2, 3, 4, 5, 6, 7]⟩,
    ⟨(some (48, false)), .loadL 53 (.t 8) 3 true, [0, 1, 2, 3, 4, 5, 6, 7]⟩,
    ⟨(some (48, false)), .callP 54 26 [.t 52, .t 53], [0, 1, 2, 3, 4, 5, 6, 7, 8, 9, 10, 11, 12]⟩,
    ⟨(some (48, false)), .val 55 (.eqB true) [.t 51, .t 54], [0, 1, 2, 3, 4, 5, 6, 7, 8, 9, 10, 11, 12, 13]⟩,
    ⟨none, .val 56 .pick [.t 48, .k (.p (.bool true)), .t 55], [0, 1, 2, 3, 4, 5, 6, 7, 8, 9, 10, 11, 12, 13, 14]⟩]
def r7_5 : IC := (.regD o7_5 [5, 6, 56])
def o7_6 : List IOp := [⟨none, .val 4 .mov [.k (.p (.bool false))], []⟩]
def r7_6 : IC := (.reg o7_6 [4])
def o7_7 : List IOp := [⟨none, .load 58 (.t 5) 3 true, []⟩,
    ⟨none, .load 59 (.t 6) 3 true, []⟩,
    ⟨none, .call (some 60) 18 [.t 58, .t 59], []⟩,
    ⟨none, .val 57 .mov [.t 60], []⟩,
    ⟨none, .val 61 (.ext 0) [.t 57], []⟩,
    ⟨none, .val 62 (.ext 1) [.t 57], []⟩,
    ⟨none, .val 63 (.ext 2) [.t 57], []⟩,
    ⟨none, .val 64 (.ext 3) [.t 57], []⟩,
    ⟨none, .val 9 .mov [.t 61], []⟩,
    ⟨none, .val 10 .mov [.t 62], []⟩,
    ⟨none, .val 11 .mov [.t 63], []⟩,
    ⟨none, .val 12 .mov [.t 64], []⟩]
def r7_7 : IC := (.reg o7_7 [5, 6, 9, 10, 11, 12])
def o7_8 : List IOp := [⟨none, .val 65 .mov [.t 12], []⟩,
    ⟨none, .val 66 (.bin .eql) [.t 65, .k (.p (.int .i64 4))], []⟩]
def r7_8 : IC := (.reg o7_8 [5, 6, 9, 10, 11, 12, 66])
def o7_9 : List IOp := [⟨none, .val 13 .mov [.k (.p (.int .i64 0))], []⟩]
def r7_9 : IC := (.reg o7_9 [5, 6, 13])
def o7_10 : List IOp := [⟨none, .val 67 .mov [.t 13], []⟩,
    ⟨none, .val 68 (.faddr 0) [.t 6], []⟩,
    ⟨none, .load 69 (.t 68) 1 false, []⟩,
    ⟨none, .val 70 (.bin .lss) [.t 67, .t 69], []⟩]
def r7_10 : IC := (.reg o7_10 [5, 6, 13, 70])
def o7_12 : List IOp := [⟨none, .loadL 73 (.t 5) 3 true, []⟩,
    ⟨none, .loadL 74 (.t 6) 3 true, []⟩,
    ⟨none, .val 75 .mov [.t 13], []⟩,
    ⟨none, .callP 76 27 [.t 74, .t 75], [1, 2]⟩,
    ⟨none, .callP 77 26 [.t 73, .t 76], [0, 1, 2, 3]⟩]
def r7_12 : IC := (.regD o7_12 [5, 6, 13, 77])
def o7_13 : List IOp := [⟨none, .val 4 .mov [.k (.p (.bool false))], []⟩]
def r7_13 : IC := (.reg o7_13 [4])
def o7_11 : List IOp := [⟨none, .val 71 .mov [.t 13], []⟩,
    ⟨none, .val 72 (.bin .add) [.t 71, .k (.p (.int .i64 1))], []⟩,
    ⟨none, .val 13 .mov [.t 72], []⟩]
def r7_11 : IC := (.reg o7_11 [5, 6, 13])
def l7_1 : IC := (.seq (.seq r7_10 (.cond (.t 70) .skip (.exit 0))) (.kp [5, 6, 13] (.seq (.block 1 (.seq r7_12 (.cond (.t 77) (.seq r7_13 .ret) .skip))) (.kp [5, 6, 13] r7_11))))
def o7_14 : List IOp := [⟨none, .val 4 .mov [.k (.p (.bool true))], []⟩]
def r7_14 : IC := (.reg o7_14 [4])
def o7_15 : List IOp := [⟨none, .val 78 .mov [.t 12], []⟩,
    ⟨none, .val 79 (.bin .neq) [.t 78, .k (.p (.int .i64 0))], []⟩,
    ⟨none, .val 80 .mov [.t 79], []⟩,
    ⟨(some (80, false)), .val 81 .mov [.t 11], []⟩,
    ⟨(some (80, false)), .val 82 (.bin .lss) [.t 81, .k (.p (.int .i64 1))], []⟩,
    ⟨none, .val 83 .pick [.t 80, .k (.p (.bool true)), .t 82], []⟩,
    ⟨none, .val 84 .mov [.t 83], []⟩,
    ⟨(some (84, false)), .val 85 (.faddr 0) [.t 5], []⟩,
    ⟨(some (84, false)), .load 86 (.t 85) 1 false, []⟩,
    ⟨(some (84, false)), .val 87 .mov [.t 11], []⟩,
    ⟨(some (84, false)), .val 88 (.bin .rem) [.t 86, .t 87], []⟩,
    ⟨(some (84, false)), .val 89 (.bin .neq) [.t 88, .k (.p (.int .i64 0))], []⟩,
    ⟨none, .val 90 .pick [.t 84, .k (.p (.bool true)), .t 89], []⟩,
    ⟨none, .val 91 .mov [.t 90], []⟩,
    ⟨(some (91, false)), .val 92 (.faddr 0) [.t 6], []⟩,
    ⟨(some (91, false)), .load 93 (.t 92) 1 false, []⟩,
    ⟨(some (91, false)), .val 94 .mov [.t 11], []⟩,
    ⟨(some (91, false)), .val 95 (.bin .rem) [.t 93, .t 94], []⟩,
    ⟨(some (91, false)), .val 96 (.bin .neq) [.t 95, .k (.p (.int .i64 0))], []⟩,
    ⟨none, .val 97 .pick [.t 91, .k (.p (.bool true)), .t 96], []⟩,
    ⟨none, .val 98 .mov [.t 97], []⟩,
    ⟨(some (98, false)), .val 99 (.faddr 2) [.t 5], []⟩,
    ⟨(some (98, false)), .load 100 (.t 99) 1 false, []⟩,
    ⟨(some (98, false)), .val 101 (.faddr 2) [.t 6], []⟩,
    ⟨(some (98, false)), .load 102 (.t 101) 1 false, []⟩,
    ⟨(some (98, false)), .val 103 (.bin .add) [.t 100, .t 102], []⟩,
    ⟨(some (98, false)), .val 104 .mov [.t 11], []⟩,
    ⟨(some (98, false)), .val 105 (.bin .gtr) [.t 103, .t 104], []⟩,
    ⟨none, .val 106 .pick [.t 98, .k (.p (.bool true)), .t 105], []⟩,
    ⟨none, .val 107 .mov [.t 106], []⟩,
    ⟨(some (107, false)), .val 108 .mov [.t 9], []⟩,
    ⟨(some (107, false)), .val 109 .mov [.t 10], []⟩,
    ⟨(some (107, false)), .val 110 (.bin .gtr) [.t 108, .t 109], []⟩,
    ⟨none, .val 111 .pick [.t 107, .k (.p (.bool true)), .t 110], []⟩]
def r7_15 : IC := (.reg o7_15 [5, 6, 9, 10, 11, 111])
def o7_16 : List IOp := [⟨none, .val 4 .mov [.k (.p (.bool false))], []⟩]
def r7_16 : IC := (.reg o7_16 [4])
def o7_17 : List IOp := [⟨none, .val 14 .mov [.k (.p (.int .i64 0))], []⟩]
def r7_17 : IC := (.reg o7_17 [5, 6, 9, 10, 11, 14])
def o7_18 : List IOp := [⟨none, .val 112 .mov [.t 14], []⟩,
    ⟨none, .val 113 (.faddr 0) [.t 6], []⟩,
    ⟨none, .load 114 (.t 113) 1 false, []⟩,
    ⟨none, .val 115 (.bin .lss) [.t 112, .t 114], []⟩]
def r7_18 : IC := (.reg o7_18 [5, 6, 9, 10, 11, 14, 115])
def o7_20 : List IOp := [⟨none, .load 118 (.t 6) 3 true, []⟩,
    ⟨none, .val 119 .mov [.t 14], []⟩,
    ⟨none, .call (some 120) 27 [.t 118, .t 119], []⟩,
    ⟨none, .newL 15 [.p (.int .i64 0), .p (.int .i64 0), .p (.int .i64 0)], []⟩,
    ⟨none, .store (.t 15) (.t 120) 3, []⟩]
def r7_20 : IC := (.reg o7_20 [5, 6, 9, 10, 11, 14, 15])
def o7_21 : List IOp := [⟨none, .val 121 (.faddr 1) [.t 15], []⟩,
    ⟨none, .load 122 (.t 121) 1 false, []⟩,
    ⟨none, .val 123 (.faddr 1) [.t 5], []⟩,
    ⟨none, .load 124 (.t 123) 1 false, []⟩,
    ⟨none, .val 125 (.bin .sub) [.t 122, .t 124], []⟩,
    ⟨none, .val 126 .mov [.t 11], []⟩,
    ⟨none, .call (some 127) 28 [.t 125, .t 126], []⟩,
    ⟨none, .val 16 .mov [.t 127], []⟩]
def r7_21 : IC := (.reg o7_21 [5, 6, 9, 10, 11, 14, 15, 16])
def o7_22 : List IOp := [⟨none, .load 128 (.t 5) 3 true, []⟩,
    ⟨none, .load 129 (.t 15) 3 true, []⟩,
    ⟨none, .call (some 130) 26 [.t 128, .t 129], []⟩,
    ⟨none, .val 131 .mov [.t 16], []⟩,
    ⟨none, .val 132 .mov [.t 9], []⟩,
    ⟨none, .val 133 (.bin .geq) [.t 131, .t 132], []⟩,
    ⟨none, .val 134 .mov [.t 133], []⟩,
    ⟨(some (134, true)), .val 135 .mov [.t 16], []⟩,
    ⟨(some (134, true)), .val 136 .mov [.t 10], []⟩,
    ⟨(some (134, true)), .val 137 (.bin .leq) [.t 135, .t 136], []⟩,
    ⟨none, .val 138 .pick [.t 134, .t 137, .k (.p (.bool false))], []⟩,
    ⟨none, .val 139 (.eqB true) [.t 130, .t 138], []⟩]
def r7_22 : IC := (.reg o7_22 [5, 6, 9, 10, 11, 14, 139])
def o7_23 : List IOp := [⟨none, .val 4 .mov [.k (.p (.bool false))], []⟩]
def r7_23 : IC := (.reg o7_23 [4])
def o7_19 : List IOp := [⟨none, .val 116 .mov [.t 14], []⟩,
    ⟨none, .val 117 (.bin .add) [.t 116, .k (.p (.int .i64 1))], []⟩,
    ⟨none, .val 14 .mov [.t 117], []⟩]
def r7_19 : IC := (.reg o7_19 [5, 6, 9, 10, 11, 14])
def l7_2 : IC := (.seq (.seq r7_18 (.cond (.t 115) .skip (.exit 2))) (.kp [5, 6, 9, 10, 11, 14] (.seq (.block 3 (.seq r7_20 (.seq r7_21 (.seq r7_22 (.cond (.t 139) (.seq r7_23 .ret) .skip))))) (.kp [5, 6, 9, 10, 11, 14] r7_19))))
def o7_24 : List IOp := [⟨none, .val 4 .mov [.k (.p (.bool true))], []⟩]
def r7_24 : IC := (.reg o7_24 [4])
def b7 : IC := (.seq r7_0 (.seq (.seq r7_1 (.cond (.t 18) (.seq r7_2 .ret) .skip)) (.kp [1, 2] (.seq r7_3 (.seq r7_4 (.seq (.seq r7_5 (.cond (.t 56) (.seq r7_6 .ret) .skip)) (.kp [5, 6] (.seq r7_7 (.seq (.seq r7_8 (.cond (.t 66) (.seq (.seq r7_9 (.block 0 (.loop l7_1))) (.seq r7_14 .ret)) .skip)) (.kp [5, 6, 9, 10, 11, 12] (.seq (.seq r7_15 (.cond (.t 111) (.seq r7_16 .ret) .skip)) (.kp [5, 6, 9, 10, 11] (.seq (.seq r7_17 (.block 2 (.loop l7_2))) (.seq r7_24 .ret))))))))))))))
def i7 : IFn := ⟨2, 140, b7, [.tmp 4]⟩
/- isochronlaw23.ResidueLeast -/
def o8_0 : List IOp := [⟨none, .boxL 3 (.t 1), []⟩,
    ⟨none, .val 4 .mov [.k (.p (.bool false))], []⟩]
def r8_0 : IC := (.reg o8_0 [0, 3])
def o8_1 : List IOp := [⟨none, .call (some 13) 15 [], []⟩,
    ⟨none, .val 14 .not [.t 13], []⟩]
def r8_1 : IC := (.reg o8_1 [0, 3, 14])
def o8_2 : List IOp := [⟨none, .val 4 .mov [.k (.p (.bool false))], []⟩]
def r8_2 : IC := (.reg o8_2 [4])
def o8_3 : List IOp := [⟨none, .val 15 .mov [.t 0], []⟩,
    ⟨none, .callP 16 20 [.t 15, .k (.p (.int .i64 12))], [0]⟩,
    ⟨none, .val 17 (.iaddr 3 1) [.t 3, .k (.p (.int .i64 0))], []⟩,
    ⟨none, .loadL 18 (.t 17) 1 false, [2]⟩,
    ⟨none, .val 19 (.iaddr 3 1) [.t 3, .k (.p (.int .i64 1))], []⟩,
    ⟨none, .loadL 20 (.t 19) 1 false, [4]⟩,
    ⟨none, .val 21 (.iaddr 3 1) [.t 3, .k (.p (.int .i64 2))], []⟩,
    ⟨none, .loadL 22 (.t 21) 1 false, [6]⟩,
    ⟨none, .callP 23 10 [.t 18, .t 20, .t 22], [0, 1, 2, 3, 4, 5, 6, 7]⟩,
    ⟨none, .newL 6 [.p (.int .i64 0), .p (.int .i64 0), .p (.int .i64 0)], []⟩,
    ⟨none, .val 5 .mov [.t 16], [0, 1, 2, 3, 4, 5, 6, 7, 8, 9]⟩,
    ⟨none, .store (.t 6) (.t 23) 3, [0, 1, 2, 3, 4, 5, 6, 7, 8, 9, 10]⟩]
def r8_3 : IC := (.regD o8_3 [5, 6])
def o8_4 : List IOp := [⟨none, .val 25 .mov [.t 5], []⟩,
    ⟨none, .load 26 (.t 6) 3 true, []⟩,
    ⟨none, .call (some 27) 21 [.t 25, .t 26], []⟩,
    ⟨none, .val 24 .mov [.t 27], []⟩,
    ⟨none, .val 28 (.ext 0) [.t 24], []⟩,
    ⟨none, .val 29 (.ext 1) [.t 24], []⟩,
    ⟨none, .val 7 .mov [.t 28], []⟩,
    ⟨none, .val 8 .mov [.t 29], []⟩]
def r8_4 : IC := (.reg o8_4 [5, 6, 7, 8])
def o8_5 : List IOp := [⟨none, .val 30 .mov [.t 7], []⟩,
    ⟨none, .val 9 .mov [.t 30], []⟩]
def r8_5 : IC := (.reg o8_5 [5, 6, 7, 8, 9])
def o8_6 : List IOp := [⟨none, .val 31 .mov [.t 8], []⟩,
    ⟨none, .val 32 (.bin .eql) [.t 31, .k (.p (.int .i64 4))], []⟩]
def r8_6 : IC := (.reg o8_6 [5, 6, 7, 8, 9, 32])
def o8_7 : List IOp := [⟨none, .val 33 (.faddr 0) [.t 6], []⟩,
    ⟨none, .load 34 (.t 33) 1 false, []⟩,
    ⟨none, .val 9 .mov [.t 34], []⟩]
def r8_7 : IC := (.reg o8_7 [5, 6, 7, 8, 9])
def o8_8 : List IOp := [⟨none, .val 35 .mov [.t 8], []⟩,
    ⟨none, .val 36 (.bin .neq) [.t 35, .k (.p (.int .i64 0))], []⟩,
    ⟨none, .val 37 .mov [.t 36], []⟩,
    ⟨(some (37, false)), .val 38 .mov [.t 7], []⟩,
    ⟨(some (37, false)), .val 39 (.bin .lss) [.t 38, .k (.p (.int .i64 0))], []⟩,
    ⟨none, .val 40 .pick [.t 37, .k (.p (.bool true)), .t 39], []⟩,
    ⟨none, .val 41 .mov [.t 40], []⟩,
    ⟨(some (41, false)), .val 42 .mov [.t 7], []⟩,
    ⟨(some (41, false)), .val 43 (.faddr 0) [.t 6], []⟩,
    ⟨(some (41, false)), .load 44 (.t 43) 1 false, []⟩,
    ⟨(some (41, false)), .val 45 (.bin .geq) [.t 42, .t 44], []⟩,
    ⟨none, .val 46 .pick [.t 41, .k (.p (.bool true)), .t 45], []⟩]
def r8_8 : IC := (.reg o8_8 [5, 6, 7, 8, 9, 46])
def o8_9 : List IOp := [⟨none, .val 4 .mov [.k (.p (.bool false))], []⟩]
def r8_9 : IC := (.reg o8_9 [4])
def o8_10 : List IOp := [⟨none, .val 10 .mov [.k (.p (.int .i64 0))], []⟩]
def r8_10 : IC := (.reg o8_10 [5, 6, 7, 8, 9, 10])
def o8_11 : List IOp := [⟨none, .val 47 .mov [.t 10], []⟩,
    ⟨none, .val 48 .mov [.t 9], []⟩,
    ⟨none, .val 49 (.bin .leq) [.t 47, .t 48], []⟩,
    ⟨none, .val 50 .mov [.t 49], []⟩,
    ⟨(some (50, true)), .val 51 .mov [.t 10], []⟩,
    ⟨(some (50, true)), .val 52 (.faddr 0) [.t 6], []⟩,
    ⟨(some (50, true)), .load 53 (.t 52) 1 false, []⟩,
    ⟨(some (50, true)), .val 54 (.bin .lss) [.t 51, .t 53], []⟩,
    ⟨none, .val 55 .pick [.t 50, .t 54, .k (.p (.bool false))], []⟩]
def r8_11 : IC := (.reg o8_11 [5, 6, 7, 8, 9, 10, 55])
def o8_13 : List IOp := [⟨none, .val 11 .mov [.k (.p (.bool true))], []⟩]
def r8_13 : IC := (.reg o8_13 [5, 6, 7, 8, 9, 10, 11])
def o8_14 : List IOp := [⟨none, .val 12 .mov [.k (.p (.int .i64 0))], []⟩]
def r8_14 : IC := (.reg o8_14 [5, 6, 7, 8, 9, 10, 11, 12])
def o8_15 : List IOp := [⟨none, .val 58 .mov [.t 12], []⟩,
    ⟨none, .val 59 .mov [.t 5], []⟩,
    ⟨none, .val 60 .len [.t 59], []⟩,
    ⟨none, .val 61 (.bin .lss) [.t 58, .t 60], []⟩]
def r8_15 : IC := (.reg o8_15 [5, 6, 7, 8, 9, 10, 11, 12, 61])
def o8_17 : List IOp := [⟨none, .val 64 .mov [.t 11], []⟩,
    ⟨none, .val 65 .mov [.t 64], [0]⟩,
    ⟨(some (65, true)), .val 66 .mov [.t 5], [0, 1]⟩,
    ⟨(some (65, true)), .val 67 .mov [.t 12], [0, 1]⟩,
    ⟨(some (65, true)), .val 68 (.iaddrS 3) [.t 66, .t 67], [0, 1, 2, 3]⟩,
    ⟨(some (65, true)), .load 69 (.t 68) 3 true, [0, 1, 2, 3, 4]⟩,
    ⟨(some (65, true)), .loadL 70 (.t 6) 3 true, [0, 1]⟩,
    ⟨(some (65, true)), .val 71 .mov [.t 10], [0, 1]⟩,
    ⟨(some (65, true)), .callP 72 27 [.t 70, .t 71], [0, 1, 6, 7]⟩,
    ⟨(some (65, true)), .callP 73 26 [.t 69, .t 72], [0, 1, 2, 3, 4, 5, 6, 7, 8]⟩,
    ⟨none, .val 74 .pick [.t 65, .t 73, .k (.p (.bool false))], [0, 1, 2, 3, 4, 5, 6, 7, 8, 9]⟩,
    ⟨none, .val 11 .mov [.t 74], [0, 1, 2, 3, 4, 5, 6, 7, 8, 9, 10]⟩]
def r8_17 : IC := (.regD o8_17 [5, 6, 7, 8, 9, 10, 11, 12])
def o8_16 : List IOp := [⟨none, .val 62 .mov [.t 12], []⟩,
    ⟨none, .val 63 (.bin .add) [.t 62, .k (.p (.int .i64 1))], []⟩,
    ⟨none, .val 12 .mov [.t 63], []⟩]
def r8_16 : IC := (.reg o8_16 [5, 6, 7, 8, 9, 10, 11, 12])
def l8_2 : IC := (.seq (.seq r8_15 (.cond (.t 61) .skip (.exit 2))) (.kp [5, 6, 7, 8, 9, 10, 11, 12] (.seq (.block 3 r8_17) r8_16)))
def o8_18 : List IOp := [⟨none, .val 75 .mov [.t 11], []⟩,
    ⟨none, .val 76 .mov [.t 8], []⟩,
    ⟨none, .val 77 (.bin .eql) [.t 76, .k (.p (.int .i64 0))], []⟩,
    ⟨none, .val 78 .mov [.t 77], []⟩,
    ⟨(some (78, true)), .val 79 .mov [.t 10], []⟩,
    ⟨(some (78, true)), .val 80 .mov [.t 7], []⟩,
    ⟨(some (78, true)), .val 81 (.bin .eql) [.t 79, .t 80], []⟩,
    ⟨none, .val 82 .pick [.t 78, .t 81, .k (.p (.bool false))], []⟩,
    ⟨none, .val 83 (.eqB true) [.t 75, .t 82], []⟩]
def r8_18 : IC := (.reg o8_18 [5, 6, 7, 8, 9, 10, 83])
def o8_19 : List IOp := [⟨none, .val 4 .mov [.k (.p (.bool false))], []⟩]
def r8_19 : IC := (.reg o8_19 [4])
def o8_12 : List IOp := [⟨none, .val 56 .mov [.t 10], []⟩,
    ⟨none, .val 57 (.bin .add) [.t 56, .k (.p (.int .i64 1))], []⟩,
    ⟨none, .val 10 .mov [.t 57], []⟩]
def r8_12 : IC := (.reg o8_12 [5, 6, 7, 8, 9, 10])
def l8_1 : IC := (.seq (.seq r8_11 (.cond (.t 55) .skip (.exit 0))) (.kp [5, 6, 7, 8, 9, 10] (.seq (.block 1 (.seq r8_13 (.seq (.seq r8_14 (.block 2 (.loop l8_2))) (.seq r8_18 (.cond (.t 83) (.seq r8_19 .ret) .skip))))) (.kp [5, 6, 7, 8, 9, 10] r8_12))))
def o8_20 : List IOp := [⟨none, .val 4 .mov [.k (.p (.bool true))], []⟩]
def r8_20 : IC := (.reg o8_20 [4])
def b8 : IC := (.seq r8_0 (.seq (.seq r8_1 (.cond (.t 14) (.seq r8_2 .ret) .skip)) (.kp [0, 3] (.seq r8_3 (.seq r8_4 (.seq r8_5 (.seq (.seq r8_6 (.cond (.t 32) r8_7 (.seq r8_8 (.cond (.t 46) (.seq r8_9 .ret) .skip)))) (.kp [5, 6, 7, 8, 9] (.seq (.seq r8_10 (.block 0 (.loop l8_1))) (.seq r8_20 .ret))))))))))
def i8 : IFn := ⟨2, 84, b8, [.tmp 4]⟩
/- isochronlaw23.ResidueKnown -/
def o9_0 : List IOp := [⟨none, .val 0 .mov [.k (.p (.bool false))], []⟩]
def r9_0 : IC := (.reg o9_0 [])
def o9_1 : List IOp := [⟨none, .val 39 (.build [.p (.int .i64 0), .p (.int .i64 0), .p (.int .i64 0)] []) [], []⟩,
    ⟨none, .call (some 40) 29 [.k (.p (.int .i64 0)), .k (.p (.int .i64 0)), .k (.p (.int .i64 1))], []⟩,
    ⟨none, .call (some 41) 29 [.k (.p (.int .i64 961)), .k (.p (.int .i64 0)), .k (.p (.int .i64 1))], []⟩,
    ⟨none, .call (some 42) 29 [.k (.p (.int .i64 5)), .k (.p (.int .i64 5)), .k (.p (.int .i64 1))], []⟩,
    ⟨none, .call (some 43) 29 [.k (.p (.int .i64 5)), .k (.p (.int .i64 (-1))), .k (.p (.int .i64 1))], []⟩,
    ⟨none, .call (some 44) 29 [.k (.p (.int .i64 5)), .k (.p (.int .i64 0)), .k (.p (.int .i64 0))], []⟩,
    ⟨none, .call (some 45) 29 [.k (.p (.int .i64 5)), .k (.p (.int .i64 0)), .k (.p (.int .i64 6))], []⟩,
    ⟨none, .litP 46 3 [.t 39, .t 40, .t 41, .t 42, .t 43, .t 44, .t 45], []⟩,
    ⟨none, .val 1 .mov [.t 46], []⟩]
def r9_1 : IC := (.reg o9_1 [1])
def o9_2 : List IOp := [⟨none, .call (some 47) 29 [.k (.p (.int .i64 5)), .k (.p (.int .i64 0)), .k (.p (.int .i64 5))], []⟩,
    ⟨none, .newL 2 [.p (.int .i64 0), .p (.int .i64 0), .p (.int .i64 0)], []⟩,
    ⟨none, .store (.t 2) (.t 47) 3, []⟩]
def r9_2 : IC := (.reg o9_2 [1, 2])
def o9_3 : List IOp := [⟨none, .val 3 .mov [.k (.p (.int .i64 0))], []⟩]
def r9_3 : IC := (.reg o9_3 [1, 2, 3])
def o9_4 : List IOp := [⟨none, .val 48 .mov [.t 3], []⟩,
    ⟨none, .val 49 .mov [.t 1], []⟩,
    ⟨none, .val 50 .len [.t 49], []⟩,
    ⟨none, .val 51 (.bin .lss) [.t 48, .t 50], []⟩]
def r9_4 : IC := (.reg o9_4 [1, 2, 3, 51])
def o9_6 : List IOp := [⟨none, .val 55 .mov [.t 1], []⟩,
    ⟨none, .val 56 .mov [.t 3], []⟩,
    ⟨none, .val 57 (.iaddrS 3) [.t 55, .t 56], []⟩,
    ⟨none, .load 58 (.t 57) 3 true, []⟩,
    ⟨none, .call (some 59) 11 [.t 58, .k (.p (.int .i64 1099511627777))], []⟩,
    ⟨none, .val 54 .mov [.t 59], []⟩,
    ⟨none, .val 60 (.ext 0) [.t 54], []⟩,
    ⟨none, .val 61 (.ext 1) [.t 54], []⟩,
    ⟨none, .val 4 .mov [.t 60], []⟩,
    ⟨none, .val 5 .mov [.t 61], []⟩]
def r9_6 : IC := (.reg o9_6 [1, 2, 3, 5])
def o9_7 : List IOp := [⟨none, .loadL 63 (.t 2) 3 true, []⟩,
    ⟨none, .val 64 .mov [.t 1], []⟩,
    ⟨none, .val 65 .mov [.t 3], []⟩,
    ⟨none, .val 66 (.iaddrS 3) [.t 64, .t 65], [1, 2]⟩,
    ⟨none, .load 67 (.t 66) 3 true, [1, 2, 3]⟩,
    ⟨none, .callP 68 16 [.t 63, .t 67], [0, 1, 2, 3, 4]⟩,
    ⟨none, .val 62 .mov [.t 68], [0, 1, 2, 3, 4, 5]⟩,
    ⟨none, .val 69 (.ext 0) [.t 62], [0, 1, 2, 3, 4, 5, 6]⟩,
    ⟨none, .val 70 (.ext 1) [.t 62], [0, 1, 2, 3, 4, 5, 6]⟩,
    ⟨none, .val 6 .mov [.t 69], [0, 1, 2, 3, 4, 5, 6, 7]⟩,
    ⟨none, .val 7 .mov [.t 70], [0, 1, 2, 3, 4, 5, 6, 7, 8, 9]⟩]
def r9_7 : IC := (.regD o9_7 [1, 2, 3, 5, 7])
def o9_8 : List IOp := [⟨none, .val 72 .mov [.t 1], []⟩,
    ⟨none, .val 73 .mov [.t 3], []⟩,
    ⟨none, .val 74 (.iaddrS 3) [.t 72, .t 73], [0, 1]⟩,
    ⟨none, .load 75 (.t 74) 3 true, [0, 1, 2]⟩,
    ⟨none, .loadL 76 (.t 2) 3 true, []⟩,
    ⟨none, .callP 77 16 [.t 75, .t 76], [0, 1, 2, 3, 4]⟩,
    ⟨none, .val 71 .mov [.t 77], [0, 1, 2, 3, 4, 5]⟩,
    ⟨none, .val 78 (.ext 0) [.t 71], [0, 1, 2, 3, 4, 5, 6]⟩,
    ⟨none, .val 79 (.ext 1) [.t 71], [0, 1, 2, 3, 4, 5, 6]⟩,
    ⟨none, .val 8 .mov [.t 78], [0, 1, 2, 3, 4, 5, 6, 7]⟩,
    ⟨none, .val 9 .mov [.t 79], [0, 1, 2, 3, 4, 5, 6, 7, 8, 9]⟩]
def r9_8 : IC := (.regD o9_8 [1, 2, 3, 5, 7, 9])
def o9_9 : List IOp := [⟨none, .loadL 81 (.t 2) 3 true, []⟩,
    ⟨none, .val 82 .mov [.t 1], []⟩,
    ⟨none, .val 83 .mov [.t 3], []⟩,
    ⟨none, .val 84 (.iaddrS 3) [.t 82, .t 83], [1, 2]⟩,
    ⟨none, .load 85 (.t 84) 3 true, [1, 2, 3]⟩,
    ⟨none, .callP 86 18 [.t 81, .t 85], [0, 1, 2, 3, 4]⟩,
    ⟨none, .val 80 .mov [.t 86], [0, 1, 2, 3, 4, 5]⟩,
    ⟨none, .val 87 (.ext 0) [.t 80], [0, 1, 2, 3, 4, 5, 6]⟩,
    ⟨none, .val 88 (.ext 1) [.t 80], [0, 1, 2, 3, 4, 5, 6]⟩,
    ⟨none, .val 89 (.ext 2) [.t 80], [0, 1, 2, 3, 4, 5, 6]⟩,
    ⟨none, .val 90 (.ext 3) [.t 80], [0, 1, 2, 3, 4, 5, 6]⟩,
    ⟨none, .val 10 .mov [.t 87], [0, 1, 2, 3, 4, 5, 6, 7]⟩,
    ⟨none, .val 11 .mov [.t 88], [0, 1, 2, 3, 4, 5, 6, 7, 8, 11]⟩,
    ⟨none, .val 12 .mov [.t 89], [0, 1, 2, 3, 4, 5, 6, 7, 8, 9, 11, 12]⟩,
    ⟨none, .val 13 .mov [.t 90], [0, 1, 2, 3, 4, 5, 6, 7, 8, 9, 10, 11, 12, 13]⟩]
def r9_9 : IC := (.regD o9_9 [1, 2, 3, 5, 7, 9, 13])
def o9_10 : List IOp := [⟨none, .val 92 .mov [.t 1], []⟩,
    ⟨none, .val 93 .mov [.t 3], []⟩,
    ⟨none, .val 94 (.iaddrS 3) [.t 92, .t 93], [0, 1]⟩,
    ⟨none, .load 95 (.t 94) 3 true, [0, 1, 2]⟩,
    ⟨none, .litP 96 3 [.t 95], [0, 1, 2, 3]⟩,
    ⟨none, .loadL 97 (.t 2) 3 true, []⟩,
    ⟨none, .callP 98 21 [.t 96, .t 97], [0, 1, 2, 3, 4, 5]⟩,
    ⟨none, .val 91 .mov [.t 98], [0, 1, 2, 3, 4, 5, 6]⟩,
    ⟨none, .val 99 (.ext 0) [.t 91], [0, 1, 2, 3, 4, 5, 6, 7]⟩,
    ⟨none, .val 100 (.ext 1) [.t 91], [0, 1, 2, 3, 4, 5, 6, 7]⟩,
    ⟨none, .val 14 .mov [.t 99], [0, 1, 2, 3, 4, 5, 6, 7, 8]⟩,
    ⟨none, .val 15 .mov [.t 100], [0, 1, 2, 3, 4, 5, 6, 7, 8, 9, 10]⟩]
def r9_10 : IC := (.regD o9_10 [1, 2, 3, 5, 7, 9, 13, 15])
def o9_11 : List IOp := [⟨none, .val 102 .mov [.t 1], []⟩,
    ⟨none, .val 103 .mov [.t 3], []⟩,
    ⟨none, .val 104 (.iaddrS 3) [.t 102, .t 103], []⟩,
    ⟨none, .load 105 (.t 104) 3 true, []⟩,
    ⟨none, .call (some 106) 21 [.k (.p (.sl 3 true [])), .t 105], []⟩,
    ⟨none, .val 101 .mov [.t 106], []⟩,
    ⟨none, .val 107 (.ext 0) [.t 101], []⟩,
    ⟨none, .val 108 (.ext 1) [.t 101], []⟩,
    ⟨none, .val 16 .mov [.t 107], []⟩,
    ⟨none, .val 17 .mov [.t 108], []⟩]
def r9_11 : IC := (.reg o9_11 [1, 2, 3, 5, 7, 9, 13, 15, 17])
def o9_12 : List IOp := [⟨none, .loadL 110 (.t 2) 3 true, []⟩,
    ⟨none, .val 111 .mov [.t 1], []⟩,
    ⟨none, .val 112 .mov [.t 3], []⟩,
    ⟨none, .val 113 (.iaddrS 3) [.t 111, .t 112], [1, 2]⟩,
    ⟨none, .load 114 (.t 113) 3 true, [1, 2, 3]⟩,
    ⟨none, .litP 115 3 [.t 110, .t 114], [0, 1, 2, 3, 4]⟩,
    ⟨none, .callP 116 23 [.t 115], [0, 1, 2, 3, 4, 5]⟩,
    ⟨none, .val 109 .mov [.t 116], [0, 1, 2, 3, 4, 5, 6]⟩,
    ⟨none, .val 117 (.ext 0) [.t 109], [0, 1, 2, 3, 4, 5, 6, 7]⟩,
    ⟨none, .val 118 (.ext 1) [.t 109], [0, 1, 2, 3, 4, 5, 6, 7]⟩,
    ⟨none, .val 18 .mov [.t 117], [0, 1, 2, 3, 4, 5, 6, 7, 8]⟩,
    ⟨none, .val 19 .mov [.t 118], [0, 1, 2, 3, 4, 5, 6, 7, 8, 9, 10]⟩]
def r9_12 : IC := (.regD o9_12 [1, 2, 3, 5, 7, 9, 13, 15, 17, 19])
def o9_13 : List IOp := [⟨none, .val 119 .mov [.t 1], []⟩,
    ⟨none, .val 120 .mov [.t 3], []⟩,
    ⟨none, .val 121 (.iaddrS 3) [.t 119, .t 120], []⟩,
    ⟨none, .load 122 (.t 121) 3 true, []⟩,
    ⟨none, .call (some 123) 13 [.t 122], []⟩,
    ⟨none, .val 124 (.bin .neq) [.t 123, .k (.p (.int .i64 330))], []⟩,
    ⟨none, .val 125 .mov [.t 124], []⟩,
    ⟨(some (125, false)), .val 126 .mov [.t 5], []⟩,
    ⟨(some (125, false)), .val 127 (.bin .neq) [.t 126, .k (.p (.int .i64 330))], []⟩,
    ⟨none, .val 128 .pick [.t 125, .k (.p (.bool true)), .t 127], []⟩,
    ⟨none, .val 129 .mov [.t 128], []⟩,
    ⟨(some (129, false)), .val 130 .mov [.t 7], []⟩,
    ⟨(some (129, false)), .val 131 (.bin .neq) [.t 130, .k (.p (.int .i64 330))], []⟩,
    ⟨none, .val 132 .pick [.t 129, .k (.p (.bool true)), .t 131], []⟩,
    ⟨none, .val 133 .mov [.t 132], []⟩,
    ⟨(some (133, false)), .val 134 .mov [.t 9], []⟩,
    ⟨(some (133, false)), .val 135 (.bin .neq) [.t 134, .k (.p (.int .i64 330))], []⟩,
    ⟨none, .val 136 .pick [.t 133, .k (.p (.bool true)), .t 135], []⟩,
    ⟨none, .val 137 .mov [.t 136], []⟩,
    ⟨(some (137, false)), .val 138 .mov [.t 13], []⟩,
    ⟨(some (137, false)), .val 139 (.bin .neq) [.t 138, .k (.p (.int .i64 330))], []⟩,
    ⟨none, .val 140 .pick [.t 137, .k (.p (.bool true)), .t 139], []⟩,
    ⟨none, .val 141 .mov [.t 140], []⟩,
    ⟨(some (141, false)), .val 142 .mov [.t 15], []⟩,
    ⟨(some (141, false)), .val 143 (.bin .neq) [.t 142, .k (.p (.int .i64 330))], []⟩,
    ⟨none, .val 144 .pick [.t 141, .k (.p (.bool true)), .t 143], []⟩,
    ⟨none, .val 145 .mov [.t 144], []⟩,
    ⟨(some (145, false)), .val 146 .mov [.t 17], []⟩,
    ⟨(some (145, false)), .val 147 (.bin .neq) [.t 146, .k (.p (.int .i64 330))], []⟩,
    ⟨none, .val 148 .pick [.t 145, .k (.p (.bool true)), .t 147], []⟩,
    ⟨none, .val 149 .mov [.t 148], []⟩,
    ⟨(some (149, false)), .val 150 .mov [.t 19], []⟩,
    ⟨(some (149, false)), .val 151 (.bin .neq) [.t 150, .k (.p (.int .i64 330))], []⟩,
    ⟨none, .val 152 .pick [.t 149, .k (.p (.bool true)), .t 151], []⟩]
def r9_13 : IC := (.reg o9_13 [1, 2, 3, 152])
def o9_14 : List IOp := [⟨none, .val 0 .mov [.k (.p (.bool false))], []⟩]
def r9_14 : IC := (.reg o9_14 [0])
def o9_5 : List IOp := [⟨none, .val 52 .mov [.t 3], []⟩,
    ⟨none, .val 53 (.bin .add) [.t 52, .k (.p (.int .i64 1))], []⟩,
    ⟨none, .val 3 .mov [.t 53], []⟩]
def r9_5 : IC := (.reg o9_5 [1, 2, 3])
def l9_1 : IC := (.seq (.seq r9_4 (.cond (.t 51) .skip (.exit 0))) (.kp [1, 2, 3] (.seq (.block 1 (.seq r9_6 (.seq r9_7 (.seq r9_8 (.seq r9_9 (.seq r9_10 (.seq r9_11 (.seq r9_12 (.seq r9_13 (.cond (.t 152) (.seq r9_14 .ret) .skip)))))))))) (.kp [1, 2, 3] r9_5))))
def o9_15 : List IOp := [⟨none, .mkSl 153 (.k (.p (.int .i64 33))) (.k (.p (.int .i64 33))) [.int .i64 0, .int .i64 0, .int .i64 0] 24, []⟩,
    ⟨none, .val 20 .mov [.t 153], []⟩]
def r9_15 : IC := (.reg o9_15 [1, 2, 20])
def o9_16 : List IOp := [⟨none, .val 155 .mov [.t 20], []⟩,
    ⟨none, .val 156 .mov [.t 1], []⟩,
    ⟨none, .val 157 (.iaddrS 3) [.t 156, .k (.p (.int .i64 0))], []⟩,
    ⟨none, .load 158 (.t 157) 3 true, []⟩,
    ⟨none, .call (some 159) 21 [.t 155, .t 158], []⟩,
    ⟨none, .val 154 .mov [.t 159], []⟩,
    ⟨none, .val 160 (.ext 0) [.t 154], []⟩,
    ⟨none, .val 161 (.ext 1) [.t 154], []⟩,
    ⟨none, .val 21 .mov [.t 160], []⟩,
    ⟨none, .val 22 .mov [.t 161], []⟩]
def r9_16 : IC := (.reg o9_16 [2, 20, 22])
def o9_17 : List IOp := [⟨none, .val 163 .mov [.t 20], []⟩,
    ⟨none, .call (some 164) 23 [.t 163], []⟩,
    ⟨none, .val 162 .mov [.t 164], []⟩,
    ⟨none, .val 165 (.ext 0) [.t 162], []⟩,
    ⟨none, .val 166 (.ext 1) [.t 162], []⟩,
    ⟨none, .val 23 .mov [.t 165], []⟩,
    ⟨none, .val 24 .mov [.t 166], []⟩]
def r9_17 : IC := (.reg o9_17 [2, 22, 24])
def o9_18 : List IOp := [⟨none, .load 168 (.t 2) 3 true, []⟩,
    ⟨none, .call (some 169) 11 [.t 168, .k (.p (.int .i64 1099511627777))], []⟩,
    ⟨none, .val 167 .mov [.t 169], []⟩,
    ⟨none, .val 170 (.ext 0) [.t 167], []⟩,
    ⟨none, .val 171 (.ext 1) [.t 167], []⟩,
    ⟨none, .val 25 .mov [.t 170], []⟩,
    ⟨none, .val 26 .mov [.t 171], []⟩]
def r9_18 : IC := (.reg o9_18 [2, 22, 24, 26])
def o9_19 : List IOp := [⟨none, .load 173 (.t 2) 3 true, []⟩,
    ⟨none, .call (some 174) 11 [.t 173, .k (.p (.int .i64 (-1099511627777)))], []⟩,
    ⟨none, .val 172 .mov [.t 174], []⟩,
    ⟨none, .val 175 (.ext 0) [.t 172], []⟩,
    ⟨none, .val 176 (.ext 1) [.t 172], []⟩,
    ⟨none, .val 27 .mov [.t 175], []⟩,
    ⟨none, .val 28 .mov [.t 176], []⟩]
def r9_19 : IC := (.reg o9_19 [2, 22, 24, 26, 28])
def o9_20 : List IOp := [⟨none, .call (some 178) 29 [.k (.p (.int .i64 31)), .k (.p (.int .i64 0)), .k (.p (.int .i64 1))], []⟩,
    ⟨none, .call (some 179) 29 [.k (.p (.int .i64 32)), .k (.p (.int .i64 0)), .k (.p (.int .i64 1))], []⟩,
    ⟨none, .litP 180 3 [.t 178, .t 179], []⟩,
    ⟨none, .call (some 181) 23 [.t 180], []⟩,
    ⟨none, .val 177 .mov [.t 181], []⟩,
    ⟨none, .val 182 (.ext 0) [.t 177], []⟩,
    ⟨none, .val 183 (.ext 1) [.t 177], []⟩,
    ⟨none, .val 29 .mov [.t 182], []⟩,
    ⟨none, .val 30 .mov [.t 183], []⟩]
def r9_20 : IC := (.reg o9_20 [2, 22, 24, 26, 28, 30])
def o9_21 : List IOp := [⟨none, .call (some 185) 29 [.k (.p (.int .i64 960)), .k (.p (.int .i64 0)), .k (.p (.int .i64 1))], []⟩,
    ⟨none, .call (some 186) 29 [.k (.p (.int .i64 64)), .k (.p (.int .i64 0)), .k (.p (.int .i64 1))], []⟩,
    ⟨none, .call (some 187) 29 [.k (.p (.int .i64 15)), .k (.p (.int .i64 0)), .k (.p (.int .i64 1))], []⟩,
    ⟨none, .litP 188 3 [.t 185, .t 186, .t 187], []⟩,
    ⟨none, .call (some 189) 23 [.t 188], []⟩,
    ⟨none, .val 184 .mov [.t 189], []⟩,
    ⟨none, .val 190 (.ext 0) [.t 184], []⟩,
    ⟨none, .val 191 (.ext 1) [.t 184], []⟩,
    ⟨none, .val 31 .mov [.t 190], []⟩,
    ⟨none, .val 32 .mov [.t 191], []⟩]
def r9_21 : IC := (.reg o9_21 [2, 22, 24, 26, 28, 30, 31, 32])
def o9_22 : List IOp := [⟨none, .call (some 193) 29 [.k (.p (.int .i64 7)), .k (.p (.int .i64 6)), .k (.p (.int .i64 7))], []⟩,
    ⟨none, .call (some 194) 21 [.k (.p (.sl 3 true [])), .t 193], []⟩,
    ⟨none, .val 192 .mov [.t 194], []⟩,
    ⟨none, .val 195 (.ext 0) [.t 192], []⟩,
    ⟨none, .val 196 (.ext 1) [.t 192], []⟩,
    ⟨none, .val 33 .mov [.t 195], []⟩,
    ⟨none, .val 34 .mov [.t 196], []⟩]
def r9_22 : IC := (.reg o9_22 [2, 22, 24, 26, 28, 30, 31, 32, 33, 34])
def o9_23 : List IOp := [⟨none, .call (some 198) 29 [.k (.p (.int .i64 7)), .k (.p (.int .i64 0)), .k (.p (.int .i64 1))], []⟩,
    ⟨none, .litP 199 3 [.t 198], []⟩,
    ⟨none, .call (some 200) 29 [.k (.p (.int .i64 7)), .k (.p (.int .i64 0)), .k (.p (.int .i64 7))], []⟩,
    ⟨none, .call (some 201) 21 [.t 199, .t 200], []⟩,
    ⟨none, .val 197 .mov [.t 201], []⟩,
    ⟨none, .val 202 (.ext 0) [.t 197], []⟩,
    ⟨none, .val 203 (.ext 1) [.t 197], []⟩,
    ⟨none, .val 35 .mov [.t 202], []⟩,
    ⟨none, .val 36 .mov [.t 203], []⟩]
def r9_23 : IC := (.reg o9_23 [2, 22, 24, 26, 28, 30, 31, 32, 33, 34, 36])
def o9_24 : List IOp := [⟨none, .call (some 205) 29 [.k (.p (.int .i64 7)), .k (.p (.int .i64 0)), .k (.p (.int .i64 1))], []⟩,
    ⟨none, .call (some 206) 29 [.k (.p (.int .i64 7)), .k (.p (.int .i64 2)), .k (.p (.int .i64 1))], []⟩,
    ⟨none, .litP 207 3 [.t 205, .t 206], []⟩,
    ⟨none, .call (some 208) 29 [.k (.p (.int .i64 7)), .k (.p (.int .i64 0)), .k (.p (.int .i64 2))], []⟩,
    ⟨none, .call (some 209) 21 [.t 207, .t 208], []⟩,
    ⟨none, .val 204 .mov [.t 209], []⟩,
    ⟨none, .val 210 (.ext 0) [.t 204], []⟩,
    ⟨none, .val 211 (.ext 1) [.t 204], []⟩,
    ⟨none, .val 37 .mov [.t 210], []⟩,
    ⟨none, .val 38 .mov [.t 211], []⟩]
def r9_24 : IC := (.reg o9_24 [2, 22, 24, 26, 28, 30, 31, 32, 33, 34, 36, 37, 38])
def o9_25 : List IOp := [⟨none, .val 212 .mov [.k (.p (.bool true))], []⟩,
    ⟨(some (212, true)), .call (some 213) 15 [], []⟩,
    ⟨none, .val 214 .pick [.t 212, .t 213, .k (.p (.bool false))], []⟩,
    ⟨none, .val 215 .mov [.t 214], []⟩,
    ⟨(some (215, true)), .load 216 (.t 2) 3 true, []⟩,
    ⟨(some (215, true)), .call (some 217) 13 [.t 216], []⟩,
    ⟨(some (215, true)), .val 218 (.bin .eql) [.t 217, .k (.p (.int .i64 0))], []⟩,
    ⟨none, .val 219 .pick [.t 215, .t 218, .k (.p (.bool false))], []⟩,
    ⟨none, .val 220 .mov [.t 219], []⟩,
    ⟨(some (220, true)), .val 221 .mov [.t 22], []⟩,
    ⟨(some (220, true)), .val 222 (.bin .eql) [.t 221, .k (.p (.int .i64 3))], []⟩,
    ⟨none, .val 223 .pick [.t 220, .t 222, .k (.p (.bool false))], []⟩,
    ⟨none, .val 224 .mov [.t 223], []⟩,
    ⟨(some (224, true)), .val 225 .mov [.t 24], []⟩,
    ⟨(some (224, true)), .val 226 (.bin .eql) [.t 225, .k (.p (.int .i64 3))], []⟩,
    ⟨none, .val 227 .pick [.t 224, .t 226, .k (.p (.bool false))], []⟩,
    ⟨none, .val 228 .mov [.t 227], []⟩,
    ⟨(some (228, true)), .val 229 .mov [.t 26], []⟩,
    ⟨(some (228, true)), .val 230 (.bin .eql) [.t 229, .k (.p (.int .i64 2))], []⟩,
    ⟨none, .val 231 .pick [.t 228, .t 230, .k (.p (.bool false))], []⟩,
    ⟨none, .val 232 .mov [.t 231], []⟩,
    ⟨(some (232, true)), .val 233 .mov [.t 28], []⟩,
    ⟨(some (232, true)), .val 234 (.bin .eql) [.t 233, .k (.p (.int .i64 2))], []⟩,
    ⟨none, .val 235 .pick [.t 232, .t 234, .k (.p (.bool false))], []⟩,
    ⟨none, .val 236 .mov [.t 235], []⟩,
    ⟨(some (236, true)), .val 237 .mov [.t 30], []⟩,
    ⟨(some (236, true)), .val 238 (.bin .eql) [.t 237, .k (.p (.int .i64 6))], []⟩,
    ⟨none, .val 239 .pick [.t 236, .t 238, .k (.p (.bool false))], []⟩,
    ⟨none, .val 240 .mov [.t 239], []⟩,
    ⟨(some (240, true)), .val 241 .mov [.t 31], []⟩,
    ⟨(some (240, true)), .val 242 (.bin .eql) [.t 241, .k (.p (.int .i64 960))], []⟩,
    ⟨none, .val 243 .pick [.t 240, .t 242, .k (.p (.bool false))], []⟩,
    ⟨none, .val 244 .mov [.t 243], []⟩,
    ⟨(some (244, true)), .val 245 .mov [.t 32], []⟩,
    ⟨(some (244, true)), .val 246 (.bin .eql) [.t 245, .k (.p (.int .i64 0))], []⟩,
    ⟨none, .val 247 .pick [.t 244, .t 246, .k (.p (.bool false))], []⟩,
    ⟨none, .val 248 .mov [.t 247], []⟩,
    ⟨(some (248, true)), .val 249 .mov [.t 33], []⟩,
    ⟨(some (248, true)), .val 250 (.bin .eql) [.t 249, .k (.p (.int .i64 0))], []⟩,
    ⟨none, .val 251 .pick [.t 248, .t 250, .k (.p (.bool false))], []⟩,
    ⟨none, .val 252 .mov [.t 251], []⟩,
    ⟨(some (252, true)), .val 253 .mov [.t 34], []⟩,
    ⟨(some (252, true)), .val 254 (.bin .eql) [.t 253, .k (.p (.int .i64 0))], []⟩,
    ⟨none, .val 255 .pick [.t 252, .t 254, .k (.p (.bool false))], []⟩,
    ⟨none, .val 256 .mov [.t 255], []⟩,
    ⟨(some (256, true)), .val 257 .mov [.t 36], []⟩,
    ⟨(some (256, true)), .val 258 (.bin .eql) [.t 257, .k (.p (.int .i64 4))], []⟩,
    ⟨none, .val 259 .pick [.t 256, .t 258, .k (.p (.bool false))], []⟩,
    ⟨none, .val 260 .mov [.t 259], []⟩,
    ⟨(some (260, true)), .val 261 .mov [.t 37], []⟩,
    ⟨(some (260, true)), .val 262 (.bin .eql) [.t 261, .k (.p (.int .i64 3))], []⟩,
    ⟨none, .val 263 .pick [.t 260, .t 262, .k (.p (.bool false))], []⟩,
    ⟨none, .val 264 .mov [.t 263], []⟩,
    ⟨(some (264, true)), .val 265 .mov [.t 38], []⟩,
    ⟨(some (264, true)), .val 266 (.bin .eql) [.t 265, .k (.p (.int .i64 0))], []⟩,
    ⟨none, .val 267 .pick [.t 264, .t 266, .k (.p (.bool false))], []⟩,
    ⟨none, .val 268 .mov [.t 267], []⟩,
    ⟨(some (268, true)), .load 269 (.t 2) 3 true, []⟩,
    ⟨(some (268, true)), .call (some 270) 25 [.t 269, .k (.p (.int .i64 1099511627776))], []⟩,
    ⟨none, .val 271 .pick [.t 268, .t 270, .k (.p (.bool false))], []⟩,
    ⟨none, .val 272 .mov [.t 271], []⟩,
    ⟨(some (272, true)), .call (some 273) 29 [.k (.p (.int .i64 3)), .k (.p (.int .i64 0)), .k (.p (.int .i64 1))], []⟩,
    ⟨(some (272, true)), .call (some 274) 25 [.t 273, .k (.p (.int .i64 (-3)))], []⟩,
    ⟨none, .val 275 .pick [.t 272, .t 274, .k (.p (.bool false))], []⟩,
    ⟨none, .val 276 .mov [.t 275], []⟩,
    ⟨(some (276, true)), .call (some 277) 29 [.k (.p (.int .i64 3)), .k (.p (.int .i64 0)), .k (.p (.int .i64 1))], []⟩,
    ⟨(some (276, true)), .call (some 278) 25 [.t 277, .k (.p (.int .i64 (-1)))], []⟩,
    ⟨(some (276, true)), .val 279 .not [.t 278], []⟩,
    ⟨none, .val 280 .pick [.t 276, .t 279, .k (.p (.bool false))], []⟩,
    ⟨none, .val 0 .mov [.t 280], []⟩]
def r9_25 : IC := (.reg o9_25 [0])
def b9 : IC := (.seq r9_0 (.seq r9_1 (.seq r9_2 (.seq (.seq r9_3 (.block 0 (.loop l9_1))) (.seq r9_15 (.seq r9_16 (.seq r9_17 (.seq r9_18 (.seq r9_19 (.seq r9_20 (.seq r9_21 (.seq r9_22 (.seq r9_23 (.seq r9_24 (.seq r9_25 .ret)))))))))))))))
def i9 : IFn := ⟨0, 281, b9, [.tmp 0]⟩
/- isochronref23.Of -/
def o10_0 : List IOp := [⟨none, .newL 6 [.p (.int .i64 0), .p (.int .i64 0), .p (.int .i64 0)], []⟩]
def r10_0 : IC := (.reg o10_0 [0, 1, 2, 6])
def o10_1 : List IOp := [⟨none, .val 8 .mov [.t 0], []⟩,
    ⟨none, .val 9 (.bin .rem) [.t 8, .k (.p (.int .u8 48))], []⟩,
    ⟨none, .val 10 (.conv .i64) [.t 9], []⟩,
    ⟨none, .val 11 (.bin .add) [.k (.p (.int .i64 1)), .t 10], []⟩,
    ⟨none, .val 7 .mov [.t 11], []⟩]
def r10_1 : IC := (.reg o10_1 [1, 2, 6, 7])
def o10_2 : List IOp := [⟨none, .val 12 .mov [.t 7], []⟩,
    ⟨none, .val 13 .mov [.t 1], []⟩,
    ⟨none, .val 14 (.conv .i64) [.t 13], [1]⟩,
    ⟨none, .val 15 .mov [.t 7], []⟩,
    ⟨none, .val 16 (.bin .rem) [.t 14, .t 15], [1, 2, 3]⟩,
    ⟨none, .val 17 .mov [.t 2], []⟩,
    ⟨none, .val 18 (.conv .i64) [.t 17], [5]⟩,
    ⟨none, .val 19 .mov [.t 7], []⟩,
    ⟨none, .val 20 (.bin .rem) [.t 18, .t 19], [5, 6, 7]⟩,
    ⟨none, .val 21 (.bin .add) [.k (.p (.int .i64 1)), .t 20], [5, 6, 7, 8]⟩,
    ⟨none, .val 22 (.build [.p (.int .i64 0), .p (.int .i64 0), .p (.int .i64 0)] [(0, 1), (1, 1), (2, 1)]) [.t 12, .t 16, .t 21], [0, 1, 2, 3, 4, 5, 6, 7, 8, 9]⟩,
    ⟨none, .store (.t 6) (.t 22) 3, [0, 1, 2, 3, 4, 5, 6, 7, 8, 9, 10]⟩]
def r10_2 : IC := (.regD o10_2 [6])
def b10 : IC := (.seq r10_0 (.seq r10_1 (.seq r10_2 .ret)))
def i10 : IFn := ⟨3, 23, b10, [.cell 6 3 true]⟩
/- residue.Covers -/
def o11_0 : List IOp := [⟨none, .boxL 2 (.t 0), []⟩,
    ⟨none, .val 4 .mov [.k (.p (.bool false))], []⟩,
    ⟨none, .val 5 .mov [.k (.p (.int .i64 0))], []⟩]
def r11_0 : IC := (.reg o11_0 [1, 2])
def o11_1 : List IOp := [⟨none, .load 7 (.t 2) 3 true, []⟩,
    ⟨none, .call (some 8) 13 [.t 7], []⟩,
    ⟨none, .val 6 .mov [.t 8], []⟩]
def r11_1 : IC := (.reg o11_1 [1, 2, 6])
def o11_2 : List IOp := [⟨none, .val 9 .mov [.t 6], []⟩,
    ⟨none, .val 10 (.bin .neq) [.t 9, .k (.p (.int .i64 0))], []⟩]
def r11_2 : IC := (.reg o11_2 [1, 2, 6, 10])
def o11_3 : List IOp := [⟨none, .val 11 .mov [.t 6], []⟩,
    ⟨none, .val 4 .mov [.k (.p (.bool false))], []⟩,
    ⟨none, .val 5 .mov [.t 11], []⟩]
def r11_3 : IC := (.reg o11_3 [4, 5])
def o11_4 : List IOp := [⟨none, .val 12 .mov [.t 1], []⟩,
    ⟨none, .val 13 (.bin .lss) [.t 12, .k (.p (.int .i64 (-1099511627776)))], []⟩,
    ⟨none, .val 14 .mov [.t 13], []⟩,
    ⟨(some (14, false)), .val 15 .mov [.t 1], []⟩,
    ⟨(some (14, false)), .val 16 (.bin .gtr) [.t 15, .k (.p (.int .i64 1099511627776))], []⟩,
    ⟨none, .val 17 .pick [.t 14, .k (.p (.bool true)), .t 16], []⟩]
def r11_4 : IC := (.reg o11_4 [1, 2, 17])
def o11_5 : List IOp := [⟨none, .val 4 .mov [.k (.p (.bool false))], []⟩,
    ⟨none, .val 5 .mov [.k (.p (.int .i64 2))], []⟩]
def r11_5 : IC := (.reg o11_5 [4, 5])
def o11_6 : List IOp := [⟨none, .val 18 .mov [.t 1], []⟩,
    ⟨none, .val 19 (.faddr 1) [.t 2], []⟩,
    ⟨none, .loadL 20 (.t 19) 1 false, [1]⟩,
    ⟨none, .val 21 (.bin .sub) [.t 18, .t 20], [0, 1, 2]⟩,
    ⟨none, .val 22 (.faddr 0) [.t 2], []⟩,
    ⟨none, .loadL 23 (.t 22) 1 false, [4]⟩,
    ⟨none, .callP 24 30 [.t 21, .t 23], [0, 1, 2, 3, 4, 5]⟩,
    ⟨none, .val 25 (.faddr 2) [.t 2], []⟩,
    ⟨none, .loadL 26 (.t 25) 1 false, [7]⟩,
    ⟨none, .val 27 (.bin .lss) [.t 24, .t 26], [0, 1, 2, 3, 4, 5, 6, 7, 8]⟩,
    ⟨none, .val 4 .mov [.t 27], [0, 1, 2, 3, 4, 5, 6, 7, 8, 9]⟩,
    ⟨none, .val 5 .mov [.k (.p (.int .i64 0))], [0, 1, 2, 3, 4, 5, 6, 7, 8, 9, 10]⟩]
def r11_6 : IC := (.regD o11_6 [4, 5])
def b11 : IC := (.seq r11_0 (.seq (.seq r11_1 (.seq r11_2 (.cond (.t 10) (.seq r11_3 .ret) .skip))) (.kp [1, 2] (.seq (.seq r11_4 (.cond (.t 17) (.seq r11_5 .ret) .skip)) (.kp [1, 2] (.seq r11_6 .ret))))))
def i11 : IFn := ⟨2, 28, b11, [.tmp 4, .tmp 5]⟩
/- isochronref23.Covers -/
def o12_0 : List IOp := [⟨none, .boxL 2 (.t 0), []⟩,
    ⟨none, .val 4 .mov [.k (.p (.bool false))], []⟩,
    ⟨none, .val 5 .mov [.k (.p (.int .i64 0))], []⟩]
def r12_0 : IC := (.reg o12_0 [1, 2])
def o12_1 : List IOp := [⟨none, .load 6 (.t 2) 3 true, []⟩,
    ⟨none, .call (some 7) 31 [.t 6], []⟩,
    ⟨none, .val 8 .not [.t 7], []⟩]
def r12_1 : IC := (.reg o12_1 [1, 2, 8])
def o12_2 : List IOp := [⟨none, .val 4 .mov [.k (.p (.bool false))], []⟩,
    ⟨none, .val 5 .mov [.k (.p (.int .i64 330))], []⟩]
def r12_2 : IC := (.reg o12_2 [4, 5])
def o12_3 : List IOp := [⟨none, .val 9 .mov [.t 1], []⟩,
    ⟨none, .val 10 (.bin .lss) [.t 9, .k (.p (.int .i64 (-1099511627776)))], []⟩,
    ⟨none, .val 11 .mov [.t 10], []⟩,
    ⟨(some (11, false)), .val 12 .mov [.t 1], []⟩,
    ⟨(some (11, false)), .val 13 (.bin .gtr) [.t 12, .k (.p (.int .i64 1099511627776))], []⟩,
    ⟨none, .val 14 .pick [.t 11, .k (.p (.bool true)), .t 13], []⟩]
def r12_3 : IC := (.reg o12_3 [1, 2, 14])
def o12_4 : List IOp := [⟨none, .val 4 .mov [.k (.p (.bool false))], []⟩,
    ⟨none, .val 5 .mov [.k (.p (.int .i64 2))], []⟩]
def r12_4 : IC := (.reg o12_4 [4, 5])
def o12_5 : List IOp := [⟨none, .val 15 .mov [.t 1], []⟩,
    ⟨none, .val 16 (.faddr 1) [.t 2], []⟩,
    ⟨none, .loadL 17 (.t 16) 1 false, [1]⟩,
    ⟨none, .val 18 (.bin .sub) [.t 15, .t 17], [0, 1, 2]⟩,
    ⟨none, .val 19 (.faddr 0) [.t 2], []⟩,
    ⟨none, .loadL 20 (.t 19) 1 false, [4]⟩,
    ⟨none, .callP 21 28 [.t 18, .t 20], [0, 1, 2, 3, 4, 5]⟩,
    ⟨none, .val 22 (.faddr 2) [.t 2], []⟩,
    ⟨none, .loadL 23 (.t 22) 1 false, [7]⟩,
    ⟨none, .val 24 (.bin .lss) [.t 21, .t 23], [0, 1, 2, 3, 4, 5, 6, 7, 8]⟩,
    ⟨none, .val 4 .mov [.t 24], [0, 1, 2, 3, 4, 5, 6, 7, 8, 9]⟩,
    ⟨none, .val 5 .mov [.k (.p (.int .i64 0))], [0, 1, 2, 3, 4, 5, 6, 7, 8, 9, 10]⟩]
def r12_5 : IC := (.regD o12_5 [4, 5])
def b12 : IC := (.seq r12_0 (.seq (.seq r12_1 (.cond (.t 8) (.seq r12_2 .ret) .skip)) (.kp [1, 2] (.seq (.seq r12_3 (.cond (.t 14) (.seq r12_4 .ret) .skip)) (.kp [1, 2] (.seq r12_5 .ret))))))
def i12 : IFn := ⟨2, 25, b12, [.tmp 4, .tmp 5]⟩
/- residue.Check -/
def o13_0 : List IOp := [⟨none, .boxL 1 (.t 0), []⟩,
    ⟨none, .val 2 .mov [.k (.p (.int .i64 0))], []⟩]
def r13_0 : IC := (.reg o13_0 [1])
def o13_1 : List IOp := [⟨none, .val 3 (.faddr 0) [.t 1], []⟩,
    ⟨none, .load 4 (.t 3) 1 false, []⟩,
    ⟨none, .val 5 (.bin .lss) [.t 4, .k (.p (.int .i64 1))], []⟩,
    ⟨none, .val 6 .mov [.t 5], []⟩,
    ⟨(some (6, false)), .val 7 (.faddr 0) [.t 1], []⟩,
    ⟨(some (6, false)), .load 8 (.t 7) 1 false, []⟩,
    ⟨(some (6, false)), .val 9 (.bin .gtr) [.t 8, .k (.p (.int .i64 960))], []⟩,
    ⟨none, .val 10 .pick [.t 6, .k (.p (.bool true)), .t 9], []⟩,
    ⟨none, .val 11 .mov [.t 10], []⟩,
    ⟨(some (11, false)), .val 12 (.faddr 1) [.t 1], []⟩,
    ⟨(some (11, false)), .load 13 (.t 12) 1 false, []⟩,
    ⟨(some (11, false)), .val 14 (.bin .lss) [.t 13, .k (.p (.int .i64 0))], []⟩,
    ⟨none, .val 15 .pick [.t 11, .k (.p (.bool true)), .t 14], []⟩,
    ⟨none, .val 16 .mov [.t 15], []⟩,
    ⟨(some (16, false)), .val 17 (.faddr 1) [.t 1], []⟩,
    ⟨(some (16, false)), .load 18 (.t 17) 1 false, []⟩,
    ⟨(some (16, false)), .val 19 (.faddr 0) [.t 1], []⟩,
    ⟨(some (16, false)), .load 20 (.t 19) 1 false, []⟩,
    ⟨(some (16, false)), .val 21 (.bin .geq) [.t 18, .t 20], []⟩,
    ⟨none, .val 22 .pick [.t 16, .k (.p (.bool true)), .t 21], []⟩]
def r13_1 : IC := (.reg o13_1 [1, 22])
def o13_2 : List IOp := [⟨none, .val 2 .mov [.k (.p (.int .i64 330))], []⟩]
def r13_2 : IC := (.reg o13_2 [2])
def o13_3 : List IOp := [⟨none, .val 23 (.faddr 2) [.t 1], []⟩,
    ⟨none, .load 24 (.t 23) 1 false, []⟩,
    ⟨none, .val 25 (.bin .lss) [.t 24, .k (.p (.int .i64 1))], []⟩,
    ⟨none, .val 26 .mov [.t 25], []⟩,
    ⟨(some (26, false)), .val 27 (.faddr 2) [.t 1], []⟩,
    ⟨(some (26, false)), .load 28 (.t 27) 1 false, []⟩,
    ⟨(some (26, false)), .val 29 (.faddr 0) [.t 1], []⟩,
    ⟨(some (26, false)), .load 30 (.t 29) 1 false, []⟩,
    ⟨(some (26, false)), .val 31 (.bin .gtr) [.t 28, .t 30], []⟩,
    ⟨none, .val 32 .pick [.t 26, .k (.p (.bool true)), .t 31], []⟩]
def r13_3 : IC := (.reg o13_3 [32])
def o13_4 : List IOp := [⟨none, .val 2 .mov [.k (.p (.int .i64 330))], []⟩]
def r13_4 : IC := (.reg o13_4 [2])
def o13_5 : List IOp := [⟨none, .val 2 .mov [.k (.p (.int .i64 0))], []⟩]
def r13_5 : IC := (.reg o13_5 [2])
def b13 : IC := (.seq r13_0 (.seq (.seq r13_1 (.cond (.t 22) (.seq r13_2 .ret) .skip)) (.kp [1] (.seq (.seq r13_3 (.cond (.t 32) (.seq r13_4 .ret) .skip)) (.kp [] (.seq r13_5 .ret))))))
def i13 : IFn := ⟨1, 33, b13, [.tmp 2]⟩
/- isochronref23.Check -/
def o14_0 : List IOp := [⟨none, .boxL 1 (.t 0), []⟩,
    ⟨none, .val 2 .mov [.k (.p (.int .i64 0))], []⟩]
def r14_0 : IC := (.reg o14_0 [1])
def o14_1 : List IOp := [⟨none, .load 3 (.t 1) 3 true, []⟩,
    ⟨none, .call (some 4) 31 [.t 3], []⟩]
def r14_1 : IC := (.reg o14_1 [4])
def o14_2 : List IOp := [⟨none, .val 2 .mov [.k (.p (.int .i64 0))], []⟩]
def r14_2 : IC := (.reg o14_2 [2])
def o14_3 : List IOp := [⟨none, .val 2 .mov [.k (.p (.int .i64 330))], []⟩]
def r14_3 : IC := (.reg o14_3 [2])
def b14 : IC := (.seq r14_0 (.seq (.seq r14_1 (.cond (.t 4) (.seq r14_2 .ret) .skip)) (.kp [] (.seq r14_3 .ret))))
def i14 : IFn := ⟨1, 5, b14, [.tmp 2]⟩
/- isochronlaw23.works -/
def o15_0 : List IOp := [⟨none, .val 0 .mov [.k (.p (.bool false))], []⟩]
def r15_0 : IC := (.reg o15_0 [])
def o15_1 : List IOp := [⟨none, .call (some 20) 29 [.k (.p (.int .i64 4)), .k (.p (.int .i64 0)), .k (.p (.int .i64 2))], []⟩,
    ⟨none, .call (some 21) 29 [.k (.p (.int .i64 6)), .k (.p (.int .i64 0)), .k (.p (.int .i64 1))], []⟩,
    ⟨none, .call (some 22) 18 [.t 20, .t 21], []⟩,
    ⟨none, .val 19 .mov [.t 22], []⟩,
    ⟨none, .val 23 (.ext 0) [.t 19], []⟩,
    ⟨none, .val 24 (.ext 1) [.t 19], []⟩,
    ⟨none, .val 25 (.ext 2) [.t 19], []⟩,
    ⟨none, .val 26 (.ext 3) [.t 19], []⟩,
    ⟨none, .val 1 .mov [.t 23], []⟩,
    ⟨none, .val 2 .mov [.t 24], []⟩,
    ⟨none, .val 3 .mov [.t 25], []⟩,
    ⟨none, .val 4 .mov [.t 26], []⟩]
def r15_1 : IC := (.reg o15_1 [4])
def o15_2 : List IOp := [⟨none, .call (some 28) 29 [.k (.p (.int .i64 12)), .k (.p (.int .i64 0)), .k (.p (.int .i64 3))], []⟩,
    ⟨none, .call (some 29) 29 [.k (.p (.int .i64 12)), .k (.p (.int .i64 5)), .k (.p (.int .i64 2))], []⟩,
    ⟨none, .litP 30 3 [.t 28, .t 29], []⟩,
    ⟨none, .call (some 31) 29 [.k (.p (.int .i64 12)), .k (.p (.int .i64 1)), .k (.p (.int .i64 2))], []⟩,
    ⟨none, .call (some 32) 21 [.t 30, .t 31], []⟩,
    ⟨none, .val 27 .mov [.t 32], []⟩,
    ⟨none, .val 33 (.ext 0) [.t 27], []⟩,
    ⟨none, .val 34 (.ext 1) [.t 27], []⟩,
    ⟨none, .val 5 .mov [.t 33], []⟩,
    ⟨none, .val 6 .mov [.t 34], []⟩]
def r15_2 : IC := (.reg o15_2 [4, 5, 6])
def o15_3 : List IOp := [⟨none, .call (some 36) 29 [.k (.p (.int .i64 4)), .k (.p (.int .i64 0)), .k (.p (.int .i64 1))], []⟩,
    ⟨none, .litP 37 3 [.t 36], []⟩,
    ⟨none, .call (some 38) 29 [.k (.p (.int .i64 6)), .k (.p (.int .i64 0)), .k (.p (.int .i64 1))], []⟩,
    ⟨none, .call (some 39) 21 [.t 37, .t 38], []⟩,
    ⟨none, .val 35 .mov [.t 39], []⟩,
    ⟨none, .val 40 (.ext 0) [.t 35], []⟩,
    ⟨none, .val 41 (.ext 1) [.t 35], []⟩,
    ⟨none, .val 7 .mov [.t 40], []⟩,
    ⟨none, .val 8 .mov [.t 41], []⟩]
def r15_3 : IC := (.reg o15_3 [4, 5, 6, 7, 8])
def o15_4 : List IOp := [⟨none, .call (some 43) 29 [.k (.p (.int .i64 4)), .k (.p (.int .i64 0)), .k (.p (.int .i64 2))], []⟩,
    ⟨none, .litP 44 3 [.t 43], []⟩,
    ⟨none, .call (some 45) 29 [.k (.p (.int .i64 6)), .k (.p (.int .i64 0)), .k (.p (.int .i64 1))], []⟩,
    ⟨none, .call (some 46) 21 [.t 44, .t 45], []⟩,
    ⟨none, .val 42 .mov [.t 46], []⟩,
    ⟨none, .val 47 (.ext 0) [.t 42], []⟩,
    ⟨none, .val 48 (.ext 1) [.t 42], []⟩,
    ⟨none, .val 9 .mov [.t 47], []⟩,
    ⟨none, .val 10 .mov [.t 48], []⟩]
def r15_4 : IC := (.reg o15_4 [4, 5, 6, 7, 8, 10])
def o15_5 : List IOp := [⟨none, .call (some 50) 29 [.k (.p (.int .i64 4)), .k (.p (.int .i64 0)), .k (.p (.int .i64 1))], []⟩,
    ⟨none, .call (some 51) 29 [.k (.p (.int .i64 6)), .k (.p (.int .i64 0)), .k (.p (.int .i64 1))], []⟩,
    ⟨none, .litP 52 3 [.t 50, .t 51], []⟩,
    ⟨none, .call (some 53) 23 [.t 52], []⟩,
    ⟨none, .val 49 .mov [.t 53], []⟩,
    ⟨none, .val 54 (.ext 0) [.t 49], []⟩,
    ⟨none, .val 55 (.ext 1) [.t 49], []⟩,
    ⟨none, .val 11 .mov [.t 54], []⟩,
    ⟨none, .val 12 .mov [.t 55], []⟩]
def r15_5 : IC := (.reg o15_5 [4, 5, 6, 7, 8, 10, 11, 12])
def o15_6 : List IOp := [⟨none, .call (some 57) 23 [.k (.p (.sl 3 true []))], []⟩,
    ⟨none, .val 56 .mov [.t 57], []⟩,
    ⟨none, .val 58 (.ext 0) [.t 56], []⟩,
    ⟨none, .val 59 (.ext 1) [.t 56], []⟩,
    ⟨none, .val 13 .mov [.t 58], []⟩,
    ⟨none, .val 14 .mov [.t 59], []⟩]
def r15_6 : IC := (.reg o15_6 [4, 5, 6, 7, 8, 10, 11, 12, 13, 14])
def o15_7 : List IOp := [⟨none, .call (some 61) 29 [.k (.p (.int .i64 4)), .k (.p (.int .i64 0)), .k (.p (.int .i64 2))], []⟩,
    ⟨none, .call (some 62) 29 [.k (.p (.int .i64 6)), .k (.p (.int .i64 2)), .k (.p (.int .i64 1))], []⟩,
    ⟨none, .call (some 63) 16 [.t 61, .t 62], []⟩,
    ⟨none, .val 60 .mov [.t 63], []⟩,
    ⟨none, .val 64 (.ext 0) [.t 60], []⟩,
    ⟨none, .val 65 (.ext 1) [.t 60], []⟩,
    ⟨none, .val 15 .mov [.t 64], []⟩,
    ⟨none, .val 16 .mov [.t 65], []⟩]
def r15_7 : IC := (.reg o15_7 [4, 5, 6, 7, 8, 10, 11, 12, 13, 14, 15, 16])
def o15_8 : List IOp := [⟨none, .call (some 66) 29 [.k (.p (.int .i64 4)), .k (.p (.int .i64 0)), .k (.p (.int .i64 1))], []⟩,
    ⟨none, .call (some 67) 29 [.k (.p (.int .i64 6)), .k (.p (.int .i64 0)), .k (.p (.int .i64 1))], []⟩,
    ⟨none, .call (some 68) 32 [.t 66, .t 67, .k (.p (.int .i64 1)), .k (.p (.int .i64 1)), .k (.p (.int .i64 2))], []⟩,
    ⟨none, .val 69 .mov [.t 68], []⟩,
    ⟨(some (69, true)), .val 70 .mov [.t 4], []⟩,
    ⟨(some (69, true)), .val 71 (.bin .eql) [.t 70, .k (.p (.int .i64 4))], []⟩,
    ⟨none, .val 72 .pick [.t 69, .t 71, .k (.p (.bool false))], []⟩,
    ⟨none, .val 73 .mov [.t 72], []⟩,
    ⟨(some (73, true)), .call (some 74) 29 [.k (.p (.int .i64 12)), .k (.p (.int .i64 5)), .k (.p (.int .i64 3))], []⟩,
    ⟨(some (73, true)), .call (some 75) 29 [.k (.p (.int .i64 8)), .k (.p (.int .i64 0)), .k (.p (.int .i64 1))], []⟩,
    ⟨(some (73, true)), .call (some 76) 32 [.t 74, .t 75, .k (.p (.int .i64 3)), .k (.p (.int .i64 3)), .k (.p (.int .i64 4))], []⟩,
    ⟨none, .val 77 .pick [.t 73, .t 76, .k (.p (.bool false))], []⟩,
    ⟨none, .val 17 .mov [.t 77], []⟩]
def r15_8 : IC := (.reg o15_8 [5, 6, 7, 8, 10, 11, 12, 13, 14, 15, 16, 17])
def o15_9 : List IOp := [⟨none, .call (some 78) 29 [.k (.p (.int .i64 6)), .k (.p (.int .i64 4)), .k (.p (.int .i64 3))], []⟩,
    ⟨none, .call (some 79) 25 [.t 78, .k (.p (.int .i64 0))], []⟩,
    ⟨none, .val 80 .mov [.t 79], []⟩,
    ⟨(some (80, true)), .call (some 81) 29 [.k (.p (.int .i64 6)), .k (.p (.int .i64 4)), .k (.p (.int .i64 3))], []⟩,
    ⟨(some (80, true)), .call (some 82) 25 [.t 81, .k (.p (.int .i64 1))], []⟩,
    ⟨(some (80, true)), .val 83 .not [.t 82], []⟩,
    ⟨none, .val 84 .pick [.t 80, .t 83, .k (.p (.bool false))], []⟩,
    ⟨none, .val 85 .mov [.t 84], []⟩,
    ⟨(some (85, true)), .call (some 86) 29 [.k (.p (.int .i64 6)), .k (.p (.int .i64 4)), .k (.p (.int .i64 3))], []⟩,
    ⟨(some (85, true)), .call (some 87) 25 [.t 86, .k (.p (.int .i64 (-2)))], []⟩,
    ⟨none, .val 88 .pick [.t 85, .t 87, .k (.p (.bool false))], []⟩,
    ⟨none, .val 18 .mov [.t 88], []⟩]
def r15_9 : IC := (.reg o15_9 [5, 6, 7, 8, 10, 11, 12, 13, 14, 15, 16, 17, 18])
def o15_10 : List IOp := [⟨none, .val 89 .mov [.t 17], []⟩,
    ⟨none, .val 90 .mov [.t 89], []⟩,
    ⟨(some (90, true)), .val 91 .mov [.t 5], []⟩,
    ⟨(some (90, true)), .val 92 (.bin .eql) [.t 91, .k (.p (.int .i64 2))], []⟩,
    ⟨none, .val 93 .pick [.t 90, .t 92, .k (.p (.bool false))], []⟩,
    ⟨none, .val 94 .mov [.t 93], []⟩,
    ⟨(some (94, true)), .val 95 .mov [.t 6], []⟩,
    ⟨(some (94, true)), .val 96 (.bin .eql) [.t 95, .k (.p (.int .i64 0))], []⟩,
    ⟨none, .val 97 .pick [.t 94, .t 96, .k (.p (.bool false))], []⟩,
    ⟨none, .val 98 .mov [.t 97], []⟩,
    ⟨(some (98, true)), .val 99 .mov [.t 7], []⟩,
    ⟨(some (98, true)), .val 100 (.bin .eql) [.t 99, .k (.p (.int .i64 1))], []⟩,
    ⟨none, .val 101 .pick [.t 98, .t 100, .k (.p (.bool false))], []⟩,
    ⟨none, .val 102 .mov [.t 101], []⟩,
    ⟨(some (102, true)), .val 103 .mov [.t 8], []⟩,
    ⟨(some (102, true)), .val 104 (.bin .eql) [.t 103, .k (.p (.int .i64 0))], []⟩,
    ⟨none, .val 105 .pick [.t 102, .t 104, .k (.p (.bool false))], []⟩,
    ⟨none, .val 106 .mov [.t 105], []⟩,
    ⟨(some (106, true)), .val 107 .mov [.t 10], []⟩,
    ⟨(some (106, true)), .val 108 (.bin .eql) [.t 107, .k (.p (.int .i64 4))], []⟩,
    ⟨none, .val 109 .pick [.t 106, .t 108, .k (.p (.bool false))], []⟩,
    ⟨none, .val 110 .mov [.t 109], []⟩,
    ⟨(some (110, true)), .val 111 .mov [.t 11], []⟩,
    ⟨(some (110, true)), .val 112 (.bin .eql) [.t 111, .k (.p (.int .i64 12))], []⟩,
    ⟨none, .val 113 .pick [.t 110, .t 112, .k (.p (.bool false))], []⟩,
    ⟨none, .val 114 .mov [.t 113], []⟩,
    ⟨(some (114, true)), .val 115 .mov [.t 12], []⟩,
    ⟨(some (114, true)), .val 116 (.bin .eql) [.t 115, .k (.p (.int .i64 0))], []⟩,
    ⟨none, .val 117 .pick [.t 114, .t 116, .k (.p (.bool false))], []⟩,
    ⟨none, .val 118 .mov [.t 117], []⟩,
    ⟨(some (118, true)), .val 119 .mov [.t 13], []⟩,
    ⟨(some (118, true)), .val 120 (.bin .eql) [.t 119, .k (.p (.int .i64 1))], []⟩,
    ⟨none, .val 121 .pick [.t 118, .t 120, .k (.p (.bool false))], []⟩,
    ⟨none, .val 122 .mov [.t 121], []⟩,
    ⟨(some (122, true)), .val 123 .mov [.t 14], []⟩,
    ⟨(some (122, true)), .val 124 (.bin .eql) [.t 123, .k (.p (.int .i64 0))], []⟩,
    ⟨none, .val 125 .pick [.t 122, .t 124, .k (.p (.bool false))], []⟩,
    ⟨none, .val 126 .mov [.t 125], []⟩,
    ⟨(some (126, true)), .val 127 .mov [.t 15], []⟩,
    ⟨(some (126, true)), .val 128 .not [.t 127], []⟩,
    ⟨none, .val 129 .pick [.t 126, .t 128, .k (.p (.bool false))], []⟩,
    ⟨none, .val 130 .mov [.t 129], []⟩,
    ⟨(some (130, true)), .val 131 .mov [.t 16], []⟩,
    ⟨(some (130, true)), .val 132 (.bin .eql) [.t 131, .k (.p (.int .i64 0))], []⟩,
    ⟨none, .val 133 .pick [.t 130, .t 132, .k (.p (.bool false))], []⟩,
    ⟨none, .val 134 .mov [.t 133], []⟩,
    ⟨(some (134, true)), .call (some 135) 29 [.k (.p (.int .i64 4)), .k (.p (.int .i64 0)), .k (.p (.int .i64 1))], []⟩,
    ⟨(some (134, true)), .call (some 136) 29 [.k (.p (.int .i64 6)), .k (.p (.int .i64 3)), .k (.p (.int .i64 1))], []⟩,
    ⟨(some (134, true)), .call (some 137) 26 [.t 135, .t 136], []⟩,
    ⟨none, .val 138 .pick [.t 134, .t 137, .k (.p (.bool false))], []⟩,
    ⟨none, .val 139 .mov [.t 138], []⟩,
    ⟨(some (139, true)), .val 140 .mov [.t 18], []⟩,
    ⟨none, .val 141 .pick [.t 139, .t 140, .k (.p (.bool false))], []⟩,
    ⟨none, .val 0 .mov [.t 141], []⟩]
def r15_10 : IC := (.reg o15_10 [0])
def b15 : IC := (.seq r15_0 (.seq r15_1 (.seq r15_2 (.seq r15_3 (.seq r15_4 (.seq r15_5 (.seq r15_6 (.seq r15_7 (.seq r15_8 (.seq r15_9 (.seq r15_10 .ret)))))))))))
def i15 : IFn := ⟨0, 142, b15, [.tmp 0]⟩
/- residue.Apart -/
def o16_0 : List IOp := [⟨none, .boxL 2 (.t 0), []⟩,
    ⟨none, .boxL 3 (.t 1), []⟩,
    ⟨none, .val 4 .mov [.k (.p (.bool false))], []⟩,
    ⟨none, .val 5 .mov [.k (.p (.int .i64 0))], []⟩]
def r16_0 : IC := (.reg o16_0 [2, 3])
def o16_1 : List IOp := [⟨none, .load 8 (.t 2) 3 true, []⟩,
    ⟨none, .call (some 9) 13 [.t 8], []⟩,
    ⟨none, .val 6 .mov [.t 9], []⟩]
def r16_1 : IC := (.reg o16_1 [2, 3, 6])
def o16_2 : List IOp := [⟨none, .val 10 .mov [.t 6], []⟩,
    ⟨none, .val 11 (.bin .neq) [.t 10, .k (.p (.int .i64 0))], []⟩]
def r16_2 : IC := (.reg o16_2 [2, 3, 6, 11])
def o16_3 : List IOp := [⟨none, .val 12 .mov [.t 6], []⟩,
    ⟨none, .val 4 .mov [.k (.p (.bool false))], []⟩,
    ⟨none, .val 5 .mov [.t 12], []⟩]
def r16_3 : IC := (.reg o16_3 [4, 5])
def o16_4 : List IOp := [⟨none, .load 13 (.t 3) 3 true, []⟩,
    ⟨none, .call (some 14) 13 [.t 13], []⟩,
    ⟨none, .val 7 .mov [.t 14], []⟩]
def r16_4 : IC := (.reg o16_4 [2, 3, 7])
def o16_5 : List IOp := [⟨none, .val 15 .mov [.t 7], []⟩,
    ⟨none, .val 16 (.bin .neq) [.t 15, .k (.p (.int .i64 0))], []⟩]
def r16_5 : IC := (.reg o16_5 [2, 3, 7, 16])
def o16_6 : List IOp := [⟨none, .val 17 .mov [.t 7], []⟩,
    ⟨none, .val 4 .mov [.k (.p (.bool false))], []⟩,
    ⟨none, .val 5 .mov [.t 17], []⟩]
def r16_6 : IC := (.reg o16_6 [4, 5])
def o16_7 : List IOp := [⟨none, .load 18 (.t 2) 3 true, []⟩,
    ⟨none, .load 19 (.t 3) 3 true, []⟩,
    ⟨none, .call (some 20) 33 [.t 18, .t 19], []⟩,
    ⟨none, .val 4 .mov [.t 20], []⟩,
    ⟨none, .val 5 .mov [.k (.p (.int .i64 0))], []⟩]
def r16_7 : IC := (.reg o16_7 [4, 5])
def b16 : IC := (.seq r16_0 (.seq (.seq r16_1 (.seq r16_2 (.cond (.t 11) (.seq r16_3 .ret) .skip))) (.kp [2, 3] (.seq (.seq r16_4 (.seq r16_5 (.cond (.t 16) (.seq r16_6 .ret) .skip))) (.kp [2, 3] (.seq r16_7 .ret))))))
def i16 : IFn := ⟨2, 21, b16, [.tmp 4, .tmp 5]⟩
/- isochronref23.Apart -/
def o17_0 : List IOp := [⟨none, .boxL 2 (.t 0), []⟩,
    ⟨none, .boxL 3 (.t 1), []⟩,
    ⟨none, .val 4 .mov [.k (.p (.bool false))], []⟩,
    ⟨none, .val 5 .mov [.k (.p (.int .i64 0))], []⟩]
def r17_0 : IC := (.reg o17_0 [2, 3])
def o17_1 : List IOp := [⟨none, .load 6 (.t 2) 3 true, []⟩,
    ⟨none, .call (some 7) 31 [.t 6], []⟩,
    ⟨none, .val 8 .not [.t 7], []⟩,
    ⟨none, .val 9 .mov [.t 8], []⟩,
    ⟨(some (9, false)), .load 10 (.t 3) 3 true, []⟩,
    ⟨(some (9, false)), .call (some 11) 31 [.t 10], []⟩,
    ⟨(some (9, false)), .val 12 .not [.t 11], []⟩,
    ⟨none, .val 13 .pick [.t 9, .k (.p (.bool true)), .t 12], []⟩]
def r17_1 : IC := (.reg o17_1 [2, 3, 13])
def o17_2 : List IOp := [⟨none, .val 4 .mov [.k (.p (.bool false))], []⟩,
    ⟨none, .val 5 .mov [.k (.p (.int .i64 330))], []⟩]
def r17_2 : IC := (.reg o17_2 [4, 5])
def o17_3 : List IOp := [⟨none, .load 14 (.t 2) 3 true, []⟩,
    ⟨none, .load 15 (.t 3) 3 true, []⟩,
    ⟨none, .call (some 16) 34 [.t 14, .t 15], []⟩,
    ⟨none, .val 4 .mov [.t 16], []⟩,
    ⟨none, .val 5 .mov [.k (.p (.int .i64 0))], []⟩]
def r17_3 : IC := (.reg o17_3 [4, 5])
def b17 : IC := (.seq r17_0 (.seq (.seq r17_1 (.cond (.t 13) (.seq r17_2 .ret) .skip)) (.kp [2, 3] (.seq r17_3 .ret))))
def i17 : IFn := ⟨2, 17, b17, [.tmp 4, .tmp 5]⟩
/- residue.Room -/
def o18_0 : List IOp := [⟨none, .boxL 2 (.t 0), []⟩,
    ⟨none, .boxL 3 (.t 1), []⟩,
    ⟨none, .val 4 .mov [.k (.p (.int .i64 0))], []⟩,
    ⟨none, .val 5 .mov [.k (.p (.int .i64 0))], []⟩,
    ⟨none, .val 6 .mov [.k (.p (.int .i64 0))], []⟩,
    ⟨none, .val 7 .mov [.k (.p (.int .i64 0))], []⟩]
def r18_0 : IC := (.reg o18_0 [2, 3])
def o18_1 : List IOp := [⟨none, .load 10 (.t 2) 3 true, []⟩,
    ⟨none, .call (some 11) 13 [.t 10], []⟩,
    ⟨none, .val 8 .mov [.t 11], []⟩]
def r18_1 : IC := (.reg o18_1 [2, 3, 8])
def o18_2 : List IOp := [⟨none, .val 12 .mov [.t 8], []⟩,
    ⟨none, .val 13 (.bin .neq) [.t 12, .k (.p (.int .i64 0))], []⟩]
def r18_2 : IC := (.reg o18_2 [2, 3, 8, 13])
def o18_3 : List IOp := [⟨none, .val 14 .mov [.t 8], []⟩,
    ⟨none, .val 4 .mov [.k (.p (.int .i64 0))], []⟩,
    ⟨none, .val 5 .mov [.k (.p (.int .i64 0))], []⟩,
    ⟨none, .val 6 .mov [.k (.p (.int .i64 0))], []⟩,
    ⟨none, .val 7 .mov [.t 14], []⟩]
def r18_3 : IC := (.reg o18_3 [4, 5, 6, 7])
def o18_4 : List IOp := [⟨none, .load 15 (.t 3) 3 true, []⟩,
    ⟨none, .call (some 16) 13 [.t 15], []⟩,
    ⟨none, .val 9 .mov [.t 16], []⟩]
def r18_4 : IC := (.reg o18_4 [2, 3, 9])
def o18_5 : List IOp := [⟨none, .val 17 .mov [.t 9], []⟩,
    ⟨none, .val 18 (.bin .neq) [.t 17, .k (.p (.int .i64 0))], []⟩]
def r18_5 : IC := (.reg o18_5 [2, 3, 9, 18])
def o18_6 : List IOp := [⟨none, .val 19 .mov [.t 9], []⟩,
    ⟨none, .val 4 .mov [.k (.p (.int .i64 0))], []⟩,
    ⟨none, .val 5 .mov [.k (.p (.int .i64 0))], []⟩,
    ⟨none, .val 6 .mov [.k (.p (.int .i64 0))], []⟩,
    ⟨none, .val 7 .mov [.t 19], []⟩]
def r18_6 : IC := (.reg o18_6 [4, 5, 6, 7])
def o18_7 : List IOp := [⟨none, .load 21 (.t 2) 3 true, []⟩,
    ⟨none, .load 22 (.t 3) 3 true, []⟩,
    ⟨none, .call (some 23) 35 [.t 21, .t 22], []⟩,
    ⟨none, .val 20 .mov [.t 23], []⟩,
    ⟨none, .val 24 (.ext 0) [.t 20], []⟩,
    ⟨none, .val 25 (.ext 1) [.t 20], []⟩,
    ⟨none, .val 26 (.ext 2) [.t 20], []⟩,
    ⟨none, .val 4 .mov [.t 24], []⟩,
    ⟨none, .val 5 .mov [.t 25], []⟩,
    ⟨none, .val 6 .mov [.t 26], []⟩]
def r18_7 : IC := (.reg o18_7 [4, 5, 6])
def o18_8 : List IOp := [⟨none, .val 27 .mov [.t 4], []⟩,
    ⟨none, .val 28 .mov [.t 5], []⟩,
    ⟨none, .val 29 (.bin .gtr) [.t 27, .t 28], []⟩]
def r18_8 : IC := (.reg o18_8 [4, 5, 6, 29])
def o18_9 : List IOp := [⟨none, .val 4 .mov [.k (.p (.int .i64 0))], []⟩,
    ⟨none, .val 5 .mov [.k (.p (.int .i64 0))], []⟩,
    ⟨none, .val 6 .mov [.k (.p (.int .i64 0))], []⟩,
    ⟨none, .val 7 .mov [.k (.p (.int .i64 4))], []⟩]
def r18_9 : IC := (.reg o18_9 [4, 5, 6, 7])
def o18_10 : List IOp := [⟨none, .val 30 .mov [.t 4], []⟩,
    ⟨none, .val 31 .mov [.t 5], []⟩,
    ⟨none, .val 32 .mov [.t 6], []⟩,
    ⟨none, .val 4 .mov [.t 30], []⟩,
    ⟨none, .val 5 .mov [.t 31], []⟩,
    ⟨none, .val 6 .mov [.t 32], []⟩,
    ⟨none, .val 7 .mov [.k (.p (.int .i64 0))], []⟩]
def r18_10 : IC := (.reg o18_10 [4, 5, 6, 7])
def b18 : IC := (.seq r18_0 (.seq (.seq r18_1 (.seq r18_2 (.cond (.t 13) (.seq r18_3 .ret) .skip))) (.kp [2, 3] (.seq (.seq r18_4 (.seq r18_5 (.cond (.t 18) (.seq r18_6 .ret) .skip))) (.kp [2, 3] (.seq r18_7 (.seq (.seq r18_8 (.cond (.t 29) (.seq r18_9 .ret) .skip)) (.kp [4, 5, 6] (.seq r18_10 .ret)))))))))
def i18 : IFn := ⟨2, 33, b18, [.tmp 4, .tmp 5, .tmp 6, .tmp 7]⟩
/- isochronref23.Room -/
def o19_0 : List IOp := [⟨none, .boxL 2 (.t 0), []⟩,
    ⟨none, .boxL 3 (.t 1), []⟩,
    ⟨none, .val 4 .mov [.k (.p (.int .i64 0))], []⟩,
    ⟨none, .val 5 .mov [.k (.p (.int .i64 0))], []⟩,
    ⟨none, .val 6 .mov [.k (.p (.int .i64 0))], []⟩,
    ⟨none, .val 7 .mov [.k (.p (.int .i64 0))], []⟩]
def r19_0 : IC := (.reg o19_0 [2, 3])
def o19_1 : List IOp := [⟨none, .load 12 (.t 2) 3 true, []⟩,
    ⟨none, .call (some 13) 31 [.t 12], []⟩,
    ⟨none, .val 14 .not [.t 13], []⟩,
    ⟨none, .val 15 .mov [.t 14], []⟩,
    ⟨(some (15, false)), .load 16 (.t 3) 3 true, []⟩,
    ⟨(some (15, false)), .call (some 17) 31 [.t 16], []⟩,
    ⟨(some (15, false)), .val 18 .not [.t 17], []⟩,
    ⟨none, .val 19 .pick [.t 15, .k (.p (.bool true)), .t 18], []⟩]
def r19_1 : IC := (.reg o19_1 [2, 3, 19])
def o19_2 : List IOp := [⟨none, .val 4 .mov [.k (.p (.int .i64 0))], []⟩,
    ⟨none, .val 5 .mov [.k (.p (.int .i64 0))], []⟩,
    ⟨none, .val 6 .mov [.k (.p (.int .i64 0))], []⟩,
    ⟨none, .val 7 .mov [.k (.p (.int .i64 330))], []⟩]
def r19_2 : IC := (.reg o19_2 [4, 5, 6, 7])
def o19_3 : List IOp := [⟨none, .val 20 (.faddr 0) [.t 2], []⟩,
    ⟨none, .load 21 (.t 20) 1 false, []⟩,
    ⟨none, .val 22 (.faddr 0) [.t 3], []⟩,
    ⟨none, .load 23 (.t 22) 1 false, []⟩,
    ⟨none, .call (some 24) 36 [.t 21, .t 23], []⟩,
    ⟨none, .val 8 .mov [.t 24], []⟩]
def r19_3 : IC := (.reg o19_3 [2, 3, 8])
def o19_4 : List IOp := [⟨none, .val 25 .mov [.t 8], []⟩,
    ⟨none, .val 9 .mov [.t 25], []⟩,
    ⟨none, .val 10 .mov [.k (.p (.int .i64 (-1)))], []⟩]
def r19_4 : IC := (.reg o19_4 [2, 3, 8, 9, 10])
def o19_5 : List IOp := [⟨none, .val 11 .mov [.k (.p (.int .i64 0))], []⟩]
def r19_5 : IC := (.reg o19_5 [2, 3, 8, 9, 10, 11])
def o19_6 : List IOp := [⟨none, .val 26 .mov [.t 11], []⟩,
    ⟨none, .val 27 .mov [.t 8], []⟩,
    ⟨none, .val 28 (.bin .lss) [.t 26, .t 27], []⟩]
def r19_6 : IC := (.reg o19_6 [2, 3, 8, 9, 10, 11, 28])
def o19_8 : List IOp := [⟨none, .val 31 (.faddr 1) [.t 2], []⟩,
    ⟨none, .load 32 (.t 31) 1 false, []⟩,
    ⟨none, .val 33 .mov [.t 11], []⟩,
    ⟨none, .val 34 (.bin .add) [.t 32, .t 33], []⟩,
    ⟨none, .val 35 (.faddr 0) [.t 3], []⟩,
    ⟨none, .load 36 (.t 35) 1 false, []⟩,
    ⟨none, .call (some 37) 28 [.t 34, .t 36], []⟩,
    ⟨none, .val 38 (.faddr 1) [.t 3], []⟩,
    ⟨none, .store (.t 38) (.t 37) 1, []⟩]
def r19_8 : IC := (.reg o19_8 [2, 3, 8, 9, 10, 11])
def o19_9 : List IOp := [⟨none, .load 39 (.t 2) 3 true, []⟩,
    ⟨none, .load 40 (.t 3) 3 true, []⟩,
    ⟨none, .call (some 41) 34 [.t 39, .t 40], []⟩]
def r19_9 : IC := (.reg o19_9 [2, 3, 8, 9, 10, 11, 41])
def o19_10 : List IOp := [⟨none, .val 42 .mov [.t 9], []⟩,
    ⟨none, .val 43 .mov [.t 11], []⟩,
    ⟨none, .val 44 .min [.t 42, .t 43], []⟩,
    ⟨none, .val 45 .mov [.t 11], []⟩,
    ⟨none, .val 9 .mov [.t 44], []⟩,
    ⟨none, .val 10 .mov [.t 45], []⟩]
def r19_10 : IC := (.reg o19_10 [2, 3, 8, 9, 10, 11])
def o19_7 : List IOp := [⟨none, .val 29 .mov [.t 11], []⟩,
    ⟨none, .val 30 (.bin .add) [.t 29, .k (.p (.int .i64 1))], []⟩,
    ⟨none, .val 11 .mov [.t 30], []⟩]
def r19_7 : IC := (.reg o19_7 [2, 3, 8, 9, 10, 11])
def l19_1 : IC := (.seq (.seq r19_6 (.cond (.t 28) .skip (.exit 0))) (.kp [2, 3, 8, 9, 10, 11] (.seq (.block 1 (.seq r19_8 (.seq r19_9 (.cond (.t 41) r19_10 .skip)))) (.kp [2, 3, 8, 9, 10, 11] r19_7))))
def o19_11 : List IOp := [⟨none, .val 46 .mov [.t 10], []⟩,
    ⟨none, .val 47 (.bin .lss) [.t 46, .k (.p (.int .i64 0))], []⟩]
def r19_11 : IC := (.reg o19_11 [8, 9, 10, 47])
def o19_12 : List IOp := [⟨none, .val 4 .mov [.k (.p (.int .i64 0))], []⟩,
    ⟨none, .val 5 .mov [.k (.p (.int .i64 0))], []⟩,
    ⟨none, .val 6 .mov [.k (.p (.int .i64 0))], []⟩,
    ⟨none, .val 7 .mov [.k (.p (.int .i64 4))], []⟩]
def r19_12 : IC := (.reg o19_12 [4, 5, 6, 7])
def o19_13 : List IOp := [⟨none, .val 48 .mov [.t 9], []⟩,
    ⟨none, .val 49 .mov [.t 10], []⟩,
    ⟨none, .val 50 .mov [.t 8], []⟩,
    ⟨none, .val 4 .mov [.t 48], []⟩,
    ⟨none, .val 5 .mov [.t 49], []⟩,
    ⟨none, .val 6 .mov [.t 50], []⟩,
    ⟨none, .val 7 .mov [.k (.p (.int .i64 0))], []⟩]
def r19_13 : IC := (.reg o19_13 [4, 5, 6, 7])
def b19 : IC := (.seq r19_0 (.seq (.seq r19_1 (.cond (.t 19) (.seq r19_2 .ret) .skip)) (.kp [2, 3] (.seq r19_3 (.seq r19_4 (.seq (.seq r19_5 (.block 0 (.loop l19_1))) (.seq (.seq r19_11 (.cond (.t 47) (.seq r19_12 .ret) .skip)) (.kp [8, 9, 10] (.seq r19_13 .ret)))))))))
def i19 : IFn := ⟨2, 51, b19, [.tmp 4, .tmp 5, .tmp 6, .tmp 7]⟩
/- isochronlaw23.drafts -/
def o20_0 : List IOp := [⟨none, .val 4 .mov [.k (.p (.sl 3 true []))], []⟩]
def r20_0 : IC := (.reg o20_0 [0, 1])
def o20_1 : List IOp := [⟨none, .val 5 .mov [.k (.p (.sl 3 true []))], []⟩]
def r20_1 : IC := (.reg o20_1 [0, 1, 5])
def o20_2 : List IOp := [⟨none, .val 6 .mov [.k (.p (.int .i64 0))], []⟩]
def r20_2 : IC := (.reg o20_2 [0, 1, 5, 6])
def o20_3 : List IOp := [⟨none, .val 7 .mov [.t 6], []⟩,
    ⟨none, .val 8 .mov [.t 0], []⟩,
    ⟨none, .val 9 .len [.t 8], []⟩,
    ⟨none, .val 10 (.bin .lss) [.t 7, .t 9], []⟩,
    ⟨none, .val 11 .mov [.t 10], []⟩,
    ⟨(some (11, true)), .val 12 .mov [.t 6], []⟩,
    ⟨(some (11, true)), .val 13 .mov [.t 1], []⟩,
    ⟨(some (11, true)), .val 14 (.bin .lss) [.t 12, .t 13], []⟩,
    ⟨none, .val 15 .pick [.t 11, .t 14, .k (.p (.bool false))], []⟩]
def r20_3 : IC := (.reg o20_3 [0, 1, 5, 6, 15])
def o20_5 : List IOp := [⟨none, .val 18 .mov [.t 5], []⟩,
    ⟨none, .val 19 .mov [.t 0], []⟩,
    ⟨none, .val 20 .mov [.t 6], []⟩,
    ⟨none, .val 21 (.iaddrS 3) [.t 19, .t 20], [1, 2]⟩,
    ⟨none, .val 22 (.iaddr 3 1) [.t 21, .k (.p (.int .i64 0))], [1, 2, 3]⟩,
    ⟨none, .load 23 (.t 22) 1 false, [1, 2, 3, 4]⟩,
    ⟨none, .val 24 .mov [.t 0], []⟩,
    ⟨none, .val 25 .mov [.t 6], []⟩,
    ⟨none, .val 26 (.iaddrS 3) [.t 24, .t 25], [6, 7]⟩,
    ⟨none, .val 27 (.iaddr 3 1) [.t 26, .k (.p (.int .i64 1))], [6, 7, 8]⟩,
    ⟨none, .load 28 (.t 27) 1 false, [6, 7, 8, 9]⟩,
    ⟨none, .val 29 .mov [.t 0], []⟩,
    ⟨none, .val 30 .mov [.t 6], []⟩,
    ⟨none, .val 31 (.iaddrS 3) [.t 29, .t 30], [11, 12]⟩,
    ⟨none, .val 32 (.iaddr 3 1) [.t 31, .k (.p (.int .i64 2))], [11, 12, 13]⟩,
    ⟨none, .load 33 (.t 32) 1 false, [11, 12, 13, 14]⟩,
    ⟨none, .callP 34 10 [.t 23, .t 28, .t 33], [1, 2, 3, 4, 5, 6, 7, 8, 9, 10, 11, 12, 13, 14, 15]⟩,
    ⟨none, .litP 35 3 [.t 34], [1, 2, 3, 4, 5, 6, 7, 8, 9, 10, 11, 12, 13, 14, 15, 16]⟩,
    ⟨none, .app 36 (.t 18) (.t 35) 3 24, [0, 1, 2, 3, 4, 5, 6, 7, 8, 9, 10, 11, 12, 13, 14, 15, 16, 17]⟩,
    ⟨none, .val 5 .mov [.t 36], [0, 1, 2, 3, 4, 5, 6, 7, 8, 9, 10, 11, 12, 13, 14, 15, 16, 17, 18]⟩]
def r20_5 : IC := (.regD o20_5 [0, 1, 5, 6])
def o20_4 : List IOp := [⟨none, .val 16 .mov [.t 6], []⟩,
    ⟨none, .val 17 (.bin .add) [.t 16, .k (.p (.int .i64 1))], []⟩,
    ⟨none, .val 6 .mov [.t 17], []⟩]
def r20_4 : IC := (.reg o20_4 [0, 1, 5, 6])
def l20_1 : IC := (.seq (.seq r20_3 (.cond (.t 15) .skip (.exit 0))) (.kp [0, 1, 5, 6] (.seq (.block 1 r20_5) r20_4)))
def o20_6 : List IOp := [⟨none, .val 37 .mov [.t 5], []⟩,
    ⟨none, .val 4 .mov [.t 37], []⟩]
def r20_6 : IC := (.reg o20_6 [4])
def b20 : IC := (.seq r20_0 (.seq r20_1 (.seq (.seq r20_2 (.block 0 (.loop l20_1))) (.seq r20_6 .ret))))
def i20 : IFn := ⟨2, 38, b20, [.tmp 4]⟩
/- residue.Next -/
def o21_0 : List IOp := [⟨none, .boxL 3 (.t 1), []⟩,
    ⟨none, .val 4 .mov [.k (.p (.int .i64 0))], []⟩,
    ⟨none, .val 5 .mov [.k (.p (.int .i64 0))], []⟩]
def r21_0 : IC := (.reg o21_0 [0, 3])
def o21_1 : List IOp := [⟨none, .val 11 .mov [.t 0], []⟩,
    ⟨none, .call (some 12) 37 [.t 11], []⟩,
    ⟨none, .val 6 .mov [.t 12], []⟩]
def r21_1 : IC := (.reg o21_1 [0, 3, 6])
def o21_2 : List IOp := [⟨none, .val 13 .mov [.t 6], []⟩,
    ⟨none, .val 14 (.bin .neq) [.t 13, .k (.p (.int .i64 0))], []⟩]
def r21_2 : IC := (.reg o21_2 [0, 3, 6, 14])
def o21_3 : List IOp := [⟨none, .val 15 .mov [.t 6], []⟩,
    ⟨none, .val 4 .mov [.k (.p (.int .i64 0))], []⟩,
    ⟨none, .val 5 .mov [.t 15], []⟩]
def r21_3 : IC := (.reg o21_3 [4, 5])
def o21_4 : List IOp := [⟨none, .load 16 (.t 3) 3 true, []⟩,
    ⟨none, .call (some 17) 13 [.t 16], []⟩,
    ⟨none, .val 7 .mov [.t 17], []⟩]
def r21_4 : IC := (.reg o21_4 [0, 3, 7])
def o21_5 : List IOp := [⟨none, .val 18 .mov [.t 7], []⟩,
    ⟨none, .val 19 (.bin .neq) [.t 18, .k (.p (.int .i64 0))], []⟩]
def r21_5 : IC := (.reg o21_5 [0, 3, 7, 19])
def o21_6 : List IOp := [⟨none, .val 20 .mov [.t 7], []⟩,
    ⟨none, .val 4 .mov [.k (.p (.int .i64 0))], []⟩,
    ⟨none, .val 5 .mov [.t 20], []⟩]
def r21_6 : IC := (.reg o21_6 [4, 5])
def o21_7 : List IOp := [⟨none, .val 8 .mov [.k (.p (.int .i64 0))], []⟩]
def r21_7 : IC := (.reg o21_7 [0, 3, 8])
def o21_8 : List IOp := [⟨none, .val 21 .mov [.t 8], []⟩,
    ⟨none, .val 22 (.faddr 0) [.t 3], []⟩,
    ⟨none, .load 23 (.t 22) 1 false, []⟩,
    ⟨none, .val 24 (.bin .lss) [.t 21, .t 23], []⟩]
def r21_8 : IC := (.reg o21_8 [0, 3, 8, 24])
def o21_9 : List IOp := [⟨none, .val 25 .mov [.t 0], []⟩,
    ⟨none, .val 26 .len [.t 25], []⟩,
    ⟨none, .val 27 .mov [.k (.p (.int .i64 0))], []⟩]
def r21_9 : IC := (.reg o21_9 [0, 3, 8, 25, 26, 27])
def o21_10 : List IOp := [⟨none, .val 28 (.bin .lss) [.t 27, .t 26], []⟩]
def r21_10 : IC := (.reg o21_10 [0, 3, 8, 25, 26, 27, 28])
def o21_11 : List IOp := [⟨none, .val 29 (.iaddrS 3) [.t 25, .t 27], []⟩,
    ⟨none, .load 30 (.t 29) 3 true, []⟩,
    ⟨none, .newL 10 [.p (.int .i64 0), .p (.int .i64 0), .p (.int .i64 0)], []⟩,
    ⟨none, .store (.t 10) (.t 30) 3, []⟩]
def r21_11 : IC := (.reg o21_11 [0, 3, 8, 10, 25, 26, 27])
def o21_12 : List IOp := [⟨none, .loadL 31 (.t 10) 3 true, []⟩,
    ⟨none, .loadL 32 (.t 3) 3 true, []⟩,
    ⟨none, .val 33 .mov [.t 8], []⟩,
    ⟨none, .callP 34 38 [.t 32, .t 33], [1, 2]⟩,
    ⟨none, .callP 35 33 [.t 31, .t 34], [0, 1, 2, 3]⟩,
    ⟨none, .val 36 .not [.t 35], [0, 1, 2, 3, 4]⟩]
def r21_12 : IC := (.regD o21_12 [0, 3, 8, 25, 26, 27, 36])
def o21_13 : List IOp := [⟨none, .val 37 .mov [.t 8], []⟩,
    ⟨none, .val 38 (.bin .add) [.t 37, .k (.p (.int .i64 1))], []⟩,
    ⟨none, .val 8 .mov [.t 38], []⟩]
def r21_13 : IC := (.reg o21_13 [0, 3, 8])
def o21_14 : List IOp := [⟨none, .val 39 (.bin .add) [.t 27, .k (.p (.int .i64 1))], []⟩,
    ⟨none, .val 27 .mov [.t 39], []⟩]
def r21_14 : IC := (.reg o21_14 [0, 3, 8, 25, 26, 27])
def l21_2 : IC := (.seq r21_10 (.seq (.cond (.t 28) .skip (.exit 2)) (.kp [0, 3, 8, 25, 26, 27] (.seq (.block 3 (.seq r21_11 (.seq r21_12 (.cond (.t 36) (.seq r21_13 (.exit 1)) .skip)))) (.kp [0, 3, 8, 25, 26, 27] r21_14)))))
def o21_15 : List IOp := [⟨none, .val 40 .mov [.t 8], []⟩,
    ⟨none, .val 4 .mov [.t 40], []⟩,
    ⟨none, .val 5 .mov [.k (.p (.int .i64 0))], []⟩]
def r21_15 : IC := (.reg o21_15 [4, 5])
def l21_1 : IC := (.seq (.seq r21_8 (.cond (.t 24) .skip (.exit 0))) (.kp [0, 3, 8] (.block 1 (.seq (.seq r21_9 (.block 2 (.loop l21_2))) (.seq r21_15 .ret)))))
def o21_16 : List IOp := [⟨none, .val 4 .mov [.k (.p (.int .i64 0))], []⟩,
    ⟨none, .val 5 .mov [.k (.p (.int .i64 4))], []⟩]
def r21_16 : IC := (.reg o21_16 [4, 5])
def s21 : IC := (.seq (.seq r21_1 (.seq r21_2 (.cond (.t 14) (.seq r21_3 .ret) .skip))) (.kp [0, 3] (.seq (.seq r21_4 (.seq r21_5 (.cond (.t 19) (.seq r21_6 .ret) .skip))) (.kp [0, 3] (.seq r21_7 (.seq (.label 0) (.seq (.block 0 (.loop l21_1)) (.seq r21_16 .ret))))))))
def b21 : IC := (.seq r21_0 (.scope s21))
def i21 : IFn := ⟨2, 41, b21, [.tmp 4, .tmp 5]⟩
/- isochronref23.Next -/
def o22_0 : List IOp := [⟨none, .boxL 3 (.t 1), []⟩,
    ⟨none, .val 4 .mov [.k (.p (.int .i64 0))], []⟩,
    ⟨none, .val 5 .mov [.k (.p (.int .i64 0))], []⟩]
def r22_0 : IC := (.reg o22_0 [0, 3])
def o22_1 : List IOp := [⟨none, .val 8 .mov [.t 0], []⟩,
    ⟨none, .call (some 9) 39 [.t 8], []⟩,
    ⟨none, .val 6 .mov [.t 9], []⟩]
def r22_1 : IC := (.reg o22_1 [0, 3, 6])
def o22_2 : List IOp := [⟨none, .val 10 .mov [.t 6], []⟩,
    ⟨none, .val 11 (.bin .eql) [.t 10, .k (.p (.int .i64 0))], []⟩]
def r22_2 : IC := (.reg o22_2 [0, 3, 6, 11])
def o22_3 : List IOp := [⟨none, .load 12 (.t 3) 3 true, []⟩,
    ⟨none, .call (some 13) 14 [.t 12], []⟩,
    ⟨none, .val 6 .mov [.t 13], []⟩]
def r22_3 : IC := (.reg o22_3 [0, 3, 6])
def o22_4 : List IOp := [⟨none, .val 14 .mov [.t 6], []⟩,
    ⟨none, .val 15 (.bin .neq) [.t 14, .k (.p (.int .i64 0))], []⟩]
def r22_4 : IC := (.reg o22_4 [0, 3, 6, 15])
def o22_5 : List IOp := [⟨none, .val 16 .mov [.t 6], []⟩,
    ⟨none, .val 4 .mov [.k (.p (.int .i64 0))], []⟩,
    ⟨none, .val 5 .mov [.t 16], []⟩]
def r22_5 : IC := (.reg o22_5 [4, 5])
def o22_6 : List IOp := [⟨none, .val 7 .mov [.k (.p (.int .i64 0))], []⟩]
def r22_6 : IC := (.reg o22_6 [0, 3, 7])
def o22_7 : List IOp := [⟨none, .val 17 .mov [.t 7], []⟩,
    ⟨none, .val 18 (.faddr 0) [.t 3], []⟩,
    ⟨none, .load 19 (.t 18) 1 false, []⟩,
    ⟨none, .val 20 (.bin .lss) [.t 17, .t 19], []⟩]
def r22_7 : IC := (.reg o22_7 [0, 3, 7, 20])
def o22_9 : List IOp := [⟨none, .val 23 .mov [.t 0], []⟩,
    ⟨none, .load 24 (.t 3) 3 true, []⟩,
    ⟨none, .val 25 .mov [.t 7], []⟩,
    ⟨none, .call (some 26) 27 [.t 24, .t 25], []⟩,
    ⟨none, .call (some 27) 40 [.t 23, .t 26], []⟩]
def r22_9 : IC := (.reg o22_9 [0, 3, 7, 27])
def o22_10 : List IOp := [⟨none, .val 28 .mov [.t 7], []⟩,
    ⟨none, .val 4 .mov [.t 28], []⟩,
    ⟨none, .val 5 .mov [.k (.p (.int .i64 0))], []⟩]
def r22_10 : IC := (.reg o22_10 [4, 5])
def o22_8 : List IOp := [⟨none, .val 21 .mov [.t 7], []⟩,
    ⟨none, .val 22 (.bin .add) [.t 21, .k (.p (.int .i64 1))], []⟩,
    ⟨none, .val 7 .mov [.t 22], []⟩]
def r22_8 : IC := (.reg o22_8 [0, 3, 7])
def l22_1 : IC := (.seq (.seq r22_7 (.cond (.t 20) .skip (.exit 0))) (.kp [0, 3, 7] (.seq (.block 1 (.seq r22_9 (.cond (.t 27) (.seq r22_10 .ret) .skip))) (.kp [0, 3, 7] r22_8))))
def o22_11 : List IOp := [⟨none, .val 4 .mov [.k (.p (.int .i64 0))], []⟩,
    ⟨none, .val 5 .mov [.k (.p (.int .i64 4))], []⟩]
def r22_11 : IC := (.reg o22_11 [4, 5])
def b22 : IC := (.seq r22_0 (.seq r22_1 (.seq (.seq r22_2 (.cond (.t 11) r22_3 .skip)) (.kp [0, 3, 6] (.seq (.seq r22_4 (.cond (.t 15) (.seq r22_5 .ret) .skip)) (.kp [0, 3] (.seq (.seq r22_6 (.block 0 (.loop l22_1))) (.seq r22_11 .ret))))))))
def i22 : IFn := ⟨2, 29, b22, [.tmp 4, .tmp 5]⟩
/- residue.Cycle -/
def o23_0 : List IOp := [⟨none, .val 2 .mov [.k (.p (.int .i64 0))], []⟩,
    ⟨none, .val 3 .mov [.k (.p (.int .i64 0))], []⟩]
def r23_0 : IC := (.reg o23_0 [0])
def o23_1 : List IOp := [⟨none, .val 9 .mov [.t 0], []⟩,
    ⟨none, .call (some 10) 37 [.t 9], []⟩,
    ⟨none, .val 4 .mov [.t 10], []⟩]
def r23_1 : IC := (.reg o23_1 [0, 4])
def o23_2 : List IOp := [⟨none, .val 11 .mov [.t 4], []⟩,
    ⟨none, .val 12 (.bin .neq) [.t 11, .k (.p (.int .i64 0))], []⟩]
def r23_2 : IC := (.reg o23_2 [0, 4, 12])
def o23_3 : List IOp := [⟨none, .val 13 .mov [.t 4], []⟩,
    ⟨none, .val 2 .mov [.k (.p (.int .i64 0))], []⟩,
    ⟨none, .val 3 .mov [.t 13], []⟩]
def r23_3 : IC := (.reg o23_3 [2, 3])
def o23_4 : List IOp := [⟨none, .val 14 .mov [.t 0], []⟩,
    ⟨none, .val 15 .len [.t 14], []⟩,
    ⟨none, .mkSl 16 (.t 15) (.t 15) [.int .i64 0] 8, []⟩,
    ⟨none, .val 5 .mov [.t 16], []⟩]
def r23_4 : IC := (.reg o23_4 [0, 5])
def o23_5 : List IOp := [⟨none, .val 17 .mov [.t 0], []⟩,
    ⟨none, .val 18 .len [.t 17], []⟩,
    ⟨none, .val 19 .mov [.k (.p (.int .i64 0))], []⟩]
def r23_5 : IC := (.reg o23_5 [5, 17, 18, 19])
def o23_6 : List IOp := [⟨none, .val 20 (.bin .lss) [.t 19, .t 18], []⟩]
def r23_6 : IC := (.reg o23_6 [5, 17, 18, 19, 20])
def o23_7 : List IOp := [⟨none, .val 21 .mov [.t 19], []⟩,
    ⟨none, .val 22 (.iaddrS 3) [.t 17, .t 19], []⟩,
    ⟨none, .load 23 (.t 22) 3 true, []⟩,
    ⟨none, .newL 7 [.p (.int .i64 0), .p (.int .i64 0), .p (.int .i64 0)], []⟩,
    ⟨none, .val 6 .mov [.t 21], []⟩,
    ⟨none, .store (.t 7) (.t 23) 3, []⟩]
def r23_7 : IC := (.reg o23_7 [5, 6, 7, 17, 18, 19])
def o23_8 : List IOp := [⟨none, .val 24 .mov [.t 5], []⟩,
    ⟨none, .val 25 .mov [.t 6], []⟩,
    ⟨none, .val 26 (.faddr 0) [.t 7], []⟩,
    ⟨none, .load 27 (.t 26) 1 false, []⟩,
    ⟨none, .val 28 (.iaddrS 1) [.t 24, .t 25], []⟩,
    ⟨none, .store (.t 28) (.t 27) 1, []⟩]
def r23_8 : IC := (.reg o23_8 [5, 17, 18, 19])
def o23_9 : List IOp := [⟨none, .val 29 (.bin .add) [.t 19, .k (.p (.int .i64 1))], []⟩,
    ⟨none, .val 19 .mov [.t 29], []⟩]
def r23_9 : IC := (.reg o23_9 [5, 17, 18, 19])
def l23_1 : IC := (.seq r23_6 (.seq (.cond (.t 20) .skip (.exit 0)) (.kp [5, 17, 18, 19] (.seq (.block 1 (.seq r23_7 r23_8)) r23_9))))
def o23_10 : List IOp := [⟨none, .val 30 .mov [.t 5], []⟩,
    ⟨none, .call (some 31) 41 [.k (.p (.int .i64 960)), .t 30], []⟩,
    ⟨none, .val 8 .mov [.t 31], []⟩]
def r23_10 : IC := (.reg o23_10 [8])
def o23_11 : List IOp := [⟨none, .val 32 .mov [.t 8], []⟩,
    ⟨none, .val 33 (.bin .gtr) [.t 32, .k (.p (.int .i64 960))], []⟩]
def r23_11 : IC := (.reg o23_11 [8, 33])
def o23_12 : List IOp := [⟨none, .val 2 .mov [.k (.p (.int .i64 0))], []⟩,
    ⟨none, .val 3 .mov [.k (.p (.int .i64 6))], []⟩]
def r23_12 : IC := (.reg o23_12 [2, 3])
def o23_13 : List IOp := [⟨none, .val 34 .mov [.t 8], []⟩,
    ⟨none, .val 2 .mov [.t 34], []⟩,
    ⟨none, .val 3 .mov [.k (.p (.int .i64 0))], []⟩]
def r23_13 : IC := (.reg o23_13 [2, 3])
def b23 : IC := (.seq r23_0 (.seq (.seq r23_1 (.seq r23_2 (.cond (.t 12) (.seq r23_3 .ret) .skip))) (.kp [0] (.seq r23_4 (.seq (.seq r23_5 (.block 0 (.loop l23_1))) (.seq r23_10 (.seq (.seq r23_11 (.cond (.t 33) (.seq r23_12 .ret) .skip)) (.kp [8] (.seq r23_13 .ret)))))))))
def i23 : IFn := ⟨1, 35, b23, [.tmp 2, .tmp 3]⟩
/- isochronref23.Cycle -/
def o24_0 : List IOp := [⟨none, .val 2 .mov [.k (.p (.int .i64 0))], []⟩,
    ⟨none, .val 3 .mov [.k (.p (.int .i64 0))], []⟩]
def r24_0 : IC := (.reg o24_0 [0])
def o24_1 : List IOp := [⟨none, .val 8 .mov [.t 0], []⟩,
    ⟨none, .call (some 9) 39 [.t 8], []⟩,
    ⟨none, .val 4 .mov [.t 9], []⟩]
def r24_1 : IC := (.reg o24_1 [0, 4])
def o24_2 : List IOp := [⟨none, .val 10 .mov [.t 4], []⟩,
    ⟨none, .val 11 (.bin .neq) [.t 10, .k (.p (.int .i64 0))], []⟩]
def r24_2 : IC := (.reg o24_2 [0, 4, 11])
def o24_3 : List IOp := [⟨none, .val 12 .mov [.t 4], []⟩,
    ⟨none, .val 2 .mov [.k (.p (.int .i64 0))], []⟩,
    ⟨none, .val 3 .mov [.t 12], []⟩]
def r24_3 : IC := (.reg o24_3 [2, 3])
def o24_4 : List IOp := [⟨none, .val 5 .mov [.k (.p (.int .i64 1))], []⟩]
def r24_4 : IC := (.reg o24_4 [0, 5])
def o24_5 : List IOp := [⟨none, .val 13 .mov [.t 5], []⟩,
    ⟨none, .val 14 (.bin .leq) [.t 13, .k (.p (.int .i64 960))], []⟩]
def r24_5 : IC := (.reg o24_5 [0, 5, 14])
def o24_7 : List IOp := [⟨none, .val 6 .mov [.k (.p (.bool true))], []⟩]
def r24_7 : IC := (.reg o24_7 [0, 5, 6])
def o24_8 : List IOp := [⟨none, .val 7 .mov [.k (.p (.int .i64 0))], []⟩]
def r24_8 : IC := (.reg o24_8 [0, 5, 6, 7])
def o24_9 : List IOp := [⟨none, .val 17 .mov [.t 7], []⟩,
    ⟨none, .val 18 .mov [.t 0], []⟩,
    ⟨none, .val 19 .len [.t 18], []⟩,
    ⟨none, .val 20 (.bin .lss) [.t 17, .t 19], []⟩]
def r24_9 : IC := (.reg o24_9 [0, 5, 6, 7, 20])
def o24_11 : List IOp := [⟨none, .val 23 .mov [.t 6], []⟩,
    ⟨none, .val 24 .mov [.t 23], []⟩,
    ⟨(some (24, true)), .val 25 .mov [.t 5], []⟩,
    ⟨(some (24, true)), .val 26 .mov [.t 0], []⟩,
    ⟨(some (24, true)), .val 27 .mov [.t 7], []⟩,
    ⟨(some (24, true)), .val 28 (.iaddrS 3) [.t 26, .t 27], []⟩,
    ⟨(some (24, true)), .val 29 (.faddr 0) [.t 28], []⟩,
    ⟨(some (24, true)), .load 30 (.t 29) 1 false, []⟩,
    ⟨(some (24, true)), .val 31 (.bin .rem) [.t 25, .t 30], []⟩,
    ⟨(some (24, true)), .val 32 (.bin .eql) [.t 31, .k (.p (.int .i64 0))], []⟩,
    ⟨none, .val 33 .pick [.t 24, .t 32, .k (.p (.bool false))], []⟩,
    ⟨none, .val 6 .mov [.t 33], []⟩]
def r24_11 : IC := (.reg o24_11 [0, 5, 6, 7])
def o24_10 : List IOp := [⟨none, .val 21 .mov [.t 7], []⟩,
    ⟨none, .val 22 (.bin .add) [.t 21, .k (.p (.int .i64 1))], []⟩,
    ⟨none, .val 7 .mov [.t 22], []⟩]
def r24_10 : IC := (.reg o24_10 [0, 5, 6, 7])
def l24_2 : IC := (.seq (.seq r24_9 (.cond (.t 20) .skip (.exit 2))) (.kp [0, 5, 6, 7] (.seq (.block 3 r24_11) r24_10)))
def o24_12 : List IOp := [⟨none, .val 34 .mov [.t 6], []⟩]
def r24_12 : IC := (.reg o24_12 [0, 5, 34])
def o24_13 : List IOp := [⟨none, .val 35 .mov [.t 5], []⟩,
    ⟨none, .val 2 .mov [.t 35], []⟩,
    ⟨none, .val 3 .mov [.k (.p (.int .i64 0))], []⟩]
def r24_13 : IC := (.reg o24_13 [2, 3])
def o24_6 : List IOp := [⟨none, .val 15 .mov [.t 5], []⟩,
    ⟨none, .val 16 (.bin .add) [.t 15, .k (.p (.int .i64 1))], []⟩,
    ⟨none, .val 5 .mov [.t 16], []⟩]
def r24_6 : IC := (.reg o24_6 [0, 5])
def l24_1 : IC := (.seq (.seq r24_5 (.cond (.t 14) .skip (.exit 0))) (.kp [0, 5] (.seq (.block 1 (.seq r24_7 (.seq (.seq r24_8 (.block 2 (.loop l24_2))) (.seq r24_12 (.cond (.t 34) (.seq r24_13 .ret) .skip))))) (.kp [0, 5] r24_6))))
def o24_14 : List IOp := [⟨none, .val 2 .mov [.k (.p (.int .i64 0))], []⟩,
    ⟨none, .val 3 .mov [.k (.p (.int .i64 6))], []⟩]
def r24_14 : IC := (.reg o24_14 [2, 3])
def b24 : IC := (.seq r24_0 (.seq r24_1 (.seq (.seq r24_2 (.cond (.t 11) (.seq r24_3 .ret) .skip)) (.kp [0] (.seq (.seq r24_4 (.block 0 (.loop l24_1))) (.seq r24_14 .ret))))))
def i24 : IFn := ⟨1, 36, b24, [.tmp 2, .tmp 3]⟩
/- isochronlaw23.covers -/
def o25_0 : List IOp := [⟨none, .boxL 2 (.t 0), []⟩,
    ⟨none, .val 4 .mov [.k (.p (.bool false))], []⟩]
def r25_0 : IC := (.reg o25_0 [1, 2])
def o25_1 : List IOp := [⟨none, .load 8 (.t 2) 3 true, []⟩,
    ⟨none, .val 9 .mov [.t 1], []⟩,
    ⟨none, .call (some 10) 11 [.t 8, .t 9], []⟩,
    ⟨none, .val 7 .mov [.t 10], []⟩,
    ⟨none, .val 11 (.ext 0) [.t 7], []⟩,
    ⟨none, .val 12 (.ext 1) [.t 7], []⟩,
    ⟨none, .val 5 .mov [.t 11], []⟩,
    ⟨none, .val 6 .mov [.t 12], []⟩]
def r25_1 : IC := (.reg o25_1 [5, 6])
def o25_2 : List IOp := [⟨none, .val 13 .mov [.t 5], []⟩,
    ⟨none, .val 14 .mov [.t 13], []⟩,
    ⟨(some (14, true)), .val 15 .mov [.t 6], []⟩,
    ⟨(some (14, true)), .val 16 (.bin .eql) [.t 15, .k (.p (.int .i64 0))], []⟩,
    ⟨none, .val 17 .pick [.t 14, .t 16, .k (.p (.bool false))], []⟩,
    ⟨none, .val 4 .mov [.t 17], []⟩]
def r25_2 : IC := (.reg o25_2 [4])
def b25 : IC := (.seq r25_0 (.seq r25_1 (.seq r25_2 .ret)))
def i25 : IFn := ⟨2, 18, b25, [.tmp 4]⟩
/- isochronlaw23.apart -/
def o26_0 : List IOp := [⟨none, .boxL 2 (.t 0), []⟩,
    ⟨none, .boxL 3 (.t 1), []⟩,
    ⟨none, .val 4 .mov [.k (.p (.bool false))], []⟩]
def r26_0 : IC := (.reg o26_0 [2, 3])
def o26_1 : List IOp := [⟨none, .load 8 (.t 2) 3 true, []⟩,
    ⟨none, .load 9 (.t 3) 3 true, []⟩,
    ⟨none, .call (some 10) 16 [.t 8, .t 9], []⟩,
    ⟨none, .val 7 .mov [.t 10], []⟩,
    ⟨none, .val 11 (.ext 0) [.t 7], []⟩,
    ⟨none, .val 12 (.ext 1) [.t 7], []⟩,
    ⟨none, .val 5 .mov [.t 11], []⟩,
    ⟨none, .val 6 .mov [.t 12], []⟩]
def r26_1 : IC := (.reg o26_1 [5, 6])
def o26_2 : List IOp := [⟨none, .val 13 .mov [.t 5], []⟩,
    ⟨none, .val 14 .mov [.t 13], []⟩,
    ⟨(some (14, true)), .val 15 .mov [.t 6], []⟩,
    ⟨(some (14, true)), .val 16 (.bin .eql) [.t 15, .k (.p (.int .i64 0))], []⟩,
    ⟨none, .val 17 .pick [.t 14, .t 16, .k (.p (.bool false))], []⟩,
    ⟨none, .val 4 .mov [.t 17], []⟩]
def r26_2 : IC := (.reg o26_2 [4])
def b26 : IC := (.seq r26_0 (.seq r26_1 (.seq r26_2 .ret)))
def i26 : IFn := ⟨2, 18, b26, [.tmp 4]⟩
/- isochronref23.Shifted -/
def o27_0 : List IOp := [⟨none, .boxL 2 (.t 0), []⟩,
    ⟨none, .newL 4 [.p (.int .i64 0), .p (.int .i64 0), .p (.int .i64 0)], []⟩]
def r27_0 : IC := (.reg o27_0 [1, 2, 4])
def o27_1 : List IOp := [⟨none, .val 5 (.faddr 1) [.t 2], []⟩,
    ⟨none, .load 6 (.t 5) 1 false, []⟩,
    ⟨none, .val 7 .mov [.t 1], []⟩,
    ⟨none, .val 8 (.bin .add) [.t 6, .t 7], []⟩,
    ⟨none, .val 9 (.faddr 0) [.t 2], []⟩,
    ⟨none, .load 10 (.t 9) 1 false, []⟩,
    ⟨none, .val 11 (.bin .rem) [.t 8, .t 10], []⟩,
    ⟨none, .val 12 (.faddr 1) [.t 2], []⟩,
    ⟨none, .store (.t 12) (.t 11) 1, []⟩]
def r27_1 : IC := (.reg o27_1 [2, 4])
def o27_2 : List IOp := [⟨none, .load 13 (.t 2) 3 true, []⟩,
    ⟨none, .store (.t 4) (.t 13) 3, []⟩]
def r27_2 : IC := (.reg o27_2 [4])
def b27 : IC := (.seq r27_0 (.seq r27_1 (.seq r27_2 .ret)))
def i27 : IFn := ⟨2, 14, b27, [.cell 4 3 true]⟩
/- isochronref23.Mod -/
def o28_0 : List IOp := [⟨none, .val 4 .mov [.k (.p (.int .i64 0))], []⟩]
def r28_0 : IC := (.reg o28_0 [0, 1])
def o28_1 : List IOp := [⟨none, .val 6 .mov [.t 0], []⟩,
    ⟨none, .val 7 .mov [.t 1], []⟩,
    ⟨none, .val 8 (.bin .rem) [.t 6, .t 7], []⟩,
    ⟨none, .val 5 .mov [.t 8], []⟩]
def r28_1 : IC := (.reg o28_1 [1, 5])
def o28_2 : List IOp := [⟨none, .val 9 .mov [.t 5], []⟩,
    ⟨none, .val 10 (.bin .lss) [.t 9, .k (.p (.int .i64 0))], []⟩]
def r28_2 : IC := (.reg o28_2 [1, 5, 10])
def o28_3 : List IOp := [⟨none, .val 11 .mov [.t 5], []⟩,
    ⟨none, .val 12 .mov [.t 1], []⟩,
    ⟨none, .val 13 (.bin .add) [.t 11, .t 12], []⟩,
    ⟨none, .val 5 .mov [.t 13], []⟩]
def r28_3 : IC := (.reg o28_3 [5])
def o28_4 : List IOp := [⟨none, .val 14 .mov [.t 5], []⟩,
    ⟨none, .val 4 .mov [.t 14], []⟩]
def r28_4 : IC := (.reg o28_4 [4])
def b28 : IC := (.seq r28_0 (.seq r28_1 (.seq (.seq r28_2 (.cond (.t 10) r28_3 .skip)) (.kp [5] (.seq r28_4 .ret)))))
def i28 : IFn := ⟨2, 15, b28, [.tmp 4]⟩
/- isochronlaw23.span -/
def o29_0 : List IOp := [⟨none, .newL 6 [.p (.int .i64 0), .p (.int .i64 0), .p (.int .i64 0)], []⟩]
def r29_0 : IC := (.reg o29_0 [0, 1, 2, 6])
def o29_1 : List IOp := [⟨none, .val 7 .mov [.t 0], []⟩,
    ⟨none, .val 8 .mov [.t 1], []⟩,
    ⟨none, .val 9 .mov [.t 2], []⟩,
    ⟨none, .val 10 (.build [.p (.int .i64 0), .p (.int .i64 0), .p (.int .i64 0)] [(0, 1), (1, 1), (2, 1)]) [.t 7, .t 8, .t 9], []⟩,
    ⟨none, .store (.t 6) (.t 10) 3, []⟩]
def r29_1 : IC := (.reg o29_1 [6])
def b29 : IC := (.seq r29_0 (.seq r29_1 .ret))
def i29 : IFn := ⟨3, 11, b29, [.cell 6 3 true]⟩
/- residue.mod -/
def o30_0 : List IOp := [⟨none, .val 4 .mov [.k (.p (.int .i64 0))], []⟩]
def r30_0 : IC := (.reg o30_0 [0, 1])
def o30_1 : List IOp := [⟨none, .val 5 .mov [.t 0], []⟩,
    ⟨none, .val 6 .mov [.t 1], []⟩,
    ⟨none, .val 7 (.bin .rem) [.t 5, .t 6], []⟩,
    ⟨none, .val 8 .mov [.t 1], []⟩,
    ⟨none, .val 9 (.bin .add) [.t 7, .t 8], []⟩,
    ⟨none, .val 10 .mov [.t 1], []⟩,
    ⟨none, .val 11 (.bin .rem) [.t 9, .t 10], []⟩,
    ⟨none, .val 4 .mov [.t 11], []⟩]
def r30_1 : IC := (.reg o30_1 [4])
def b30 : IC := (.seq r30_0 (.seq r30_1 .ret))
def i30 : IFn := ⟨2, 12, b30, [.tmp 4]⟩
/- isochronref23.Right -/
def o31_0 : List IOp := [⟨none, .boxL 1 (.t 0), []⟩,
    ⟨none, .val 2 .mov [.k (.p (.bool false))], []⟩]
def r31_0 : IC := (.reg o31_0 [1])
def o31_1 : List IOp := [⟨none, .val 3 (.faddr 0) [.t 1], []⟩,
    ⟨none, .load 4 (.t 3) 1 false, []⟩,
    ⟨none, .val 5 (.bin .geq) [.t 4, .k (.p (.int .i64 1))], []⟩,
    ⟨none, .val 6 .mov [.t 5], []⟩,
    ⟨(some (6, true)), .val 7 (.faddr 0) [.t 1], []⟩,
    ⟨(some (6, true)), .load 8 (.t 7) 1 false, []⟩,
    ⟨(some (6, true)), .val 9 (.bin .leq) [.t 8, .k (.p (.int .i64 960))], []⟩,
    ⟨none, .val 10 .pick [.t 6, .t 9, .k (.p (.bool false))], []⟩,
    ⟨none, .val 11 .mov [.t 10], []⟩,
    ⟨(some (11, true)), .val 12 (.faddr 1) [.t 1], []⟩,
    ⟨(some (11, true)), .load 13 (.t 12) 1 false, []⟩,
    ⟨(some (11, true)), .val 14 (.bin .geq) [.t 13, .k (.p (.int .i64 0))], []⟩,
    ⟨none, .val 15 .pick [.t 11, .t 14, .k (.p (.bool false))], []⟩,
    ⟨none, .val 16 .mov [.t 15], []⟩,
    ⟨(some (16, true)), .val 17 (.faddr 1) [.t 1], []⟩,
    ⟨(some (16, true)), .load 18 (.t 17) 1 false, []⟩,
    ⟨(some (16, true)), .val 19 (.faddr 0) [.t 1], []⟩,
    ⟨(some (16, true)), .load 20 (.t 19) 1 false, []⟩,
    ⟨(some (16, true)), .val 21 (.bin .lss) [.t 18, .t 20], []⟩,
    ⟨none, .val 22 .pick [.t 16, .t 21, .k (.p (.bool false))], []⟩,
    ⟨none, .val 23 .mov [.t 22], []⟩,
    ⟨(some (23, true)), .val 24 (.faddr 2) [.t 1], []⟩,
    ⟨(some (23, true)), .load 25 (.t 24) 1 false, []⟩,
    ⟨(some (23, true)), .val 26 (.bin .geq) [.t 25, .k (.p (.int .i64 1))], []⟩,
    ⟨none, .val 27 .pick [.t 23, .t 26, .k (.p (.bool false))], []⟩,
    ⟨none, .val 28 .mov [.t 27], []⟩,
    ⟨(some (28, true)), .val 29 (.faddr 2) [.t 1], []⟩,
    ⟨(some (28, true)), .load 30 (.t 29) 1 false, []⟩,
    ⟨(some (28, true)), .val 31 (.faddr 0) [.t 1], []⟩,
    ⟨(some (28, true)), .load 32 (.t 31) 1 false, []⟩,
    ⟨(some (28, true)), .val 33 (.bin .leq) [.t 30, .t 32], []⟩,
    ⟨none, .val 34 .pick [.t 28, .t 33, .k (.p (.bool false))], []⟩,
    ⟨none, .val 2 .mov [.t 34], []⟩]
def r31_1 : IC := (.reg o31_1 [2])
def b31 : IC := (.seq r31_0 (.seq r31_1 .ret))
def i31 : IFn := ⟨1, 35, b31, [.tmp 2]⟩
/- isochronlaw23.room -/
def o32_0 : List IOp := [⟨none, .boxL 5 (.t 0), []⟩,
    ⟨none, .boxL 6 (.t 1), []⟩,
    ⟨none, .val 10 .mov [.k (.p (.bool false))], []⟩]
def r32_0 : IC := (.reg o32_0 [2, 3, 4, 5, 6])
def o32_1 : List IOp := [⟨none, .load 16 (.t 5) 3 true, []⟩,
    ⟨none, .load 17 (.t 6) 3 true, []⟩,
    ⟨none, .call (some 18) 18 [.t 16, .t 17], []⟩,
    ⟨none, .val 15 .mov [.t 18], []⟩,
    ⟨none, .val 19 (.ext 0) [.t 15], []⟩,
    ⟨none, .val 20 (.ext 1) [.t 15], []⟩,
    ⟨none, .val 21 (.ext 2) [.t 15], []⟩,
    ⟨none, .val 22 (.ext 3) [.t 15], []⟩,
    ⟨none, .val 11 .mov [.t 19], []⟩,
    ⟨none, .val 12 .mov [.t 20], []⟩,
    ⟨none, .val 13 .mov [.t 21], []⟩,
    ⟨none, .val 14 .mov [.t 22], []⟩]
def r32_1 : IC := (.reg o32_1 [2, 3, 4, 11, 12, 13, 14])
def o32_2 : List IOp := [⟨none, .val 23 .mov [.t 14], []⟩,
    ⟨none, .val 24 (.bin .eql) [.t 23, .k (.p (.int .i64 0))], []⟩,
    ⟨none, .val 25 .mov [.t 24], []⟩,
    ⟨(some (25, true)), .val 26 .mov [.t 11], []⟩,
    ⟨(some (25, true)), .val 27 .mov [.t 2], []⟩,
    ⟨(some (25, true)), .val 28 (.bin .eql) [.t 26, .t 27], []⟩,
    ⟨none, .val 29 .pick [.t 25, .t 28, .k (.p (.bool false))], []⟩,
    ⟨none, .val 30 .mov [.t 29], []⟩,
    ⟨(some (30, true)), .val 31 .mov [.t 12], []⟩,
    ⟨(some (30, true)), .val 32 .mov [.t 3], []⟩,
    ⟨(some (30, true)), .val 33 (.bin .eql) [.t 31, .t 32], []⟩,
    ⟨none, .val 34 .pick [.t 30, .t 33, .k (.p (.bool false))], []⟩,
    ⟨none, .val 35 .mov [.t 34], []⟩,
    ⟨(some (35, true)), .val 36 .mov [.t 13], []⟩,
    ⟨(some (35, true)), .val 37 .mov [.t 4], []⟩,
    ⟨(some (35, true)), .val 38 (.bin .eql) [.t 36, .t 37], []⟩,
    ⟨none, .val 39 .pick [.t 35, .t 38, .k (.p (.bool false))], []⟩,
    ⟨none, .val 10 .mov [.t 39], []⟩]
def r32_2 : IC := (.reg o32_2 [10])
def b32 : IC := (.seq r32_0 (.seq r32_1 (.seq r32_2 .ret)))
def i32 : IFn := ⟨5, 40, b32, [.tmp 10]⟩
/- residue.apart -/
def o33_0 : List IOp := [⟨none, .boxL 2 (.t 0), []⟩,
    ⟨none, .boxL 3 (.t 1), []⟩,
    ⟨none, .val 4 .mov [.k (.p (.bool false))], []⟩]
def r33_0 : IC := (.reg o33_0 [2, 3])
def o33_1 : List IOp := [⟨none, .load 9 (.t 2) 3 true, []⟩,
    ⟨none, .load 10 (.t 3) 3 true, []⟩,
    ⟨none, .val 11 (.eqS false [true, true, true]) [.t 9, .t 10], []⟩]
def r33_1 : IC := (.reg o33_1 [2, 3, 11])
def o33_2 : List IOp := [⟨none, .val 4 .mov [.k (.p (.bool false))], []⟩]
def r33_2 : IC := (.reg o33_2 [4])
def o33_3 : List IOp := [⟨none, .load 13 (.t 2) 3 true, []⟩,
    ⟨none, .load 14 (.t 3) 3 true, []⟩,
    ⟨none, .call (some 15) 35 [.t 13, .t 14], []⟩,
    ⟨none, .val 12 .mov [.t 15], []⟩,
    ⟨none, .val 16 (.ext 0) [.t 12], []⟩,
    ⟨none, .val 17 (.ext 1) [.t 12], []⟩,
    ⟨none, .val 18 (.ext 2) [.t 12], []⟩,
    ⟨none, .val 5 .mov [.t 16], []⟩,
    ⟨none, .val 6 .mov [.t 17], []⟩,
    ⟨none, .val 7 .mov [.t 18], []⟩]
def r33_3 : IC := (.reg o33_3 [2, 3, 5, 6, 7])
def o33_4 : List IOp := [⟨none, .val 19 (.faddr 1) [.t 3], []⟩,
    ⟨none, .load 20 (.t 19) 1 false, []⟩,
    ⟨none, .val 21 (.faddr 1) [.t 2], []⟩,
    ⟨none, .load 22 (.t 21) 1 false, []⟩,
    ⟨none, .val 23 (.bin .sub) [.t 20, .t 22], []⟩,
    ⟨none, .val 24 .mov [.t 7], []⟩,
    ⟨none, .call (some 25) 30 [.t 23, .t 24], []⟩,
    ⟨none, .val 8 .mov [.t 25], []⟩]
def r33_4 : IC := (.reg o33_4 [5, 6, 8])
def o33_5 : List IOp := [⟨none, .val 26 .mov [.t 5], []⟩,
    ⟨none, .val 27 .mov [.t 8], []⟩,
    ⟨none, .val 28 (.bin .leq) [.t 26, .t 27], []⟩,
    ⟨none, .val 29 .mov [.t 28], []⟩,
    ⟨(some (29, true)), .val 30 .mov [.t 8], []⟩,
    ⟨(some (29, true)), .val 31 .mov [.t 6], []⟩,
    ⟨(some (29, true)), .val 32 (.bin .leq) [.t 30, .t 31], []⟩,
    ⟨none, .val 33 .pick [.t 29, .t 32, .k (.p (.bool false))], []⟩,
    ⟨none, .val 4 .mov [.t 33], []⟩]
def r33_5 : IC := (.reg o33_5 [4])
def b33 : IC := (.seq r33_0 (.seq (.seq r33_1 (.cond (.t 11) (.seq r33_2 .ret) .skip)) (.kp [2, 3] (.seq r33_3 (.seq r33_4 (.seq r33_5 .ret))))))
def i33 : IFn := ⟨2, 34, b33, [.tmp 4]⟩
/- isochronref23.Separate -/
def o34_0 : List IOp := [⟨none, .boxL 2 (.t 0), []⟩,
    ⟨none, .boxL 3 (.t 1), []⟩,
    ⟨none, .val 4 .mov [.k (.p (.bool false))], []⟩]
def r34_0 : IC := (.reg o34_0 [2, 3])
def o34_1 : List IOp := [⟨none, .val 7 (.faddr 0) [.t 2], []⟩,
    ⟨none, .load 8 (.t 7) 1 false, []⟩,
    ⟨none, .val 9 (.faddr 0) [.t 3], []⟩,
    ⟨none, .load 10 (.t 9) 1 false, []⟩,
    ⟨none, .call (some 11) 36 [.t 8, .t 10], []⟩,
    ⟨none, .val 5 .mov [.t 11], []⟩]
def r34_1 : IC := (.reg o34_1 [2, 3, 5])
def o34_2 : List IOp := [⟨none, .val 12 (.faddr 2) [.t 3], []⟩,
    ⟨none, .load 13 (.t 12) 1 false, []⟩,
    ⟨none, .val 14 (.bin .sub) [.k (.p (.int .i64 1)), .t 13], []⟩,
    ⟨none, .val 6 .mov [.t 14], []⟩]
def r34_2 : IC := (.reg o34_2 [2, 3, 5, 6])
def o34_3 : List IOp := [⟨none, .val 15 .mov [.t 6], []⟩,
    ⟨none, .val 16 (.faddr 2) [.t 2], []⟩,
    ⟨none, .load 17 (.t 16) 1 false, []⟩,
    ⟨none, .val 18 (.bin .lss) [.t 15, .t 17], []⟩]
def r34_3 : IC := (.reg o34_3 [2, 3, 5, 6, 18])
def o34_5 : List IOp := [⟨none, .val 21 (.faddr 1) [.t 3], []⟩,
    ⟨none, .load 22 (.t 21) 1 false, []⟩,
    ⟨none, .val 23 (.faddr 1) [.t 2], []⟩,
    ⟨none, .load 24 (.t 23) 1 false, []⟩,
    ⟨none, .val 25 (.bin .sub) [.t 22, .t 24], []⟩,
    ⟨none, .val 26 .mov [.t 6], []⟩,
    ⟨none, .val 27 (.bin .sub) [.t 25, .t 26], []⟩,
    ⟨none, .val 28 .mov [.t 5], []⟩,
    ⟨none, .call (some 29) 28 [.t 27, .t 28], []⟩,
    ⟨none, .val 30 (.bin .eql) [.t 29, .k (.p (.int .i64 0))], []⟩]
def r34_5 : IC := (.reg o34_5 [2, 3, 5, 6, 30])
def o34_6 : List IOp := [⟨none, .val 4 .mov [.k (.p (.bool false))], []⟩]
def r34_6 : IC := (.reg o34_6 [4])
def o34_4 : List IOp := [⟨none, .val 19 .mov [.t 6], []⟩,
    ⟨none, .val 20 (.bin .add) [.t 19, .k (.p (.int .i64 1))], []⟩,
    ⟨none, .val 6 .mov [.t 20], []⟩]
def r34_4 : IC := (.reg o34_4 [2, 3, 5, 6])
def l34_1 : IC := (.seq (.seq r34_3 (.cond (.t 18) .skip (.exit 0))) (.kp [2, 3, 5, 6] (.seq (.block 1 (.seq r34_5 (.cond (.t 30) (.seq r34_6 .ret) .skip))) (.kp [2, 3, 5, 6] r34_4))))
def o34_7 : List IOp := [⟨none, .val 4 .mov [.k (.p (.bool true))], []⟩]
def r34_7 : IC := (.reg o34_7 [4])
def b34 : IC := (.seq r34_0 (.seq r34_1 (.seq (.seq r34_2 (.block 0 (.loop l34_1))) (.seq r34_7 .ret))))
def i34 : IFn := ⟨2, 31, b34, [.tmp 4]⟩
/- residue.room -/
def o35_0 : List IOp := [⟨none, .boxL 2 (.t 0), []⟩,
    ⟨none, .boxL 3 (.t 1), []⟩,
    ⟨none, .val 4 .mov [.k (.p (.int .i64 0))], []⟩,
    ⟨none, .val 5 .mov [.k (.p (.int .i64 0))], []⟩,
    ⟨none, .val 6 .mov [.k (.p (.int .i64 0))], []⟩]
def r35_0 : IC := (.reg o35_0 [2, 3])
def o35_1 : List IOp := [⟨none, .val 7 (.faddr 0) [.t 2], []⟩,
    ⟨none, .load 8 (.t 7) 1 false, []⟩,
    ⟨none, .val 9 (.faddr 0) [.t 3], []⟩,
    ⟨none, .load 10 (.t 9) 1 false, []⟩,
    ⟨none, .call (some 11) 42 [.t 8, .t 10], []⟩,
    ⟨none, .val 6 .mov [.t 11], []⟩]
def r35_1 : IC := (.reg o35_1 [2, 3, 6])
def o35_2 : List IOp := [⟨none, .val 12 (.faddr 2) [.t 2], []⟩,
    ⟨none, .loadL 13 (.t 12) 1 false, [0]⟩,
    ⟨none, .val 14 .mov [.t 6], []⟩,
    ⟨none, .val 15 (.faddr 2) [.t 3], []⟩,
    ⟨none, .loadL 16 (.t 15) 1 false, [3]⟩,
    ⟨none, .val 17 (.bin .sub) [.t 14, .t 16], [2, 3, 4]⟩,
    ⟨none, .val 18 .mov [.t 6], []⟩,
    ⟨none, .val 4 .mov [.t 13], [0, 1]⟩,
    ⟨none, .val 5 .mov [.t 17], [0, 1, 2, 3, 4, 5, 7]⟩,
    ⟨none, .val 6 .mov [.t 18], [0, 1, 2, 3, 4, 5, 6, 7, 8]⟩]
def r35_2 : IC := (.regD o35_2 [4, 5, 6])
def b35 : IC := (.seq r35_0 (.seq r35_1 (.seq r35_2 .ret)))
def i35 : IFn := ⟨2, 19, b35, [.tmp 4, .tmp 5, .tmp 6]⟩
/- isochronref23.Gcd -/
def o36_0 : List IOp := [⟨none, .val 4 .mov [.k (.p (.int .i64 0))], []⟩]
def r36_0 : IC := (.reg o36_0 [0, 1])
def o36_1 : List IOp := [⟨none, .val 6 .mov [.t 0], []⟩,
    ⟨none, .val 5 .mov [.t 6], []⟩]
def r36_1 : IC := (.reg o36_1 [0, 1, 5])
def o36_2 : List IOp := [⟨none, .val 7 .mov [.t 5], []⟩,
    ⟨none, .val 8 (.bin .gtr) [.t 7, .k (.p (.int .i64 1))], []⟩]
def r36_2 : IC := (.reg o36_2 [0, 1, 5, 8])
def o36_4 : List IOp := [⟨none, .val 11 .mov [.t 0], []⟩,
    ⟨none, .val 12 .mov [.t 5], []⟩,
    ⟨none, .val 13 (.bin .rem) [.t 11, .t 12], []⟩,
    ⟨none, .val 14 (.bin .eql) [.t 13, .k (.p (.int .i64 0))], []⟩,
    ⟨none, .val 15 .mov [.t 14], []⟩,
    ⟨(some (15, true)), .val 16 .mov [.t 1], []⟩,
    ⟨(some (15, true)), .val 17 .mov [.t 5], []⟩,
    ⟨(some (15, true)), .val 18 (.bin .rem) [.t 16, .t 17], []⟩,
    ⟨(some (15, true)), .val 19 (.bin .eql) [.t 18, .k (.p (.int .i64 0))], []⟩,
    ⟨none, .val 20 .pick [.t 15, .t 19, .k (.p (.bool false))], []⟩]
def r36_4 : IC := (.reg o36_4 [0, 1, 5, 20])
def o36_5 : List IOp := [⟨none, .val 21 .mov [.t 5], []⟩,
    ⟨none, .val 4 .mov [.t 21], []⟩]
def r36_5 : IC := (.reg o36_5 [4])
def o36_3 : List IOp := [⟨none, .val 9 .mov [.t 5], []⟩,
    ⟨none, .val 10 (.bin .sub) [.t 9, .k (.p (.int .i64 1))], []⟩,
    ⟨none, .val 5 .mov [.t 10], []⟩]
def r36_3 : IC := (.reg o36_3 [0, 1, 5])
def l36_1 : IC := (.seq (.seq r36_2 (.cond (.t 8) .skip (.exit 0))) (.kp [0, 1, 5] (.seq (.block 1 (.seq r36_4 (.cond (.t 20) (.seq r36_5 .ret) .skip))) (.kp [0, 1, 5] r36_3))))
def o36_6 : List IOp := [⟨none, .val 4 .mov [.k (.p (.int .i64 1))], []⟩]
def r36_6 : IC := (.reg o36_6 [4])
def b36 : IC := (.seq r36_0 (.seq (.seq r36_1 (.block 0 (.loop l36_1))) (.seq r36_6 .ret)))
def i36 : IFn := ⟨2, 22, b36, [.tmp 4]⟩
/- residue.checkAll -/
def o37_0 : List IOp := [⟨none, .val 2 .mov [.k (.p (.int .i64 0))], []⟩]
def r37_0 : IC := (.reg o37_0 [0])
def o37_1 : List IOp := [⟨none, .val 6 .mov [.t 0], []⟩,
    ⟨none, .val 7 .len [.t 6], []⟩,
    ⟨none, .val 8 (.bin .gtr) [.t 7, .k (.p (.int .i64 32))], []⟩]
def r37_1 : IC := (.reg o37_1 [0, 8])
def o37_2 : List IOp := [⟨none, .val 2 .mov [.k (.p (.int .i64 3))], []⟩]
def r37_2 : IC := (.reg o37_2 [2])
def o37_3 : List IOp := [⟨none, .val 9 .mov [.t 0], []⟩,
    ⟨none, .val 10 .len [.t 9], []⟩,
    ⟨none, .val 11 .mov [.k (.p (.int .i64 0))], []⟩]
def r37_3 : IC := (.reg o37_3 [9, 10, 11])
def o37_4 : List IOp := [⟨none, .val 12 (.bin .lss) [.t 11, .t 10], []⟩]
def r37_4 : IC := (.reg o37_4 [9, 10, 11, 12])
def o37_5 : List IOp := [⟨none, .val 13 (.iaddrS 3) [.t 9, .t 11], []⟩,
    ⟨none, .load 14 (.t 13) 3 true, []⟩,
    ⟨none, .newL 4 [.p (.int .i64 0), .p (.int .i64 0), .p (.int .i64 0)], []⟩,
    ⟨none, .store (.t 4) (.t 14) 3, []⟩]
def r37_5 : IC := (.reg o37_5 [4, 9, 10, 11])
def o37_6 : List IOp := [⟨none, .load 15 (.t 4) 3 true, []⟩,
    ⟨none, .call (some 16) 13 [.t 15], []⟩,
    ⟨none, .val 5 .mov [.t 16], []⟩]
def r37_6 : IC := (.reg o37_6 [5, 9, 10, 11])
def o37_7 : List IOp := [⟨none, .val 17 .mov [.t 5], []⟩,
    ⟨none, .val 18 (.bin .neq) [.t 17, .k (.p (.int .i64 0))], []⟩]
def r37_7 : IC := (.reg o37_7 [5, 9, 10, 11, 18])
def o37_8 : List IOp := [⟨none, .val 19 .mov [.t 5], []⟩,
    ⟨none, .val 2 .mov [.t 19], []⟩]
def r37_8 : IC := (.reg o37_8 [2])
def o37_9 : List IOp := [⟨none, .val 20 (.bin .add) [.t 11, .k (.p (.int .i64 1))], []⟩,
    ⟨none, .val 11 .mov [.t 20], []⟩]
def r37_9 : IC := (.reg o37_9 [9, 10, 11])
def l37_1 : IC := (.seq r37_4 (.seq (.cond (.t 12) .skip (.exit 0)) (.kp [9, 10, 11] (.seq (.block 1 (.seq r37_5 (.seq r37_6 (.seq r37_7 (.cond (.t 18) (.seq r37_8 .ret) .skip))))) (.kp [9, 10, 11] r37_9)))))
def o37_10 : List IOp := [⟨none, .val 2 .mov [.k (.p (.int .i64 0))], []⟩]
def r37_10 : IC := (.reg o37_10 [2])
def b37 : IC := (.seq r37_0 (.seq (.seq r37_1 (.cond (.t 8) (.seq r37_2 .ret) .skip)) (.kp [0] (.seq (.seq r37_3 (.block 0 (.loop l37_1))) (.seq r37_10 .ret)))))
def i37 : IFn := ⟨1, 21, b37, [.tmp 2]⟩
/- residue.shifted -/
def o38_0 : List IOp := [⟨none, .boxL 2 (.t 0), []⟩,
    ⟨none, .newL 4 [.p (.int .i64 0), .p (.int .i64 0), .p (.int .i64 0)], []⟩]
def r38_0 : IC := (.reg o38_0 [1, 2, 4])
def o38_1 : List IOp := [⟨none, .val 5 (.faddr 1) [.t 2], []⟩,
    ⟨none, .load 6 (.t 5) 1 false, []⟩,
    ⟨none, .val 7 .mov [.t 1], []⟩,
    ⟨none, .val 8 (.bin .add) [.t 6, .t 7], []⟩,
    ⟨none, .val 9 (.faddr 0) [.t 2], []⟩,
    ⟨none, .load 10 (.t 9) 1 false, []⟩,
    ⟨none, .val 11 (.bin .rem) [.t 8, .t 10], []⟩,
    ⟨none, .val 12 (.faddr 1) [.t 2], []⟩,
    ⟨none, .store (.t 12) (.t 11) 1, []⟩]
def r38_1 : IC := (.reg o38_1 [2, 4])
def o38_2 : List IOp := [⟨none, .load 13 (.t 2) 3 true, []⟩,
    ⟨none, .store (.t 4) (.t 13) 3, []⟩]
def r38_2 : IC := (.reg o38_2 [4])
def b38 : IC := (.seq r38_0 (.seq r38_1 (.seq r38_2 .ret)))
def i38 : IFn := ⟨2, 14, b38, [.cell 4 3 true]⟩
/- isochronref23.list -/
def o39_0 : List IOp := [⟨none, .val 2 .mov [.k (.p (.int .i64 0))], []⟩]
def r39_0 : IC := (.reg o39_0 [0])
def o39_1 : List IOp := [⟨none, .val 4 .mov [.t 0], []⟩,
    ⟨none, .val 5 .len [.t 4], []⟩,
    ⟨none, .val 6 (.bin .gtr) [.t 5, .k (.p (.int .i64 32))], []⟩]
def r39_1 : IC := (.reg o39_1 [0, 6])
def o39_2 : List IOp := [⟨none, .val 2 .mov [.k (.p (.int .i64 3))], []⟩]
def r39_2 : IC := (.reg o39_2 [2])
def o39_3 : List IOp := [⟨none, .val 3 .mov [.k (.p (.int .i64 0))], []⟩]
def r39_3 : IC := (.reg o39_3 [0, 3])
def o39_4 : List IOp := [⟨none, .val 7 .mov [.t 3], []⟩,
    ⟨none, .val 8 .mov [.t 0], []⟩,
    ⟨none, .val 9 .len [.t 8], []⟩,
    ⟨none, .val 10 (.bin .lss) [.t 7, .t 9], []⟩]
def r39_4 : IC := (.reg o39_4 [0, 3, 10])
def o39_6 : List IOp := [⟨none, .val 13 .mov [.t 0], []⟩,
    ⟨none, .val 14 .mov [.t 3], []⟩,
    ⟨none, .val 15 (.iaddrS 3) [.t 13, .t 14], []⟩,
    ⟨none, .load 16 (.t 15) 3 true, []⟩,
    ⟨none, .call (some 17) 31 [.t 16], []⟩,
    ⟨none, .val 18 .not [.t 17], []⟩]
def r39_6 : IC := (.reg o39_6 [0, 3, 18])
def o39_7 : List IOp := [⟨none, .val 2 .mov [.k (.p (.int .i64 330))], []⟩]
def r39_7 : IC := (.reg o39_7 [2])
def o39_5 : List IOp := [⟨none, .val 11 .mov [.t 3], []⟩,
    ⟨none, .val 12 (.bin .add) [.t 11, .k (.p (.int .i64 1))], []⟩,
    ⟨none, .val 3 .mov [.t 12], []⟩]
def r39_5 : IC := (.reg o39_5 [0, 3])
def l39_1 : IC := (.seq (.seq r39_4 (.cond (.t 10) .skip (.exit 0))) (.kp [0, 3] (.seq (.block 1 (.seq r39_6 (.cond (.t 18) (.seq r39_7 .ret) .skip))) (.kp [0, 3] r39_5))))
def o39_8 : List IOp := [⟨none, .val 2 .mov [.k (.p (.int .i64 0))], []⟩]
def r39_8 : IC := (.reg o39_8 [2])
def b39 : IC := (.seq r39_0 (.seq (.seq r39_1 (.cond (.t 6) (.seq r39_2 .ret) .skip)) (.kp [0] (.seq (.seq r39_3 (.block 0 (.loop l39_1))) (.seq r39_8 .ret)))))
def i39 : IFn := ⟨1, 19, b39, [.tmp 2]⟩
/- isochronref23.Clear -/
def o40_0 : List IOp := [⟨none, .boxL 3 (.t 1), []⟩,
    ⟨none, .val 4 .mov [.k (.p (.bool false))], []⟩]
def r40_0 : IC := (.reg o40_0 [0, 3])
def o40_1 : List IOp := [⟨none, .val 5 .mov [.k (.p (.int .i64 0))], []⟩]
def r40_1 : IC := (.reg o40_1 [0, 3, 5])
def o40_2 : List IOp := [⟨none, .val 6 .mov [.t 5], []⟩,
    ⟨none, .val 7 .mov [.t 0], []⟩,
    ⟨none, .val 8 .len [.t 7], []⟩,
    ⟨none, .val 9 (.bin .lss) [.t 6, .t 8], []⟩]
def r40_2 : IC := (.reg o40_2 [0, 3, 5, 9])
def o40_4 : List IOp := [⟨none, .val 12 .mov [.t 0], []⟩,
    ⟨none, .val 13 .mov [.t 5], []⟩,
    ⟨none, .val 14 (.iaddrS 3) [.t 12, .t 13], [0, 1]⟩,
    ⟨none, .load 15 (.t 14) 3 true, [0, 1, 2]⟩,
    ⟨none, .loadL 16 (.t 3) 3 true, []⟩,
    ⟨none, .callP 17 34 [.t 15, .t 16], [0, 1, 2, 3, 4]⟩,
    ⟨none, .val 18 .not [.t 17], [0, 1, 2, 3, 4, 5]⟩]
def r40_4 : IC := (.regD o40_4 [0, 3, 5, 18])
def o40_5 : List IOp := [⟨none, .val 4 .mov [.k (.p (.bool false))], []⟩]
def r40_5 : IC := (.reg o40_5 [4])
def o40_3 : List IOp := [⟨none, .val 10 .mov [.t 5], []⟩,
    ⟨none, .val 11 (.bin .add) [.t 10, .k (.p (.int .i64 1))], []⟩,
    ⟨none, .val 5 .mov [.t 11], []⟩]
def r40_3 : IC := (.reg o40_3 [0, 3, 5])
def l40_1 : IC := (.seq (.seq r40_2 (.cond (.t 9) .skip (.exit 0))) (.kp [0, 3, 5] (.seq (.block 1 (.seq r40_4 (.cond (.t 18) (.seq r40_5 .ret) .skip))) (.kp [0, 3, 5] r40_3))))
def o40_6 : List IOp := [⟨none, .val 4 .mov [.k (.p (.bool true))], []⟩]
def r40_6 : IC := (.reg o40_6 [4])
def b40 : IC := (.seq r40_0 (.seq (.seq r40_1 (.block 0 (.loop l40_1))) (.seq r40_6 .ret)))
def i40 : IFn := ⟨2, 19, b40, [.tmp 4]⟩
/- residue.fold -/
def o41_0 : List IOp := [⟨none, .val 4 .mov [.k (.p (.int .i64 0))], []⟩]
def r41_0 : IC := (.reg o41_0 [0, 1])
def o41_1 : List IOp := [⟨none, .val 5 .mov [.k (.p (.int .i64 1))], []⟩]
def r41_1 : IC := (.reg o41_1 [0, 1, 5])
def o41_2 : List IOp := [⟨none, .val 8 .mov [.t 1], []⟩,
    ⟨none, .val 9 .len [.t 8], []⟩,
    ⟨none, .val 10 .mov [.k (.p (.int .i64 0))], []⟩]
def r41_2 : IC := (.reg o41_2 [0, 5, 8, 9, 10])
def o41_3 : List IOp := [⟨none, .val 11 (.bin .lss) [.t 10, .t 9], []⟩]
def r41_3 : IC := (.reg o41_3 [0, 5, 8, 9, 10, 11])
def o41_4 : List IOp := [⟨none, .val 12 (.iaddrS 1) [.t 8, .t 10], []⟩,
    ⟨none, .load 13 (.t 12) 1 false, []⟩,
    ⟨none, .val 7 .mov [.t 13], []⟩]
def r41_4 : IC := (.reg o41_4 [0, 5, 7, 8, 9, 10])
def o41_5 : List IOp := [⟨none, .val 14 .mov [.t 5], []⟩,
    ⟨none, .val 15 .mov [.t 5], []⟩,
    ⟨none, .val 16 .mov [.t 7], []⟩,
    ⟨none, .call (some 17) 42 [.t 15, .t 16], []⟩,
    ⟨none, .val 18 (.bin .quo) [.t 14, .t 17], []⟩,
    ⟨none, .val 19 .mov [.t 7], []⟩,
    ⟨none, .val 20 (.bin .mul) [.t 18, .t 19], []⟩,
    ⟨none, .val 5 .mov [.t 20], []⟩]
def r41_5 : IC := (.reg o41_5 [0, 5, 8, 9, 10])
def o41_6 : List IOp := [⟨none, .val 21 .mov [.t 5], []⟩,
    ⟨none, .val 22 .mov [.t 0], []⟩,
    ⟨none, .val 23 (.bin .gtr) [.t 21, .t 22], []⟩]
def r41_6 : IC := (.reg o41_6 [0, 5, 8, 9, 10, 23])
def o41_7 : List IOp := [⟨none, .val 24 (.bin .add) [.t 10, .k (.p (.int .i64 1))], []⟩,
    ⟨none, .val 10 .mov [.t 24], []⟩]
def r41_7 : IC := (.reg o41_7 [0, 5, 8, 9, 10])
def l41_1 : IC := (.seq r41_3 (.seq (.cond (.t 11) .skip (.exit 0)) (.kp [0, 5, 8, 9, 10] (.seq (.block 1 (.seq r41_4 (.seq r41_5 (.seq r41_6 (.cond (.t 23) (.exit 0) .skip))))) (.kp [0, 5, 8, 9, 10] r41_7)))))
def o41_8 : List IOp := [⟨none, .val 25 .mov [.t 5], []⟩,
    ⟨none, .val 4 .mov [.t 25], []⟩]
def r41_8 : IC := (.reg o41_8 [4])
def b41 : IC := (.seq r41_0 (.seq r41_1 (.seq (.seq r41_2 (.block 0 (.loop l41_1))) (.seq r41_8 .ret))))
def i41 : IFn := ⟨2, 26, b41, [.tmp 4]⟩
/- residue.gcd -/
def o42_0 : List IOp := [⟨none, .val 4 .mov [.k (.p (.int .i64 0))], []⟩]
def r42_0 : IC := (.reg o42_0 [0, 1])
def o42_1 : List IOp := [⟨none, .val 5 .mov [.t 1], []⟩,
    ⟨none, .val 6 (.bin .neq) [.t 5, .k (.p (.int .i64 0))], []⟩]
def r42_1 : IC := (.reg o42_1 [0, 1, 6])
def o42_2 : List IOp := [⟨none, .val 7 .mov [.t 1], []⟩,
    ⟨none, .val 8 .mov [.t 0], []⟩,
    ⟨none, .val 9 .mov [.t 1], []⟩,
    ⟨none, .val 10 (.bin .rem) [.t 8, .t 9], [1, 2]⟩,
    ⟨none, .val 0 .mov [.t 7], [0, 1]⟩,
    ⟨none, .val 1 .mov [.t 10], [0, 1, 2, 3, 4]⟩]
def r42_2 : IC := (.regD o42_2 [0, 1])
def l42_1 : IC := (.seq (.seq r42_1 (.cond (.t 6) .skip (.exit 0))) (.kp [0, 1] (.block 1 r42_2)))
def o42_3 : List IOp := [⟨none, .val 11 .mov [.t 0], []⟩,
    ⟨none, .val 4 .mov [.t 11], []⟩]
def r42_3 : IC := (.reg o42_3 [4])
def b42 : IC := (.seq r42_0 (.seq (.block 0 (.loop l42_1)) (.seq r42_3 .ret)))
def i42 : IFn := ⟨2, 12, b42, [.tmp 4]⟩
end Go.Eng
