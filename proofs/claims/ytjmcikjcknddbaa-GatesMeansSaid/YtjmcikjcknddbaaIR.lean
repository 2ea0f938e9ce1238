/- The machine's form of the functions of this seat; written by gen.py, checked by Lean ('chk..'). -/
import Derived.Test.YtjmcikjcknddbaaE16
import Derived.Test.YtjmcikjcknddbaaProg
import Derived.KernelRfl
namespace Go.Eng
open Go Go.Proofs
set_option maxRecDepth 100000
set_option linter.unusedVariables false
set_option linter.unusedSimpArgs false
/- isochronlaw27.GatesChecks -/
def o3_0 : List IOp := [⟨none, .boxL 4 (.t 0), []⟩,
    ⟨none, .boxL 5 (.t 1), []⟩,
    ⟨none, .val 8 .mov [.k (.p (.bool false))], []⟩]
def r3_0 : IC := (.reg o3_0 [2, 3, 4, 5])
def o3_1 : List IOp := [⟨none, .load 21 (.t 4) 2 true, []⟩,
    ⟨none, .load 22 (.t 5) 2 true, []⟩,
    ⟨none, .val 23 .mov [.t 2], []⟩,
    ⟨none, .call (some 24) 10 [.t 21, .t 22, .t 23], []⟩,
    ⟨none, .val 25 .mov [.k (.p (.int .i64 0))], []⟩]
def r3_1 : IC := (.reg o3_1 [3, 24, 25])
def o3_2 : List IOp := [⟨none, .val 26 (.bin .lss) [.t 25, .k (.p (.int .i64 3))], []⟩]
def r3_2 : IC := (.reg o3_2 [3, 24, 25, 26])
def o3_3 : List IOp := [⟨none, .val 27 (.idx 3 2 true) [.t 24, .t 25], []⟩,
    ⟨none, .newL 10 [.p (.sl 2 true []), .p (.int .i64 0)], []⟩,
    ⟨none, .store (.t 10) (.t 27) 2, []⟩]
def r3_3 : IC := (.reg o3_3 [3, 10, 24, 25])
def o3_4 : List IOp := [⟨none, .val 28 .mov [.t 3], []⟩,
    ⟨none, .val 29 .mov [.t 3], []⟩,
    ⟨none, .val 30 (.bin .rem) [.t 29, .k (.p (.int .i64 1000))], []⟩,
    ⟨none, .val 31 .mov [.t 3], []⟩,
    ⟨none, .val 32 (.bin .rem) [.t 31, .k (.p (.int .i64 300))], []⟩,
    ⟨none, .val 33 .neg [.t 32], []⟩,
    ⟨none, .val 34 (.build [.p (.int .i64 0), .p (.int .i64 0), .p (.int .i64 0)] [(0, 1), (1, 1), (2, 1)]) [.t 28, .t 30, .t 33], []⟩,
    ⟨none, .val 35 .mov [.k (.p (.int .i64 0))], []⟩]
def r3_4 : IC := (.reg o3_4 [3, 10, 24, 25, 34, 35])
def o3_5 : List IOp := [⟨none, .val 36 (.bin .lss) [.t 35, .k (.p (.int .i64 3))], []⟩]
def r3_5 : IC := (.reg o3_5 [3, 10, 24, 25, 34, 35, 36])
def o3_6 : List IOp := [⟨none, .val 37 (.idx 3 1 false) [.t 34, .t 35], []⟩,
    ⟨none, .val 12 .mov [.t 37], []⟩]
def r3_6 : IC := (.reg o3_6 [3, 10, 12, 24, 25, 34, 35])
def o3_7 : List IOp := [⟨none, .load 39 (.t 10) 2 true, []⟩,
    ⟨none, .val 40 .mov [.t 12], []⟩,
    ⟨none, .call (some 41) 11 [.t 39, .t 40], []⟩,
    ⟨none, .val 38 .mov [.t 41], []⟩,
    ⟨none, .val 42 (.ext 0) [.t 38], []⟩,
    ⟨none, .val 43 (.ext 1) [.t 38], []⟩,
    ⟨none, .val 13 .mov [.t 42], []⟩,
    ⟨none, .val 14 .mov [.t 43], []⟩]
def r3_7 : IC := (.reg o3_7 [3, 10, 12, 13, 14, 24, 25, 34, 35])
def o3_8 : List IOp := [⟨none, .load 45 (.t 10) 2 true, []⟩,
    ⟨none, .val 46 .mov [.t 12], []⟩,
    ⟨none, .call (some 47) 12 [.t 45, .t 46], []⟩,
    ⟨none, .val 44 .mov [.t 47], []⟩,
    ⟨none, .val 48 (.ext 0) [.t 44], []⟩,
    ⟨none, .val 49 (.ext 1) [.t 44], []⟩,
    ⟨none, .val 15 .mov [.t 48], []⟩,
    ⟨none, .val 16 .mov [.t 49], []⟩]
def r3_8 : IC := (.reg o3_8 [3, 10, 12, 13, 14, 15, 16, 24, 25, 34, 35])
def o3_9 : List IOp := [⟨none, .load 51 (.t 10) 2 true, []⟩,
    ⟨none, .val 52 .mov [.t 12], []⟩,
    ⟨none, .call (some 53) 13 [.t 51, .t 52], []⟩,
    ⟨none, .val 50 .mov [.t 53], []⟩,
    ⟨none, .val 54 (.ext 0) [.t 50], []⟩,
    ⟨none, .val 55 (.ext 1) [.t 50], []⟩,
    ⟨none, .val 17 .mov [.t 54], []⟩,
    ⟨none, .val 18 .mov [.t 55], []⟩]
def r3_9 : IC := (.reg o3_9 [3, 10, 12, 13, 14, 15, 16, 17, 18, 24, 25, 34, 35])
def o3_10 : List IOp := [⟨none, .load 57 (.t 10) 2 true, []⟩,
    ⟨none, .val 58 .mov [.t 12], []⟩,
    ⟨none, .call (some 59) 14 [.t 57, .t 58], []⟩,
    ⟨none, .val 56 .mov [.t 59], []⟩,
    ⟨none, .val 60 (.ext 0) [.t 56], []⟩,
    ⟨none, .val 61 (.ext 1) [.t 56], []⟩,
    ⟨none, .val 19 .mov [.t 60], []⟩,
    ⟨none, .val 20 .mov [.t 61], []⟩]
def r3_10 : IC := (.reg o3_10 [3, 10, 13, 14, 15, 16, 17, 18, 19, 20, 24, 25, 34, 35])
def o3_11 : List IOp := [⟨none, .val 62 .mov [.t 13], []⟩,
    ⟨none, .val 63 .mov [.t 15], []⟩,
    ⟨none, .val 64 (.bin .neq) [.t 62, .t 63], []⟩,
    ⟨none, .val 65 .mov [.t 64], []⟩,
    ⟨(some (65, false)), .val 66 .mov [.t 14], []⟩,
    ⟨(some (65, false)), .val 67 .mov [.t 16], []⟩,
    ⟨(some (65, false)), .val 68 (.bin .neq) [.t 66, .t 67], []⟩,
    ⟨none, .val 69 .pick [.t 65, .k (.p (.bool true)), .t 68], []⟩,
    ⟨none, .val 70 .mov [.t 69], []⟩,
    ⟨(some (70, false)), .val 71 .mov [.t 17], []⟩,
    ⟨(some (70, false)), .val 72 .mov [.t 19], []⟩,
    ⟨(some (70, false)), .val 73 (.bin .neq) [.t 71, .t 72], []⟩,
    ⟨none, .val 74 .pick [.t 70, .k (.p (.bool true)), .t 73], []⟩,
    ⟨none, .val 75 .mov [.t 74], []⟩,
    ⟨(some (75, false)), .val 76 .mov [.t 18], []⟩,
    ⟨(some (75, false)), .val 77 .mov [.t 20], []⟩,
    ⟨(some (75, false)), .val 78 (.bin .neq) [.t 76, .t 77], []⟩,
    ⟨none, .val 79 .pick [.t 75, .k (.p (.bool true)), .t 78], []⟩]
def r3_11 : IC := (.reg o3_11 [3, 10, 24, 25, 34, 35, 79])
def o3_12 : List IOp := [⟨none, .val 8 .mov [.k (.p (.bool false))], []⟩]
def r3_12 : IC := (.reg o3_12 [8])
def o3_13 : List IOp := [⟨none, .val 80 (.bin .add) [.t 35, .k (.p (.int .i64 1))], []⟩,
    ⟨none, .val 35 .mov [.t 80], []⟩]
def r3_13 : IC := (.reg o3_13 [3, 10, 24, 25, 34, 35])
def l3_2 : IC := (.seq r3_5 (.seq (.cond (.t 36) .skip (.exit 2)) (.kp [3, 10, 24, 25, 34, 35] (.seq (.block 3 (.seq r3_6 (.seq r3_7 (.seq r3_8 (.seq r3_9 (.seq r3_10 (.seq r3_11 (.cond (.t 79) (.seq r3_12 .ret) .skip)))))))) (.kp [3, 10, 24, 25, 34, 35] r3_13)))))
def o3_14 : List IOp := [⟨none, .loadL 81 (.t 10) 2 true, []⟩,
    ⟨none, .callP 82 15 [.t 81], [0]⟩,
    ⟨none, .loadL 83 (.t 10) 2 true, []⟩,
    ⟨none, .callP 84 16 [.t 83], [0, 1, 2]⟩,
    ⟨none, .val 85 (.bin .neq) [.t 82, .t 84], [0, 1, 2, 3]⟩]
def r3_14 : IC := (.regD o3_14 [3, 24, 25, 85])
def o3_15 : List IOp := [⟨none, .val 8 .mov [.k (.p (.bool false))], []⟩]
def r3_15 : IC := (.reg o3_15 [8])
def o3_16 : List IOp := [⟨none, .val 86 (.bin .add) [.t 25, .k (.p (.int .i64 1))], []⟩,
    ⟨none, .val 25 .mov [.t 86], []⟩]
def r3_16 : IC := (.reg o3_16 [3, 24, 25])
def l3_1 : IC := (.seq r3_2 (.seq (.cond (.t 26) .skip (.exit 0)) (.kp [3, 24, 25] (.seq (.block 1 (.seq r3_3 (.seq (.seq r3_4 (.block 2 (.loop l3_2))) (.seq r3_14 (.cond (.t 85) (.seq r3_15 .ret) .skip))))) (.kp [3, 24, 25] r3_16)))))
def o3_17 : List IOp := [⟨none, .call (some 87) 17 [], []⟩,
    ⟨none, .val 8 .mov [.t 87], []⟩]
def r3_17 : IC := (.reg o3_17 [8])
def b3 : IC := (.seq r3_0 (.seq (.seq r3_1 (.block 0 (.loop l3_1))) (.seq r3_17 .ret)))
def i3 : IFn := ⟨4, 88, b3, [.tmp 8]⟩
/- isochronlaw27.GatesOpens -/
def o4_0 : List IOp := [⟨none, .boxL 4 (.t 0), []⟩,
    ⟨none, .boxL 5 (.t 1), []⟩,
    ⟨none, .boxL 7 (.t 3), []⟩,
    ⟨none, .val 8 .mov [.k (.p (.bool false))], []⟩]
def r4_0 : IC := (.reg o4_0 [2, 4, 5, 7])
def o4_1 : List IOp := [⟨none, .load 21 (.t 4) 2 true, []⟩,
    ⟨none, .load 22 (.t 5) 2 true, []⟩,
    ⟨none, .val 23 .mov [.t 2], []⟩,
    ⟨none, .call (some 24) 10 [.t 21, .t 22, .t 23], []⟩,
    ⟨none, .val 25 .mov [.k (.p (.int .i64 0))], []⟩]
def r4_1 : IC := (.reg o4_1 [7, 24, 25])
def o4_2 : List IOp := [⟨none, .val 26 (.bin .lss) [.t 25, .k (.p (.int .i64 3))], []⟩]
def r4_2 : IC := (.reg o4_2 [7, 24, 25, 26])
def o4_3 : List IOp := [⟨none, .val 27 (.idx 3 2 true) [.t 24, .t 25], []⟩,
    ⟨none, .newL 10 [.p (.sl 2 true []), .p (.int .i64 0)], []⟩,
    ⟨none, .store (.t 10) (.t 27) 2, []⟩]
def r4_3 : IC := (.reg o4_3 [7, 10, 24, 25])
def o4_4 : List IOp := [⟨none, .load 28 (.t 7) 3 true, []⟩,
    ⟨none, .val 29 (.iaddr 3 1) [.t 7, .k (.p (.int .i64 0))], []⟩,
    ⟨none, .load 30 (.t 29) 1 false, []⟩,
    ⟨none, .val 31 (.bin .rem) [.t 30, .k (.p (.int .i64 8))], []⟩,
    ⟨none, .val 32 (.iaddr 3 1) [.t 7, .k (.p (.int .i64 1))], []⟩,
    ⟨none, .load 33 (.t 32) 1 false, []⟩,
    ⟨none, .val 34 (.bin .rem) [.t 33, .k (.p (.int .i64 1000))], []⟩,
    ⟨none, .val 35 (.iaddr 3 1) [.t 7, .k (.p (.int .i64 2))], []⟩,
    ⟨none, .load 36 (.t 35) 1 false, []⟩,
    ⟨none, .val 37 (.bin .rem) [.t 36, .k (.p (.int .i64 50))], []⟩,
    ⟨none, .val 38 (.build [.p (.int .i64 0), .p (.int .i64 0), .p (.int .i64 0)] [(0, 1), (1, 1), (2, 1)]) [.t 31, .t 34, .t 37], []⟩,
    ⟨none, .val 39 (.iaddr 3 1) [.t 7, .k (.p (.int .i64 1))], []⟩,
    ⟨none, .load 40 (.t 39) 1 false, []⟩,
    ⟨none, .val 41 (.bin .rem) [.t 40, .k (.p (.int .i64 1000))], []⟩,
    ⟨none, .val 42 (.iaddr 3 1) [.t 7, .k (.p (.int .i64 2))], []⟩,
    ⟨none, .load 43 (.t 42) 1 false, []⟩,
    ⟨none, .val 44 (.bin .rem) [.t 43, .k (.p (.int .i64 50))], []⟩,
    ⟨none, .val 45 (.build [.p (.int .i64 0), .p (.int .i64 0), .p (.int .i64 0)] [(0, 1), (1, 1), (2, 1)]) [.k (.p (.int .i64 6)), .t 41, .t 44], []⟩,
    ⟨none, .val 46 (.build [.p (.int .i64 0), .p (.int .i64 0), .p (.int .i64 0), .p (.int .i64 0), .p (.int .i64 0), .p (.int .i64 0), .p (.int .i64 0), .p (.int .i64 0), .p (.int .i64 0)] [(0, 3), (3, 3), (6, 3)]) [.t 28, .t 38, .t 45], []⟩,
    ⟨none, .val 47 .mov [.k (.p (.int .i64 0))], []⟩]
def r4_4 : IC := (.reg o4_4 [7, 10, 24, 25, 46, 47])
def o4_5 : List IOp := [⟨none, .val 48 (.bin .lss) [.t 47, .k (.p (.int .i64 3))], []⟩]
def r4_5 : IC := (.reg o4_5 [7, 10, 24, 25, 46, 47, 48])
def o4_6 : List IOp := [⟨none, .val 49 (.idx 3 3 true) [.t 46, .t 47], []⟩,
    ⟨none, .newL 12 [.p (.int .i64 0), .p (.int .i64 0), .p (.int .i64 0)], []⟩,
    ⟨none, .store (.t 12) (.t 49) 3, []⟩]
def r4_6 : IC := (.reg o4_6 [7, 10, 12, 24, 25, 46, 47])
def o4_7 : List IOp := [⟨none, .load 51 (.t 10) 2 true, []⟩,
    ⟨none, .val 52 (.iaddr 3 1) [.t 12, .k (.p (.int .i64 0))], []⟩,
    ⟨none, .load 53 (.t 52) 1 false, []⟩,
    ⟨none, .val 54 (.iaddr 3 1) [.t 12, .k (.p (.int .i64 1))], []⟩,
    ⟨none, .load 55 (.t 54) 1 false, []⟩,
    ⟨none, .call (some 56) 18 [.t 51, .t 53, .t 55], []⟩,
    ⟨none, .val 50 .mov [.t 56], []⟩,
    ⟨none, .val 57 (.ext 0) [.t 50], []⟩,
    ⟨none, .val 58 (.ext 1) [.t 50], []⟩,
    ⟨none, .val 13 .mov [.t 57], []⟩,
    ⟨none, .val 14 .mov [.t 58], []⟩]
def r4_7 : IC := (.reg o4_7 [7, 10, 12, 13, 14, 24, 25, 46, 47])
def o4_8 : List IOp := [⟨none, .load 60 (.t 10) 2 true, []⟩,
    ⟨none, .val 61 (.iaddr 3 1) [.t 12, .k (.p (.int .i64 0))], []⟩,
    ⟨none, .load 62 (.t 61) 1 false, []⟩,
    ⟨none, .val 63 (.iaddr 3 1) [.t 12, .k (.p (.int .i64 1))], []⟩,
    ⟨none, .load 64 (.t 63) 1 false, []⟩,
    ⟨none, .call (some 65) 19 [.t 60, .t 62, .t 64], []⟩,
    ⟨none, .val 59 .mov [.t 65], []⟩,
    ⟨none, .val 66 (.ext 0) [.t 59], []⟩,
    ⟨none, .val 67 (.ext 1) [.t 59], []⟩,
    ⟨none, .val 15 .mov [.t 66], []⟩,
    ⟨none, .val 16 .mov [.t 67], []⟩]
def r4_8 : IC := (.reg o4_8 [7, 10, 12, 13, 14, 15, 16, 24, 25, 46, 47])
def o4_9 : List IOp := [⟨none, .load 69 (.t 10) 2 true, []⟩,
    ⟨none, .val 70 (.iaddr 3 1) [.t 12, .k (.p (.int .i64 0))], []⟩,
    ⟨none, .load 71 (.t 70) 1 false, []⟩,
    ⟨none, .val 72 (.iaddr 3 1) [.t 12, .k (.p (.int .i64 1))], []⟩,
    ⟨none, .load 73 (.t 72) 1 false, []⟩,
    ⟨none, .val 74 (.iaddr 3 1) [.t 12, .k (.p (.int .i64 2))], []⟩,
    ⟨none, .load 75 (.t 74) 1 false, []⟩,
    ⟨none, .call (some 76) 20 [.t 69, .t 71, .t 73, .t 75], []⟩,
    ⟨none, .val 68 .mov [.t 76], []⟩,
    ⟨none, .val 77 (.ext 0) [.t 68], []⟩,
    ⟨none, .val 78 (.ext 1) [.t 68], []⟩,
    ⟨none, .val 17 .mov [.t 77], []⟩,
    ⟨none, .val 18 .mov [.t 78], []⟩]
def r4_9 : IC := (.reg o4_9 [7, 10, 12, 13, 14, 15, 16, 17, 18, 24, 25, 46, 47])
def o4_10 : List IOp := [⟨none, .load 80 (.t 10) 2 true, []⟩,
    ⟨none, .val 81 (.iaddr 3 1) [.t 12, .k (.p (.int .i64 0))], []⟩,
    ⟨none, .load 82 (.t 81) 1 false, []⟩,
    ⟨none, .val 83 (.iaddr 3 1) [.t 12, .k (.p (.int .i64 1))], []⟩,
    ⟨none, .load 84 (.t 83) 1 false, []⟩,
    ⟨none, .val 85 (.iaddr 3 1) [.t 12, .k (.p (.int .i64 2))], []⟩,
    ⟨none, .load 86 (.t 85) 1 false, []⟩,
    ⟨none, .call (some 87) 21 [.t 80, .t 82, .t 84, .t 86], []⟩,
    ⟨none, .val 79 .mov [.t 87], []⟩,
    ⟨none, .val 88 (.ext 0) [.t 79], []⟩,
    ⟨none, .val 89 (.ext 1) [.t 79], []⟩,
    ⟨none, .val 19 .mov [.t 88], []⟩,
    ⟨none, .val 20 .mov [.t 89], []⟩]
def r4_10 : IC := (.reg o4_10 [7, 10, 13, 14, 15, 16, 17, 18, 19, 20, 24, 25, 46, 47])
def o4_11 : List IOp := [⟨none, .val 90 .mov [.t 13], []⟩,
    ⟨none, .val 91 .mov [.t 15], []⟩,
    ⟨none, .val 92 (.bin .neq) [.t 90, .t 91], []⟩,
    ⟨none, .val 93 .mov [.t 92], []⟩,
    ⟨(some (93, false)), .val 94 .mov [.t 14], []⟩,
    ⟨(some (93, false)), .val 95 .mov [.t 16], []⟩,
    ⟨(some (93, false)), .val 96 (.bin .neq) [.t 94, .t 95], []⟩,
    ⟨none, .val 97 .pick [.t 93, .k (.p (.bool true)), .t 96], []⟩,
    ⟨none, .val 98 .mov [.t 97], []⟩,
    ⟨(some (98, false)), .val 99 .mov [.t 17], []⟩,
    ⟨(some (98, false)), .val 100 .mov [.t 19], []⟩,
    ⟨(some (98, false)), .val 101 (.eqB true) [.t 99, .t 100], []⟩,
    ⟨none, .val 102 .pick [.t 98, .k (.p (.bool true)), .t 101], []⟩,
    ⟨none, .val 103 .mov [.t 102], []⟩,
    ⟨(some (103, false)), .val 104 .mov [.t 18], []⟩,
    ⟨(some (103, false)), .val 105 .mov [.t 20], []⟩,
    ⟨(some (103, false)), .val 106 (.bin .neq) [.t 104, .t 105], []⟩,
    ⟨none, .val 107 .pick [.t 103, .k (.p (.bool true)), .t 106], []⟩]
def r4_11 : IC := (.reg o4_11 [7, 10, 24, 25, 46, 47, 107])
def o4_12 : List IOp := [⟨none, .val 8 .mov [.k (.p (.bool false))], []⟩]
def r4_12 : IC := (.reg o4_12 [8])
def o4_13 : List IOp := [⟨none, .val 108 (.bin .add) [.t 47, .k (.p (.int .i64 1))], []⟩,
    ⟨none, .val 47 .mov [.t 108], []⟩]
def r4_13 : IC := (.reg o4_13 [7, 10, 24, 25, 46, 47])
def l4_2 : IC := (.seq r4_5 (.seq (.cond (.t 48) .skip (.exit 2)) (.kp [7, 10, 24, 25, 46, 47] (.seq (.block 3 (.seq r4_6 (.seq r4_7 (.seq r4_8 (.seq r4_9 (.seq r4_10 (.seq r4_11 (.cond (.t 107) (.seq r4_12 .ret) .skip)))))))) (.kp [7, 10, 24, 25, 46, 47] r4_13)))))
def o4_14 : List IOp := [⟨none, .val 109 (.bin .add) [.t 25, .k (.p (.int .i64 1))], []⟩,
    ⟨none, .val 25 .mov [.t 109], []⟩]
def r4_14 : IC := (.reg o4_14 [7, 24, 25])
def l4_1 : IC := (.seq r4_2 (.seq (.cond (.t 26) .skip (.exit 0)) (.kp [7, 24, 25] (.seq (.block 1 (.seq r4_3 (.seq r4_4 (.block 2 (.loop l4_2))))) r4_14))))
def o4_15 : List IOp := [⟨none, .call (some 110) 17 [], []⟩,
    ⟨none, .val 8 .mov [.t 110], []⟩]
def r4_15 : IC := (.reg o4_15 [8])
def b4 : IC := (.seq r4_0 (.seq (.seq r4_1 (.block 0 (.loop l4_1))) (.seq r4_15 .ret)))
def i4 : IFn := ⟨4, 111, b4, [.tmp 8]⟩
/- isochronlaw27.GatesFinds -/
def o5_0 : List IOp := [⟨none, .boxL 4 (.t 0), []⟩,
    ⟨none, .boxL 5 (.t 1), []⟩,
    ⟨none, .boxL 7 (.t 3), []⟩,
    ⟨none, .val 8 .mov [.k (.p (.bool false))], []⟩]
def r5_0 : IC := (.reg o5_0 [2, 4, 5, 7])
def o5_1 : List IOp := [⟨none, .load 17 (.t 4) 2 true, []⟩,
    ⟨none, .load 18 (.t 5) 2 true, []⟩,
    ⟨none, .val 19 .mov [.t 2], []⟩,
    ⟨none, .call (some 20) 10 [.t 17, .t 18, .t 19], []⟩,
    ⟨none, .val 21 .mov [.k (.p (.int .i64 0))], []⟩]
def r5_1 : IC := (.reg o5_1 [7, 20, 21])
def o5_2 : List IOp := [⟨none, .val 22 (.bin .lss) [.t 21, .k (.p (.int .i64 3))], []⟩]
def r5_2 : IC := (.reg o5_2 [7, 20, 21, 22])
def o5_3 : List IOp := [⟨none, .val 23 (.idx 3 2 true) [.t 20, .t 21], []⟩,
    ⟨none, .newL 10 [.p (.sl 2 true []), .p (.int .i64 0)], []⟩,
    ⟨none, .store (.t 10) (.t 23) 2, []⟩]
def r5_3 : IC := (.reg o5_3 [7, 10, 20, 21])
def o5_4 : List IOp := [⟨none, .load 24 (.t 7) 3 true, []⟩,
    ⟨none, .val 25 (.iaddr 3 1) [.t 7, .k (.p (.int .i64 0))], []⟩,
    ⟨none, .load 26 (.t 25) 1 false, []⟩,
    ⟨none, .val 27 (.bin .rem) [.t 26, .k (.p (.int .i64 8))], []⟩,
    ⟨none, .val 28 (.iaddr 3 1) [.t 7, .k (.p (.int .i64 1))], []⟩,
    ⟨none, .load 29 (.t 28) 1 false, []⟩,
    ⟨none, .val 30 (.bin .rem) [.t 29, .k (.p (.int .i64 1000))], []⟩,
    ⟨none, .val 31 (.iaddr 3 1) [.t 7, .k (.p (.int .i64 2))], []⟩,
    ⟨none, .load 32 (.t 31) 1 false, []⟩,
    ⟨none, .val 33 (.bin .rem) [.t 32, .k (.p (.int .i64 50))], []⟩,
    ⟨none, .val 34 (.build [.p (.int .i64 0), .p (.int .i64 0), .p (.int .i64 0)] [(0, 1), (1, 1), (2, 1)]) [.t 27, .t 30, .t 33], []⟩,
    ⟨none, .val 35 (.iaddr 3 1) [.t 7, .k (.p (.int .i64 1))], []⟩,
    ⟨none, .load 36 (.t 35) 1 false, []⟩,
    ⟨none, .val 37 (.bin .rem) [.t 36, .k (.p (.int .i64 1000))], []⟩,
    ⟨none, .val 38 (.iaddr 3 1) [.t 7, .k (.p (.int .i64 2))], []⟩,
    ⟨none, .load 39 (.t 38) 1 false, []⟩,
    ⟨none, .val 40 (.bin .rem) [.t 39, .k (.p (.int .i64 50))], []⟩,
    ⟨none, .val 41 (.build [.p (.int .i64 0), .p (.int .i64 0), .p (.int .i64 0)] [(0, 1), (1, 1), (2, 1)]) [.k (.p (.int .i64 6)), .t 37, .t 40], []⟩,
    ⟨none, .val 42 (.iaddr 3 1) [.t 7, .k (.p (.int .i64 1))], []⟩,
    ⟨none, .load 43 (.t 42) 1 false, []⟩,
    ⟨none, .val 44 (.bin .rem) [.t 43, .k (.p (.int .i64 1000))], []⟩,
    ⟨none, .val 45 (.iaddr 3 1) [.t 7, .k (.p (.int .i64 2))], []⟩,
    ⟨none, .load 46 (.t 45) 1 false, []⟩,
    ⟨none, .val 47 (.bin .rem) [.t 46, .k (.p (.int .i64 25))], []⟩,
    ⟨none, .val 48 (.build [.p (.int .i64 0), .p (.int .i64 0), .p (.int .i64 0)] [(0, 1), (1, 1), (2, 1)]) [.k (.p (.int .i64 7)), .t 44, .t 47], []⟩,
    ⟨none, .val 49 (.build [.p (.int .i64 0), .p (.int .i64 0), .p (.int .i64 0), .p (.int .i64 0), .p (.int .i64 0), .p (.int .i64 0), .p (.int .i64 0), .p (.int .i64 0), .p (.int .i64 0), .p (.int .i64 0), .p (.int .i64 0), .p (.int .i64 0)] [(0, 3), (3, 3), (6, 3), (9, 3)]) [.t 24, .t 34, .t 41, .t 48], []⟩,
    ⟨none, .val 50 .mov [.k (.p (.int .i64 0))], []⟩]
def r5_4 : IC := (.reg o5_4 [7, 10, 20, 21, 49, 50])
def o5_5 : List IOp := [⟨none, .val 51 (.bin .lss) [.t 50, .k (.p (.int .i64 4))], []⟩]
def r5_5 : IC := (.reg o5_5 [7, 10, 20, 21, 49, 50, 51])
def o5_6 : List IOp := [⟨none, .val 52 (.idx 4 3 true) [.t 49, .t 50], []⟩,
    ⟨none, .newL 12 [.p (.int .i64 0), .p (.int .i64 0), .p (.int .i64 0)], []⟩,
    ⟨none, .store (.t 12) (.t 52) 3, []⟩]
def r5_6 : IC := (.reg o5_6 [7, 10, 12, 20, 21, 49, 50])
def o5_7 : List IOp := [⟨none, .load 54 (.t 10) 2 true, []⟩,
    ⟨none, .val 55 (.iaddr 3 1) [.t 12, .k (.p (.int .i64 0))], []⟩,
    ⟨none, .load 56 (.t 55) 1 false, []⟩,
    ⟨none, .val 57 (.iaddr 3 1) [.t 12, .k (.p (.int .i64 1))], []⟩,
    ⟨none, .load 58 (.t 57) 1 false, []⟩,
    ⟨none, .val 59 (.iaddr 3 1) [.t 12, .k (.p (.int .i64 2))], []⟩,
    ⟨none, .load 60 (.t 59) 1 false, []⟩,
    ⟨none, .call (some 61) 22 [.t 54, .t 56, .t 58, .t 60], []⟩,
    ⟨none, .val 53 .mov [.t 61], []⟩,
    ⟨none, .val 62 (.ext 0) [.t 53], []⟩,
    ⟨none, .val 63 (.ext 1) [.t 53], []⟩,
    ⟨none, .val 13 .mov [.t 62], []⟩,
    ⟨none, .val 14 .mov [.t 63], []⟩]
def r5_7 : IC := (.reg o5_7 [7, 10, 12, 13, 14, 20, 21, 49, 50])
def o5_8 : List IOp := [⟨none, .load 65 (.t 10) 2 true, []⟩,
    ⟨none, .val 66 (.iaddr 3 1) [.t 12, .k (.p (.int .i64 0))], []⟩,
    ⟨none, .load 67 (.t 66) 1 false, []⟩,
    ⟨none, .val 68 (.iaddr 3 1) [.t 12, .k (.p (.int .i64 1))], []⟩,
    ⟨none, .load 69 (.t 68) 1 false, []⟩,
    ⟨none, .val 70 (.iaddr 3 1) [.t 12, .k (.p (.int .i64 2))], []⟩,
    ⟨none, .load 71 (.t 70) 1 false, []⟩,
    ⟨none, .call (some 72) 23 [.t 65, .t 67, .t 69, .t 71], []⟩,
    ⟨none, .val 64 .mov [.t 72], []⟩,
    ⟨none, .val 73 (.ext 0) [.t 64], []⟩,
    ⟨none, .val 74 (.ext 1) [.t 64], []⟩,
    ⟨none, .val 15 .mov [.t 73], []⟩,
    ⟨none, .val 16 .mov [.t 74], []⟩]
def r5_8 : IC := (.reg o5_8 [7, 10, 13, 14, 15, 16, 20, 21, 49, 50])
def o5_9 : List IOp := [⟨none, .val 75 .mov [.t 13], []⟩,
    ⟨none, .val 76 .mov [.t 15], []⟩,
    ⟨none, .val 77 (.bin .neq) [.t 75, .t 76], []⟩,
    ⟨none, .val 78 .mov [.t 77], []⟩,
    ⟨(some (78, false)), .val 79 .mov [.t 14], []⟩,
    ⟨(some (78, false)), .val 80 .mov [.t 16], []⟩,
    ⟨(some (78, false)), .val 81 (.bin .neq) [.t 79, .t 80], []⟩,
    ⟨none, .val 82 .pick [.t 78, .k (.p (.bool true)), .t 81], []⟩]
def r5_9 : IC := (.reg o5_9 [7, 10, 20, 21, 49, 50, 82])
def o5_10 : List IOp := [⟨none, .val 8 .mov [.k (.p (.bool false))], []⟩]
def r5_10 : IC := (.reg o5_10 [8])
def o5_11 : List IOp := [⟨none, .val 83 (.bin .add) [.t 50, .k (.p (.int .i64 1))], []⟩,
    ⟨none, .val 50 .mov [.t 83], []⟩]
def r5_11 : IC := (.reg o5_11 [7, 10, 20, 21, 49, 50])
def l5_2 : IC := (.seq r5_5 (.seq (.cond (.t 51) .skip (.exit 2)) (.kp [7, 10, 20, 21, 49, 50] (.seq (.block 3 (.seq r5_6 (.seq r5_7 (.seq r5_8 (.seq r5_9 (.cond (.t 82) (.seq r5_10 .ret) .skip)))))) (.kp [7, 10, 20, 21, 49, 50] r5_11)))))
def o5_12 : List IOp := [⟨none, .val 84 (.bin .add) [.t 21, .k (.p (.int .i64 1))], []⟩,
    ⟨none, .val 21 .mov [.t 84], []⟩]
def r5_12 : IC := (.reg o5_12 [7, 20, 21])
def l5_1 : IC := (.seq r5_2 (.seq (.cond (.t 22) .skip (.exit 0)) (.kp [7, 20, 21] (.seq (.block 1 (.seq r5_3 (.seq r5_4 (.block 2 (.loop l5_2))))) r5_12))))
def o5_13 : List IOp := [⟨none, .call (some 85) 17 [], []⟩,
    ⟨none, .val 8 .mov [.t 85], []⟩]
def r5_13 : IC := (.reg o5_13 [8])
def b5 : IC := (.seq r5_0 (.seq (.seq r5_1 (.block 0 (.loop l5_1))) (.seq r5_13 .ret)))
def i5 : IFn := ⟨4, 86, b5, [.tmp 8]⟩
/- isochronlaw27.GatesMeans -/
def o6_0 : List IOp := [⟨none, .boxL 4 (.t 0), []⟩,
    ⟨none, .val 8 .mov [.k (.p (.bool false))], []⟩]
def r6_0 : IC := (.reg o6_0 [1, 2, 3, 4])
def o6_1 : List IOp := [⟨none, .call (some 16) 17 [], []⟩,
    ⟨none, .val 17 .not [.t 16], []⟩]
def r6_1 : IC := (.reg o6_1 [1, 2, 3, 4, 17])
def o6_2 : List IOp := [⟨none, .val 8 .mov [.k (.p (.bool false))], []⟩]
def r6_2 : IC := (.reg o6_2 [8])
def o6_3 : List IOp := [⟨none, .load 18 (.t 4) 2 true, []⟩,
    ⟨none, .call (some 19) 24 [.t 18], []⟩,
    ⟨none, .newL 9 [.p (.sl 2 true []), .p (.int .i64 0)], []⟩,
    ⟨none, .store (.t 9) (.t 19) 2, []⟩]
def r6_3 : IC := (.reg o6_3 [1, 2, 3, 9])
def o6_4 : List IOp := [⟨none, .val 20 .mov [.t 1], []⟩,
    ⟨none, .val 21 (.bin .rem) [.t 20, .k (.p (.int .u8 8))], []⟩,
    ⟨none, .val 22 (.conv .i64) [.t 21], []⟩,
    ⟨none, .val 23 .mov [.t 2], []⟩,
    ⟨none, .val 24 (.conv .i64) [.t 23], []⟩,
    ⟨none, .val 10 .mov [.t 22], []⟩,
    ⟨none, .val 11 .mov [.t 24], []⟩]
def r6_4 : IC := (.reg o6_4 [3, 9, 10, 11])
def o6_5 : List IOp := [⟨none, .val 12 .mov [.k (.p (.int .i64 0))], []⟩,
    ⟨none, .val 13 .mov [.k (.p (.bool true))], []⟩]
def r6_5 : IC := (.reg o6_5 [3, 9, 10, 11, 12, 13])
def o6_6 : List IOp := [⟨none, .val 25 .mov [.t 12], []⟩,
    ⟨none, .val 26 (.faddr 1) [.t 9], []⟩,
    ⟨none, .load 27 (.t 26) 1 false, []⟩,
    ⟨none, .val 28 (.bin .lss) [.t 25, .t 27], []⟩,
    ⟨none, .val 29 .mov [.t 28], []⟩,
    ⟨(some (29, true)), .val 30 .mov [.t 13], []⟩,
    ⟨none, .val 31 .pick [.t 29, .t 30, .k (.p (.bool false))], []⟩]
def r6_6 : IC := (.reg o6_6 [3, 9, 10, 11, 12, 13, 31])
def o6_7 : List IOp := [⟨none, .load 32 (.t 9) 2 true, []⟩,
    ⟨none, .val 33 .mov [.t 11], []⟩,
    ⟨none, .val 34 .mov [.t 12], []⟩,
    ⟨none, .val 35 (.bin .add) [.t 33, .t 34], []⟩,
    ⟨none, .call (some 36) 25 [.t 32, .t 35], []⟩,
    ⟨none, .val 37 .mov [.t 10], []⟩,
    ⟨none, .val 38 (.conv .u64) [.t 37], []⟩,
    ⟨none, .val 39 (.sh .shr) [.t 36, .t 38], []⟩,
    ⟨none, .val 40 (.bin .and) [.t 39, .k (.p (.int .i64 1))], []⟩,
    ⟨none, .val 41 (.bin .eql) [.t 40, .k (.p (.int .i64 1))], []⟩,
    ⟨none, .val 13 .mov [.t 41], []⟩]
def r6_7 : IC := (.reg o6_7 [3, 9, 10, 11, 12, 13])
def o6_8 : List IOp := [⟨none, .val 42 .mov [.t 13], []⟩]
def r6_8 : IC := (.reg o6_8 [3, 9, 10, 11, 12, 13, 42])
def o6_9 : List IOp := [⟨none, .val 43 .mov [.t 12], []⟩,
    ⟨none, .val 44 (.bin .add) [.t 43, .k (.p (.int .i64 1))], []⟩,
    ⟨none, .val 12 .mov [.t 44], []⟩]
def r6_9 : IC := (.reg o6_9 [3, 9, 10, 11, 12, 13])
def l6_1 : IC := (.seq (.seq r6_6 (.cond (.t 31) .skip (.exit 0))) (.kp [3, 9, 10, 11, 12] (.block 1 (.seq r6_7 (.seq r6_8 (.cond (.t 42) r6_9 .skip))))))
def o6_10 : List IOp := [⟨none, .val 45 .mov [.t 12], []⟩,
    ⟨none, .val 14 .mov [.t 45], []⟩]
def r6_10 : IC := (.reg o6_10 [3, 9, 10, 11, 12, 13, 14])
def o6_11 : List IOp := [⟨none, .val 46 .mov [.t 13], []⟩]
def r6_11 : IC := (.reg o6_11 [3, 9, 10, 11, 12, 13, 14, 46])
def o6_12 : List IOp := [⟨none, .val 14 .mov [.k (.p (.int .i64 1099511627776))], []⟩]
def r6_12 : IC := (.reg o6_12 [3, 9, 10, 11, 12, 13, 14])
def o6_13 : List IOp := [⟨none, .val 15 .mov [.k (.p (.int .i64 0))], []⟩]
def r6_13 : IC := (.reg o6_13 [3, 9, 10, 11, 12, 13, 14, 15])
def o6_14 : List IOp := [⟨none, .val 47 .mov [.t 15], []⟩,
    ⟨none, .val 48 (.faddr 1) [.t 9], []⟩,
    ⟨none, .load 49 (.t 48) 1 false, []⟩,
    ⟨none, .val 50 (.bin .lss) [.t 47, .t 49], []⟩]
def r6_14 : IC := (.reg o6_14 [3, 9, 10, 11, 12, 13, 14, 15, 50])
def o6_16 : List IOp := [⟨none, .loadL 53 (.t 9) 2 true, []⟩,
    ⟨none, .val 54 .mov [.t 11], []⟩,
    ⟨none, .val 55 .mov [.t 15], []⟩,
    ⟨none, .val 56 (.bin .add) [.t 54, .t 55], [1, 2]⟩,
    ⟨none, .callP 57 25 [.t 53, .t 56], [0, 1, 2, 3]⟩,
    ⟨none, .loadL 58 (.t 9) 2 true, []⟩,
    ⟨none, .val 59 .mov [.t 11], []⟩,
    ⟨none, .val 60 .mov [.t 15], []⟩,
    ⟨none, .val 61 (.bin .add) [.t 59, .t 60], [6, 7]⟩,
    ⟨none, .val 62 (.faddr 1) [.t 9], []⟩,
    ⟨none, .loadL 63 (.t 62) 1 false, [9]⟩,
    ⟨none, .val 64 (.bin .add) [.t 61, .t 63], [6, 7, 8, 9, 10]⟩,
    ⟨none, .callP 65 25 [.t 58, .t 64], [0, 1, 2, 3, 4, 5, 6, 7, 8, 9, 10, 11]⟩,
    ⟨none, .val 66 (.bin .neq) [.t 57, .t 65], [0, 1, 2, 3, 4, 5, 6, 7, 8, 9, 10, 11, 12]⟩,
    ⟨none, .val 67 .mov [.t 66], [0, 1, 2, 3, 4, 5, 6, 7, 8, 9, 10, 11, 12, 13]⟩,
    ⟨(some (67, false)), .loadL 68 (.t 9) 2 true, [0, 1, 2, 3, 4, 5, 6, 7, 8, 9, 10, 11, 12, 13, 14]⟩,
    ⟨(some (67, false)), .val 69 .mov [.t 11], [0, 1, 2, 3, 4, 5, 6, 7, 8, 9, 10, 11, 12, 13, 14]⟩,
    ⟨(some (67, false)), .val 70 .mov [.t 15], [0, 1, 2, 3, 4, 5, 6, 7, 8, 9, 10, 11, 12, 13, 14]⟩,
    ⟨(some (67, false)), .val 71 (.bin .add) [.t 69, .t 70], [0, 1, 2, 3, 4, 5, 6, 7, 8, 9, 10, 11, 12, 13, 14, 16, 17]⟩,
    ⟨(some (67, false)), .callP 72 25 [.t 68, .t 71], [0, 1, 2, 3, 4, 5, 6, 7, 8, 9, 10, 11, 12, 13, 14, 15, 16, 17, 18]⟩,
    ⟨(some (67, false)), .val 73 (.bin .lss) [.t 72, .k (.p (.int .i64 0))], [0, 1, 2, 3, 4, 5, 6, 7, 8, 9, 10, 11, 12, 13, 14, 15, 16, 17, 18, 19]⟩,
    ⟨none, .val 74 .pick [.t 67, .k (.p (.bool true)), .t 73], [0, 1, 2, 3, 4, 5, 6, 7, 8, 9, 10, 11, 12, 13, 14, 15, 16, 17, 18, 19, 20]⟩]
def r6_16 : IC := (.regD o6_16 [3, 9, 10, 11, 12, 13, 14, 15, 74])
def o6_17 : List IOp := [⟨none, .val 8 .mov [.k (.p (.bool false))], []⟩]
def r6_17 : IC := (.reg o6_17 [8])
def o6_15 : List IOp := [⟨none, .val 51 .mov [.t 15], []⟩,
    ⟨none, .val 52 (.bin .add) [.t 51, .k (.p (.int .i64 1))], []⟩,
    ⟨none, .val 15 .mov [.t 52], []⟩]
def r6_15 : IC := (.reg o6_15 [3, 9, 10, 11, 12, 13, 14, 15])
def l6_2 : IC := (.seq (.seq r6_14 (.cond (.t 50) .skip (.exit 2))) (.kp [3, 9, 10, 11, 12, 13, 14, 15] (.seq (.block 3 (.seq r6_16 (.cond (.t 74) (.seq r6_17 .ret) .skip))) (.kp [3, 9, 10, 11, 12, 13, 14, 15] r6_15))))
def o6_18 : List IOp := [⟨none, .load 75 (.t 9) 2 true, []⟩,
    ⟨none, .val 76 .mov [.t 10], []⟩,
    ⟨none, .val 77 .mov [.t 11], []⟩,
    ⟨none, .call (some 78) 26 [.t 75, .t 76, .t 77], []⟩,
    ⟨none, .val 79 .mov [.t 14], []⟩,
    ⟨none, .val 80 (.bin .eql) [.t 78, .t 79], []⟩,
    ⟨none, .val 81 .mov [.t 80], []⟩,
    ⟨(some (81, true)), .load 82 (.t 9) 2 true, []⟩,
    ⟨(some (81, true)), .val 83 .mov [.t 10], []⟩,
    ⟨(some (81, true)), .val 84 .mov [.t 11], []⟩,
    ⟨(some (81, true)), .val 85 .mov [.t 3], []⟩,
    ⟨(some (81, true)), .val 86 (.conv .i64) [.t 85], []⟩,
    ⟨(some (81, true)), .call (some 87) 27 [.t 82, .t 83, .t 84, .t 86], []⟩,
    ⟨(some (81, true)), .val 88 .mov [.t 13], []⟩,
    ⟨(some (81, true)), .val 89 .mov [.t 88], []⟩,
    ⟨(some (89, false)), .val 90 .mov [.t 3], []⟩,
    ⟨(some (89, false)), .val 91 (.conv .i64) [.t 90], []⟩,
    ⟨(some (89, false)), .val 92 .mov [.t 12], []⟩,
    ⟨(some (89, false)), .val 93 (.bin .leq) [.t 91, .t 92], []⟩,
    ⟨(some (81, true)), .val 94 .pick [.t 89, .k (.p (.bool true)), .t 93], []⟩,
    ⟨(some (81, true)), .val 95 (.eqB false) [.t 87, .t 94], []⟩,
    ⟨none, .val 96 .pick [.t 81, .t 95, .k (.p (.bool false))], []⟩,
    ⟨none, .val 97 .mov [.t 96], []⟩,
    ⟨(some (97, true)), .load 98 (.t 9) 2 true, []⟩,
    ⟨(some (97, true)), .val 99 .mov [.t 10], []⟩,
    ⟨(some (97, true)), .val 100 .mov [.t 11], []⟩,
    ⟨(some (97, true)), .val 101 (.faddr 1) [.t 9], []⟩,
    ⟨(some (97, true)), .load 102 (.t 101) 1 false, []⟩,
    ⟨(some (97, true)), .val 103 (.bin .mul) [.k (.p (.int .i64 3)), .t 102], []⟩,
    ⟨(some (97, true)), .val 104 (.bin .add) [.t 100, .t 103], []⟩,
    ⟨(some (97, true)), .call (some 105) 26 [.t 98, .t 99, .t 104], []⟩,
    ⟨(some (97, true)), .val 106 .mov [.t 14], []⟩,
    ⟨(some (97, true)), .val 107 (.bin .eql) [.t 105, .t 106], []⟩,
    ⟨none, .val 108 .pick [.t 97, .t 107, .k (.p (.bool false))], []⟩,
    ⟨none, .val 8 .mov [.t 108], []⟩]
def r6_18 : IC := (.reg o6_18 [8])
def b6 : IC := (.seq r6_0 (.seq (.seq r6_1 (.cond (.t 17) (.seq r6_2 .ret) .skip)) (.kp [1, 2, 3, 4] (.seq r6_3 (.seq r6_4 (.seq r6_5 (.seq (.block 0 (.loop l6_1)) (.seq r6_10 (.seq (.seq r6_11 (.cond (.t 46) r6_12 .skip)) (.kp [3, 9, 10, 11, 12, 13, 14] (.seq (.seq r6_13 (.block 2 (.loop l6_2))) (.seq r6_18 .ret))))))))))))
def i6 : IFn := ⟨4, 109, b6, [.tmp 8]⟩
/- isochronlaw27.GatesLeast -/
def o7_0 : List IOp := [⟨none, .boxL 4 (.t 0), []⟩,
    ⟨none, .val 8 .mov [.k (.p (.bool false))], []⟩]
def r7_0 : IC := (.reg o7_0 [1, 2, 3, 4])
def o7_1 : List IOp := [⟨none, .call (some 19) 17 [], []⟩,
    ⟨none, .val 20 .not [.t 19], []⟩]
def r7_1 : IC := (.reg o7_1 [1, 2, 3, 4, 20])
def o7_2 : List IOp := [⟨none, .val 8 .mov [.k (.p (.bool false))], []⟩]
def r7_2 : IC := (.reg o7_2 [8])
def o7_3 : List IOp := [⟨none, .load 21 (.t 4) 2 true, []⟩,
    ⟨none, .call (some 22) 24 [.t 21], []⟩,
    ⟨none, .newL 9 [.p (.sl 2 true []), .p (.int .i64 0)], []⟩,
    ⟨none, .store (.t 9) (.t 22) 2, []⟩]
def r7_3 : IC := (.reg o7_3 [1, 2, 3, 9])
def o7_4 : List IOp := [⟨none, .val 23 .mov [.t 1], []⟩,
    ⟨none, .val 24 (.bin .rem) [.t 23, .k (.p (.int .u8 8))], []⟩,
    ⟨none, .val 25 (.conv .i64) [.t 24], []⟩,
    ⟨none, .val 26 .mov [.t 2], []⟩,
    ⟨none, .val 27 (.conv .i64) [.t 26], []⟩,
    ⟨none, .val 28 .mov [.t 3], []⟩,
    ⟨none, .val 29 (.bin .rem) [.t 28, .k (.p (.int .u8 48))], []⟩,
    ⟨none, .val 30 (.conv .i64) [.t 29], []⟩,
    ⟨none, .val 10 .mov [.t 25], []⟩,
    ⟨none, .val 11 .mov [.t 27], []⟩,
    ⟨none, .val 12 .mov [.t 30], []⟩]
def r7_4 : IC := (.reg o7_4 [9, 10, 11, 12])
def o7_5 : List IOp := [⟨none, .load 32 (.t 9) 2 true, []⟩,
    ⟨none, .val 33 .mov [.t 10], []⟩,
    ⟨none, .val 34 .mov [.t 11], []⟩,
    ⟨none, .val 35 .mov [.t 12], []⟩,
    ⟨none, .call (some 36) 22 [.t 32, .t 33, .t 34, .t 35], []⟩,
    ⟨none, .val 31 .mov [.t 36], []⟩,
    ⟨none, .val 37 (.ext 0) [.t 31], []⟩,
    ⟨none, .val 38 (.ext 1) [.t 31], []⟩,
    ⟨none, .val 13 .mov [.t 37], []⟩,
    ⟨none, .val 14 .mov [.t 38], []⟩]
def r7_5 : IC := (.reg o7_5 [9, 10, 11, 12, 13, 14])
def o7_6 : List IOp := [⟨none, .val 39 .mov [.t 13], []⟩,
    ⟨none, .val 15 .mov [.t 39], []⟩]
def r7_6 : IC := (.reg o7_6 [9, 10, 11, 12, 13, 14, 15])
def o7_7 : List IOp := [⟨none, .val 40 .mov [.t 14], []⟩,
    ⟨none, .val 41 (.bin .eql) [.t 40, .k (.p (.int .i64 4))], []⟩]
def r7_7 : IC := (.reg o7_7 [9, 10, 11, 12, 13, 14, 15, 41])
def o7_8 : List IOp := [⟨none, .val 42 .mov [.t 11], []⟩,
    ⟨none, .val 43 (.faddr 1) [.t 9], []⟩,
    ⟨none, .load 44 (.t 43) 1 false, []⟩,
    ⟨none, .val 45 (.bin .mul) [.k (.p (.int .i64 2)), .t 44], []⟩,
    ⟨none, .val 46 (.bin .add) [.t 42, .t 45], []⟩,
    ⟨none, .val 15 .mov [.t 46], []⟩]
def r7_8 : IC := (.reg o7_8 [9, 10, 11, 12, 13, 14, 15])
def o7_9 : List IOp := [⟨none, .val 47 .mov [.t 14], []⟩,
    ⟨none, .val 48 (.bin .neq) [.t 47, .k (.p (.int .i64 0))], []⟩,
    ⟨none, .val 49 .mov [.t 48], []⟩,
    ⟨(some (49, false)), .val 50 .mov [.t 13], []⟩,
    ⟨(some (49, false)), .val 51 .mov [.t 11], []⟩,
    ⟨(some (49, false)), .val 52 (.bin .lss) [.t 50, .t 51], []⟩,
    ⟨none, .val 53 .pick [.t 49, .k (.p (.bool true)), .t 52], []⟩,
    ⟨none, .val 54 .mov [.t 53], []⟩,
    ⟨(some (54, false)), .val 55 .mov [.t 13], []⟩,
    ⟨(some (54, false)), .val 56 .mov [.t 11], []⟩,
    ⟨(some (54, false)), .val 57 (.faddr 1) [.t 9], []⟩,
    ⟨(some (54, false)), .load 58 (.t 57) 1 false, []⟩,
    ⟨(some (54, false)), .val 59 (.bin .mul) [.k (.p (.int .i64 2)), .t 58], []⟩,
    ⟨(some (54, false)), .val 60 (.bin .add) [.t 56, .t 59], []⟩,
    ⟨(some (54, false)), .val 61 (.bin .geq) [.t 55, .t 60], []⟩,
    ⟨none, .val 62 .pick [.t 54, .k (.p (.bool true)), .t 61], []⟩,
    ⟨none, .val 63 .mov [.t 62], []⟩,
    ⟨(some (63, false)), .load 64 (.t 9) 2 true, []⟩,
    ⟨(some (63, false)), .val 65 .mov [.t 10], []⟩,
    ⟨(some (63, false)), .val 66 .mov [.t 13], []⟩,
    ⟨(some (63, false)), .val 67 .mov [.t 12], []⟩,
    ⟨(some (63, false)), .call (some 68) 27 [.t 64, .t 65, .t 66, .t 67], []⟩,
    ⟨(some (63, false)), .val 69 .not [.t 68], []⟩,
    ⟨none, .val 70 .pick [.t 63, .k (.p (.bool true)), .t 69], []⟩]
def r7_9 : IC := (.reg o7_9 [9, 10, 11, 12, 13, 14, 15, 70])
def o7_10 : List IOp := [⟨none, .val 8 .mov [.k (.p (.bool false))], []⟩]
def r7_10 : IC := (.reg o7_10 [8])
def o7_11 : List IOp := [⟨none, .val 71 .mov [.t 11], []⟩,
    ⟨none, .val 16 .mov [.t 71], []⟩]
def r7_11 : IC := (.reg o7_11 [9, 10, 11, 12, 13, 14, 15, 16])
def o7_12 : List IOp := [⟨none, .val 72 .mov [.t 16], []⟩,
    ⟨none, .val 73 .mov [.t 15], []⟩,
    ⟨none, .val 74 (.bin .lss) [.t 72, .t 73], []⟩]
def r7_12 : IC := (.reg o7_12 [9, 10, 11, 12, 13, 14, 15, 16, 74])
def o7_14 : List IOp := [⟨none, .load 77 (.t 9) 2 true, []⟩,
    ⟨none, .val 78 .mov [.t 10], []⟩,
    ⟨none, .val 79 .mov [.t 16], []⟩,
    ⟨none, .val 80 .mov [.t 12], []⟩,
    ⟨none, .call (some 81) 27 [.t 77, .t 78, .t 79, .t 80], []⟩]
def r7_14 : IC := (.reg o7_14 [9, 10, 11, 12, 13, 14, 15, 16, 81])
def o7_15 : List IOp := [⟨none, .val 8 .mov [.k (.p (.bool false))], []⟩]
def r7_15 : IC := (.reg o7_15 [8])
def o7_13 : List IOp := [⟨none, .val 75 .mov [.t 16], []⟩,
    ⟨none, .val 76 (.bin .add) [.t 75, .k (.p (.int .i64 1))], []⟩,
    ⟨none, .val 16 .mov [.t 76], []⟩]
def r7_13 : IC := (.reg o7_13 [9, 10, 11, 12, 13, 14, 15, 16])
def l7_1 : IC := (.seq (.seq r7_12 (.cond (.t 74) .skip (.exit 0))) (.kp [9, 10, 11, 12, 13, 14, 15, 16] (.seq (.block 1 (.seq r7_14 (.cond (.t 81) (.seq r7_15 .ret) .skip))) (.kp [9, 10, 11, 12, 13, 14, 15, 16] r7_13))))
def o7_16 : List IOp := [⟨none, .load 83 (.t 9) 2 true, []⟩,
    ⟨none, .val 84 .mov [.t 10], []⟩,
    ⟨none, .val 85 .mov [.t 11], []⟩,
    ⟨none, .val 86 (.faddr 1) [.t 9], []⟩,
    ⟨none, .load 87 (.t 86) 1 false, []⟩,
    ⟨none, .val 88 (.bin .add) [.t 85, .t 87], []⟩,
    ⟨none, .val 89 .mov [.t 12], []⟩,
    ⟨none, .call (some 90) 22 [.t 83, .t 84, .t 88, .t 89], []⟩,
    ⟨none, .val 82 .mov [.t 90], []⟩,
    ⟨none, .val 91 (.ext 0) [.t 82], []⟩,
    ⟨none, .val 92 (.ext 1) [.t 82], []⟩,
    ⟨none, .val 17 .mov [.t 91], []⟩,
    ⟨none, .val 18 .mov [.t 92], []⟩]
def r7_16 : IC := (.reg o7_16 [9, 13, 14, 17, 18])
def o7_17 : List IOp := [⟨none, .val 93 .mov [.t 18], []⟩,
    ⟨none, .val 94 .mov [.t 14], []⟩,
    ⟨none, .val 95 (.bin .eql) [.t 93, .t 94], []⟩,
    ⟨none, .val 96 .mov [.t 95], []⟩,
    ⟨(some (96, true)), .val 97 .mov [.t 14], []⟩,
    ⟨(some (96, true)), .val 98 (.bin .neq) [.t 97, .k (.p (.int .i64 0))], []⟩,
    ⟨(some (96, true)), .val 99 .mov [.t 98], []⟩,
    ⟨(some (99, false)), .val 100 .mov [.t 17], []⟩,
    ⟨(some (99, false)), .val 101 .mov [.t 13], []⟩,
    ⟨(some (99, false)), .val 102 (.faddr 1) [.t 9], []⟩,
    ⟨(some (99, false)), .load 103 (.t 102) 1 false, []⟩,
    ⟨(some (99, false)), .val 104 (.bin .add) [.t 101, .t 103], []⟩,
    ⟨(some (99, false)), .val 105 (.bin .eql) [.t 100, .t 104], []⟩,
    ⟨(some (96, true)), .val 106 .pick [.t 99, .k (.p (.bool true)), .t 105], []⟩,
    ⟨none, .val 107 .pick [.t 96, .t 106, .k (.p (.bool false))], []⟩,
    ⟨none, .val 8 .mov [.t 107], []⟩]
def r7_17 : IC := (.reg o7_17 [8])
def b7 : IC := (.seq r7_0 (.seq (.seq r7_1 (.cond (.t 20) (.seq r7_2 .ret) .skip)) (.kp [1, 2, 3, 4] (.seq r7_3 (.seq r7_4 (.seq r7_5 (.seq r7_6 (.seq (.seq r7_7 (.cond (.t 41) r7_8 (.seq r7_9 (.cond (.t 70) (.seq r7_10 .ret) .skip)))) (.kp [9, 10, 11, 12, 13, 14, 15] (.seq (.seq r7_11 (.block 0 (.loop l7_1))) (.seq r7_16 (.seq r7_17 .ret))))))))))))
def i7 : IFn := ⟨4, 108, b7, [.tmp 8]⟩
/- isochronlaw27.GatesTurns -/
def o8_0 : List IOp := [⟨none, .boxL 2 (.t 0), []⟩,
    ⟨none, .val 4 .mov [.k (.p (.bool false))], []⟩]
def r8_0 : IC := (.reg o8_0 [1, 2])
def o8_1 : List IOp := [⟨none, .call (some 11) 17 [], []⟩,
    ⟨none, .val 12 .not [.t 11], []⟩]
def r8_1 : IC := (.reg o8_1 [1, 2, 12])
def o8_2 : List IOp := [⟨none, .val 4 .mov [.k (.p (.bool false))], []⟩]
def r8_2 : IC := (.reg o8_2 [4])
def o8_3 : List IOp := [⟨none, .load 13 (.t 2) 2 true, []⟩,
    ⟨none, .call (some 14) 24 [.t 13], []⟩,
    ⟨none, .newL 5 [.p (.sl 2 true []), .p (.int .i64 0)], []⟩,
    ⟨none, .store (.t 5) (.t 14) 2, []⟩]
def r8_3 : IC := (.reg o8_3 [1, 5])
def o8_4 : List IOp := [⟨none, .val 15 .mov [.t 1], []⟩,
    ⟨none, .val 16 (.conv .i64) [.t 15], []⟩,
    ⟨none, .val 6 .mov [.t 16], []⟩]
def r8_4 : IC := (.reg o8_4 [5, 6])
def o8_5 : List IOp := [⟨none, .load 18 (.t 5) 2 true, []⟩,
    ⟨none, .val 19 .mov [.t 6], []⟩,
    ⟨none, .call (some 20) 13 [.t 18, .t 19], []⟩,
    ⟨none, .val 17 .mov [.t 20], []⟩,
    ⟨none, .val 21 (.ext 0) [.t 17], []⟩,
    ⟨none, .val 22 (.ext 1) [.t 17], []⟩,
    ⟨none, .val 7 .mov [.t 21], []⟩,
    ⟨none, .val 8 .mov [.t 22], []⟩]
def r8_5 : IC := (.reg o8_5 [5, 6, 7, 8])
def o8_6 : List IOp := [⟨none, .val 23 .mov [.t 7], []⟩,
    ⟨none, .val 9 .mov [.t 23], []⟩]
def r8_6 : IC := (.reg o8_6 [5, 6, 7, 8, 9])
def o8_7 : List IOp := [⟨none, .val 24 .mov [.t 8], []⟩,
    ⟨none, .val 25 (.bin .eql) [.t 24, .k (.p (.int .i64 4))], []⟩]
def r8_7 : IC := (.reg o8_7 [5, 6, 7, 8, 9, 25])
def o8_8 : List IOp := [⟨none, .val 26 .mov [.t 6], []⟩,
    ⟨none, .val 27 (.faddr 1) [.t 5], []⟩,
    ⟨none, .load 28 (.t 27) 1 false, []⟩,
    ⟨none, .val 29 (.bin .add) [.t 26, .t 28], []⟩,
    ⟨none, .val 9 .mov [.t 29], []⟩]
def r8_8 : IC := (.reg o8_8 [5, 6, 9])
def o8_9 : List IOp := [⟨none, .val 30 .mov [.t 8], []⟩,
    ⟨none, .val 31 (.bin .neq) [.t 30, .k (.p (.int .i64 0))], [0]⟩,
    ⟨none, .val 32 .mov [.t 31], [0, 1]⟩,
    ⟨(some (32, false)), .val 33 .mov [.t 7], [0, 1, 2]⟩,
    ⟨(some (32, false)), .val 34 .mov [.t 6], [0, 1, 2]⟩,
    ⟨(some (32, false)), .val 35 (.bin .leq) [.t 33, .t 34], [0, 1, 2, 3, 4]⟩,
    ⟨none, .val 36 .pick [.t 32, .k (.p (.bool true)), .t 35], [0, 1, 2, 3, 4, 5]⟩,
    ⟨none, .val 37 .mov [.t 36], [0, 1, 2, 3, 4, 5, 6]⟩,
    ⟨(some (37, false)), .val 38 .mov [.t 7], [0, 1, 2, 3, 4, 5, 6, 7]⟩,
    ⟨(some (37, false)), .val 39 .mov [.t 6], [0, 1, 2, 3, 4, 5, 6, 7]⟩,
    ⟨(some (37, false)), .val 40 (.faddr 1) [.t 5], [0, 1, 2, 3, 4, 5, 6, 7]⟩,
    ⟨(some (37, false)), .loadL 41 (.t 40) 1 false, [0, 1, 2, 3, 4, 5, 6, 7, 10]⟩,
    ⟨(some (37, false)), .val 42 (.bin .add) [.t 39, .t 41], [0, 1, 2, 3, 4, 5, 6, 7, 9, 10, 11]⟩,
    ⟨(some (37, false)), .val 43 (.bin .gtr) [.t 38, .t 42], [0, 1, 2, 3, 4, 5, 6, 7, 8, 9, 10, 11, 12]⟩,
    ⟨none, .val 44 .pick [.t 37, .k (.p (.bool true)), .t 43], [0, 1, 2, 3, 4, 5, 6, 7, 8, 9, 10, 11, 12, 13]⟩,
    ⟨none, .val 45 .mov [.t 44], [0, 1, 2, 3, 4, 5, 6, 7, 8, 9, 10, 11, 12, 13, 14]⟩,
    ⟨(some (45, false)), .loadL 46 (.t 5) 2 true, [0, 1, 2, 3, 4, 5, 6, 7, 8, 9, 10, 11, 12, 13, 14, 15]⟩,
    ⟨(some (45, false)), .val 47 .mov [.t 7], [0, 1, 2, 3, 4, 5, 6, 7, 8, 9, 10, 11, 12, 13, 14, 15]⟩,
    ⟨(some (45, false)), .callP 48 25 [.t 46, .t 47], [0, 1, 2, 3, 4, 5, 6, 7, 8, 9, 10, 11, 12, 13, 14, 15, 16, 17]⟩,
    ⟨(some (45, false)), .loadL 49 (.t 5) 2 true, [0, 1, 2, 3, 4, 5, 6, 7, 8, 9, 10, 11, 12, 13, 14, 15]⟩,
    ⟨(some (45, false)), .val 50 .mov [.t 6], [0, 1, 2, 3, 4, 5, 6, 7, 8, 9, 10, 11, 12, 13, 14, 15]⟩,
    ⟨(some (45, false)), .callP 51 25 [.t 49, .t 50], [0, 1, 2, 3, 4, 5, 6, 7, 8, 9, 10, 11, 12, 13, 14, 15, 16, 17, 18, 19, 20]⟩,
    ⟨(some (45, false)), .val 52 (.bin .eql) [.t 48, .t 51], [0, 1, 2, 3, 4, 5, 6, 7, 8, 9, 10, 11, 12, 13, 14, 15, 16, 17, 18, 19, 20, 21]⟩,
    ⟨none, .val 53 .pick [.t 45, .k (.p (.bool true)), .t 52], [0, 1, 2, 3, 4, 5, 6, 7, 8, 9, 10, 11, 12, 13, 14, 15, 16, 17, 18, 19, 20, 21, 22]⟩]
def r8_9 : IC := (.regD o8_9 [5, 6, 9, 53])
def o8_10 : List IOp := [⟨none, .val 4 .mov [.k (.p (.bool false))], []⟩]
def r8_10 : IC := (.reg o8_10 [4])
def o8_11 : List IOp := [⟨none, .val 54 .mov [.t 6], []⟩,
    ⟨none, .val 10 .mov [.t 54], []⟩]
def r8_11 : IC := (.reg o8_11 [5, 6, 9, 10])
def o8_12 : List IOp := [⟨none, .val 55 .mov [.t 10], []⟩,
    ⟨none, .val 56 .mov [.t 9], []⟩,
    ⟨none, .val 57 (.bin .lss) [.t 55, .t 56], []⟩]
def r8_12 : IC := (.reg o8_12 [5, 6, 9, 10, 57])
def o8_14 : List IOp := [⟨none, .loadL 60 (.t 5) 2 true, []⟩,
    ⟨none, .val 61 .mov [.t 10], []⟩,
    ⟨none, .callP 62 25 [.t 60, .t 61], [0, 1]⟩,
    ⟨none, .loadL 63 (.t 5) 2 true, []⟩,
    ⟨none, .val 64 .mov [.t 6], []⟩,
    ⟨none, .callP 65 25 [.t 63, .t 64], [0, 1, 2, 3, 4]⟩,
    ⟨none, .val 66 (.bin .neq) [.t 62, .t 65], [0, 1, 2, 3, 4, 5]⟩]
def r8_14 : IC := (.regD o8_14 [5, 6, 9, 10, 66])
def o8_15 : List IOp := [⟨none, .val 4 .mov [.k (.p (.bool false))], []⟩]
def r8_15 : IC := (.reg o8_15 [4])
def o8_13 : List IOp := [⟨none, .val 58 .mov [.t 10], []⟩,
    ⟨none, .val 59 (.bin .add) [.t 58, .k (.p (.int .i64 1))], []⟩,
    ⟨none, .val 10 .mov [.t 59], []⟩]
def r8_13 : IC := (.reg o8_13 [5, 6, 9, 10])
def l8_1 : IC := (.seq (.seq r8_12 (.cond (.t 57) .skip (.exit 0))) (.kp [5, 6, 9, 10] (.seq (.block 1 (.seq r8_14 (.cond (.t 66) (.seq r8_15 .ret) .skip))) (.kp [5, 6, 9, 10] r8_13))))
def o8_16 : List IOp := [⟨none, .val 4 .mov [.k (.p (.bool true))], []⟩]
def r8_16 : IC := (.reg o8_16 [4])
def b8 : IC := (.seq r8_0 (.seq (.seq r8_1 (.cond (.t 12) (.seq r8_2 .ret) .skip)) (.kp [1, 2] (.seq r8_3 (.seq r8_4 (.seq r8_5 (.seq r8_6 (.seq (.seq r8_7 (.cond (.t 25) r8_8 (.seq r8_9 (.cond (.t 53) (.seq r8_10 .ret) .skip)))) (.kp [5, 6, 9] (.seq (.seq r8_11 (.block 0 (.loop l8_1))) (.seq r8_16 .ret)))))))))))
def i8 : IFn := ⟨2, 67, b8, [.tmp 4]⟩
/- isochronlaw27.GatesKnown -/
def o9_0 : List IOp := [⟨none, .val 0 .mov [.k (.p (.bool false))], []⟩]
def r9_0 : IC := (.reg o9_0 [])
def o9_1 : List IOp := [⟨none, .mkSl 34 (.k (.p (.int .i64 258))) (.k (.p (.int .i64 258))) [.int .i64 0] 8, []⟩,
    ⟨none, .val 1 .mov [.t 34], []⟩]
def r9_1 : IC := (.reg o9_1 [1])
def o9_2 : List IOp := [⟨none, .val 2 .mov [.k (.p (.int .i64 0))], []⟩]
def r9_2 : IC := (.reg o9_2 [1, 2])
def o9_3 : List IOp := [⟨none, .val 35 .mov [.t 2], []⟩,
    ⟨none, .val 36 (.bin .lss) [.t 35, .k (.p (.int .i64 258))], []⟩]
def r9_3 : IC := (.reg o9_3 [1, 2, 36])
def o9_5 : List IOp := [⟨none, .val 39 .mov [.t 1], []⟩,
    ⟨none, .val 40 .mov [.t 2], []⟩,
    ⟨none, .val 41 (.iaddrS 1) [.t 39, .t 40], []⟩,
    ⟨none, .store (.t 41) (.k (.p (.int .i64 1))) 1, []⟩]
def r9_5 : IC := (.reg o9_5 [1, 2])
def o9_4 : List IOp := [⟨none, .val 37 .mov [.t 2], []⟩,
    ⟨none, .val 38 (.bin .add) [.t 37, .k (.p (.int .i64 1))], []⟩,
    ⟨none, .val 2 .mov [.t 38], []⟩]
def r9_4 : IC := (.reg o9_4 [1, 2])
def l9_1 : IC := (.seq (.seq r9_3 (.cond (.t 36) .skip (.exit 0))) (.kp [1, 2] (.seq (.block 1 r9_5) r9_4)))
def o9_6 : List IOp := [⟨none, .litP 42 1 [.k (.p (.int .i64 1)), .k (.p (.int .i64 5))], []⟩,
    ⟨none, .call (some 43) 28 [.t 42], []⟩,
    ⟨none, .newL 3 [.p (.sl 2 true []), .p (.int .i64 0)], []⟩,
    ⟨none, .store (.t 3) (.t 43) 2, []⟩]
def r9_6 : IC := (.reg o9_6 [1, 3])
def o9_7 : List IOp := [⟨none, .val 44 (.faddr 1) [.t 3], []⟩,
    ⟨none, .store (.t 44) (.k (.p (.int .i64 6))) 1, []⟩]
def r9_7 : IC := (.reg o9_7 [1, 3])
def o9_8 : List IOp := [⟨none, .val 45 (.build [.p (.sl 2 true []), .p (.int .i64 0)] []) [], []⟩,
    ⟨none, .litP 46 1 [.k (.p (.int .i64 (-1))), .k (.p (.int .i64 5))], []⟩,
    ⟨none, .callP 47 28 [.t 46], [1]⟩,
    ⟨none, .litP 48 1 [.k (.p (.int .i64 256)), .k (.p (.int .i64 5))], []⟩,
    ⟨none, .callP 49 28 [.t 48], [1, 2, 3]⟩,
    ⟨none, .litP 50 1 [.k (.p (.int .i64 1)), .k (.p (.int .i64 0))], []⟩,
    ⟨none, .callP 51 28 [.t 50], [1, 2, 3, 4, 5]⟩,
    ⟨none, .litP 52 1 [.k (.p (.int .i64 1)), .k (.p (.int .i64 9600001))], []⟩,
    ⟨none, .callP 53 28 [.t 52], [1, 2, 3, 4, 5, 6, 7]⟩,
    ⟨none, .litP 54 1 [.k (.p (.int .i64 1)), .k (.p (.int .i64 9600000)), .k (.p (.int .i64 1)), .k (.p (.int .i64 1))], []⟩,
    ⟨none, .callP 55 28 [.t 54], [1, 2, 3, 4, 5, 6, 7, 8, 9]⟩,
    ⟨none, .loadL 56 (.t 3) 2 true, []⟩,
    ⟨none, .val 57 .mov [.t 1], []⟩,
    ⟨none, .callP 58 28 [.t 57], [1, 2, 3, 4, 5, 6, 7, 8, 9, 10, 12]⟩,
    ⟨none, .litP 59 2 [.t 45, .t 47, .t 49, .t 51, .t 53, .t 55, .t 56, .t 58], [0, 1, 2, 3, 4, 5, 6, 7, 8, 9, 10, 11, 12, 13]⟩,
    ⟨none, .val 4 .mov [.t 59], [0, 1, 2, 3, 4, 5, 6, 7, 8, 9, 10, 11, 12, 13, 14]⟩]
def r9_8 : IC := (.regF [1] o9_8 [1, 4])
def o9_9 : List IOp := [⟨none, .val 5 .mov [.k (.p (.int .i64 0))], []⟩]
def r9_9 : IC := (.reg o9_9 [1, 4, 5])
def o9_10 : List IOp := [⟨none, .val 60 .mov [.t 5], []⟩,
    ⟨none, .val 61 .mov [.t 4], []⟩,
    ⟨none, .val 62 .len [.t 61], []⟩,
    ⟨none, .val 63 (.bin .lss) [.t 60, .t 62], []⟩]
def r9_10 : IC := (.reg o9_10 [1, 4, 5, 63])
def o9_12 : List IOp := [⟨none, .val 67 .mov [.t 4], []⟩,
    ⟨none, .val 68 .mov [.t 5], []⟩,
    ⟨none, .val 69 (.iaddrS 2) [.t 67, .t 68], []⟩,
    ⟨none, .load 70 (.t 69) 2 true, []⟩,
    ⟨none, .call (some 71) 11 [.t 70, .k (.p (.int .i64 1099511627777))], []⟩,
    ⟨none, .val 66 .mov [.t 71], []⟩,
    ⟨none, .val 72 (.ext 0) [.t 66], []⟩,
    ⟨none, .val 73 (.ext 1) [.t 66], []⟩,
    ⟨none, .val 6 .mov [.t 72], []⟩,
    ⟨none, .val 7 .mov [.t 73], []⟩]
def r9_12 : IC := (.reg o9_12 [1, 4, 5, 7])
def o9_13 : List IOp := [⟨none, .val 75 .mov [.t 4], []⟩,
    ⟨none, .val 76 .mov [.t 5], []⟩,
    ⟨none, .val 77 (.iaddrS 2) [.t 75, .t 76], []⟩,
    ⟨none, .load 78 (.t 77) 2 true, []⟩,
    ⟨none, .call (some 79) 18 [.t 78, .k (.p (.int .i64 8)), .k (.p (.int .i64 0))], []⟩,
    ⟨none, .val 74 .mov [.t 79], []⟩,
    ⟨none, .val 80 (.ext 0) [.t 74], []⟩,
    ⟨none, .val 81 (.ext 1) [.t 74], []⟩,
    ⟨none, .val 8 .mov [.t 80], []⟩,
    ⟨none, .val 9 .mov [.t 81], []⟩]
def r9_13 : IC := (.reg o9_13 [1, 4, 5, 7, 9])
def o9_14 : List IOp := [⟨none, .val 83 .mov [.t 4], []⟩,
    ⟨none, .val 84 .mov [.t 5], []⟩,
    ⟨none, .val 85 (.iaddrS 2) [.t 83, .t 84], []⟩,
    ⟨none, .load 86 (.t 85) 2 true, []⟩,
    ⟨none, .call (some 87) 20 [.t 86, .k (.p (.int .i64 0)), .k (.p (.int .i64 0)), .k (.p (.int .i64 (-1)))], []⟩,
    ⟨none, .val 82 .mov [.t 87], []⟩,
    ⟨none, .val 88 (.ext 0) [.t 82], []⟩,
    ⟨none, .val 89 (.ext 1) [.t 82], []⟩,
    ⟨none, .val 10 .mov [.t 88], []⟩,
    ⟨none, .val 11 .mov [.t 89], []⟩]
def r9_14 : IC := (.reg o9_14 [1, 4, 5, 7, 9, 11])
def o9_15 : List IOp := [⟨none, .val 91 .mov [.t 4], []⟩,
    ⟨none, .val 92 .mov [.t 5], []⟩,
    ⟨none, .val 93 (.iaddrS 2) [.t 91, .t 92], []⟩,
    ⟨none, .load 94 (.t 93) 2 true, []⟩,
    ⟨none, .call (some 95) 22 [.t 94, .k (.p (.int .i64 (-1))), .k (.p (.int .i64 0)), .k (.p (.int .i64 0))], []⟩,
    ⟨none, .val 90 .mov [.t 95], []⟩,
    ⟨none, .val 96 (.ext 0) [.t 90], []⟩,
    ⟨none, .val 97 (.ext 1) [.t 90], []⟩,
    ⟨none, .val 12 .mov [.t 96], []⟩,
    ⟨none, .val 13 .mov [.t 97], []⟩]
def r9_15 : IC := (.reg o9_15 [1, 4, 5, 7, 9, 11, 13])
def o9_16 : List IOp := [⟨none, .val 99 .mov [.t 4], []⟩,
    ⟨none, .val 100 .mov [.t 5], []⟩,
    ⟨none, .val 101 (.iaddrS 2) [.t 99, .t 100], []⟩,
    ⟨none, .load 102 (.t 101) 2 true, []⟩,
    ⟨none, .call (some 103) 13 [.t 102, .k (.p (.int .i64 0))], []⟩,
    ⟨none, .val 98 .mov [.t 103], []⟩,
    ⟨none, .val 104 (.ext 0) [.t 98], []⟩,
    ⟨none, .val 105 (.ext 1) [.t 98], []⟩,
    ⟨none, .val 14 .mov [.t 104], []⟩,
    ⟨none, .val 15 .mov [.t 105], []⟩]
def r9_16 : IC := (.reg o9_16 [1, 4, 5, 7, 9, 11, 13, 15])
def o9_17 : List IOp := [⟨none, .val 106 .mov [.t 4], []⟩,
    ⟨none, .val 107 .mov [.t 5], []⟩,
    ⟨none, .val 108 (.iaddrS 2) [.t 106, .t 107], []⟩,
    ⟨none, .load 109 (.t 108) 2 true, []⟩,
    ⟨none, .call (some 110) 15 [.t 109], []⟩,
    ⟨none, .val 111 (.bin .neq) [.t 110, .k (.p (.int .i64 370))], []⟩,
    ⟨none, .val 112 .mov [.t 111], []⟩,
    ⟨(some (112, false)), .val 113 .mov [.t 7], []⟩,
    ⟨(some (112, false)), .val 114 (.bin .neq) [.t 113, .k (.p (.int .i64 370))], []⟩,
    ⟨none, .val 115 .pick [.t 112, .k (.p (.bool true)), .t 114], []⟩,
    ⟨none, .val 116 .mov [.t 115], []⟩,
    ⟨(some (116, false)), .val 117 .mov [.t 9], []⟩,
    ⟨(some (116, false)), .val 118 (.bin .neq) [.t 117, .k (.p (.int .i64 370))], []⟩,
    ⟨none, .val 119 .pick [.t 116, .k (.p (.bool true)), .t 118], []⟩,
    ⟨none, .val 120 .mov [.t 119], []⟩,
    ⟨(some (120, false)), .val 121 .mov [.t 11], []⟩,
    ⟨(some (120, false)), .val 122 (.bin .neq) [.t 121, .k (.p (.int .i64 370))], []⟩,
    ⟨none, .val 123 .pick [.t 120, .k (.p (.bool true)), .t 122], []⟩,
    ⟨none, .val 124 .mov [.t 123], []⟩,
    ⟨(some (124, false)), .val 125 .mov [.t 13], []⟩,
    ⟨(some (124, false)), .val 126 (.bin .neq) [.t 125, .k (.p (.int .i64 370))], []⟩,
    ⟨none, .val 127 .pick [.t 124, .k (.p (.bool true)), .t 126], []⟩,
    ⟨none, .val 128 .mov [.t 127], []⟩,
    ⟨(some (128, false)), .val 129 .mov [.t 15], []⟩,
    ⟨(some (128, false)), .val 130 (.bin .neq) [.t 129, .k (.p (.int .i64 370))], []⟩,
    ⟨none, .val 131 .pick [.t 128, .k (.p (.bool true)), .t 130], []⟩]
def r9_17 : IC := (.reg o9_17 [1, 4, 5, 131])
def o9_18 : List IOp := [⟨none, .val 0 .mov [.k (.p (.bool false))], []⟩]
def r9_18 : IC := (.reg o9_18 [0])
def o9_11 : List IOp := [⟨none, .val 64 .mov [.t 5], []⟩,
    ⟨none, .val 65 (.bin .add) [.t 64, .k (.p (.int .i64 1))], []⟩,
    ⟨none, .val 5 .mov [.t 65], []⟩]
def r9_11 : IC := (.reg o9_11 [1, 4, 5])
def l9_2 : IC := (.seq (.seq r9_10 (.cond (.t 63) .skip (.exit 2))) (.kp [1, 4, 5] (.seq (.block 3 (.seq r9_12 (.seq r9_13 (.seq r9_14 (.seq r9_15 (.seq r9_16 (.seq r9_17 (.cond (.t 131) (.seq r9_18 .ret) .skip)))))))) (.kp [1, 4, 5] r9_11))))
def o9_19 : List IOp := [⟨none, .litP 132 1 [.k (.p (.int .i64 65)), .k (.p (.int .i64 7))], []⟩,
    ⟨none, .call (some 133) 28 [.t 132], []⟩,
    ⟨none, .newL 16 [.p (.sl 2 true []), .p (.int .i64 0)], []⟩,
    ⟨none, .store (.t 16) (.t 133) 2, []⟩]
def r9_19 : IC := (.reg o9_19 [1, 16])
def o9_20 : List IOp := [⟨none, .load 135 (.t 16) 2 true, []⟩,
    ⟨none, .call (some 136) 18 [.t 135, .k (.p (.int .i64 8)), .k (.p (.int .i64 0))], []⟩,
    ⟨none, .val 134 .mov [.t 136], []⟩,
    ⟨none, .val 137 (.ext 0) [.t 134], []⟩,
    ⟨none, .val 138 (.ext 1) [.t 134], []⟩,
    ⟨none, .val 17 .mov [.t 137], []⟩,
    ⟨none, .val 18 .mov [.t 138], []⟩]
def r9_20 : IC := (.reg o9_20 [1, 16, 18])
def o9_21 : List IOp := [⟨none, .load 140 (.t 16) 2 true, []⟩,
    ⟨none, .call (some 141) 18 [.t 140, .k (.p (.int .i64 0)), .k (.p (.int .i64 1099511627777))], []⟩,
    ⟨none, .val 139 .mov [.t 141], []⟩,
    ⟨none, .val 142 (.ext 0) [.t 139], []⟩,
    ⟨none, .val 143 (.ext 1) [.t 139], []⟩,
    ⟨none, .val 19 .mov [.t 142], []⟩,
    ⟨none, .val 20 .mov [.t 143], []⟩]
def r9_21 : IC := (.reg o9_21 [1, 16, 18, 20])
def o9_22 : List IOp := [⟨none, .load 145 (.t 16) 2 true, []⟩,
    ⟨none, .call (some 146) 20 [.t 145, .k (.p (.int .i64 0)), .k (.p (.int .i64 0)), .k (.p (.int .i64 (-1)))], []⟩,
    ⟨none, .val 144 .mov [.t 146], []⟩,
    ⟨none, .val 147 (.ext 0) [.t 144], []⟩,
    ⟨none, .val 148 (.ext 1) [.t 144], []⟩,
    ⟨none, .val 21 .mov [.t 147], []⟩,
    ⟨none, .val 22 .mov [.t 148], []⟩]
def r9_22 : IC := (.reg o9_22 [1, 16, 18, 20, 22])
def o9_23 : List IOp := [⟨none, .load 150 (.t 16) 2 true, []⟩,
    ⟨none, .call (some 151) 22 [.t 150, .k (.p (.int .i64 (-1))), .k (.p (.int .i64 0)), .k (.p (.int .i64 0))], []⟩,
    ⟨none, .val 149 .mov [.t 151], []⟩,
    ⟨none, .val 152 (.ext 0) [.t 149], []⟩,
    ⟨none, .val 153 (.ext 1) [.t 149], []⟩,
    ⟨none, .val 23 .mov [.t 152], []⟩,
    ⟨none, .val 24 .mov [.t 153], []⟩]
def r9_23 : IC := (.reg o9_23 [1, 16, 18, 20, 22, 24])
def o9_24 : List IOp := [⟨none, .load 155 (.t 16) 2 true, []⟩,
    ⟨none, .call (some 156) 22 [.t 155, .k (.p (.int .i64 0)), .k (.p (.int .i64 0)), .k (.p (.int .i64 1099511627777))], []⟩,
    ⟨none, .val 154 .mov [.t 156], []⟩,
    ⟨none, .val 157 (.ext 0) [.t 154], []⟩,
    ⟨none, .val 158 (.ext 1) [.t 154], []⟩,
    ⟨none, .val 25 .mov [.t 157], []⟩,
    ⟨none, .val 26 .mov [.t 158], []⟩]
def r9_24 : IC := (.reg o9_24 [1, 16, 18, 20, 22, 24, 26])
def o9_25 : List IOp := [⟨none, .load 160 (.t 16) 2 true, []⟩,
    ⟨none, .call (some 161) 13 [.t 160, .k (.p (.int .i64 3))], []⟩,
    ⟨none, .val 159 .mov [.t 161], []⟩,
    ⟨none, .val 162 (.ext 0) [.t 159], []⟩,
    ⟨none, .val 163 (.ext 1) [.t 159], []⟩,
    ⟨none, .val 27 .mov [.t 162], []⟩,
    ⟨none, .val 28 .mov [.t 163], []⟩]
def r9_25 : IC := (.reg o9_25 [1, 16, 18, 20, 22, 24, 26, 28])
def o9_26 : List IOp := [⟨none, .load 165 (.t 16) 2 true, []⟩,
    ⟨none, .call (some 166) 22 [.t 165, .k (.p (.int .i64 1)), .k (.p (.int .i64 0)), .k (.p (.int .i64 1))], []⟩,
    ⟨none, .val 164 .mov [.t 166], []⟩,
    ⟨none, .val 167 (.ext 0) [.t 164], []⟩,
    ⟨none, .val 168 (.ext 1) [.t 164], []⟩,
    ⟨none, .val 29 .mov [.t 167], []⟩,
    ⟨none, .val 30 .mov [.t 168], []⟩]
def r9_26 : IC := (.reg o9_26 [1, 16, 18, 20, 22, 24, 26, 28, 30])
def o9_27 : List IOp := [⟨none, .load 169 (.t 16) 2 true, []⟩,
    ⟨none, .call (some 170) 26 [.t 169, .k (.p (.int .i64 6)), .k (.p (.int .i64 3))], []⟩,
    ⟨none, .val 171 (.bin .eql) [.t 170, .k (.p (.int .i64 1099511627776))], []⟩,
    ⟨none, .val 172 .mov [.t 171], []⟩,
    ⟨(some (172, true)), .load 173 (.t 16) 2 true, []⟩,
    ⟨(some (172, true)), .call (some 174) 27 [.t 173, .k (.p (.int .i64 6)), .k (.p (.int .i64 3)), .k (.p (.int .i64 1099511627776))], []⟩,
    ⟨none, .val 175 .pick [.t 172, .t 174, .k (.p (.bool false))], []⟩,
    ⟨none, .val 176 .mov [.t 175], []⟩,
    ⟨(some (176, true)), .load 177 (.t 16) 2 true, []⟩,
    ⟨(some (176, true)), .call (some 178) 29 [.t 177, .k (.p (.int .i64 0)), .k (.p (.int .i64 (-9))), .k (.p (.int .i64 1099511627776))], []⟩,
    ⟨(some (176, true)), .val 179 (.bin .eql) [.t 178, .k (.p (.int .i64 (-9)))], []⟩,
    ⟨none, .val 180 .pick [.t 176, .t 179, .k (.p (.bool false))], []⟩,
    ⟨none, .val 181 .mov [.t 180], []⟩,
    ⟨(some (181, true)), .load 182 (.t 16) 2 true, []⟩,
    ⟨(some (181, true)), .call (some 183) 26 [.t 182, .k (.p (.int .i64 1)), .k (.p (.int .i64 3))], []⟩,
    ⟨(some (181, true)), .val 184 (.bin .eql) [.t 183, .k (.p (.int .i64 0))], []⟩,
    ⟨none, .val 185 .pick [.t 181, .t 184, .k (.p (.bool false))], []⟩,
    ⟨none, .val 186 .mov [.t 185], []⟩,
    ⟨(some (186, true)), .load 187 (.t 16) 2 true, []⟩,
    ⟨(some (186, true)), .call (some 188) 27 [.t 187, .k (.p (.int .i64 1)), .k (.p (.int .i64 3)), .k (.p (.int .i64 0))], []⟩,
    ⟨none, .val 189 .pick [.t 186, .t 188, .k (.p (.bool false))], []⟩,
    ⟨none, .val 190 .mov [.t 189], []⟩,
    ⟨(some (190, true)), .load 191 (.t 16) 2 true, []⟩,
    ⟨(some (190, true)), .call (some 192) 29 [.t 191, .k (.p (.int .i64 1)), .k (.p (.int .i64 5)), .k (.p (.int .i64 0))], []⟩,
    ⟨(some (190, true)), .val 193 (.bin .eql) [.t 192, .k (.p (.int .i64 5))], []⟩,
    ⟨none, .val 194 .pick [.t 190, .t 193, .k (.p (.bool false))], []⟩,
    ⟨none, .val 31 .mov [.t 194], []⟩]
def r9_27 : IC := (.reg o9_27 [1, 18, 20, 22, 24, 26, 28, 30, 31])
def o9_28 : List IOp := [⟨none, .litP 195 1 [.k (.p (.int .i64 1)), .k (.p (.int .i64 5)), .k (.p (.int .i64 2)), .k (.p (.int .i64 5)), .k (.p (.int .i64 1)), .k (.p (.int .i64 5))], []⟩,
    ⟨none, .call (some 196) 28 [.t 195], []⟩,
    ⟨none, .newL 32 [.p (.sl 2 true []), .p (.int .i64 0)], []⟩,
    ⟨none, .store (.t 32) (.t 196) 2, []⟩]
def r9_28 : IC := (.reg o9_28 [1, 18, 20, 22, 24, 26, 28, 30, 31, 32])
def o9_29 : List IOp := [⟨none, .load 197 (.t 32) 2 true, []⟩,
    ⟨none, .call (some 198) 26 [.t 197, .k (.p (.int .i64 0)), .k (.p (.int .i64 12))], []⟩,
    ⟨none, .val 199 (.bin .eql) [.t 198, .k (.p (.int .i64 8))], []⟩,
    ⟨none, .val 200 .mov [.t 199], []⟩,
    ⟨(some (200, true)), .load 201 (.t 32) 2 true, []⟩,
    ⟨(some (200, true)), .call (some 202) 29 [.t 201, .k (.p (.int .i64 0)), .k (.p (.int .i64 1)), .k (.p (.int .i64 10))], []⟩,
    ⟨(some (200, true)), .val 203 (.bin .eql) [.t 202, .k (.p (.int .i64 10))], []⟩,
    ⟨none, .val 204 .pick [.t 200, .t 203, .k (.p (.bool false))], []⟩,
    ⟨none, .val 205 .mov [.t 204], []⟩,
    ⟨(some (205, true)), .load 206 (.t 32) 2 true, []⟩,
    ⟨(some (205, true)), .call (some 207) 29 [.t 206, .k (.p (.int .i64 0)), .k (.p (.int .i64 3)), .k (.p (.int .i64 10))], []⟩,
    ⟨(some (205, true)), .val 208 (.bin .eql) [.t 207, .k (.p (.int .i64 10))], []⟩,
    ⟨none, .val 209 .pick [.t 205, .t 208, .k (.p (.bool false))], []⟩,
    ⟨none, .val 210 .mov [.t 209], []⟩,
    ⟨(some (210, true)), .load 211 (.t 32) 2 true, []⟩,
    ⟨(some (210, true)), .call (some 212) 25 [.t 211, .k (.p (.int .i64 (-6)))], []⟩,
    ⟨(some (210, true)), .val 213 (.bin .eql) [.t 212, .k (.p (.int .i64 2))], []⟩,
    ⟨none, .val 214 .pick [.t 210, .t 213, .k (.p (.bool false))], []⟩,
    ⟨none, .val 215 .mov [.t 214], []⟩,
    ⟨(some (215, true)), .load 216 (.t 32) 2 true, []⟩,
    ⟨(some (215, true)), .call (some 217) 25 [.t 216, .k (.p (.int .i64 1099511627776))], []⟩,
    ⟨(some (215, true)), .val 218 (.bin .geq) [.t 217, .k (.p (.int .i64 0))], []⟩,
    ⟨none, .val 219 .pick [.t 215, .t 218, .k (.p (.bool false))], []⟩,
    ⟨none, .val 220 .mov [.t 219], []⟩,
    ⟨(some (220, true)), .litP 221 1 [.k (.p (.int .i64 1)), .k (.p (.int .i64 9600000))], []⟩,
    ⟨(some (220, true)), .call (some 222) 28 [.t 221], []⟩,
    ⟨(some (220, true)), .call (some 223) 26 [.t 222, .k (.p (.int .i64 0)), .k (.p (.int .i64 (-1099511627776)))], []⟩,
    ⟨(some (220, true)), .val 224 (.bin .eql) [.t 223, .k (.p (.int .i64 1099511627776))], []⟩,
    ⟨none, .val 225 .pick [.t 220, .t 224, .k (.p (.bool false))], []⟩,
    ⟨none, .val 33 .mov [.t 225], []⟩]
def r9_29 : IC := (.reg o9_29 [1, 18, 20, 22, 24, 26, 28, 30, 31, 33])
def o9_30 : List IOp := [⟨none, .val 226 .mov [.k (.p (.bool true))], []⟩,
    ⟨(some (226, true)), .call (some 227) 17 [], []⟩,
    ⟨none, .val 228 .pick [.t 226, .t 227, .k (.p (.bool false))], []⟩,
    ⟨none, .val 229 .mov [.t 228], []⟩,
    ⟨(some (229, true)), .val 230 .mov [.t 18], []⟩,
    ⟨(some (229, true)), .val 231 (.bin .eql) [.t 230, .k (.p (.int .i64 2))], []⟩,
    ⟨none, .val 232 .pick [.t 229, .t 231, .k (.p (.bool false))], []⟩,
    ⟨none, .val 233 .mov [.t 232], []⟩,
    ⟨(some (233, true)), .val 234 .mov [.t 20], []⟩,
    ⟨(some (233, true)), .val 235 (.bin .eql) [.t 234, .k (.p (.int .i64 2))], []⟩,
    ⟨none, .val 236 .pick [.t 233, .t 235, .k (.p (.bool false))], []⟩,
    ⟨none, .val 237 .mov [.t 236], []⟩,
    ⟨(some (237, true)), .val 238 .mov [.t 22], []⟩,
    ⟨(some (237, true)), .val 239 (.bin .eql) [.t 238, .k (.p (.int .i64 2))], []⟩,
    ⟨none, .val 240 .pick [.t 237, .t 239, .k (.p (.bool false))], []⟩,
    ⟨none, .val 241 .mov [.t 240], []⟩,
    ⟨(some (241, true)), .val 242 .mov [.t 24], []⟩,
    ⟨(some (241, true)), .val 243 (.bin .eql) [.t 242, .k (.p (.int .i64 2))], []⟩,
    ⟨none, .val 244 .pick [.t 241, .t 243, .k (.p (.bool false))], []⟩,
    ⟨none, .val 245 .mov [.t 244], []⟩,
    ⟨(some (245, true)), .val 246 .mov [.t 26], []⟩,
    ⟨(some (245, true)), .val 247 (.bin .eql) [.t 246, .k (.p (.int .i64 2))], []⟩,
    ⟨none, .val 248 .pick [.t 245, .t 247, .k (.p (.bool false))], []⟩,
    ⟨none, .val 249 .mov [.t 248], []⟩,
    ⟨(some (249, true)), .val 250 .mov [.t 28], []⟩,
    ⟨(some (249, true)), .val 251 (.bin .eql) [.t 250, .k (.p (.int .i64 4))], []⟩,
    ⟨none, .val 252 .pick [.t 249, .t 251, .k (.p (.bool false))], []⟩,
    ⟨none, .val 253 .mov [.t 252], []⟩,
    ⟨(some (253, true)), .val 254 .mov [.t 30], []⟩,
    ⟨(some (253, true)), .val 255 (.bin .eql) [.t 254, .k (.p (.int .i64 4))], []⟩,
    ⟨none, .val 256 .pick [.t 253, .t 255, .k (.p (.bool false))], []⟩,
    ⟨none, .val 257 .mov [.t 256], []⟩,
    ⟨(some (257, true)), .val 258 .mov [.t 31], []⟩,
    ⟨none, .val 259 .pick [.t 257, .t 258, .k (.p (.bool false))], []⟩,
    ⟨none, .val 260 .mov [.t 259], []⟩,
    ⟨(some (260, true)), .val 261 .mov [.t 33], []⟩,
    ⟨none, .val 262 .pick [.t 260, .t 261, .k (.p (.bool false))], []⟩,
    ⟨none, .val 263 .mov [.t 262], []⟩,
    ⟨(some (263, true)), .val 264 .mov [.t 1], []⟩,
    ⟨(some (263, true)), .val 265 (.slice 1 false true false) [.t 264, .k (.p (.int .i64 256))], []⟩,
    ⟨(some (263, true)), .call (some 266) 28 [.t 265], []⟩,
    ⟨(some (263, true)), .call (some 267) 15 [.t 266], []⟩,
    ⟨(some (263, true)), .val 268 (.bin .eql) [.t 267, .k (.p (.int .i64 0))], []⟩,
    ⟨none, .val 269 .pick [.t 263, .t 268, .k (.p (.bool false))], []⟩,
    ⟨none, .val 0 .mov [.t 269], []⟩]
def r9_30 : IC := (.reg o9_30 [0])
def b9 : IC := (.seq r9_0 (.seq r9_1 (.seq (.seq r9_2 (.block 0 (.loop l9_1))) (.seq r9_6 (.seq r9_7 (.seq r9_8 (.seq (.seq r9_9 (.block 2 (.loop l9_2))) (.seq r9_19 (.seq r9_20 (.seq r9_21 (.seq r9_22 (.seq r9_23 (.seq r9_24 (.seq r9_25 (.seq r9_26 (.seq r9_27 (.seq r9_28 (.seq r9_29 (.seq r9_30 .ret)))))))))))))))))))
def i9 : IFn := ⟨0, 270, b9, [.tmp 0]⟩
/- isochronlaw27.lists -/
def o10_0 : List IOp := [⟨none, .boxL 3 (.t 0), []⟩,
    ⟨none, .boxL 4 (.t 1), []⟩,
    ⟨none, .newL 6 [.p (.sl 2 true []), .p (.int .i64 0), .p (.sl 2 true []), .p (.int .i64 0), .p (.sl 2 true []), .p (.int .i64 0)], []⟩]
def r10_0 : IC := (.reg o10_0 [2, 3, 4, 6])
def o10_1 : List IOp := [⟨none, .load 9 (.t 3) 2 true, []⟩,
    ⟨none, .call (some 10) 24 [.t 9], []⟩,
    ⟨none, .newL 7 [.p (.sl 2 true []), .p (.int .i64 0)], []⟩,
    ⟨none, .store (.t 7) (.t 10) 2, []⟩]
def r10_1 : IC := (.reg o10_1 [2, 4, 6, 7])
def o10_2 : List IOp := [⟨none, .val 11 (.faddr 0) [.t 4], []⟩,
    ⟨none, .load 12 (.t 11) 1 false, []⟩,
    ⟨none, .val 13 (.faddr 0) [.t 4], []⟩,
    ⟨none, .load 14 (.t 13) 1 false, []⟩,
    ⟨none, .val 15 .len [.t 14], []⟩,
    ⟨none, .val 16 .min [.t 15, .k (.p (.int .i64 140))], []⟩,
    ⟨none, .val 17 (.slice 2 false true false) [.t 12, .t 16], []⟩,
    ⟨none, .val 18 (.faddr 0) [.t 4], []⟩,
    ⟨none, .store (.t 18) (.t 17) 1, []⟩]
def r10_2 : IC := (.reg o10_2 [2, 4, 6, 7])
def o10_3 : List IOp := [⟨none, .litP 19 2 [], []⟩,
    ⟨none, .val 20 (.faddr 0) [.t 7], []⟩,
    ⟨none, .loadL 21 (.t 20) 1 false, [1]⟩,
    ⟨none, .app 22 (.t 19) (.t 21) 2 16, [0, 1, 2]⟩,
    ⟨none, .val 23 (.faddr 1) [.t 7], []⟩,
    ⟨none, .loadL 24 (.t 23) 1 false, [4]⟩,
    ⟨none, .val 25 (.build [.p (.sl 2 true []), .p (.int .i64 0)] [(0, 1), (1, 1)]) [.t 22, .t 24], [0, 1, 2, 3, 4, 5]⟩,
    ⟨none, .newL 8 [.p (.sl 2 true []), .p (.int .i64 0)], []⟩,
    ⟨none, .store (.t 8) (.t 25) 2, [0, 1, 2, 3, 4, 5, 6, 7]⟩]
def r10_3 : IC := (.regD o10_3 [2, 4, 6, 7, 8])
def o10_4 : List IOp := [⟨none, .val 26 (.faddr 0) [.t 4], []⟩,
    ⟨none, .load 27 (.t 26) 1 false, []⟩,
    ⟨none, .val 28 .len [.t 27], []⟩,
    ⟨none, .val 29 (.bin .gtr) [.t 28, .k (.p (.int .i64 0))], []⟩,
    ⟨none, .val 30 .mov [.t 29], []⟩,
    ⟨(some (30, true)), .val 31 .mov [.t 2], []⟩,
    ⟨(some (30, true)), .val 32 (.bin .rem) [.t 31, .k (.p (.int .u8 4))], []⟩,
    ⟨(some (30, true)), .val 33 (.bin .gtr) [.t 32, .k (.p (.int .u8 0))], []⟩,
    ⟨none, .val 34 .pick [.t 30, .t 33, .k (.p (.bool false))], []⟩]
def r10_4 : IC := (.reg o10_4 [2, 4, 6, 7, 8, 34])
def o10_5 : List IOp := [⟨none, .val 35 (.faddr 0) [.t 8], []⟩,
    ⟨none, .loadL 36 (.t 35) 1 false, [0]⟩,
    ⟨none, .val 37 .mov [.t 2], []⟩,
    ⟨none, .val 38 (.conv .i64) [.t 37], [2]⟩,
    ⟨none, .val 39 (.faddr 0) [.t 8], []⟩,
    ⟨none, .loadL 40 (.t 39) 1 false, [4]⟩,
    ⟨none, .val 41 .len [.t 40], [4, 5]⟩,
    ⟨none, .val 42 (.bin .rem) [.t 38, .t 41], [2, 3, 4, 5, 6]⟩,
    ⟨none, .val 43 (.faddr 0) [.t 4], []⟩,
    ⟨none, .loadL 44 (.t 43) 1 false, [8]⟩,
    ⟨none, .val 45 (.iaddrS 2) [.t 44, .k (.p (.int .i64 0))], [8, 9]⟩,
    ⟨none, .load 46 (.t 45) 2 true, [8, 9, 10]⟩,
    ⟨none, .val 47 (.iaddrS 2) [.t 36, .t 42], [0, 1, 2, 3, 4, 5, 6, 7, 8, 9, 10, 11]⟩,
    ⟨none, .store (.t 47) (.t 46) 2, [0, 1, 2, 3, 4, 5, 6, 7, 8, 9, 10, 11, 12]⟩]
def r10_5 : IC := (.regD o10_5 [4, 6, 7, 8])
def o10_6 : List IOp := [⟨none, .val 48 (.faddr 1) [.t 4], []⟩,
    ⟨none, .load 49 (.t 48) 1 false, []⟩,
    ⟨none, .val 50 (.faddr 1) [.t 8], []⟩,
    ⟨none, .store (.t 50) (.t 49) 1, []⟩]
def r10_6 : IC := (.reg o10_6 [4, 6, 7, 8])
def o10_7 : List IOp := [⟨none, .load 51 (.t 7) 2 true, []⟩,
    ⟨none, .load 52 (.t 4) 2 true, []⟩,
    ⟨none, .load 53 (.t 8) 2 true, []⟩,
    ⟨none, .val 54 (.build [.p (.sl 2 true []), .p (.int .i64 0), .p (.sl 2 true []), .p (.int .i64 0), .p (.sl 2 true []), .p (.int .i64 0)] [(0, 2), (2, 2), (4, 2)]) [.t 51, .t 52, .t 53], []⟩,
    ⟨none, .store (.t 6) (.t 54) 6, []⟩]
def r10_7 : IC := (.reg o10_7 [6])
def b10 : IC := (.seq r10_0 (.seq r10_1 (.seq r10_2 (.seq r10_3 (.seq (.seq r10_4 (.cond (.t 34) r10_5 r10_6)) (.kp [4, 6, 7, 8] (.seq r10_7 .ret)))))))
def i10 : IFn := ⟨3, 55, b10, [.cell 6 6 true]⟩
/- gates.Mask -/
def o11_0 : List IOp := [⟨none, .boxL 2 (.t 0), []⟩,
    ⟨none, .val 4 .mov [.k (.p (.int .i64 0))], []⟩,
    ⟨none, .val 5 .mov [.k (.p (.int .i64 0))], []⟩]
def r11_0 : IC := (.reg o11_0 [1, 2])
def o11_1 : List IOp := [⟨none, .load 9 (.t 2) 2 true, []⟩,
    ⟨none, .val 10 .mov [.t 1], []⟩,
    ⟨none, .call (some 11) 30 [.t 9, .k (.p (.int .i64 0)), .t 10, .k (.p (.int .i64 0))], []⟩,
    ⟨none, .val 6 .mov [.t 11], []⟩]
def r11_1 : IC := (.reg o11_1 [1, 2, 6])
def o11_2 : List IOp := [⟨none, .val 12 .mov [.t 6], []⟩,
    ⟨none, .val 13 (.bin .neq) [.t 12, .k (.p (.int .i64 0))], []⟩]
def r11_2 : IC := (.reg o11_2 [1, 2, 6, 13])
def o11_3 : List IOp := [⟨none, .val 14 .mov [.t 6], []⟩,
    ⟨none, .val 4 .mov [.k (.p (.int .i64 0))], []⟩,
    ⟨none, .val 5 .mov [.t 14], []⟩]
def r11_3 : IC := (.reg o11_3 [4, 5])
def o11_4 : List IOp := [⟨none, .load 16 (.t 2) 2 true, []⟩,
    ⟨none, .val 17 .mov [.t 1], []⟩,
    ⟨none, .call (some 18) 31 [.t 16, .t 17], []⟩,
    ⟨none, .val 15 .mov [.t 18], []⟩,
    ⟨none, .val 19 (.ext 0) [.t 15], []⟩,
    ⟨none, .val 20 (.ext 1) [.t 15], []⟩,
    ⟨none, .val 7 .mov [.t 19], []⟩,
    ⟨none, .val 8 .mov [.t 20], []⟩]
def r11_4 : IC := (.reg o11_4 [2, 7])
def o11_5 : List IOp := [⟨none, .val 21 (.faddr 0) [.t 2], []⟩,
    ⟨none, .load 22 (.t 21) 1 false, []⟩,
    ⟨none, .val 23 .mov [.t 7], []⟩,
    ⟨none, .val 24 (.iaddrS 2) [.t 22, .t 23], []⟩,
    ⟨none, .val 25 (.faddr 0) [.t 24], []⟩,
    ⟨none, .load 26 (.t 25) 1 false, []⟩,
    ⟨none, .val 4 .mov [.t 26], []⟩,
    ⟨none, .val 5 .mov [.k (.p (.int .i64 0))], []⟩]
def r11_5 : IC := (.reg o11_5 [4, 5])
def b11 : IC := (.seq r11_0 (.seq (.seq r11_1 (.seq r11_2 (.cond (.t 13) (.seq r11_3 .ret) .skip))) (.kp [1, 2] (.seq r11_4 (.seq r11_5 .ret)))))
def i11 : IFn := ⟨2, 27, b11, [.tmp 4, .tmp 5]⟩
/- isochronref27.Mask -/
def o12_0 : List IOp := [⟨none, .boxL 2 (.t 0), []⟩,
    ⟨none, .val 4 .mov [.k (.p (.int .i64 0))], []⟩,
    ⟨none, .val 5 .mov [.k (.p (.int .i64 0))], []⟩]
def r12_0 : IC := (.reg o12_0 [1, 2])
def o12_1 : List IOp := [⟨none, .load 7 (.t 2) 2 true, []⟩,
    ⟨none, .val 8 .mov [.t 1], []⟩,
    ⟨none, .call (some 9) 32 [.t 7, .k (.p (.int .i64 0)), .t 8, .k (.p (.int .i64 0))], []⟩,
    ⟨none, .val 6 .mov [.t 9], []⟩]
def r12_1 : IC := (.reg o12_1 [1, 2, 6])
def o12_2 : List IOp := [⟨none, .val 10 .mov [.t 6], []⟩,
    ⟨none, .val 11 (.bin .neq) [.t 10, .k (.p (.int .i64 0))], []⟩]
def r12_2 : IC := (.reg o12_2 [1, 2, 6, 11])
def o12_3 : List IOp := [⟨none, .val 12 .mov [.t 6], []⟩,
    ⟨none, .val 4 .mov [.k (.p (.int .i64 0))], []⟩,
    ⟨none, .val 5 .mov [.t 12], []⟩]
def r12_3 : IC := (.reg o12_3 [4, 5])
def o12_4 : List IOp := [⟨none, .load 13 (.t 2) 2 true, []⟩,
    ⟨none, .val 14 .mov [.t 1], []⟩,
    ⟨none, .call (some 15) 33 [.t 13, .t 14], []⟩,
    ⟨none, .val 4 .mov [.t 15], []⟩,
    ⟨none, .val 5 .mov [.k (.p (.int .i64 0))], []⟩]
def r12_4 : IC := (.reg o12_4 [4, 5])
def b12 : IC := (.seq r12_0 (.seq r12_1 (.seq (.seq r12_2 (.cond (.t 11) (.seq r12_3 .ret) .skip)) (.kp [1, 2] (.seq r12_4 .ret)))))
def i12 : IFn := ⟨2, 16, b12, [.tmp 4, .tmp 5]⟩
/- gates.Turn -/
def o13_0 : List IOp := [⟨none, .boxL 2 (.t 0), []⟩,
    ⟨none, .val 4 .mov [.k (.p (.int .i64 0))], []⟩,
    ⟨none, .val 5 .mov [.k (.p (.int .i64 0))], []⟩]
def r13_0 : IC := (.reg o13_0 [1, 2])
def o13_1 : List IOp := [⟨none, .load 11 (.t 2) 2 true, []⟩,
    ⟨none, .val 12 .mov [.t 1], []⟩,
    ⟨none, .call (some 13) 30 [.t 11, .k (.p (.int .i64 0)), .t 12, .k (.p (.int .i64 0))], []⟩,
    ⟨none, .val 6 .mov [.t 13], []⟩]
def r13_1 : IC := (.reg o13_1 [1, 2, 6])
def o13_2 : List IOp := [⟨none, .val 14 .mov [.t 6], []⟩,
    ⟨none, .val 15 (.bin .neq) [.t 14, .k (.p (.int .i64 0))], []⟩]
def r13_2 : IC := (.reg o13_2 [1, 2, 6, 15])
def o13_3 : List IOp := [⟨none, .val 16 .mov [.t 6], []⟩,
    ⟨none, .val 4 .mov [.k (.p (.int .i64 0))], []⟩,
    ⟨none, .val 5 .mov [.t 16], []⟩]
def r13_3 : IC := (.reg o13_3 [4, 5])
def o13_4 : List IOp := [⟨none, .load 18 (.t 2) 2 true, []⟩,
    ⟨none, .val 19 .mov [.t 1], []⟩,
    ⟨none, .call (some 20) 31 [.t 18, .t 19], []⟩,
    ⟨none, .val 17 .mov [.t 20], []⟩,
    ⟨none, .val 21 (.ext 0) [.t 17], []⟩,
    ⟨none, .val 22 (.ext 1) [.t 17], []⟩,
    ⟨none, .val 7 .mov [.t 21], []⟩,
    ⟨none, .val 8 .mov [.t 22], []⟩]
def r13_4 : IC := (.reg o13_4 [1, 2, 7])
def o13_5 : List IOp := [⟨none, .val 23 (.faddr 0) [.t 2], []⟩,
    ⟨none, .load 24 (.t 23) 1 false, []⟩,
    ⟨none, .val 25 .mov [.t 7], []⟩,
    ⟨none, .val 26 (.iaddrS 2) [.t 24, .t 25], []⟩,
    ⟨none, .val 27 (.faddr 0) [.t 26], []⟩,
    ⟨none, .load 28 (.t 27) 1 false, []⟩,
    ⟨none, .newH 9 [.p (.int .i64 0)], []⟩,
    ⟨none, .store (.t 9) (.t 28) 1, []⟩]
def r13_5 : IC := (.reg o13_5 [1, 2, 9])
def o13_6 : List IOp := [⟨none, .load 29 (.t 2) 2 true, []⟩,
    ⟨none, .val 30 .mov [.t 1], []⟩,
    ⟨none, .val 31 (.mkfn 35 0) [.t 9], []⟩,
    ⟨none, .call (some 32) 34 [.t 29, .t 30, .t 31], []⟩,
    ⟨none, .val 10 .mov [.t 32], []⟩]
def r13_6 : IC := (.reg o13_6 [1, 2, 10])
def o13_7 : List IOp := [⟨none, .val 33 .mov [.t 10], []⟩,
    ⟨none, .val 34 (.faddr 1) [.t 2], []⟩,
    ⟨none, .load 35 (.t 34) 1 false, []⟩,
    ⟨none, .val 36 (.bin .eql) [.t 33, .t 35], []⟩]
def r13_7 : IC := (.reg o13_7 [1, 10, 36])
def o13_8 : List IOp := [⟨none, .val 4 .mov [.k (.p (.int .i64 0))], []⟩,
    ⟨none, .val 5 .mov [.k (.p (.int .i64 4))], []⟩]
def r13_8 : IC := (.reg o13_8 [4, 5])
def o13_9 : List IOp := [⟨none, .val 37 .mov [.t 1], []⟩,
    ⟨none, .val 38 .mov [.t 10], []⟩,
    ⟨none, .val 39 (.bin .add) [.t 37, .t 38], []⟩,
    ⟨none, .val 4 .mov [.t 39], []⟩,
    ⟨none, .val 5 .mov [.k (.p (.int .i64 0))], []⟩]
def r13_9 : IC := (.reg o13_9 [4, 5])
def b13 : IC := (.seq r13_0 (.seq (.seq r13_1 (.seq r13_2 (.cond (.t 15) (.seq r13_3 .ret) .skip))) (.kp [1, 2] (.seq r13_4 (.seq r13_5 (.seq r13_6 (.seq (.seq r13_7 (.cond (.t 36) (.seq r13_8 .ret) .skip)) (.kp [1, 10] (.seq r13_9 .ret)))))))))
def i13 : IFn := ⟨2, 40, b13, [.tmp 4, .tmp 5]⟩
/- isochronref27.Turn -/
def o14_0 : List IOp := [⟨none, .boxL 2 (.t 0), []⟩,
    ⟨none, .val 4 .mov [.k (.p (.int .i64 0))], []⟩,
    ⟨none, .val 5 .mov [.k (.p (.int .i64 0))], []⟩]
def r14_0 : IC := (.reg o14_0 [1, 2])
def o14_1 : List IOp := [⟨none, .load 11 (.t 2) 2 true, []⟩,
    ⟨none, .val 12 .mov [.t 1], []⟩,
    ⟨none, .call (some 13) 32 [.t 11, .k (.p (.int .i64 0)), .t 12, .k (.p (.int .i64 0))], []⟩,
    ⟨none, .val 6 .mov [.t 13], []⟩]
def r14_1 : IC := (.reg o14_1 [1, 2, 6])
def o14_2 : List IOp := [⟨none, .val 14 .mov [.t 6], []⟩,
    ⟨none, .val 15 (.bin .neq) [.t 14, .k (.p (.int .i64 0))], []⟩]
def r14_2 : IC := (.reg o14_2 [1, 2, 6, 15])
def o14_3 : List IOp := [⟨none, .val 16 .mov [.t 6], []⟩,
    ⟨none, .val 4 .mov [.k (.p (.int .i64 0))], []⟩,
    ⟨none, .val 5 .mov [.t 16], []⟩]
def r14_3 : IC := (.reg o14_3 [4, 5])
def o14_4 : List IOp := [⟨none, .load 18 (.t 2) 2 true, []⟩,
    ⟨none, .val 19 .mov [.t 1], []⟩,
    ⟨none, .call (some 20) 36 [.t 18, .t 19], []⟩,
    ⟨none, .val 17 .mov [.t 20], []⟩,
    ⟨none, .val 21 (.ext 0) [.t 17], []⟩,
    ⟨none, .val 22 (.ext 1) [.t 17], []⟩,
    ⟨none, .val 7 .mov [.t 21], []⟩,
    ⟨none, .val 8 .mov [.t 22], []⟩]
def r14_4 : IC := (.reg o14_4 [1, 2, 7, 8])
def o14_5 : List IOp := [⟨none, .val 23 .mov [.t 1], []⟩,
    ⟨none, .val 24 .mov [.t 8], []⟩,
    ⟨none, .val 25 (.bin .sub) [.t 23, .t 24], []⟩,
    ⟨none, .val 9 .mov [.t 25], []⟩]
def r14_5 : IC := (.reg o14_5 [2, 7, 9])
def o14_6 : List IOp := [⟨none, .val 10 .mov [.k (.p (.int .i64 0))], []⟩]
def r14_6 : IC := (.reg o14_6 [2, 7, 9, 10])
def o14_7 : List IOp := [⟨none, .val 26 .mov [.t 10], []⟩,
    ⟨none, .val 27 (.faddr 0) [.t 2], []⟩,
    ⟨none, .load 28 (.t 27) 1 false, []⟩,
    ⟨none, .val 29 .len [.t 28], []⟩,
    ⟨none, .val 30 (.bin .lss) [.t 26, .t 29], []⟩]
def r14_7 : IC := (.reg o14_7 [2, 7, 9, 10, 30])
def o14_9 : List IOp := [⟨none, .val 33 .mov [.t 9], []⟩,
    ⟨none, .val 34 (.faddr 0) [.t 2], []⟩,
    ⟨none, .loadL 35 (.t 34) 1 false, [1]⟩,
    ⟨none, .val 36 .mov [.t 7], []⟩,
    ⟨none, .val 37 .mov [.t 10], []⟩,
    ⟨none, .val 38 (.bin .add) [.t 36, .t 37], [3, 4]⟩,
    ⟨none, .val 39 (.faddr 0) [.t 2], []⟩,
    ⟨none, .loadL 40 (.t 39) 1 false, [6]⟩,
    ⟨none, .val 41 .len [.t 40], [6, 7]⟩,
    ⟨none, .val 42 (.bin .rem) [.t 38, .t 41], [3, 4, 5, 6, 7, 8]⟩,
    ⟨none, .val 43 (.iaddrS 2) [.t 35, .t 42], [1, 2, 3, 4, 5, 6, 7, 8, 9]⟩,
    ⟨none, .val 44 (.faddr 1) [.t 43], [1, 2, 3, 4, 5, 6, 7, 8, 9, 10]⟩,
    ⟨none, .load 45 (.t 44) 1 false, [1, 2, 3, 4, 5, 6, 7, 8, 9, 10, 11]⟩,
    ⟨none, .val 46 (.bin .add) [.t 33, .t 45], [0, 1, 2, 3, 4, 5, 6, 7, 8, 9, 10, 11, 12]⟩,
    ⟨none, .val 9 .mov [.t 46], [0, 1, 2, 3, 4, 5, 6, 7, 8, 9, 10, 11, 12, 13]⟩]
def r14_9 : IC := (.regD o14_9 [2, 7, 9, 10])
def o14_10 : List IOp := [⟨none, .loadL 47 (.t 2) 2 true, []⟩,
    ⟨none, .val 48 .mov [.t 9], []⟩,
    ⟨none, .callP 49 33 [.t 47, .t 48], [0, 1]⟩,
    ⟨none, .val 50 (.faddr 0) [.t 2], []⟩,
    ⟨none, .loadL 51 (.t 50) 1 false, [3]⟩,
    ⟨none, .val 52 .mov [.t 7], []⟩,
    ⟨none, .val 53 (.iaddrS 2) [.t 51, .t 52], [3, 4, 5]⟩,
    ⟨none, .val 54 (.faddr 0) [.t 53], [3, 4, 5, 6]⟩,
    ⟨none, .load 55 (.t 54) 1 false, [3, 4, 5, 6, 7]⟩,
    ⟨none, .val 56 (.bin .neq) [.t 49, .t 55], [0, 1, 2, 3, 4, 5, 6, 7, 8]⟩]
def r14_10 : IC := (.regD o14_10 [2, 7, 9, 10, 56])
def o14_11 : List IOp := [⟨none, .val 57 .mov [.t 9], []⟩,
    ⟨none, .val 4 .mov [.t 57], []⟩,
    ⟨none, .val 5 .mov [.k (.p (.int .i64 0))], []⟩]
def r14_11 : IC := (.reg o14_11 [4, 5])
def o14_8 : List IOp := [⟨none, .val 31 .mov [.t 10], []⟩,
    ⟨none, .val 32 (.bin .add) [.t 31, .k (.p (.int .i64 1))], []⟩,
    ⟨none, .val 10 .mov [.t 32], []⟩]
def r14_8 : IC := (.reg o14_8 [2, 7, 9, 10])
def l14_1 : IC := (.seq (.seq r14_7 (.cond (.t 30) .skip (.exit 0))) (.kp [2, 7, 9, 10] (.seq (.block 1 (.seq r14_9 (.seq r14_10 (.cond (.t 56) (.seq r14_11 .ret) .skip)))) (.kp [2, 7, 9, 10] r14_8))))
def o14_12 : List IOp := [⟨none, .val 4 .mov [.k (.p (.int .i64 0))], []⟩,
    ⟨none, .val 5 .mov [.k (.p (.int .i64 4))], []⟩]
def r14_12 : IC := (.reg o14_12 [4, 5])
def b14 : IC := (.seq r14_0 (.seq r14_1 (.seq (.seq r14_2 (.cond (.t 15) (.seq r14_3 .ret) .skip)) (.kp [1, 2] (.seq r14_4 (.seq r14_5 (.seq (.seq r14_6 (.block 0 (.loop l14_1))) (.seq r14_12 .ret))))))))
def i14 : IFn := ⟨2, 58, b14, [.tmp 4, .tmp 5]⟩
/- gates.Check -/
def o15_0 : List IOp := [⟨none, .boxL 1 (.t 0), []⟩,
    ⟨none, .val 2 .mov [.k (.p (.int .i64 0))], []⟩]
def r15_0 : IC := (.reg o15_0 [1])
def o15_1 : List IOp := [⟨none, .val 6 (.faddr 0) [.t 1], []⟩,
    ⟨none, .load 7 (.t 6) 1 false, []⟩,
    ⟨none, .val 8 .len [.t 7], []⟩,
    ⟨none, .val 9 (.bin .lss) [.t 8, .k (.p (.int .i64 1))], []⟩,
    ⟨none, .val 10 .mov [.t 9], []⟩,
    ⟨(some (10, false)), .val 11 (.faddr 0) [.t 1], []⟩,
    ⟨(some (10, false)), .load 12 (.t 11) 1 false, []⟩,
    ⟨(some (10, false)), .val 13 .len [.t 12], []⟩,
    ⟨(some (10, false)), .val 14 (.bin .gtr) [.t 13, .k (.p (.int .i64 128))], []⟩,
    ⟨none, .val 15 .pick [.t 10, .k (.p (.bool true)), .t 14], []⟩]
def r15_1 : IC := (.reg o15_1 [1, 15])
def o15_2 : List IOp := [⟨none, .val 2 .mov [.k (.p (.int .i64 370))], []⟩]
def r15_2 : IC := (.reg o15_2 [2])
def o15_3 : List IOp := [⟨none, .val 3 .mov [.k (.p (.int .i64 0))], []⟩]
def r15_3 : IC := (.reg o15_3 [1, 3])
def o15_4 : List IOp := [⟨none, .val 16 (.faddr 0) [.t 1], []⟩,
    ⟨none, .load 17 (.t 16) 1 false, []⟩,
    ⟨none, .val 18 .len [.t 17], []⟩,
    ⟨none, .val 19 .mov [.k (.p (.int .i64 0))], []⟩]
def r15_4 : IC := (.reg o15_4 [1, 3, 17, 18, 19])
def o15_5 : List IOp := [⟨none, .val 20 (.bin .lss) [.t 19, .t 18], []⟩]
def r15_5 : IC := (.reg o15_5 [1, 3, 17, 18, 19, 20])
def o15_6 : List IOp := [⟨none, .val 21 (.iaddrS 2) [.t 17, .t 19], []⟩,
    ⟨none, .load 22 (.t 21) 2 true, []⟩,
    ⟨none, .newL 5 [.p (.int .i64 0), .p (.int .i64 0)], []⟩,
    ⟨none, .store (.t 5) (.t 22) 2, []⟩]
def r15_6 : IC := (.reg o15_6 [1, 3, 5, 17, 18, 19])
def o15_7 : List IOp := [⟨none, .val 23 (.faddr 0) [.t 5], []⟩,
    ⟨none, .load 24 (.t 23) 1 false, []⟩,
    ⟨none, .val 25 (.bin .lss) [.t 24, .k (.p (.int .i64 0))], []⟩,
    ⟨none, .val 26 .mov [.t 25], []⟩,
    ⟨(some (26, false)), .val 27 (.faddr 0) [.t 5], []⟩,
    ⟨(some (26, false)), .load 28 (.t 27) 1 false, []⟩,
    ⟨(some (26, false)), .val 29 (.bin .gtr) [.t 28, .k (.p (.int .i64 255))], []⟩,
    ⟨none, .val 30 .pick [.t 26, .k (.p (.bool true)), .t 29], []⟩,
    ⟨none, .val 31 .mov [.t 30], []⟩,
    ⟨(some (31, false)), .val 32 (.faddr 1) [.t 5], []⟩,
    ⟨(some (31, false)), .load 33 (.t 32) 1 false, []⟩,
    ⟨(some (31, false)), .val 34 (.bin .lss) [.t 33, .k (.p (.int .i64 1))], []⟩,
    ⟨none, .val 35 .pick [.t 31, .k (.p (.bool true)), .t 34], []⟩,
    ⟨none, .val 36 .mov [.t 35], []⟩,
    ⟨(some (36, false)), .val 37 (.faddr 1) [.t 5], []⟩,
    ⟨(some (36, false)), .load 38 (.t 37) 1 false, []⟩,
    ⟨(some (36, false)), .val 39 (.bin .gtr) [.t 38, .k (.p (.int .i64 9600000))], []⟩,
    ⟨none, .val 40 .pick [.t 36, .k (.p (.bool true)), .t 39], []⟩]
def r15_7 : IC := (.reg o15_7 [1, 3, 5, 17, 18, 19, 40])
def o15_8 : List IOp := [⟨none, .val 2 .mov [.k (.p (.int .i64 370))], []⟩]
def r15_8 : IC := (.reg o15_8 [2])
def o15_9 : List IOp := [⟨none, .val 41 .mov [.t 3], []⟩,
    ⟨none, .val 42 (.faddr 1) [.t 5], []⟩,
    ⟨none, .load 43 (.t 42) 1 false, []⟩,
    ⟨none, .val 44 (.bin .add) [.t 41, .t 43], []⟩,
    ⟨none, .val 3 .mov [.t 44], []⟩]
def r15_9 : IC := (.reg o15_9 [1, 3, 17, 18, 19])
def o15_10 : List IOp := [⟨none, .val 45 (.bin .add) [.t 19, .k (.p (.int .i64 1))], []⟩,
    ⟨none, .val 19 .mov [.t 45], []⟩]
def r15_10 : IC := (.reg o15_10 [1, 3, 17, 18, 19])
def l15_1 : IC := (.seq r15_5 (.seq (.cond (.t 20) .skip (.exit 0)) (.kp [1, 3, 17, 18, 19] (.seq (.block 1 (.seq r15_6 (.seq (.seq r15_7 (.cond (.t 40) (.seq r15_8 .ret) .skip)) (.kp [1, 3, 5, 17, 18, 19] r15_9)))) (.kp [1, 3, 17, 18, 19] r15_10)))))
def o15_11 : List IOp := [⟨none, .val 46 .mov [.t 3], []⟩,
    ⟨none, .val 47 (.faddr 1) [.t 1], []⟩,
    ⟨none, .load 48 (.t 47) 1 false, []⟩,
    ⟨none, .val 49 (.bin .neq) [.t 46, .t 48], []⟩,
    ⟨none, .val 50 .mov [.t 49], []⟩,
    ⟨(some (50, false)), .val 51 .mov [.t 3], []⟩,
    ⟨(some (50, false)), .val 52 (.bin .gtr) [.t 51, .k (.p (.int .i64 9600000))], []⟩,
    ⟨none, .val 53 .pick [.t 50, .k (.p (.bool true)), .t 52], []⟩]
def r15_11 : IC := (.reg o15_11 [53])
def o15_12 : List IOp := [⟨none, .val 2 .mov [.k (.p (.int .i64 370))], []⟩]
def r15_12 : IC := (.reg o15_12 [2])
def o15_13 : List IOp := [⟨none, .val 2 .mov [.k (.p (.int .i64 0))], []⟩]
def r15_13 : IC := (.reg o15_13 [2])
def b15 : IC := (.seq r15_0 (.seq (.seq r15_1 (.cond (.t 15) (.seq r15_2 .ret) .skip)) (.kp [1] (.seq r15_3 (.seq (.seq r15_4 (.block 0 (.loop l15_1))) (.seq (.seq r15_11 (.cond (.t 53) (.seq r15_12 .ret) .skip)) (.kp [] (.seq r15_13 .ret))))))))
def i15 : IFn := ⟨1, 54, b15, [.tmp 2]⟩
/- isochronref27.Check -/
def o16_0 : List IOp := [⟨none, .boxL 1 (.t 0), []⟩,
    ⟨none, .val 2 .mov [.k (.p (.int .i64 0))], []⟩]
def r16_0 : IC := (.reg o16_0 [1])
def o16_1 : List IOp := [⟨none, .load 3 (.t 1) 2 true, []⟩,
    ⟨none, .call (some 4) 37 [.t 3], []⟩]
def r16_1 : IC := (.reg o16_1 [4])
def o16_2 : List IOp := [⟨none, .val 2 .mov [.k (.p (.int .i64 0))], []⟩]
def r16_2 : IC := (.reg o16_2 [2])
def o16_3 : List IOp := [⟨none, .val 2 .mov [.k (.p (.int .i64 370))], []⟩]
def r16_3 : IC := (.reg o16_3 [2])
def b16 : IC := (.seq r16_0 (.seq (.seq r16_1 (.cond (.t 4) (.seq r16_2 .ret) .skip)) (.kp [] (.seq r16_3 .ret))))
def i16 : IFn := ⟨1, 5, b16, [.tmp 2]⟩
/- isochronlaw27.works -/
def o17_0 : List IOp := [⟨none, .val 0 .mov [.k (.p (.bool false))], []⟩]
def r17_0 : IC := (.reg o17_0 [])
def o17_1 : List IOp := [⟨none, .litP 10 1 [.k (.p (.int .i64 128)), .k (.p (.int .i64 10)), .k (.p (.int .i64 127)), .k (.p (.int .i64 30))], []⟩,
    ⟨none, .call (some 11) 28 [.t 10], []⟩,
    ⟨none, .newL 1 [.p (.sl 2 true []), .p (.int .i64 0)], []⟩,
    ⟨none, .store (.t 1) (.t 11) 2, []⟩]
def r17_1 : IC := (.reg o17_1 [1])
def o17_2 : List IOp := [⟨none, .load 13 (.t 1) 2 true, []⟩,
    ⟨none, .call (some 14) 22 [.t 13, .k (.p (.int .i64 7)), .k (.p (.int .i64 0)), .k (.p (.int .i64 11))], []⟩,
    ⟨none, .val 12 .mov [.t 14], []⟩,
    ⟨none, .val 15 (.ext 0) [.t 12], []⟩,
    ⟨none, .val 16 (.ext 1) [.t 12], []⟩,
    ⟨none, .val 2 .mov [.t 15], []⟩,
    ⟨none, .val 3 .mov [.t 16], []⟩]
def r17_2 : IC := (.reg o17_2 [1, 3])
def o17_3 : List IOp := [⟨none, .load 18 (.t 1) 2 true, []⟩,
    ⟨none, .call (some 19) 13 [.t 18, .k (.p (.int .i64 5))], []⟩,
    ⟨none, .val 17 .mov [.t 19], []⟩,
    ⟨none, .val 20 (.ext 0) [.t 17], []⟩,
    ⟨none, .val 21 (.ext 1) [.t 17], []⟩,
    ⟨none, .val 4 .mov [.t 20], []⟩,
    ⟨none, .val 5 .mov [.t 21], []⟩]
def r17_3 : IC := (.reg o17_3 [1, 3, 4, 5])
def o17_4 : List IOp := [⟨none, .load 23 (.t 1) 2 true, []⟩,
    ⟨none, .call (some 24) 13 [.t 23, .k (.p (.int .i64 35))], []⟩,
    ⟨none, .val 22 .mov [.t 24], []⟩,
    ⟨none, .val 25 (.ext 0) [.t 22], []⟩,
    ⟨none, .val 26 (.ext 1) [.t 22], []⟩,
    ⟨none, .val 6 .mov [.t 25], []⟩,
    ⟨none, .val 7 .mov [.t 26], []⟩]
def r17_4 : IC := (.reg o17_4 [1, 3, 4, 5, 6, 7])
def o17_5 : List IOp := [⟨none, .load 27 (.t 1) 2 true, []⟩,
    ⟨none, .call (some 28) 25 [.t 27, .k (.p (.int .i64 5))], []⟩,
    ⟨none, .val 29 (.bin .eql) [.t 28, .k (.p (.int .i64 128))], []⟩,
    ⟨none, .val 30 .mov [.t 29], []⟩,
    ⟨(some (30, true)), .load 31 (.t 1) 2 true, []⟩,
    ⟨(some (30, true)), .call (some 32) 25 [.t 31, .k (.p (.int .i64 10))], []⟩,
    ⟨(some (30, true)), .val 33 (.bin .eql) [.t 32, .k (.p (.int .i64 127))], []⟩,
    ⟨none, .val 34 .pick [.t 30, .t 33, .k (.p (.bool false))], []⟩,
    ⟨none, .val 35 .mov [.t 34], []⟩,
    ⟨(some (35, true)), .load 36 (.t 1) 2 true, []⟩,
    ⟨(some (35, true)), .call (some 37) 25 [.t 36, .k (.p (.int .i64 (-1)))], []⟩,
    ⟨(some (35, true)), .val 38 (.bin .eql) [.t 37, .k (.p (.int .i64 127))], []⟩,
    ⟨none, .val 39 .pick [.t 35, .t 38, .k (.p (.bool false))], []⟩,
    ⟨none, .val 8 .mov [.t 39], []⟩]
def r17_5 : IC := (.reg o17_5 [1, 3, 4, 5, 6, 7, 8])
def o17_6 : List IOp := [⟨none, .load 40 (.t 1) 2 true, []⟩,
    ⟨none, .call (some 41) 26 [.t 40, .k (.p (.int .i64 7)), .k (.p (.int .i64 3))], []⟩,
    ⟨none, .val 42 (.bin .eql) [.t 41, .k (.p (.int .i64 7))], []⟩,
    ⟨none, .val 43 .mov [.t 42], []⟩,
    ⟨(some (43, true)), .load 44 (.t 1) 2 true, []⟩,
    ⟨(some (43, true)), .call (some 45) 26 [.t 44, .k (.p (.int .i64 6)), .k (.p (.int .i64 35))], []⟩,
    ⟨(some (43, true)), .val 46 (.bin .eql) [.t 45, .k (.p (.int .i64 5))], []⟩,
    ⟨none, .val 47 .pick [.t 43, .t 46, .k (.p (.bool false))], []⟩,
    ⟨none, .val 48 .mov [.t 47], []⟩,
    ⟨(some (48, true)), .load 49 (.t 1) 2 true, []⟩,
    ⟨(some (48, true)), .call (some 50) 26 [.t 49, .k (.p (.int .i64 6)), .k (.p (.int .i64 3))], []⟩,
    ⟨(some (48, true)), .val 51 (.bin .eql) [.t 50, .k (.p (.int .i64 0))], []⟩,
    ⟨none, .val 52 .pick [.t 48, .t 51, .k (.p (.bool false))], []⟩,
    ⟨none, .val 53 .mov [.t 52], []⟩,
    ⟨(some (53, true)), .load 54 (.t 1) 2 true, []⟩,
    ⟨(some (53, true)), .call (some 55) 27 [.t 54, .k (.p (.int .i64 6)), .k (.p (.int .i64 35)), .k (.p (.int .i64 5))], []⟩,
    ⟨none, .val 56 .pick [.t 53, .t 55, .k (.p (.bool false))], []⟩,
    ⟨none, .val 57 .mov [.t 56], []⟩,
    ⟨(some (57, true)), .load 58 (.t 1) 2 true, []⟩,
    ⟨(some (57, true)), .call (some 59) 27 [.t 58, .k (.p (.int .i64 6)), .k (.p (.int .i64 35)), .k (.p (.int .i64 6))], []⟩,
    ⟨(some (57, true)), .val 60 .not [.t 59], []⟩,
    ⟨none, .val 61 .pick [.t 57, .t 60, .k (.p (.bool false))], []⟩,
    ⟨none, .val 9 .mov [.t 61], []⟩]
def r17_6 : IC := (.reg o17_6 [1, 3, 4, 5, 6, 7, 8, 9])
def o17_7 : List IOp := [⟨none, .val 62 .mov [.t 8], []⟩,
    ⟨none, .val 63 .mov [.t 62], []⟩,
    ⟨(some (63, true)), .val 64 .mov [.t 9], []⟩,
    ⟨none, .val 65 .pick [.t 63, .t 64, .k (.p (.bool false))], []⟩,
    ⟨none, .val 66 .mov [.t 65], []⟩,
    ⟨(some (66, true)), .load 67 (.t 1) 2 true, []⟩,
    ⟨(some (66, true)), .call (some 68) 29 [.t 67, .k (.p (.int .i64 6)), .k (.p (.int .i64 35)), .k (.p (.int .i64 5))], []⟩,
    ⟨(some (66, true)), .val 69 (.bin .eql) [.t 68, .k (.p (.int .i64 35))], []⟩,
    ⟨none, .val 70 .pick [.t 66, .t 69, .k (.p (.bool false))], []⟩,
    ⟨none, .val 71 .mov [.t 70], []⟩,
    ⟨(some (71, true)), .load 72 (.t 1) 2 true, []⟩,
    ⟨(some (71, true)), .call (some 73) 29 [.t 72, .k (.p (.int .i64 6)), .k (.p (.int .i64 35)), .k (.p (.int .i64 6))], []⟩,
    ⟨(some (71, true)), .val 74 (.bin .eql) [.t 73, .k (.p (.int .i64 50))], []⟩,
    ⟨none, .val 75 .pick [.t 71, .t 74, .k (.p (.bool false))], []⟩,
    ⟨none, .val 76 .mov [.t 75], []⟩,
    ⟨(some (76, true)), .val 77 .mov [.t 3], []⟩,
    ⟨(some (76, true)), .val 78 (.bin .eql) [.t 77, .k (.p (.int .i64 4))], []⟩,
    ⟨none, .val 79 .pick [.t 76, .t 78, .k (.p (.bool false))], []⟩,
    ⟨none, .val 80 .mov [.t 79], []⟩,
    ⟨(some (80, true)), .val 81 .mov [.t 4], []⟩,
    ⟨(some (80, true)), .val 82 (.bin .eql) [.t 81, .k (.p (.int .i64 10))], []⟩,
    ⟨none, .val 83 .pick [.t 80, .t 82, .k (.p (.bool false))], []⟩,
    ⟨none, .val 84 .mov [.t 83], []⟩,
    ⟨(some (84, true)), .val 85 .mov [.t 5], []⟩,
    ⟨(some (84, true)), .val 86 (.bin .eql) [.t 85, .k (.p (.int .i64 0))], []⟩,
    ⟨none, .val 87 .pick [.t 84, .t 86, .k (.p (.bool false))], []⟩,
    ⟨none, .val 88 .mov [.t 87], []⟩,
    ⟨(some (88, true)), .val 89 .mov [.t 6], []⟩,
    ⟨(some (88, true)), .val 90 (.bin .eql) [.t 89, .k (.p (.int .i64 40))], []⟩,
    ⟨none, .val 91 .pick [.t 88, .t 90, .k (.p (.bool false))], []⟩,
    ⟨none, .val 92 .mov [.t 91], []⟩,
    ⟨(some (92, true)), .val 93 .mov [.t 7], []⟩,
    ⟨(some (92, true)), .val 94 (.bin .eql) [.t 93, .k (.p (.int .i64 0))], []⟩,
    ⟨none, .val 95 .pick [.t 92, .t 94, .k (.p (.bool false))], []⟩,
    ⟨none, .val 0 .mov [.t 95], []⟩]
def r17_7 : IC := (.reg o17_7 [0])
def b17 : IC := (.seq r17_0 (.seq r17_1 (.seq r17_2 (.seq r17_3 (.seq r17_4 (.seq r17_5 (.seq r17_6 (.seq r17_7 .ret))))))))
def i17 : IFn := ⟨0, 96, b17, [.tmp 0]⟩
/- gates.Open -/
def o18_0 : List IOp := [⟨none, .boxL 3 (.t 0), []⟩,
    ⟨none, .val 6 .mov [.k (.p (.int .i64 0))], []⟩,
    ⟨none, .val 7 .mov [.k (.p (.int .i64 0))], []⟩]
def r18_0 : IC := (.reg o18_0 [1, 2, 3])
def o18_1 : List IOp := [⟨none, .load 9 (.t 3) 2 true, []⟩,
    ⟨none, .val 10 .mov [.t 1], []⟩,
    ⟨none, .val 11 .mov [.t 2], []⟩,
    ⟨none, .call (some 12) 30 [.t 9, .t 10, .t 11, .k (.p (.int .i64 0))], []⟩,
    ⟨none, .val 8 .mov [.t 12], []⟩]
def r18_1 : IC := (.reg o18_1 [1, 2, 3, 8])
def o18_2 : List IOp := [⟨none, .val 13 .mov [.t 8], []⟩,
    ⟨none, .val 14 (.bin .neq) [.t 13, .k (.p (.int .i64 0))], []⟩]
def r18_2 : IC := (.reg o18_2 [1, 2, 3, 8, 14])
def o18_3 : List IOp := [⟨none, .val 15 .mov [.t 8], []⟩,
    ⟨none, .val 6 .mov [.k (.p (.int .i64 0))], []⟩,
    ⟨none, .val 7 .mov [.t 15], []⟩]
def r18_3 : IC := (.reg o18_3 [6, 7])
def o18_4 : List IOp := [⟨none, .load 16 (.t 3) 2 true, []⟩,
    ⟨none, .val 17 .mov [.t 1], []⟩,
    ⟨none, .val 18 .mov [.t 2], []⟩,
    ⟨none, .call (some 19) 38 [.t 16, .t 17, .t 18], []⟩,
    ⟨none, .val 6 .mov [.t 19], []⟩,
    ⟨none, .val 7 .mov [.k (.p (.int .i64 0))], []⟩]
def r18_4 : IC := (.reg o18_4 [6, 7])
def b18 : IC := (.seq r18_0 (.seq (.seq r18_1 (.seq r18_2 (.cond (.t 14) (.seq r18_3 .ret) .skip))) (.kp [1, 2, 3] (.seq r18_4 .ret))))
def i18 : IFn := ⟨3, 20, b18, [.tmp 6, .tmp 7]⟩
/- isochronref27.Open -/
def o19_0 : List IOp := [⟨none, .boxL 3 (.t 0), []⟩,
    ⟨none, .val 6 .mov [.k (.p (.int .i64 0))], []⟩,
    ⟨none, .val 7 .mov [.k (.p (.int .i64 0))], []⟩]
def r19_0 : IC := (.reg o19_0 [1, 2, 3])
def o19_1 : List IOp := [⟨none, .load 9 (.t 3) 2 true, []⟩,
    ⟨none, .val 10 .mov [.t 1], []⟩,
    ⟨none, .val 11 .mov [.t 2], []⟩,
    ⟨none, .call (some 12) 32 [.t 9, .t 10, .t 11, .k (.p (.int .i64 0))], []⟩,
    ⟨none, .val 8 .mov [.t 12], []⟩]
def r19_1 : IC := (.reg o19_1 [1, 2, 3, 8])
def o19_2 : List IOp := [⟨none, .val 13 .mov [.t 8], []⟩,
    ⟨none, .val 14 (.bin .neq) [.t 13, .k (.p (.int .i64 0))], []⟩]
def r19_2 : IC := (.reg o19_2 [1, 2, 3, 8, 14])
def o19_3 : List IOp := [⟨none, .val 15 .mov [.t 8], []⟩,
    ⟨none, .val 6 .mov [.k (.p (.int .i64 0))], []⟩,
    ⟨none, .val 7 .mov [.t 15], []⟩]
def r19_3 : IC := (.reg o19_3 [6, 7])
def o19_4 : List IOp := [⟨none, .load 16 (.t 3) 2 true, []⟩,
    ⟨none, .val 17 .mov [.t 1], []⟩,
    ⟨none, .val 18 .mov [.t 2], []⟩,
    ⟨none, .call (some 19) 39 [.t 16, .t 17, .t 18], []⟩,
    ⟨none, .val 6 .mov [.t 19], []⟩,
    ⟨none, .val 7 .mov [.k (.p (.int .i64 0))], []⟩]
def r19_4 : IC := (.reg o19_4 [6, 7])
def b19 : IC := (.seq r19_0 (.seq r19_1 (.seq (.seq r19_2 (.cond (.t 14) (.seq r19_3 .ret) .skip)) (.kp [1, 2, 3] (.seq r19_4 .ret)))))
def i19 : IFn := ⟨3, 20, b19, [.tmp 6, .tmp 7]⟩
/- gates.Fits -/
def o20_0 : List IOp := [⟨none, .boxL 4 (.t 0), []⟩,
    ⟨none, .val 8 .mov [.k (.p (.bool false))], []⟩,
    ⟨none, .val 9 .mov [.k (.p (.int .i64 0))], []⟩]
def r20_0 : IC := (.reg o20_0 [1, 2, 3, 4])
def o20_1 : List IOp := [⟨none, .load 11 (.t 4) 2 true, []⟩,
    ⟨none, .val 12 .mov [.t 1], []⟩,
    ⟨none, .val 13 .mov [.t 2], []⟩,
    ⟨none, .val 14 .mov [.t 3], []⟩,
    ⟨none, .call (some 15) 30 [.t 11, .t 12, .t 13, .t 14], []⟩,
    ⟨none, .val 10 .mov [.t 15], []⟩]
def r20_1 : IC := (.reg o20_1 [1, 2, 3, 4, 10])
def o20_2 : List IOp := [⟨none, .val 16 .mov [.t 10], []⟩,
    ⟨none, .val 17 (.bin .neq) [.t 16, .k (.p (.int .i64 0))], []⟩]
def r20_2 : IC := (.reg o20_2 [1, 2, 3, 4, 10, 17])
def o20_3 : List IOp := [⟨none, .val 18 .mov [.t 10], []⟩,
    ⟨none, .val 8 .mov [.k (.p (.bool false))], []⟩,
    ⟨none, .val 9 .mov [.t 18], []⟩]
def r20_3 : IC := (.reg o20_3 [8, 9])
def o20_4 : List IOp := [⟨none, .load 19 (.t 4) 2 true, []⟩,
    ⟨none, .val 20 .mov [.t 1], []⟩,
    ⟨none, .val 21 .mov [.t 2], []⟩,
    ⟨none, .call (some 22) 38 [.t 19, .t 20, .t 21], []⟩,
    ⟨none, .val 23 .mov [.t 3], []⟩,
    ⟨none, .val 24 (.bin .geq) [.t 22, .t 23], []⟩,
    ⟨none, .val 8 .mov [.t 24], []⟩,
    ⟨none, .val 9 .mov [.k (.p (.int .i64 0))], []⟩]
def r20_4 : IC := (.reg o20_4 [8, 9])
def b20 : IC := (.seq r20_0 (.seq (.seq r20_1 (.seq r20_2 (.cond (.t 17) (.seq r20_3 .ret) .skip))) (.kp [1, 2, 3, 4] (.seq r20_4 .ret))))
def i20 : IFn := ⟨4, 25, b20, [.tmp 8, .tmp 9]⟩
/- isochronref27.Fits -/
def o21_0 : List IOp := [⟨none, .boxL 4 (.t 0), []⟩,
    ⟨none, .val 8 .mov [.k (.p (.bool false))], []⟩,
    ⟨none, .val 9 .mov [.k (.p (.int .i64 0))], []⟩]
def r21_0 : IC := (.reg o21_0 [1, 2, 3, 4])
def o21_1 : List IOp := [⟨none, .load 11 (.t 4) 2 true, []⟩,
    ⟨none, .val 12 .mov [.t 1], []⟩,
    ⟨none, .val 13 .mov [.t 2], []⟩,
    ⟨none, .val 14 .mov [.t 3], []⟩,
    ⟨none, .call (some 15) 32 [.t 11, .t 12, .t 13, .t 14], []⟩,
    ⟨none, .val 10 .mov [.t 15], []⟩]
def r21_1 : IC := (.reg o21_1 [1, 2, 3, 4, 10])
def o21_2 : List IOp := [⟨none, .val 16 .mov [.t 10], []⟩,
    ⟨none, .val 17 (.bin .neq) [.t 16, .k (.p (.int .i64 0))], []⟩]
def r21_2 : IC := (.reg o21_2 [1, 2, 3, 4, 10, 17])
def o21_3 : List IOp := [⟨none, .val 18 .mov [.t 10], []⟩,
    ⟨none, .val 8 .mov [.k (.p (.bool false))], []⟩,
    ⟨none, .val 9 .mov [.t 18], []⟩]
def r21_3 : IC := (.reg o21_3 [8, 9])
def o21_4 : List IOp := [⟨none, .val 19 .mov [.t 3], []⟩,
    ⟨none, .val 20 (.bin .eql) [.t 19, .k (.p (.int .i64 0))], []⟩,
    ⟨none, .val 21 .mov [.t 20], []⟩,
    ⟨(some (21, false)), .load 22 (.t 4) 2 true, []⟩,
    ⟨(some (21, false)), .val 23 .mov [.t 1], []⟩,
    ⟨(some (21, false)), .val 24 .mov [.t 2], []⟩,
    ⟨(some (21, false)), .call (some 25) 39 [.t 22, .t 23, .t 24], []⟩,
    ⟨(some (21, false)), .val 26 .mov [.t 3], []⟩,
    ⟨(some (21, false)), .val 27 (.bin .geq) [.t 25, .t 26], []⟩,
    ⟨none, .val 28 .pick [.t 21, .k (.p (.bool true)), .t 27], []⟩,
    ⟨none, .val 8 .mov [.t 28], []⟩,
    ⟨none, .val 9 .mov [.k (.p (.int .i64 0))], []⟩]
def r21_4 : IC := (.reg o21_4 [8, 9])
def b21 : IC := (.seq r21_0 (.seq r21_1 (.seq (.seq r21_2 (.cond (.t 17) (.seq r21_3 .ret) .skip)) (.kp [1, 2, 3, 4] (.seq r21_4 .ret)))))
def i21 : IFn := ⟨4, 29, b21, [.tmp 8, .tmp 9]⟩
/- gates.Fit -/
def o22_0 : List IOp := [⟨none, .boxL 4 (.t 0), []⟩,
    ⟨none, .boxH 5 (.t 1), []⟩,
    ⟨none, .val 8 .mov [.k (.p (.int .i64 0))], []⟩,
    ⟨none, .val 9 .mov [.k (.p (.int .i64 0))], []⟩]
def r22_0 : IC := (.reg o22_0 [2, 3, 4, 5])
def o22_1 : List IOp := [⟨none, .load 13 (.t 4) 2 true, []⟩,
    ⟨none, .load 14 (.t 5) 1 false, []⟩,
    ⟨none, .val 15 .mov [.t 2], []⟩,
    ⟨none, .val 16 .mov [.t 3], []⟩,
    ⟨none, .call (some 17) 30 [.t 13, .t 14, .t 15, .t 16], []⟩,
    ⟨none, .val 10 .mov [.t 17], []⟩]
def r22_1 : IC := (.reg o22_1 [2, 3, 4, 5, 10])
def o22_2 : List IOp := [⟨none, .val 18 .mov [.t 10], []⟩,
    ⟨none, .val 19 (.bin .neq) [.t 18, .k (.p (.int .i64 0))], []⟩]
def r22_2 : IC := (.reg o22_2 [2, 3, 4, 5, 10, 19])
def o22_3 : List IOp := [⟨none, .val 20 .mov [.t 10], []⟩,
    ⟨none, .val 8 .mov [.k (.p (.int .i64 0))], []⟩,
    ⟨none, .val 9 .mov [.t 20], []⟩]
def r22_3 : IC := (.reg o22_3 [8, 9])
def o22_4 : List IOp := [⟨none, .val 21 .mov [.t 2], []⟩,
    ⟨none, .val 11 .mov [.t 21], []⟩]
def r22_4 : IC := (.reg o22_4 [2, 3, 4, 5, 11])
def o22_5 : List IOp := [⟨none, .val 22 .mov [.t 11], []⟩,
    ⟨none, .val 23 .mov [.t 2], []⟩,
    ⟨none, .val 24 (.faddr 1) [.t 4], []⟩,
    ⟨none, .load 25 (.t 24) 1 false, []⟩,
    ⟨none, .val 26 (.bin .mul) [.k (.p (.int .i64 2)), .t 25], []⟩,
    ⟨none, .val 27 (.bin .add) [.t 23, .t 26], []⟩,
    ⟨none, .val 28 (.bin .lss) [.t 22, .t 27], []⟩]
def r22_5 : IC := (.reg o22_5 [2, 3, 4, 5, 11, 28])
def o22_6 : List IOp := [⟨none, .load 29 (.t 4) 2 true, []⟩,
    ⟨none, .load 30 (.t 5) 1 false, []⟩,
    ⟨none, .val 31 .mov [.t 11], []⟩,
    ⟨none, .call (some 32) 38 [.t 29, .t 30, .t 31], []⟩,
    ⟨none, .val 12 .mov [.t 32], []⟩]
def r22_6 : IC := (.reg o22_6 [2, 3, 4, 5, 11, 12])
def o22_7 : List IOp := [⟨none, .val 33 .mov [.t 12], []⟩,
    ⟨none, .val 34 .mov [.t 3], []⟩,
    ⟨none, .val 35 (.bin .geq) [.t 33, .t 34], []⟩]
def r22_7 : IC := (.reg o22_7 [2, 3, 4, 5, 11, 12, 35])
def o22_8 : List IOp := [⟨none, .val 36 .mov [.t 11], []⟩,
    ⟨none, .val 8 .mov [.t 36], []⟩,
    ⟨none, .val 9 .mov [.k (.p (.int .i64 0))], []⟩]
def r22_8 : IC := (.reg o22_8 [8, 9])
def o22_9 : List IOp := [⟨none, .val 37 .mov [.t 11], []⟩,
    ⟨none, .val 38 .mov [.t 12], []⟩,
    ⟨none, .val 39 (.bin .add) [.t 37, .t 38], []⟩,
    ⟨none, .val 11 .mov [.t 39], []⟩]
def r22_9 : IC := (.reg o22_9 [2, 3, 4, 5, 11])
def o22_10 : List IOp := [⟨none, .val 40 .mov [.t 11], []⟩,
    ⟨none, .load 41 (.t 4) 2 true, []⟩,
    ⟨none, .val 42 .mov [.t 11], []⟩,
    ⟨none, .val 43 (.mkfn 40 0) [.t 5], []⟩,
    ⟨none, .call (some 44) 34 [.t 41, .t 42, .t 43], []⟩,
    ⟨none, .val 45 (.bin .add) [.t 40, .t 44], []⟩,
    ⟨none, .val 11 .mov [.t 45], []⟩]
def r22_10 : IC := (.reg o22_10 [2, 3, 4, 5, 11])
def l22_1 : IC := (.seq (.seq r22_5 (.cond (.t 28) .skip (.exit 0))) (.kp [2, 3, 4, 5, 11] (.block 1 (.seq r22_6 (.seq (.seq r22_7 (.cond (.t 35) (.seq r22_8 .ret) .skip)) (.kp [2, 3, 4, 5, 11, 12] (.seq r22_9 r22_10)))))))
def o22_11 : List IOp := [⟨none, .val 8 .mov [.k (.p (.int .i64 0))], []⟩,
    ⟨none, .val 9 .mov [.k (.p (.int .i64 4))], []⟩]
def r22_11 : IC := (.reg o22_11 [8, 9])
def b22 : IC := (.seq r22_0 (.seq (.seq r22_1 (.seq r22_2 (.cond (.t 19) (.seq r22_3 .ret) .skip))) (.kp [2, 3, 4, 5] (.seq (.seq r22_4 (.block 0 (.loop l22_1))) (.seq r22_11 .ret)))))
def i22 : IFn := ⟨4, 46, b22, [.tmp 8, .tmp 9]⟩
/- isochronref27.Fit -/
def o23_0 : List IOp := [⟨none, .boxL 4 (.t 0), []⟩,
    ⟨none, .val 8 .mov [.k (.p (.int .i64 0))], []⟩,
    ⟨none, .val 9 .mov [.k (.p (.int .i64 0))], []⟩]
def r23_0 : IC := (.reg o23_0 [1, 2, 3, 4])
def o23_1 : List IOp := [⟨none, .load 13 (.t 4) 2 true, []⟩,
    ⟨none, .val 14 .mov [.t 1], []⟩,
    ⟨none, .val 15 .mov [.t 2], []⟩,
    ⟨none, .val 16 .mov [.t 3], []⟩,
    ⟨none, .call (some 17) 32 [.t 13, .t 14, .t 15, .t 16], []⟩,
    ⟨none, .val 10 .mov [.t 17], []⟩]
def r23_1 : IC := (.reg o23_1 [1, 2, 3, 4, 10])
def o23_2 : List IOp := [⟨none, .val 18 .mov [.t 10], []⟩,
    ⟨none, .val 19 (.bin .neq) [.t 18, .k (.p (.int .i64 0))], []⟩]
def r23_2 : IC := (.reg o23_2 [1, 2, 3, 4, 10, 19])
def o23_3 : List IOp := [⟨none, .val 20 .mov [.t 10], []⟩,
    ⟨none, .val 8 .mov [.k (.p (.int .i64 0))], []⟩,
    ⟨none, .val 9 .mov [.t 20], []⟩]
def r23_3 : IC := (.reg o23_3 [8, 9])
def o23_4 : List IOp := [⟨none, .load 22 (.t 4) 2 true, []⟩,
    ⟨none, .val 23 .mov [.t 1], []⟩,
    ⟨none, .val 24 .mov [.t 2], []⟩,
    ⟨none, .val 25 .mov [.t 3], []⟩,
    ⟨none, .call (some 26) 41 [.t 22, .t 23, .t 24, .t 25], []⟩,
    ⟨none, .val 21 .mov [.t 26], []⟩,
    ⟨none, .val 27 (.ext 0) [.t 21], []⟩,
    ⟨none, .val 28 (.ext 1) [.t 21], []⟩,
    ⟨none, .val 11 .mov [.t 27], []⟩,
    ⟨none, .val 12 .mov [.t 28], []⟩]
def r23_4 : IC := (.reg o23_4 [11, 12])
def o23_5 : List IOp := [⟨none, .val 29 .mov [.t 12], []⟩,
    ⟨none, .val 30 .not [.t 29], []⟩]
def r23_5 : IC := (.reg o23_5 [11, 30])
def o23_6 : List IOp := [⟨none, .val 8 .mov [.k (.p (.int .i64 0))], []⟩,
    ⟨none, .val 9 .mov [.k (.p (.int .i64 4))], []⟩]
def r23_6 : IC := (.reg o23_6 [8, 9])
def o23_7 : List IOp := [⟨none, .val 31 .mov [.t 11], []⟩,
    ⟨none, .val 8 .mov [.t 31], []⟩,
    ⟨none, .val 9 .mov [.k (.p (.int .i64 0))], []⟩]
def r23_7 : IC := (.reg o23_7 [8, 9])
def b23 : IC := (.seq r23_0 (.seq r23_1 (.seq (.seq r23_2 (.cond (.t 19) (.seq r23_3 .ret) .skip)) (.kp [1, 2, 3, 4] (.seq r23_4 (.seq (.seq r23_5 (.cond (.t 30) (.seq r23_6 .ret) .skip)) (.kp [11] (.seq r23_7 .ret))))))))
def i23 : IFn := ⟨4, 32, b23, [.tmp 8, .tmp 9]⟩
/- (isochronref27.Draft).Gates -/
def o24_0 : List IOp := [⟨none, .boxL 1 (.t 0), []⟩,
    ⟨none, .newL 2 [.p (.sl 2 true []), .p (.int .i64 0)], []⟩]
def r24_0 : IC := (.reg o24_0 [1, 2])
def o24_1 : List IOp := [⟨none, .newL 3 [.p (.sl 2 true []), .p (.int .i64 0)], []⟩]
def r24_1 : IC := (.reg o24_1 [1, 2, 3])
def o24_2 : List IOp := [⟨none, .val 4 .mov [.k (.p (.int .i64 0))], []⟩]
def r24_2 : IC := (.reg o24_2 [1, 2, 3, 4])
def o24_3 : List IOp := [⟨none, .val 6 .mov [.t 4], []⟩,
    ⟨none, .val 7 (.faddr 0) [.t 1], []⟩,
    ⟨none, .load 8 (.t 7) 1 false, []⟩,
    ⟨none, .val 9 .len [.t 8], []⟩,
    ⟨none, .val 10 .min [.t 9, .k (.p (.int .i64 16))], []⟩,
    ⟨none, .val 11 .max [.k (.p (.int .i64 1)), .t 10], []⟩,
    ⟨none, .val 12 (.bin .lss) [.t 6, .t 11], []⟩]
def r24_3 : IC := (.reg o24_3 [1, 2, 3, 4, 12])
def o24_5 : List IOp := [⟨none, .val 15 (.build [.p (.int .i64 0), .p (.int .i64 0)] [(0, 1), (1, 1)]) [.k (.p (.int .i64 127)), .k (.p (.int .i64 1))], []⟩,
    ⟨none, .newL 5 [.p (.int .i64 0), .p (.int .i64 0)], []⟩,
    ⟨none, .store (.t 5) (.t 15) 2, []⟩]
def r24_5 : IC := (.reg o24_5 [1, 2, 3, 4, 5])
def o24_6 : List IOp := [⟨none, .val 16 .mov [.t 4], []⟩,
    ⟨none, .val 17 (.faddr 0) [.t 1], []⟩,
    ⟨none, .load 18 (.t 17) 1 false, []⟩,
    ⟨none, .val 19 .len [.t 18], []⟩,
    ⟨none, .val 20 (.bin .lss) [.t 16, .t 19], []⟩]
def r24_6 : IC := (.reg o24_6 [1, 2, 3, 4, 5, 20])
def o24_7 : List IOp := [⟨none, .val 21 (.faddr 0) [.t 1], []⟩,
    ⟨none, .load 22 (.t 21) 1 false, []⟩,
    ⟨none, .val 23 .mov [.t 4], []⟩,
    ⟨none, .val 24 (.iaddrS 1) [.t 22, .t 23], []⟩,
    ⟨none, .load 25 (.t 24) 1 false, []⟩,
    ⟨none, .val 26 (.conv .i64) [.t 25], []⟩,
    ⟨none, .val 27 (.faddr 0) [.t 5], []⟩,
    ⟨none, .store (.t 27) (.t 26) 1, []⟩]
def r24_7 : IC := (.reg o24_7 [1, 2, 3, 4, 5])
def o24_8 : List IOp := [⟨none, .val 28 .mov [.t 4], []⟩,
    ⟨none, .val 29 (.faddr 1) [.t 1], []⟩,
    ⟨none, .load 30 (.t 29) 1 false, []⟩,
    ⟨none, .val 31 .len [.t 30], []⟩,
    ⟨none, .val 32 (.bin .lss) [.t 28, .t 31], []⟩]
def r24_8 : IC := (.reg o24_8 [1, 2, 3, 4, 5, 32])
def o24_9 : List IOp := [⟨none, .val 33 (.faddr 1) [.t 1], []⟩,
    ⟨none, .load 34 (.t 33) 1 false, []⟩,
    ⟨none, .val 35 .mov [.t 4], []⟩,
    ⟨none, .val 36 (.iaddrS 1) [.t 34, .t 35], []⟩,
    ⟨none, .load 37 (.t 36) 1 false, []⟩,
    ⟨none, .val 38 (.bin .rem) [.t 37, .k (.p (.int .u8 20))], []⟩,
    ⟨none, .val 39 (.conv .i64) [.t 38], []⟩,
    ⟨none, .val 40 (.bin .add) [.k (.p (.int .i64 1)), .t 39], []⟩,
    ⟨none, .val 41 (.faddr 1) [.t 5], []⟩,
    ⟨none, .store (.t 41) (.t 40) 1, []⟩]
def r24_9 : IC := (.reg o24_9 [1, 2, 3, 4, 5])
def o24_10 : List IOp := [⟨none, .val 42 (.faddr 0) [.t 3], []⟩,
    ⟨none, .load 43 (.t 42) 1 false, []⟩,
    ⟨none, .load 44 (.t 5) 2 true, []⟩,
    ⟨none, .litP 45 2 [.t 44], []⟩,
    ⟨none, .app 46 (.t 43) (.t 45) 2 16, []⟩,
    ⟨none, .val 47 (.faddr 0) [.t 3], []⟩,
    ⟨none, .store (.t 47) (.t 46) 1, []⟩]
def r24_10 : IC := (.reg o24_10 [1, 2, 3, 4, 5])
def o24_11 : List IOp := [⟨none, .val 48 (.faddr 1) [.t 3], []⟩,
    ⟨none, .load 49 (.t 48) 1 false, []⟩,
    ⟨none, .val 50 (.faddr 1) [.t 5], []⟩,
    ⟨none, .load 51 (.t 50) 1 false, []⟩,
    ⟨none, .val 52 (.bin .add) [.t 49, .t 51], []⟩,
    ⟨none, .val 53 (.faddr 1) [.t 3], []⟩,
    ⟨none, .store (.t 53) (.t 52) 1, []⟩]
def r24_11 : IC := (.reg o24_11 [1, 2, 3, 4])
def o24_4 : List IOp := [⟨none, .val 13 .mov [.t 4], []⟩,
    ⟨none, .val 14 (.bin .add) [.t 13, .k (.p (.int .i64 1))], []⟩,
    ⟨none, .val 4 .mov [.t 14], []⟩]
def r24_4 : IC := (.reg o24_4 [1, 2, 3, 4])
def l24_1 : IC := (.seq (.seq r24_3 (.cond (.t 12) .skip (.exit 0))) (.kp [1, 2, 3, 4] (.seq (.block 1 (.seq r24_5 (.seq (.seq r24_6 (.cond (.t 20) r24_7 .skip)) (.kp [1, 2, 3, 4, 5] (.seq (.seq r24_8 (.cond (.t 32) r24_9 .skip)) (.kp [1, 2, 3, 4, 5] (.seq r24_10 r24_11))))))) (.kp [1, 2, 3, 4] r24_4))))
def o24_12 : List IOp := [⟨none, .load 54 (.t 3) 2 true, []⟩,
    ⟨none, .store (.t 2) (.t 54) 2, []⟩]
def r24_12 : IC := (.reg o24_12 [2])
def b24 : IC := (.seq r24_0 (.seq r24_1 (.seq (.seq r24_2 (.block 0 (.loop l24_1))) (.seq r24_12 .ret))))
def i24 : IFn := ⟨1, 55, b24, [.cell 2 2 true]⟩
/- isochronlaw27.mask -/
def o25_0 : List IOp := [⟨none, .boxL 2 (.t 0), []⟩,
    ⟨none, .val 4 .mov [.k (.p (.int .i64 0))], []⟩]
def r25_0 : IC := (.reg o25_0 [1, 2])
def o25_1 : List IOp := [⟨none, .load 8 (.t 2) 2 true, []⟩,
    ⟨none, .val 9 .mov [.t 1], []⟩,
    ⟨none, .call (some 10) 11 [.t 8, .t 9], []⟩,
    ⟨none, .val 7 .mov [.t 10], []⟩,
    ⟨none, .val 11 (.ext 0) [.t 7], []⟩,
    ⟨none, .val 12 (.ext 1) [.t 7], []⟩,
    ⟨none, .val 5 .mov [.t 11], []⟩,
    ⟨none, .val 6 .mov [.t 12], []⟩]
def r25_1 : IC := (.reg o25_1 [5, 6])
def o25_2 : List IOp := [⟨none, .val 13 .mov [.t 6], []⟩,
    ⟨none, .val 14 (.bin .neq) [.t 13, .k (.p (.int .i64 0))], []⟩]
def r25_2 : IC := (.reg o25_2 [5, 14])
def o25_3 : List IOp := [⟨none, .val 4 .mov [.k (.p (.int .i64 (-1)))], []⟩]
def r25_3 : IC := (.reg o25_3 [4])
def o25_4 : List IOp := [⟨none, .val 15 .mov [.t 5], []⟩,
    ⟨none, .val 4 .mov [.t 15], []⟩]
def r25_4 : IC := (.reg o25_4 [4])
def b25 : IC := (.seq r25_0 (.seq r25_1 (.seq (.seq r25_2 (.cond (.t 14) (.seq r25_3 .ret) .skip)) (.kp [5] (.seq r25_4 .ret)))))
def i25 : IFn := ⟨2, 16, b25, [.tmp 4]⟩
/- isochronlaw27.open -/
def o26_0 : List IOp := [⟨none, .boxL 3 (.t 0), []⟩,
    ⟨none, .val 6 .mov [.k (.p (.int .i64 0))], []⟩]
def r26_0 : IC := (.reg o26_0 [1, 2, 3])
def o26_1 : List IOp := [⟨none, .load 10 (.t 3) 2 true, []⟩,
    ⟨none, .val 11 .mov [.t 1], []⟩,
    ⟨none, .val 12 .mov [.t 2], []⟩,
    ⟨none, .call (some 13) 18 [.t 10, .t 11, .t 12], []⟩,
    ⟨none, .val 9 .mov [.t 13], []⟩,
    ⟨none, .val 14 (.ext 0) [.t 9], []⟩,
    ⟨none, .val 15 (.ext 1) [.t 9], []⟩,
    ⟨none, .val 7 .mov [.t 14], []⟩,
    ⟨none, .val 8 .mov [.t 15], []⟩]
def r26_1 : IC := (.reg o26_1 [7, 8])
def o26_2 : List IOp := [⟨none, .val 16 .mov [.t 8], []⟩,
    ⟨none, .val 17 (.bin .neq) [.t 16, .k (.p (.int .i64 0))], []⟩]
def r26_2 : IC := (.reg o26_2 [7, 17])
def o26_3 : List IOp := [⟨none, .val 6 .mov [.k (.p (.int .i64 (-1)))], []⟩]
def r26_3 : IC := (.reg o26_3 [6])
def o26_4 : List IOp := [⟨none, .val 18 .mov [.t 7], []⟩,
    ⟨none, .val 6 .mov [.t 18], []⟩]
def r26_4 : IC := (.reg o26_4 [6])
def b26 : IC := (.seq r26_0 (.seq r26_1 (.seq (.seq r26_2 (.cond (.t 17) (.seq r26_3 .ret) .skip)) (.kp [7] (.seq r26_4 .ret)))))
def i26 : IFn := ⟨3, 19, b26, [.tmp 6]⟩
/- isochronlaw27.fits -/
def o27_0 : List IOp := [⟨none, .boxL 4 (.t 0), []⟩,
    ⟨none, .val 8 .mov [.k (.p (.bool false))], []⟩]
def r27_0 : IC := (.reg o27_0 [1, 2, 3, 4])
def o27_1 : List IOp := [⟨none, .load 12 (.t 4) 2 true, []⟩,
    ⟨none, .val 13 .mov [.t 1], []⟩,
    ⟨none, .val 14 .mov [.t 2], []⟩,
    ⟨none, .val 15 .mov [.t 3], []⟩,
    ⟨none, .call (some 16) 20 [.t 12, .t 13, .t 14, .t 15], []⟩,
    ⟨none, .val 11 .mov [.t 16], []⟩,
    ⟨none, .val 17 (.ext 0) [.t 11], []⟩,
    ⟨none, .val 18 (.ext 1) [.t 11], []⟩,
    ⟨none, .val 9 .mov [.t 17], []⟩,
    ⟨none, .val 10 .mov [.t 18], []⟩]
def r27_1 : IC := (.reg o27_1 [9, 10])
def o27_2 : List IOp := [⟨none, .val 19 .mov [.t 9], []⟩,
    ⟨none, .val 20 .mov [.t 19], []⟩,
    ⟨(some (20, true)), .val 21 .mov [.t 10], []⟩,
    ⟨(some (20, true)), .val 22 (.bin .eql) [.t 21, .k (.p (.int .i64 0))], []⟩,
    ⟨none, .val 23 .pick [.t 20, .t 22, .k (.p (.bool false))], []⟩,
    ⟨none, .val 8 .mov [.t 23], []⟩]
def r27_2 : IC := (.reg o27_2 [8])
def b27 : IC := (.seq r27_0 (.seq r27_1 (.seq r27_2 .ret)))
def i27 : IFn := ⟨4, 24, b27, [.tmp 8]⟩
/- isochronlaw27.list -/
def o28_0 : List IOp := [⟨none, .newL 2 [.p (.sl 2 true []), .p (.int .i64 0)], []⟩]
def r28_0 : IC := (.reg o28_0 [0, 2])
def o28_1 : List IOp := [⟨none, .newL 3 [.p (.sl 2 true []), .p (.int .i64 0)], []⟩]
def r28_1 : IC := (.reg o28_1 [0, 2, 3])
def o28_2 : List IOp := [⟨none, .val 4 .mov [.k (.p (.int .i64 0))], []⟩]
def r28_2 : IC := (.reg o28_2 [0, 2, 3, 4])
def o28_3 : List IOp := [⟨none, .val 5 .mov [.t 4], []⟩,
    ⟨none, .val 6 (.bin .add) [.t 5, .k (.p (.int .i64 1))], []⟩,
    ⟨none, .val 7 .mov [.t 0], []⟩,
    ⟨none, .val 8 .len [.t 7], []⟩,
    ⟨none, .val 9 (.bin .lss) [.t 6, .t 8], []⟩]
def r28_3 : IC := (.reg o28_3 [0, 2, 3, 4, 9])
def o28_5 : List IOp := [⟨none, .val 12 (.faddr 0) [.t 3], []⟩,
    ⟨none, .loadL 13 (.t 12) 1 false, [0]⟩,
    ⟨none, .val 14 .mov [.t 0], []⟩,
    ⟨none, .val 15 .mov [.t 4], []⟩,
    ⟨none, .val 16 (.iaddrS 1) [.t 14, .t 15], [2, 3]⟩,
    ⟨none, .load 17 (.t 16) 1 false, [2, 3, 4]⟩,
    ⟨none, .val 18 .mov [.t 0], []⟩,
    ⟨none, .val 19 .mov [.t 4], []⟩,
    ⟨none, .val 20 (.bin .add) [.t 19, .k (.p (.int .i64 1))], [7]⟩,
    ⟨none, .val 21 (.iaddrS 1) [.t 18, .t 20], [6, 7, 8]⟩,
    ⟨none, .load 22 (.t 21) 1 false, [6, 7, 8, 9]⟩,
    ⟨none, .val 23 (.build [.p (.int .i64 0), .p (.int .i64 0)] [(0, 1), (1, 1)]) [.t 17, .t 22], [2, 3, 4, 5, 6, 7, 8, 9, 10]⟩,
    ⟨none, .litP 24 2 [.t 23], [2, 3, 4, 5, 6, 7, 8, 9, 10, 11]⟩,
    ⟨none, .app 25 (.t 13) (.t 24) 2 16, [0, 1, 2, 3, 4, 5, 6, 7, 8, 9, 10, 11, 12]⟩,
    ⟨none, .val 26 (.faddr 0) [.t 3], [0, 1, 2, 3, 4, 5, 6, 7, 8, 9, 10, 11, 12, 13]⟩,
    ⟨none, .store (.t 26) (.t 25) 1, [0, 1, 2, 3, 4, 5, 6, 7, 8, 9, 10, 11, 12, 13, 14]⟩]
def r28_5 : IC := (.regD o28_5 [0, 2, 3, 4])
def o28_6 : List IOp := [⟨none, .val 27 (.faddr 1) [.t 3], []⟩,
    ⟨none, .loadL 28 (.t 27) 1 false, [0]⟩,
    ⟨none, .val 29 .mov [.t 0], []⟩,
    ⟨none, .val 30 .mov [.t 4], []⟩,
    ⟨none, .val 31 (.bin .add) [.t 30, .k (.p (.int .i64 1))], [3]⟩,
    ⟨none, .val 32 (.iaddrS 1) [.t 29, .t 31], [2, 3, 4]⟩,
    ⟨none, .load 33 (.t 32) 1 false, [2, 3, 4, 5]⟩,
    ⟨none, .val 34 (.bin .add) [.t 28, .t 33], [0, 1, 2, 3, 4, 5, 6]⟩,
    ⟨none, .val 35 (.faddr 1) [.t 3], [0, 1, 2, 3, 4, 5, 6, 7]⟩,
    ⟨none, .store (.t 35) (.t 34) 1, [0, 1, 2, 3, 4, 5, 6, 7, 8]⟩]
def r28_6 : IC := (.regD o28_6 [0, 2, 3, 4])
def o28_4 : List IOp := [⟨none, .val 10 .mov [.t 4], []⟩,
    ⟨none, .val 11 (.bin .add) [.t 10, .k (.p (.int .i64 2))], []⟩,
    ⟨none, .val 4 .mov [.t 11], []⟩]
def r28_4 : IC := (.reg o28_4 [0, 2, 3, 4])
def l28_1 : IC := (.seq (.seq r28_3 (.cond (.t 9) .skip (.exit 0))) (.kp [0, 2, 3, 4] (.seq (.block 1 (.seq r28_5 r28_6)) r28_4)))
def o28_7 : List IOp := [⟨none, .load 36 (.t 3) 2 true, []⟩,
    ⟨none, .store (.t 2) (.t 36) 2, []⟩]
def r28_7 : IC := (.reg o28_7 [2])
def b28 : IC := (.seq r28_0 (.seq r28_1 (.seq (.seq r28_2 (.block 0 (.loop l28_1))) (.seq r28_7 .ret))))
def i28 : IFn := ⟨1, 37, b28, [.cell 2 2 true]⟩
/- isochronlaw27.fit -/
def o29_0 : List IOp := [⟨none, .boxL 4 (.t 0), []⟩,
    ⟨none, .val 8 .mov [.k (.p (.int .i64 0))], []⟩]
def r29_0 : IC := (.reg o29_0 [1, 2, 3, 4])
def o29_1 : List IOp := [⟨none, .load 12 (.t 4) 2 true, []⟩,
    ⟨none, .val 13 .mov [.t 1], []⟩,
    ⟨none, .val 14 .mov [.t 2], []⟩,
    ⟨none, .val 15 .mov [.t 3], []⟩,
    ⟨none, .call (some 16) 22 [.t 12, .t 13, .t 14, .t 15], []⟩,
    ⟨none, .val 11 .mov [.t 16], []⟩,
    ⟨none, .val 17 (.ext 0) [.t 11], []⟩,
    ⟨none, .val 18 (.ext 1) [.t 11], []⟩,
    ⟨none, .val 9 .mov [.t 17], []⟩,
    ⟨none, .val 10 .mov [.t 18], []⟩]
def r29_1 : IC := (.reg o29_1 [9, 10])
def o29_2 : List IOp := [⟨none, .val 19 .mov [.t 10], []⟩,
    ⟨none, .val 20 (.bin .neq) [.t 19, .k (.p (.int .i64 0))], []⟩]
def r29_2 : IC := (.reg o29_2 [9, 20])
def o29_3 : List IOp := [⟨none, .val 8 .mov [.k (.p (.int .i64 (-1)))], []⟩]
def r29_3 : IC := (.reg o29_3 [8])
def o29_4 : List IOp := [⟨none, .val 21 .mov [.t 9], []⟩,
    ⟨none, .val 8 .mov [.t 21], []⟩]
def r29_4 : IC := (.reg o29_4 [8])
def b29 : IC := (.seq r29_0 (.seq r29_1 (.seq (.seq r29_2 (.cond (.t 20) (.seq r29_3 .ret) .skip)) (.kp [9] (.seq r29_4 .ret)))))
def i29 : IFn := ⟨4, 22, b29, [.tmp 8]⟩
/- gates.check -/
def o30_0 : List IOp := [⟨none, .boxL 4 (.t 0), []⟩,
    ⟨none, .val 8 .mov [.k (.p (.int .i64 0))], []⟩]
def r30_0 : IC := (.reg o30_0 [1, 2, 3, 4])
def o30_1 : List IOp := [⟨none, .load 10 (.t 4) 2 true, []⟩,
    ⟨none, .call (some 11) 15 [.t 10], []⟩,
    ⟨none, .val 9 .mov [.t 11], []⟩]
def r30_1 : IC := (.reg o30_1 [1, 2, 3, 9])
def o30_2 : List IOp := [⟨none, .val 12 .mov [.t 9], []⟩,
    ⟨none, .val 13 (.bin .neq) [.t 12, .k (.p (.int .i64 0))], []⟩]
def r30_2 : IC := (.reg o30_2 [1, 2, 3, 9, 13])
def o30_3 : List IOp := [⟨none, .val 14 .mov [.t 9], []⟩,
    ⟨none, .val 8 .mov [.t 14], []⟩]
def r30_3 : IC := (.reg o30_3 [8])
def o30_4 : List IOp := [⟨none, .val 15 .mov [.t 1], []⟩,
    ⟨none, .val 16 (.bin .lss) [.t 15, .k (.p (.int .i64 0))], []⟩,
    ⟨none, .val 17 .mov [.t 16], []⟩,
    ⟨(some (17, false)), .val 18 .mov [.t 1], []⟩,
    ⟨(some (17, false)), .val 19 (.bin .geq) [.t 18, .k (.p (.int .i64 8))], []⟩,
    ⟨none, .val 20 .pick [.t 17, .k (.p (.bool true)), .t 19], []⟩,
    ⟨none, .val 21 .mov [.t 20], []⟩,
    ⟨(some (21, false)), .val 22 .mov [.t 2], []⟩,
    ⟨(some (21, false)), .val 23 (.bin .lss) [.t 22, .k (.p (.int .i64 (-1099511627776)))], []⟩,
    ⟨none, .val 24 .pick [.t 21, .k (.p (.bool true)), .t 23], []⟩,
    ⟨none, .val 25 .mov [.t 24], []⟩,
    ⟨(some (25, false)), .val 26 .mov [.t 2], []⟩,
    ⟨(some (25, false)), .val 27 (.bin .gtr) [.t 26, .k (.p (.int .i64 1099511627776))], []⟩,
    ⟨none, .val 28 .pick [.t 25, .k (.p (.bool true)), .t 27], []⟩,
    ⟨none, .val 29 .mov [.t 28], []⟩,
    ⟨(some (29, false)), .val 30 .mov [.t 3], []⟩,
    ⟨(some (29, false)), .val 31 (.bin .lss) [.t 30, .k (.p (.int .i64 0))], []⟩,
    ⟨none, .val 32 .pick [.t 29, .k (.p (.bool true)), .t 31], []⟩,
    ⟨none, .val 33 .mov [.t 32], []⟩,
    ⟨(some (33, false)), .val 34 .mov [.t 3], []⟩,
    ⟨(some (33, false)), .val 35 (.bin .gtr) [.t 34, .k (.p (.int .i64 1099511627776))], []⟩,
    ⟨none, .val 36 .pick [.t 33, .k (.p (.bool true)), .t 35], []⟩]
def r30_4 : IC := (.reg o30_4 [36])
def o30_5 : List IOp := [⟨none, .val 8 .mov [.k (.p (.int .i64 2))], []⟩]
def r30_5 : IC := (.reg o30_5 [8])
def o30_6 : List IOp := [⟨none, .val 8 .mov [.k (.p (.int .i64 0))], []⟩]
def r30_6 : IC := (.reg o30_6 [8])
def b30 : IC := (.seq r30_0 (.seq (.seq r30_1 (.seq r30_2 (.cond (.t 13) (.seq r30_3 .ret) .skip))) (.kp [1, 2, 3] (.seq (.seq r30_4 (.cond (.t 36) (.seq r30_5 .ret) .skip)) (.kp [] (.seq r30_6 .ret))))))
def i30 : IFn := ⟨4, 37, b30, [.tmp 8]⟩
/- gates.find -/
def o31_0 : List IOp := [⟨none, .boxL 2 (.t 0), []⟩,
    ⟨none, .val 4 .mov [.k (.p (.int .i64 0))], []⟩,
    ⟨none, .val 5 .mov [.k (.p (.int .i64 0))], []⟩]
def r31_0 : IC := (.reg o31_0 [1, 2, 4])
def o31_1 : List IOp := [⟨none, .val 6 .mov [.t 1], []⟩,
    ⟨none, .val 7 (.faddr 1) [.t 2], []⟩,
    ⟨none, .loadL 8 (.t 7) 1 false, [1]⟩,
    ⟨none, .val 9 (.bin .rem) [.t 6, .t 8], [0, 1, 2]⟩,
    ⟨none, .val 10 (.faddr 1) [.t 2], []⟩,
    ⟨none, .loadL 11 (.t 10) 1 false, [4]⟩,
    ⟨none, .val 12 (.bin .add) [.t 9, .t 11], [0, 1, 2, 3, 4, 5]⟩,
    ⟨none, .val 13 (.faddr 1) [.t 2], []⟩,
    ⟨none, .loadL 14 (.t 13) 1 false, [7]⟩,
    ⟨none, .val 15 (.bin .rem) [.t 12, .t 14], [0, 1, 2, 3, 4, 5, 6, 7, 8]⟩,
    ⟨none, .val 1 .mov [.t 15], [0, 1, 2, 3, 4, 5, 6, 7, 8, 9]⟩]
def r31_1 : IC := (.regD o31_1 [1, 2, 4])
def o31_2 : List IOp := [⟨none, .val 16 .mov [.t 1], []⟩,
    ⟨none, .val 17 (.faddr 0) [.t 2], []⟩,
    ⟨none, .load 18 (.t 17) 1 false, []⟩,
    ⟨none, .val 19 .mov [.t 4], []⟩,
    ⟨none, .val 20 (.iaddrS 2) [.t 18, .t 19], []⟩,
    ⟨none, .val 21 (.faddr 1) [.t 20], []⟩,
    ⟨none, .load 22 (.t 21) 1 false, []⟩,
    ⟨none, .val 23 (.bin .geq) [.t 16, .t 22], []⟩]
def r31_2 : IC := (.reg o31_2 [1, 2, 4, 23])
def o31_3 : List IOp := [⟨none, .val 24 .mov [.t 1], []⟩,
    ⟨none, .val 25 (.faddr 0) [.t 2], []⟩,
    ⟨none, .load 26 (.t 25) 1 false, []⟩,
    ⟨none, .val 27 .mov [.t 4], []⟩,
    ⟨none, .val 28 (.iaddrS 2) [.t 26, .t 27], []⟩,
    ⟨none, .val 29 (.faddr 1) [.t 28], []⟩,
    ⟨none, .load 30 (.t 29) 1 false, []⟩,
    ⟨none, .val 31 (.bin .sub) [.t 24, .t 30], []⟩,
    ⟨none, .val 1 .mov [.t 31], []⟩]
def r31_3 : IC := (.reg o31_3 [1, 2, 4])
def o31_4 : List IOp := [⟨none, .val 32 .mov [.t 4], []⟩,
    ⟨none, .val 33 (.bin .add) [.t 32, .k (.p (.int .i64 1))], []⟩,
    ⟨none, .val 4 .mov [.t 33], []⟩]
def r31_4 : IC := (.reg o31_4 [1, 2, 4])
def o31_5 : List IOp := [⟨none, .val 34 .mov [.t 4], []⟩,
    ⟨none, .val 35 (.faddr 0) [.t 2], []⟩,
    ⟨none, .loadL 36 (.t 35) 1 false, [1]⟩,
    ⟨none, .val 37 .mov [.t 4], []⟩,
    ⟨none, .val 38 (.iaddrS 2) [.t 36, .t 37], [1, 2, 3]⟩,
    ⟨none, .val 39 (.faddr 1) [.t 38], [1, 2, 3, 4]⟩,
    ⟨none, .load 40 (.t 39) 1 false, [1, 2, 3, 4, 5]⟩,
    ⟨none, .val 41 .mov [.t 1], []⟩,
    ⟨none, .val 42 (.bin .sub) [.t 40, .t 41], [1, 2, 3, 4, 5, 6, 7]⟩,
    ⟨none, .val 4 .mov [.t 34], [0, 3]⟩,
    ⟨none, .val 5 .mov [.t 42], [0, 1, 2, 3, 4, 5, 6, 7, 8, 9]⟩]
def r31_5 : IC := (.regD o31_5 [4, 5])
def s31 : IC := (.seq r31_1 (.seq (.label 0) (.seq (.seq r31_2 (.cond (.t 23) (.seq r31_3 (.seq r31_4 (.goto 0))) .skip)) (.kp [1, 2, 4] (.seq r31_5 .ret)))))
def b31 : IC := (.seq r31_0 (.scope s31))
def i31 : IFn := ⟨2, 43, b31, [.tmp 4, .tmp 5]⟩
/- isochronref27.times -/
def o32_0 : List IOp := [⟨none, .boxL 4 (.t 0), []⟩,
    ⟨none, .val 8 .mov [.k (.p (.int .i64 0))], []⟩]
def r32_0 : IC := (.reg o32_0 [1, 2, 3, 4])
def o32_1 : List IOp := [⟨none, .load 9 (.t 4) 2 true, []⟩,
    ⟨none, .call (some 10) 37 [.t 9], []⟩,
    ⟨none, .val 11 .not [.t 10], []⟩]
def r32_1 : IC := (.reg o32_1 [1, 2, 3, 11])
def o32_2 : List IOp := [⟨none, .val 8 .mov [.k (.p (.int .i64 370))], []⟩]
def r32_2 : IC := (.reg o32_2 [8])
def o32_3 : List IOp := [⟨none, .val 12 .mov [.t 1], []⟩,
    ⟨none, .val 13 (.bin .lss) [.t 12, .k (.p (.int .i64 0))], []⟩,
    ⟨none, .val 14 .mov [.t 13], []⟩,
    ⟨(some (14, false)), .val 15 .mov [.t 1], []⟩,
    ⟨(some (14, false)), .val 16 (.bin .gtr) [.t 15, .k (.p (.int .i64 7))], []⟩,
    ⟨none, .val 17 .pick [.t 14, .k (.p (.bool true)), .t 16], []⟩,
    ⟨none, .val 18 .mov [.t 17], []⟩,
    ⟨(some (18, false)), .val 19 .mov [.t 2], []⟩,
    ⟨(some (18, false)), .val 20 (.bin .lss) [.t 19, .k (.p (.int .i64 (-1099511627776)))], []⟩,
    ⟨none, .val 21 .pick [.t 18, .k (.p (.bool true)), .t 20], []⟩,
    ⟨none, .val 22 .mov [.t 21], []⟩,
    ⟨(some (22, false)), .val 23 .mov [.t 2], []⟩,
    ⟨(some (22, false)), .val 24 (.bin .gtr) [.t 23, .k (.p (.int .i64 1099511627776))], []⟩,
    ⟨none, .val 25 .pick [.t 22, .k (.p (.bool true)), .t 24], []⟩,
    ⟨none, .val 26 .mov [.t 25], []⟩,
    ⟨(some (26, false)), .val 27 .mov [.t 3], []⟩,
    ⟨(some (26, false)), .val 28 (.bin .lss) [.t 27, .k (.p (.int .i64 0))], []⟩,
    ⟨none, .val 29 .pick [.t 26, .k (.p (.bool true)), .t 28], []⟩,
    ⟨none, .val 30 .mov [.t 29], []⟩,
    ⟨(some (30, false)), .val 31 .mov [.t 3], []⟩,
    ⟨(some (30, false)), .val 32 (.bin .gtr) [.t 31, .k (.p (.int .i64 1099511627776))], []⟩,
    ⟨none, .val 33 .pick [.t 30, .k (.p (.bool true)), .t 32], []⟩]
def r32_3 : IC := (.reg o32_3 [33])
def o32_4 : List IOp := [⟨none, .val 8 .mov [.k (.p (.int .i64 2))], []⟩]
def r32_4 : IC := (.reg o32_4 [8])
def o32_5 : List IOp := [⟨none, .val 8 .mov [.k (.p (.int .i64 0))], []⟩]
def r32_5 : IC := (.reg o32_5 [8])
def b32 : IC := (.seq r32_0 (.seq (.seq r32_1 (.cond (.t 11) (.seq r32_2 .ret) .skip)) (.kp [1, 2, 3] (.seq (.seq r32_3 (.cond (.t 33) (.seq r32_4 .ret) .skip)) (.kp [] (.seq r32_5 .ret))))))
def i32 : IFn := ⟨4, 34, b32, [.tmp 8]⟩
/- isochronref27.State -/
def o33_0 : List IOp := [⟨none, .boxL 2 (.t 0), []⟩,
    ⟨none, .val 4 .mov [.k (.p (.int .i64 0))], []⟩]
def r33_0 : IC := (.reg o33_0 [1, 2])
def o33_1 : List IOp := [⟨none, .load 8 (.t 2) 2 true, []⟩,
    ⟨none, .val 9 .mov [.t 1], []⟩,
    ⟨none, .call (some 10) 36 [.t 8, .t 9], []⟩,
    ⟨none, .val 7 .mov [.t 10], []⟩,
    ⟨none, .val 11 (.ext 0) [.t 7], []⟩,
    ⟨none, .val 12 (.ext 1) [.t 7], []⟩,
    ⟨none, .val 5 .mov [.t 11], []⟩,
    ⟨none, .val 6 .mov [.t 12], []⟩]
def r33_1 : IC := (.reg o33_1 [2, 5])
def o33_2 : List IOp := [⟨none, .val 13 (.faddr 0) [.t 2], []⟩,
    ⟨none, .load 14 (.t 13) 1 false, []⟩,
    ⟨none, .val 15 .mov [.t 5], []⟩,
    ⟨none, .val 16 (.iaddrS 2) [.t 14, .t 15], []⟩,
    ⟨none, .val 17 (.faddr 0) [.t 16], []⟩,
    ⟨none, .load 18 (.t 17) 1 false, []⟩,
    ⟨none, .val 4 .mov [.t 18], []⟩]
def r33_2 : IC := (.reg o33_2 [4])
def b33 : IC := (.seq r33_0 (.seq r33_1 (.seq r33_2 .ret)))
def i33 : IFn := ⟨2, 19, b33, [.tmp 4]⟩
/- gates.stretch -/
def o34_0 : List IOp := [⟨none, .boxL 3 (.t 0), []⟩,
    ⟨none, .val 6 .mov [.k (.p (.int .i64 0))], []⟩]
def r34_0 : IC := (.reg o34_0 [1, 2, 3])
def o34_1 : List IOp := [⟨none, .load 11 (.t 3) 2 true, []⟩,
    ⟨none, .val 12 .mov [.t 1], []⟩,
    ⟨none, .call (some 13) 31 [.t 11, .t 12], []⟩,
    ⟨none, .val 10 .mov [.t 13], []⟩,
    ⟨none, .val 14 (.ext 0) [.t 10], []⟩,
    ⟨none, .val 15 (.ext 1) [.t 10], []⟩,
    ⟨none, .val 7 .mov [.t 14], []⟩,
    ⟨none, .val 8 .mov [.t 15], []⟩]
def r34_1 : IC := (.reg o34_1 [2, 3, 7, 8])
def o34_2 : List IOp := [⟨none, .val 9 .mov [.k (.p (.int .i64 0))], []⟩]
def r34_2 : IC := (.reg o34_2 [2, 3, 7, 8, 9])
def o34_3 : List IOp := [⟨none, .val 16 (.faddr 0) [.t 3], []⟩,
    ⟨none, .load 17 (.t 16) 1 false, []⟩,
    ⟨none, .val 18 .len [.t 17], []⟩,
    ⟨none, .val 19 (.bin .add) [.t 18, .k (.p (.int .i64 1))], []⟩,
    ⟨none, .val 20 .mov [.k (.p (.int .i64 0))], []⟩]
def r34_3 : IC := (.reg o34_3 [2, 3, 7, 8, 9, 19, 20])
def o34_4 : List IOp := [⟨none, .val 21 (.bin .lss) [.t 20, .t 19], []⟩]
def r34_4 : IC := (.reg o34_4 [2, 3, 7, 8, 9, 19, 20, 21])
def o34_5 : List IOp := [⟨none, .val 22 .mov [.t 2], []⟩,
    ⟨none, .val 23 (.faddr 0) [.t 3], []⟩,
    ⟨none, .load 24 (.t 23) 1 false, []⟩,
    ⟨none, .val 25 .mov [.t 7], []⟩,
    ⟨none, .val 26 (.iaddrS 2) [.t 24, .t 25], []⟩,
    ⟨none, .val 27 (.faddr 0) [.t 26], []⟩,
    ⟨none, .load 28 (.t 27) 1 false, []⟩,
    ⟨none, .callV (some 29) (.t 22) [.t 28], []⟩,
    ⟨none, .val 30 .not [.t 29], []⟩]
def r34_5 : IC := (.reg o34_5 [2, 3, 7, 8, 9, 19, 20, 30])
def o34_6 : List IOp := [⟨none, .val 31 .mov [.t 9], []⟩,
    ⟨none, .val 6 .mov [.t 31], []⟩]
def r34_6 : IC := (.reg o34_6 [6])
def o34_7 : List IOp := [⟨none, .val 32 .mov [.t 9], []⟩,
    ⟨none, .val 33 .mov [.t 8], []⟩,
    ⟨none, .val 34 (.bin .add) [.t 32, .t 33], []⟩,
    ⟨none, .val 9 .mov [.t 34], []⟩]
def r34_7 : IC := (.reg o34_7 [2, 3, 7, 9, 19, 20])
def o34_8 : List IOp := [⟨none, .val 35 .mov [.t 7], []⟩,
    ⟨none, .val 36 (.bin .add) [.t 35, .k (.p (.int .i64 1))], []⟩,
    ⟨none, .val 37 (.faddr 0) [.t 3], []⟩,
    ⟨none, .load 38 (.t 37) 1 false, []⟩,
    ⟨none, .val 39 .len [.t 38], []⟩,
    ⟨none, .val 40 (.bin .rem) [.t 36, .t 39], []⟩,
    ⟨none, .val 7 .mov [.t 40], []⟩]
def r34_8 : IC := (.reg o34_8 [2, 3, 7, 9, 19, 20])
def o34_9 : List IOp := [⟨none, .val 41 (.faddr 0) [.t 3], []⟩,
    ⟨none, .load 42 (.t 41) 1 false, []⟩,
    ⟨none, .val 43 .mov [.t 7], []⟩,
    ⟨none, .val 44 (.iaddrS 2) [.t 42, .t 43], []⟩,
    ⟨none, .val 45 (.faddr 1) [.t 44], []⟩,
    ⟨none, .load 46 (.t 45) 1 false, []⟩,
    ⟨none, .val 8 .mov [.t 46], []⟩]
def r34_9 : IC := (.reg o34_9 [2, 3, 7, 8, 9, 19, 20])
def o34_10 : List IOp := [⟨none, .val 47 (.bin .add) [.t 20, .k (.p (.int .i64 1))], []⟩,
    ⟨none, .val 20 .mov [.t 47], []⟩]
def r34_10 : IC := (.reg o34_10 [2, 3, 7, 8, 9, 19, 20])
def l34_1 : IC := (.seq r34_4 (.seq (.cond (.t 21) .skip (.exit 0)) (.kp [2, 3, 7, 8, 9, 19, 20] (.seq (.block 1 (.seq (.seq r34_5 (.cond (.t 30) (.seq r34_6 .ret) .skip)) (.kp [2, 3, 7, 8, 9, 19, 20] (.seq r34_7 (.seq r34_8 r34_9))))) (.kp [2, 3, 7, 8, 9, 19, 20] r34_10)))))
def o34_11 : List IOp := [⟨none, .val 48 (.faddr 1) [.t 3], []⟩,
    ⟨none, .load 49 (.t 48) 1 false, []⟩,
    ⟨none, .val 6 .mov [.t 49], []⟩]
def r34_11 : IC := (.reg o34_11 [6])
def b34 : IC := (.seq r34_0 (.seq r34_1 (.seq r34_2 (.seq (.seq r34_3 (.block 0 (.loop l34_1))) (.seq r34_11 .ret)))))
def i34 : IFn := ⟨3, 50, b34, [.tmp 6]⟩
/- gates.Turn$1 -/
def o35_0 : List IOp := [⟨none, .val 3 .mov [.k (.p (.bool false))], []⟩]
def r35_0 : IC := (.reg o35_0 [0, 1])
def o35_1 : List IOp := [⟨none, .val 4 .mov [.t 0], []⟩,
    ⟨none, .load 5 (.t 1) 1 false, []⟩,
    ⟨none, .val 6 (.bin .eql) [.t 4, .t 5], []⟩,
    ⟨none, .val 3 .mov [.t 6], []⟩]
def r35_1 : IC := (.reg o35_1 [3])
def b35 : IC := (.seq r35_0 (.seq r35_1 .ret))
def i35 : IFn := ⟨2, 7, b35, [.tmp 3]⟩
/- isochronref27.At -/
def o36_0 : List IOp := [⟨none, .boxL 2 (.t 0), []⟩,
    ⟨none, .val 4 .mov [.k (.p (.int .i64 0))], []⟩,
    ⟨none, .val 5 .mov [.k (.p (.int .i64 0))], []⟩]
def r36_0 : IC := (.reg o36_0 [1, 2])
def o36_1 : List IOp := [⟨none, .val 8 .mov [.t 1], []⟩,
    ⟨none, .val 9 (.faddr 1) [.t 2], []⟩,
    ⟨none, .load 10 (.t 9) 1 false, []⟩,
    ⟨none, .val 11 (.bin .rem) [.t 8, .t 10], []⟩,
    ⟨none, .val 6 .mov [.t 11], []⟩]
def r36_1 : IC := (.reg o36_1 [2, 6])
def o36_2 : List IOp := [⟨none, .val 12 .mov [.t 6], []⟩,
    ⟨none, .val 13 (.bin .lss) [.t 12, .k (.p (.int .i64 0))], []⟩]
def r36_2 : IC := (.reg o36_2 [2, 6, 13])
def o36_3 : List IOp := [⟨none, .val 14 .mov [.t 6], []⟩,
    ⟨none, .val 15 (.faddr 1) [.t 2], []⟩,
    ⟨none, .load 16 (.t 15) 1 false, []⟩,
    ⟨none, .val 17 (.bin .add) [.t 14, .t 16], []⟩,
    ⟨none, .val 6 .mov [.t 17], []⟩]
def r36_3 : IC := (.reg o36_3 [2, 6])
def o36_4 : List IOp := [⟨none, .val 7 .mov [.k (.p (.int .i64 0))], []⟩]
def r36_4 : IC := (.reg o36_4 [2, 6, 7])
def o36_5 : List IOp := [⟨none, .val 18 .mov [.t 6], []⟩,
    ⟨none, .val 19 (.faddr 0) [.t 2], []⟩,
    ⟨none, .load 20 (.t 19) 1 false, []⟩,
    ⟨none, .val 21 .mov [.t 7], []⟩,
    ⟨none, .val 22 (.iaddrS 2) [.t 20, .t 21], []⟩,
    ⟨none, .val 23 (.faddr 1) [.t 22], []⟩,
    ⟨none, .load 24 (.t 23) 1 false, []⟩,
    ⟨none, .val 25 (.bin .geq) [.t 18, .t 24], []⟩]
def r36_5 : IC := (.reg o36_5 [2, 6, 7, 25])
def o36_6 : List IOp := [⟨none, .val 26 .mov [.t 6], []⟩,
    ⟨none, .val 27 (.faddr 0) [.t 2], []⟩,
    ⟨none, .load 28 (.t 27) 1 false, []⟩,
    ⟨none, .val 29 .mov [.t 7], []⟩,
    ⟨none, .val 30 (.iaddrS 2) [.t 28, .t 29], []⟩,
    ⟨none, .val 31 (.faddr 1) [.t 30], []⟩,
    ⟨none, .load 32 (.t 31) 1 false, []⟩,
    ⟨none, .val 33 (.bin .sub) [.t 26, .t 32], []⟩,
    ⟨none, .val 6 .mov [.t 33], []⟩]
def r36_6 : IC := (.reg o36_6 [2, 6, 7])
def o36_7 : List IOp := [⟨none, .val 34 .mov [.t 7], []⟩,
    ⟨none, .val 35 (.bin .add) [.t 34, .k (.p (.int .i64 1))], []⟩,
    ⟨none, .val 7 .mov [.t 35], []⟩]
def r36_7 : IC := (.reg o36_7 [2, 6, 7])
def l36_1 : IC := (.seq (.seq r36_5 (.cond (.t 25) .skip (.exit 0))) (.kp [2, 6, 7] (.block 1 (.seq r36_6 r36_7))))
def o36_8 : List IOp := [⟨none, .val 36 .mov [.t 7], []⟩,
    ⟨none, .val 37 .mov [.t 6], []⟩,
    ⟨none, .val 4 .mov [.t 36], []⟩,
    ⟨none, .val 5 .mov [.t 37], []⟩]
def r36_8 : IC := (.reg o36_8 [4, 5])
def b36 : IC := (.seq r36_0 (.seq r36_1 (.seq (.seq r36_2 (.cond (.t 13) r36_3 .skip)) (.kp [2, 6] (.seq r36_4 (.seq (.block 0 (.loop l36_1)) (.seq r36_8 .ret)))))))
def i36 : IFn := ⟨2, 38, b36, [.tmp 4, .tmp 5]⟩
/- isochronref27.Right -/
def o37_0 : List IOp := [⟨none, .boxL 1 (.t 0), []⟩,
    ⟨none, .val 2 .mov [.k (.p (.bool false))], []⟩]
def r37_0 : IC := (.reg o37_0 [1])
def o37_1 : List IOp := [⟨none, .val 6 (.faddr 0) [.t 1], []⟩,
    ⟨none, .load 7 (.t 6) 1 false, []⟩,
    ⟨none, .val 8 .len [.t 7], []⟩,
    ⟨none, .val 9 (.bin .lss) [.t 8, .k (.p (.int .i64 1))], []⟩,
    ⟨none, .val 10 .mov [.t 9], []⟩,
    ⟨(some (10, false)), .val 11 (.faddr 0) [.t 1], []⟩,
    ⟨(some (10, false)), .load 12 (.t 11) 1 false, []⟩,
    ⟨(some (10, false)), .val 13 .len [.t 12], []⟩,
    ⟨(some (10, false)), .val 14 (.bin .gtr) [.t 13, .k (.p (.int .i64 128))], []⟩,
    ⟨none, .val 15 .pick [.t 10, .k (.p (.bool true)), .t 14], []⟩]
def r37_1 : IC := (.reg o37_1 [1, 15])
def o37_2 : List IOp := [⟨none, .val 2 .mov [.k (.p (.bool false))], []⟩]
def r37_2 : IC := (.reg o37_2 [2])
def o37_3 : List IOp := [⟨none, .val 3 .mov [.k (.p (.int .i64 0))], []⟩]
def r37_3 : IC := (.reg o37_3 [1, 3])
def o37_4 : List IOp := [⟨none, .val 4 .mov [.k (.p (.int .i64 0))], []⟩]
def r37_4 : IC := (.reg o37_4 [1, 3, 4])
def o37_5 : List IOp := [⟨none, .val 16 .mov [.t 4], []⟩,
    ⟨none, .val 17 (.faddr 0) [.t 1], []⟩,
    ⟨none, .load 18 (.t 17) 1 false, []⟩,
    ⟨none, .val 19 .len [.t 18], []⟩,
    ⟨none, .val 20 (.bin .lss) [.t 16, .t 19], []⟩]
def r37_5 : IC := (.reg o37_5 [1, 3, 4, 20])
def o37_7 : List IOp := [⟨none, .val 23 (.faddr 0) [.t 1], []⟩,
    ⟨none, .load 24 (.t 23) 1 false, []⟩,
    ⟨none, .val 25 .mov [.t 4], []⟩,
    ⟨none, .val 26 (.iaddrS 2) [.t 24, .t 25], []⟩,
    ⟨none, .load 27 (.t 26) 2 true, []⟩,
    ⟨none, .newL 5 [.p (.int .i64 0), .p (.int .i64 0)], []⟩,
    ⟨none, .store (.t 5) (.t 27) 2, []⟩]
def r37_7 : IC := (.reg o37_7 [1, 3, 4, 5])
def o37_8 : List IOp := [⟨none, .val 28 (.faddr 0) [.t 5], []⟩,
    ⟨none, .load 29 (.t 28) 1 false, []⟩,
    ⟨none, .val 30 (.bin .lss) [.t 29, .k (.p (.int .i64 0))], []⟩,
    ⟨none, .val 31 .mov [.t 30], []⟩,
    ⟨(some (31, false)), .val 32 (.faddr 0) [.t 5], []⟩,
    ⟨(some (31, false)), .load 33 (.t 32) 1 false, []⟩,
    ⟨(some (31, false)), .val 34 (.bin .gtr) [.t 33, .k (.p (.int .i64 255))], []⟩,
    ⟨none, .val 35 .pick [.t 31, .k (.p (.bool true)), .t 34], []⟩,
    ⟨none, .val 36 .mov [.t 35], []⟩,
    ⟨(some (36, false)), .val 37 (.faddr 1) [.t 5], []⟩,
    ⟨(some (36, false)), .load 38 (.t 37) 1 false, []⟩,
    ⟨(some (36, false)), .val 39 (.bin .lss) [.t 38, .k (.p (.int .i64 1))], []⟩,
    ⟨none, .val 40 .pick [.t 36, .k (.p (.bool true)), .t 39], []⟩,
    ⟨none, .val 41 .mov [.t 40], []⟩,
    ⟨(some (41, false)), .val 42 (.faddr 1) [.t 5], []⟩,
    ⟨(some (41, false)), .load 43 (.t 42) 1 false, []⟩,
    ⟨(some (41, false)), .val 44 (.bin .gtr) [.t 43, .k (.p (.int .i64 9600000))], []⟩,
    ⟨none, .val 45 .pick [.t 41, .k (.p (.bool true)), .t 44], []⟩]
def r37_8 : IC := (.reg o37_8 [1, 3, 4, 5, 45])
def o37_9 : List IOp := [⟨none, .val 2 .mov [.k (.p (.bool false))], []⟩]
def r37_9 : IC := (.reg o37_9 [2])
def o37_10 : List IOp := [⟨none, .val 46 .mov [.t 3], []⟩,
    ⟨none, .val 47 (.faddr 1) [.t 5], []⟩,
    ⟨none, .load 48 (.t 47) 1 false, []⟩,
    ⟨none, .val 49 (.bin .add) [.t 46, .t 48], []⟩,
    ⟨none, .val 3 .mov [.t 49], []⟩]
def r37_10 : IC := (.reg o37_10 [1, 3, 4])
def o37_6 : List IOp := [⟨none, .val 21 .mov [.t 4], []⟩,
    ⟨none, .val 22 (.bin .add) [.t 21, .k (.p (.int .i64 1))], []⟩,
    ⟨none, .val 4 .mov [.t 22], []⟩]
def r37_6 : IC := (.reg o37_6 [1, 3, 4])
def l37_1 : IC := (.seq (.seq r37_5 (.cond (.t 20) .skip (.exit 0))) (.kp [1, 3, 4] (.seq (.block 1 (.seq r37_7 (.seq (.seq r37_8 (.cond (.t 45) (.seq r37_9 .ret) .skip)) (.kp [1, 3, 4, 5] r37_10)))) (.kp [1, 3, 4] r37_6))))
def o37_11 : List IOp := [⟨none, .val 50 .mov [.t 3], []⟩,
    ⟨none, .val 51 (.faddr 1) [.t 1], []⟩,
    ⟨none, .load 52 (.t 51) 1 false, []⟩,
    ⟨none, .val 53 (.bin .eql) [.t 50, .t 52], []⟩,
    ⟨none, .val 54 .mov [.t 53], []⟩,
    ⟨(some (54, true)), .val 55 .mov [.t 3], []⟩,
    ⟨(some (54, true)), .val 56 (.bin .leq) [.t 55, .k (.p (.int .i64 9600000))], []⟩,
    ⟨none, .val 57 .pick [.t 54, .t 56, .k (.p (.bool false))], []⟩,
    ⟨none, .val 2 .mov [.t 57], []⟩]
def r37_11 : IC := (.reg o37_11 [2])
def b37 : IC := (.seq r37_0 (.seq (.seq r37_1 (.cond (.t 15) (.seq r37_2 .ret) .skip)) (.kp [1] (.seq r37_3 (.seq (.seq r37_4 (.block 0 (.loop l37_1))) (.seq r37_11 .ret))))))
def i37 : IFn := ⟨1, 58, b37, [.tmp 2]⟩
/- gates.open -/
def o38_0 : List IOp := [⟨none, .boxL 3 (.t 0), []⟩,
    ⟨none, .boxH 4 (.t 1), []⟩,
    ⟨none, .val 6 .mov [.k (.p (.int .i64 0))], []⟩]
def r38_0 : IC := (.reg o38_0 [2, 3, 4])
def o38_1 : List IOp := [⟨none, .load 8 (.t 3) 2 true, []⟩,
    ⟨none, .val 9 .mov [.t 2], []⟩,
    ⟨none, .val 10 (.mkfn 42 0) [.t 4], []⟩,
    ⟨none, .call (some 11) 34 [.t 8, .t 9, .t 10], []⟩,
    ⟨none, .val 7 .mov [.t 11], []⟩]
def r38_1 : IC := (.reg o38_1 [3, 7])
def o38_2 : List IOp := [⟨none, .val 12 .mov [.t 7], []⟩,
    ⟨none, .val 13 (.faddr 1) [.t 3], []⟩,
    ⟨none, .load 14 (.t 13) 1 false, []⟩,
    ⟨none, .val 15 (.bin .eql) [.t 12, .t 14], []⟩]
def r38_2 : IC := (.reg o38_2 [7, 15])
def o38_3 : List IOp := [⟨none, .val 6 .mov [.k (.p (.int .i64 1099511627776))], []⟩]
def r38_3 : IC := (.reg o38_3 [6])
def o38_4 : List IOp := [⟨none, .val 16 .mov [.t 7], []⟩,
    ⟨none, .val 6 .mov [.t 16], []⟩]
def r38_4 : IC := (.reg o38_4 [6])
def b38 : IC := (.seq r38_0 (.seq r38_1 (.seq (.seq r38_2 (.cond (.t 15) (.seq r38_3 .ret) .skip)) (.kp [7] (.seq r38_4 .ret)))))
def i38 : IFn := ⟨3, 17, b38, [.tmp 6]⟩
/- isochronref27.Span -/
def o39_0 : List IOp := [⟨none, .boxL 3 (.t 0), []⟩,
    ⟨none, .val 6 .mov [.k (.p (.int .i64 0))], []⟩]
def r39_0 : IC := (.reg o39_0 [1, 2, 3])
def o39_1 : List IOp := [⟨none, .load 13 (.t 3) 2 true, []⟩,
    ⟨none, .val 14 .mov [.t 2], []⟩,
    ⟨none, .call (some 15) 36 [.t 13, .t 14], []⟩,
    ⟨none, .val 12 .mov [.t 15], []⟩,
    ⟨none, .val 16 (.ext 0) [.t 12], []⟩,
    ⟨none, .val 17 (.ext 1) [.t 12], []⟩,
    ⟨none, .val 7 .mov [.t 16], []⟩,
    ⟨none, .val 8 .mov [.t 17], []⟩]
def r39_1 : IC := (.reg o39_1 [1, 3, 7, 8])
def o39_2 : List IOp := [⟨none, .val 18 .mov [.t 8], []⟩,
    ⟨none, .val 19 .neg [.t 18], []⟩,
    ⟨none, .val 9 .mov [.t 19], []⟩]
def r39_2 : IC := (.reg o39_2 [1, 3, 7, 9])
def o39_3 : List IOp := [⟨none, .val 10 .mov [.k (.p (.int .i64 0))], []⟩]
def r39_3 : IC := (.reg o39_3 [1, 3, 7, 9, 10])
def o39_4 : List IOp := [⟨none, .val 20 .mov [.t 10], []⟩,
    ⟨none, .val 21 (.faddr 0) [.t 3], []⟩,
    ⟨none, .load 22 (.t 21) 1 false, []⟩,
    ⟨none, .val 23 .len [.t 22], []⟩,
    ⟨none, .val 24 (.bin .lss) [.t 20, .t 23], []⟩]
def r39_4 : IC := (.reg o39_4 [1, 3, 7, 9, 10, 24])
def o39_6 : List IOp := [⟨none, .val 27 (.faddr 0) [.t 3], []⟩,
    ⟨none, .loadL 28 (.t 27) 1 false, [0]⟩,
    ⟨none, .val 29 .mov [.t 7], []⟩,
    ⟨none, .val 30 .mov [.t 10], []⟩,
    ⟨none, .val 31 (.bin .add) [.t 29, .t 30], [2, 3]⟩,
    ⟨none, .val 32 (.faddr 0) [.t 3], []⟩,
    ⟨none, .loadL 33 (.t 32) 1 false, [5]⟩,
    ⟨none, .val 34 .len [.t 33], [5, 6]⟩,
    ⟨none, .val 35 (.bin .rem) [.t 31, .t 34], [2, 3, 4, 5, 6, 7]⟩,
    ⟨none, .val 36 (.iaddrS 2) [.t 28, .t 35], [0, 1, 2, 3, 4, 5, 6, 7, 8]⟩,
    ⟨none, .load 37 (.t 36) 2 true, [0, 1, 2, 3, 4, 5, 6, 7, 8, 9]⟩,
    ⟨none, .newL 11 [.p (.int .i64 0), .p (.int .i64 0)], []⟩,
    ⟨none, .store (.t 11) (.t 37) 2, [0, 1, 2, 3, 4, 5, 6, 7, 8, 9, 10, 11]⟩]
def r39_6 : IC := (.regD o39_6 [1, 3, 7, 9, 10, 11])
def o39_7 : List IOp := [⟨none, .val 38 (.faddr 0) [.t 11], []⟩,
    ⟨none, .load 39 (.t 38) 1 false, []⟩,
    ⟨none, .val 40 .mov [.t 1], []⟩,
    ⟨none, .call (some 41) 43 [.t 39, .t 40], []⟩,
    ⟨none, .val 42 .not [.t 41], []⟩]
def r39_7 : IC := (.reg o39_7 [1, 3, 7, 9, 10, 11, 42])
def o39_8 : List IOp := [⟨none, .val 43 .mov [.t 9], []⟩,
    ⟨none, .val 44 .max [.t 43, .k (.p (.int .i64 0))], []⟩,
    ⟨none, .val 6 .mov [.t 44], []⟩]
def r39_8 : IC := (.reg o39_8 [6])
def o39_9 : List IOp := [⟨none, .val 45 .mov [.t 9], []⟩,
    ⟨none, .val 46 (.faddr 1) [.t 11], []⟩,
    ⟨none, .load 47 (.t 46) 1 false, []⟩,
    ⟨none, .val 48 (.bin .add) [.t 45, .t 47], []⟩,
    ⟨none, .val 9 .mov [.t 48], []⟩]
def r39_9 : IC := (.reg o39_9 [1, 3, 7, 9, 10])
def o39_5 : List IOp := [⟨none, .val 25 .mov [.t 10], []⟩,
    ⟨none, .val 26 (.bin .add) [.t 25, .k (.p (.int .i64 1))], []⟩,
    ⟨none, .val 10 .mov [.t 26], []⟩]
def r39_5 : IC := (.reg o39_5 [1, 3, 7, 9, 10])
def l39_1 : IC := (.seq (.seq r39_4 (.cond (.t 24) .skip (.exit 0))) (.kp [1, 3, 7, 9, 10] (.seq (.block 1 (.seq r39_6 (.seq (.seq r39_7 (.cond (.t 42) (.seq r39_8 .ret) .skip)) (.kp [1, 3, 7, 9, 10, 11] r39_9)))) (.kp [1, 3, 7, 9, 10] r39_5))))
def o39_10 : List IOp := [⟨none, .val 6 .mov [.k (.p (.int .i64 1099511627776))], []⟩]
def r39_10 : IC := (.reg o39_10 [6])
def b39 : IC := (.seq r39_0 (.seq r39_1 (.seq r39_2 (.seq (.seq r39_3 (.block 0 (.loop l39_1))) (.seq r39_10 .ret)))))
def i39 : IFn := ⟨3, 49, b39, [.tmp 6]⟩
/- gates.Fit$1 -/
def o40_0 : List IOp := [⟨none, .val 3 .mov [.k (.p (.bool false))], []⟩]
def r40_0 : IC := (.reg o40_0 [0, 1])
def o40_1 : List IOp := [⟨none, .val 4 .mov [.t 0], []⟩,
    ⟨none, .load 5 (.t 1) 1 false, []⟩,
    ⟨none, .val 6 (.sh .shr) [.t 4, .t 5], []⟩,
    ⟨none, .val 7 (.bin .and) [.t 6, .k (.p (.int .i64 1))], []⟩,
    ⟨none, .val 8 (.bin .eql) [.t 7, .k (.p (.int .i64 0))], []⟩,
    ⟨none, .val 3 .mov [.t 8], []⟩]
def r40_1 : IC := (.reg o40_1 [3])
def b40 : IC := (.seq r40_0 (.seq r40_1 .ret))
def i40 : IFn := ⟨2, 9, b40, [.tmp 3]⟩
/- isochronref27.Earliest -/
def o41_0 : List IOp := [⟨none, .boxL 4 (.t 0), []⟩,
    ⟨none, .val 8 .mov [.k (.p (.int .i64 0))], []⟩,
    ⟨none, .val 9 .mov [.k (.p (.bool false))], []⟩]
def r41_0 : IC := (.reg o41_0 [1, 2, 3, 4])
def o41_1 : List IOp := [⟨none, .val 14 .mov [.t 3], []⟩,
    ⟨none, .val 15 (.bin .eql) [.t 14, .k (.p (.int .i64 0))], []⟩,
    ⟨none, .val 16 .mov [.t 15], []⟩,
    ⟨(some (16, false)), .load 17 (.t 4) 2 true, []⟩,
    ⟨(some (16, false)), .val 18 .mov [.t 1], []⟩,
    ⟨(some (16, false)), .val 19 .mov [.t 2], []⟩,
    ⟨(some (16, false)), .call (some 20) 39 [.t 17, .t 18, .t 19], []⟩,
    ⟨(some (16, false)), .val 21 .mov [.t 3], []⟩,
    ⟨(some (16, false)), .val 22 (.bin .geq) [.t 20, .t 21], []⟩,
    ⟨none, .val 23 .pick [.t 16, .k (.p (.bool true)), .t 22], []⟩]
def r41_1 : IC := (.reg o41_1 [1, 2, 3, 4, 23])
def o41_2 : List IOp := [⟨none, .val 24 .mov [.t 2], []⟩,
    ⟨none, .val 8 .mov [.t 24], []⟩,
    ⟨none, .val 9 .mov [.k (.p (.bool true))], []⟩]
def r41_2 : IC := (.reg o41_2 [8, 9])
def o41_3 : List IOp := [⟨none, .load 26 (.t 4) 2 true, []⟩,
    ⟨none, .val 27 .mov [.t 2], []⟩,
    ⟨none, .call (some 28) 36 [.t 26, .t 27], []⟩,
    ⟨none, .val 25 .mov [.t 28], []⟩,
    ⟨none, .val 29 (.ext 0) [.t 25], []⟩,
    ⟨none, .val 30 (.ext 1) [.t 25], []⟩,
    ⟨none, .val 10 .mov [.t 29], []⟩,
    ⟨none, .val 11 .mov [.t 30], []⟩]
def r41_3 : IC := (.reg o41_3 [1, 2, 3, 4, 10, 11])
def o41_4 : List IOp := [⟨none, .val 31 .mov [.t 2], []⟩,
    ⟨none, .val 32 .mov [.t 11], []⟩,
    ⟨none, .val 33 (.bin .sub) [.t 31, .t 32], []⟩,
    ⟨none, .val 12 .mov [.t 33], []⟩]
def r41_4 : IC := (.reg o41_4 [1, 3, 4, 10, 12])
def o41_5 : List IOp := [⟨none, .val 13 .mov [.k (.p (.int .i64 0))], []⟩]
def r41_5 : IC := (.reg o41_5 [1, 3, 4, 10, 12, 13])
def o41_6 : List IOp := [⟨none, .val 34 .mov [.t 13], []⟩,
    ⟨none, .val 35 (.faddr 0) [.t 4], []⟩,
    ⟨none, .load 36 (.t 35) 1 false, []⟩,
    ⟨none, .val 37 .len [.t 36], []⟩,
    ⟨none, .val 38 (.bin .lss) [.t 34, .t 37], []⟩]
def r41_6 : IC := (.reg o41_6 [1, 3, 4, 10, 12, 13, 38])
def o41_8 : List IOp := [⟨none, .val 41 .mov [.t 12], []⟩,
    ⟨none, .val 42 (.faddr 0) [.t 4], []⟩,
    ⟨none, .loadL 43 (.t 42) 1 false, [1]⟩,
    ⟨none, .val 44 .mov [.t 10], []⟩,
    ⟨none, .val 45 .mov [.t 13], []⟩,
    ⟨none, .val 46 (.bin .add) [.t 44, .t 45], [3, 4]⟩,
    ⟨none, .val 47 (.faddr 0) [.t 4], []⟩,
    ⟨none, .loadL 48 (.t 47) 1 false, [6]⟩,
    ⟨none, .val 49 .len [.t 48], [6, 7]⟩,
    ⟨none, .val 50 (.bin .rem) [.t 46, .t 49], [3, 4, 5, 6, 7, 8]⟩,
    ⟨none, .val 51 (.iaddrS 2) [.t 43, .t 50], [1, 2, 3, 4, 5, 6, 7, 8, 9]⟩,
    ⟨none, .val 52 (.faddr 1) [.t 51], [1, 2, 3, 4, 5, 6, 7, 8, 9, 10]⟩,
    ⟨none, .load 53 (.t 52) 1 false, [1, 2, 3, 4, 5, 6, 7, 8, 9, 10, 11]⟩,
    ⟨none, .val 54 (.bin .add) [.t 41, .t 53], [0, 1, 2, 3, 4, 5, 6, 7, 8, 9, 10, 11, 12]⟩,
    ⟨none, .val 12 .mov [.t 54], [0, 1, 2, 3, 4, 5, 6, 7, 8, 9, 10, 11, 12, 13]⟩]
def r41_8 : IC := (.regD o41_8 [1, 3, 4, 10, 12, 13])
def o41_9 : List IOp := [⟨none, .load 55 (.t 4) 2 true, []⟩,
    ⟨none, .val 56 .mov [.t 1], []⟩,
    ⟨none, .val 57 .mov [.t 12], []⟩,
    ⟨none, .call (some 58) 39 [.t 55, .t 56, .t 57], []⟩,
    ⟨none, .val 59 .mov [.t 3], []⟩,
    ⟨none, .val 60 (.bin .geq) [.t 58, .t 59], []⟩]
def r41_9 : IC := (.reg o41_9 [1, 3, 4, 10, 12, 13, 60])
def o41_10 : List IOp := [⟨none, .val 61 .mov [.t 12], []⟩,
    ⟨none, .val 8 .mov [.t 61], []⟩,
    ⟨none, .val 9 .mov [.k (.p (.bool true))], []⟩]
def r41_10 : IC := (.reg o41_10 [8, 9])
def o41_7 : List IOp := [⟨none, .val 39 .mov [.t 13], []⟩,
    ⟨none, .val 40 (.bin .add) [.t 39, .k (.p (.int .i64 1))], []⟩,
    ⟨none, .val 13 .mov [.t 40], []⟩]
def r41_7 : IC := (.reg o41_7 [1, 3, 4, 10, 12, 13])
def l41_1 : IC := (.seq (.seq r41_6 (.cond (.t 38) .skip (.exit 0))) (.kp [1, 3, 4, 10, 12, 13] (.seq (.block 1 (.seq r41_8 (.seq r41_9 (.cond (.t 60) (.seq r41_10 .ret) .skip)))) (.kp [1, 3, 4, 10, 12, 13] r41_7))))
def o41_11 : List IOp := [⟨none, .val 8 .mov [.k (.p (.int .i64 0))], []⟩,
    ⟨none, .val 9 .mov [.k (.p (.bool false))], []⟩]
def r41_11 : IC := (.reg o41_11 [8, 9])
def b41 : IC := (.seq r41_0 (.seq (.seq r41_1 (.cond (.t 23) (.seq r41_2 .ret) .skip)) (.kp [1, 2, 3, 4] (.seq r41_3 (.seq r41_4 (.seq (.seq r41_5 (.block 0 (.loop l41_1))) (.seq r41_11 .ret)))))))
def i41 : IFn := ⟨4, 62, b41, [.tmp 8, .tmp 9]⟩
/- gates.open$1 -/
def o42_0 : List IOp := [⟨none, .val 3 .mov [.k (.p (.bool false))], []⟩]
def r42_0 : IC := (.reg o42_0 [0, 1])
def o42_1 : List IOp := [⟨none, .val 4 .mov [.t 0], []⟩,
    ⟨none, .load 5 (.t 1) 1 false, []⟩,
    ⟨none, .val 6 (.sh .shr) [.t 4, .t 5], []⟩,
    ⟨none, .val 7 (.bin .and) [.t 6, .k (.p (.int .i64 1))], []⟩,
    ⟨none, .val 8 (.bin .eql) [.t 7, .k (.p (.int .i64 1))], []⟩,
    ⟨none, .val 3 .mov [.t 8], []⟩]
def r42_1 : IC := (.reg o42_1 [3])
def b42 : IC := (.seq r42_0 (.seq r42_1 .ret))
def i42 : IFn := ⟨2, 9, b42, [.tmp 3]⟩
/- isochronref27.Bit -/
def o43_0 : List IOp := [⟨none, .val 4 .mov [.k (.p (.bool false))], []⟩]
def r43_0 : IC := (.reg o43_0 [0, 1])
def o43_1 : List IOp := [⟨none, .val 5 .mov [.t 0], []⟩,
    ⟨none, .val 6 .mov [.t 1], []⟩,
    ⟨none, .val 7 (.conv .u64) [.t 6], []⟩,
    ⟨none, .val 8 (.sh .shr) [.t 5, .t 7], []⟩,
    ⟨none, .val 9 (.bin .rem) [.t 8, .k (.p (.int .i64 2))], []⟩,
    ⟨none, .val 10 (.bin .eql) [.t 9, .k (.p (.int .i64 1))], []⟩,
    ⟨none, .val 4 .mov [.t 10], []⟩]
def r43_1 : IC := (.reg o43_1 [4])
def b43 : IC := (.seq r43_0 (.seq r43_1 .ret))
def i43 : IFn := ⟨2, 11, b43, [.tmp 4]⟩
end Go.Eng
