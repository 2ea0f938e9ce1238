/- Part of the proof; written by a program out of the texts in wip/. -/
import Derived.Test.YtoboapnbbcedbaaRouteTreesE16
import Derived.Test.YtoboapnbbcedbaaProg
import Derived.KernelRfl
namespace Go.Eng
open Go Go.Proofs
set_option maxRecDepth 100000
set_option linter.unusedVariables false
set_option linter.unusedSimpArgs false
def o3_0 : List IOp := [⟨none, .boxL 3 (.t 0), [], none⟩,
    ⟨none, .val 6 .mov [.k (.p (.bool false))], [], none⟩]
def r3_0 : IC := (.reg o3_0 [1, 2, 3])
def o3_1 : List IOp := [⟨none, .call (some 21) 10 [], [], none⟩,
    ⟨none, .val 22 .not [.t 21], [], none⟩]
def r3_1 : IC := (.reg o3_1 [1, 2, 3, 22])
def o3_2 : List IOp := [⟨none, .val 6 .mov [.k (.p (.bool false))], [], none⟩]
def r3_2 : IC := (.reg o3_2 [6])
def o3_3 : List IOp := [⟨none, .load 23 (.t 3) 3 true, [], none⟩,
    ⟨none, .call (some 24) 11 [.t 23], [], none⟩,
    ⟨none, .store (.t 3) (.t 24) 3, [], none⟩]
def r3_3 : IC := (.reg o3_3 [1, 2, 3])
def o3_4 : List IOp := [⟨none, .val 25 .mov [.t 1], [], none⟩,
    ⟨none, .call (some 26) 12 [.t 25], [], none⟩,
    ⟨none, .val 7 .mov [.t 26], [], none⟩]
def r3_4 : IC := (.reg o3_4 [2, 3, 7])
def o3_5 : List IOp := [⟨none, .load 28 (.t 3) 3 true, [], none⟩,
    ⟨none, .val 29 .mov [.t 7], [], none⟩,
    ⟨none, .call (some 30) 13 [.t 28, .t 29], [], none⟩,
    ⟨none, .val 27 .mov [.t 30], [], none⟩,
    ⟨none, .val 31 (.ext 0) [.t 27], [], none⟩,
    ⟨none, .val 32 (.ext 1) [.t 27], [], none⟩,
    ⟨none, .val 8 .mov [.t 31], [], none⟩,
    ⟨none, .val 9 .mov [.t 32], [], none⟩]
def r3_5 : IC := (.reg o3_5 [2, 3, 7, 8, 9])
def o3_6 : List IOp := [⟨none, .load 34 (.t 3) 3 true, [], none⟩,
    ⟨none, .val 35 .mov [.t 7], [], none⟩,
    ⟨none, .call (some 36) 14 [.t 34, .t 35], [], none⟩,
    ⟨none, .val 33 .mov [.t 36], [], none⟩,
    ⟨none, .val 37 (.ext 0) [.t 33], [], none⟩,
    ⟨none, .val 38 (.ext 1) [.t 33], [], none⟩,
    ⟨none, .val 39 (.ext 2) [.t 33], [], none⟩,
    ⟨none, .val 10 .mov [.t 37], [], none⟩,
    ⟨none, .val 11 .mov [.t 38], [], none⟩,
    ⟨none, .val 12 .mov [.t 39], [], none⟩]
def r3_6 : IC := (.reg o3_6 [2, 3, 7, 8, 9, 10, 11, 12])
def o3_7 : List IOp := [⟨none, .load 41 (.t 3) 3 true, [], none⟩,
    ⟨none, .val 42 .mov [.t 7], [], none⟩,
    ⟨none, .call (some 43) 15 [.t 41, .t 42], [], none⟩,
    ⟨none, .val 40 .mov [.t 43], [], none⟩,
    ⟨none, .val 44 (.ext 0) [.t 40], [], none⟩,
    ⟨none, .val 45 (.ext 1) [.t 40], [], none⟩,
    ⟨none, .val 13 .mov [.t 44], [], none⟩,
    ⟨none, .val 14 .mov [.t 45], [], none⟩]
def r3_7 : IC := (.reg o3_7 [2, 3, 7, 8, 9, 10, 11, 12, 13, 14])
def o3_8 : List IOp := [⟨none, .load 47 (.t 3) 3 true, [], none⟩,
    ⟨none, .val 48 .mov [.t 7], [], none⟩,
    ⟨none, .val 49 .mov [.t 2], [], none⟩,
    ⟨none, .call (some 50) 16 [.t 47, .t 48, .t 49], [], none⟩,
    ⟨none, .val 46 .mov [.t 50], [], none⟩,
    ⟨none, .val 51 (.ext 0) [.t 46], [], none⟩,
    ⟨none, .val 52 (.ext 1) [.t 46], [], none⟩,
    ⟨none, .val 15 .mov [.t 51], [], none⟩,
    ⟨none, .val 16 .mov [.t 52], [], none⟩]
def r3_8 : IC := (.reg o3_8 [2, 3, 7, 8, 9, 10, 11, 12, 13, 14, 15, 16])
def o3_9 : List IOp := [⟨none, .load 54 (.t 3) 3 true, [], none⟩,
    ⟨none, .val 55 .mov [.t 7], [], none⟩,
    ⟨none, .call (some 56) 17 [.t 54, .t 55], [], none⟩,
    ⟨none, .val 53 .mov [.t 56], [], none⟩,
    ⟨none, .val 57 (.ext 0) [.t 53], [], none⟩,
    ⟨none, .val 58 (.ext 1) [.t 53], [], none⟩,
    ⟨none, .val 17 .mov [.t 57], [], none⟩,
    ⟨none, .val 18 .mov [.t 58], [], none⟩]
def r3_9 : IC := (.reg o3_9 [2, 3, 7, 8, 9, 10, 11, 12, 13, 14, 15, 16, 17, 18])
def o3_10 : List IOp := [⟨none, .load 59 (.t 3) 3 true, [], none⟩,
    ⟨none, .val 60 .mov [.t 7], [], none⟩,
    ⟨none, .litP 61 1 [.t 60], [], none⟩,
    ⟨none, .call (some 62) 18 [.t 59, .t 61], [], none⟩,
    ⟨none, .val 19 .mov [.t 62], [], none⟩]
def r3_10 : IC := (.reg o3_10 [2, 3, 7, 8, 9, 10, 11, 12, 13, 14, 15, 16, 17, 18, 19])
def o3_11 : List IOp := [⟨none, .load 63 (.t 3) 3 true, [], none⟩,
    ⟨none, .val 64 .mov [.t 7], [], none⟩,
    ⟨none, .call (some 65) 19 [.t 63, .t 64], [], none⟩,
    ⟨none, .val 66 .mov [.t 19], [], none⟩,
    ⟨none, .val 67 (.bin .neq) [.t 65, .t 66], [], none⟩,
    ⟨none, .val 68 .mov [.t 67], [], none⟩,
    ⟨(some (68, false)), .val 69 .mov [.t 9], [], none⟩,
    ⟨(some (68, false)), .val 70 .mov [.t 19], [], none⟩,
    ⟨(some (68, false)), .val 71 (.bin .neq) [.t 69, .t 70], [], none⟩,
    ⟨none, .val 72 .pick [.t 68, .k (.p (.bool true)), .t 71], [], none⟩,
    ⟨none, .val 73 .mov [.t 72], [], none⟩,
    ⟨(some (73, false)), .val 74 .mov [.t 12], [], none⟩,
    ⟨(some (73, false)), .val 75 .mov [.t 19], [], none⟩,
    ⟨(some (73, false)), .val 76 (.bin .neq) [.t 74, .t 75], [], none⟩,
    ⟨none, .val 77 .pick [.t 73, .k (.p (.bool true)), .t 76], [], none⟩,
    ⟨none, .val 78 .mov [.t 77], [], none⟩,
    ⟨(some (78, false)), .val 79 .mov [.t 14], [], none⟩,
    ⟨(some (78, false)), .val 80 .mov [.t 19], [], none⟩,
    ⟨(some (78, false)), .val 81 (.bin .neq) [.t 79, .t 80], [], none⟩,
    ⟨none, .val 82 .pick [.t 78, .k (.p (.bool true)), .t 81], [], none⟩,
    ⟨none, .val 83 .mov [.t 82], [], none⟩,
    ⟨(some (83, false)), .val 84 .mov [.t 18], [], none⟩,
    ⟨(some (83, false)), .val 85 .mov [.t 19], [], none⟩,
    ⟨(some (83, false)), .val 86 (.bin .neq) [.t 84, .t 85], [], none⟩,
    ⟨none, .val 87 .pick [.t 83, .k (.p (.bool true)), .t 86], [], none⟩]
def r3_11 : IC := (.reg o3_11 [2, 3, 7, 8, 10, 11, 13, 15, 16, 17, 19, 87])
def o3_12 : List IOp := [⟨none, .val 6 .mov [.k (.p (.bool false))], [], none⟩]
def r3_12 : IC := (.reg o3_12 [6])
def o3_13 : List IOp := [⟨none, .val 88 .mov [.t 19], [], none⟩,
    ⟨none, .val 89 (.bin .neq) [.t 88, .k (.p (.int .i64 0))], [], none⟩]
def r3_13 : IC := (.reg o3_13 [2, 3, 7, 8, 10, 11, 13, 15, 16, 17, 19, 89])
def o3_14 : List IOp := [⟨none, .val 90 .mov [.t 16], [], none⟩,
    ⟨none, .val 91 .mov [.t 19], [], none⟩,
    ⟨none, .val 92 (.bin .eql) [.t 90, .t 91], [], none⟩,
    ⟨none, .val 93 .mov [.t 92], [], none⟩,
    ⟨(some (93, true)), .val 94 .mov [.t 8], [], none⟩,
    ⟨(some (93, true)), .val 95 .len [.t 94], [], none⟩,
    ⟨(some (93, true)), .val 96 (.bin .eql) [.t 95, .k (.p (.int .i64 0))], [], none⟩,
    ⟨none, .val 97 .pick [.t 93, .t 96, .k (.p (.bool false))], [], none⟩,
    ⟨none, .val 98 .mov [.t 97], [], none⟩,
    ⟨(some (98, true)), .val 99 .mov [.t 10], [], none⟩,
    ⟨(some (98, true)), .val 100 (.bin .eql) [.t 99, .k (.p (.int .i64 0))], [], none⟩,
    ⟨none, .val 101 .pick [.t 98, .t 100, .k (.p (.bool false))], [], none⟩,
    ⟨none, .val 102 .mov [.t 101], [], none⟩,
    ⟨(some (102, true)), .val 103 .mov [.t 11], [], none⟩,
    ⟨(some (102, true)), .val 104 (.bin .eql) [.t 103, .k (.p (.int .i64 0))], [], none⟩,
    ⟨none, .val 105 .pick [.t 102, .t 104, .k (.p (.bool false))], [], none⟩,
    ⟨none, .val 106 .mov [.t 105], [], none⟩,
    ⟨(some (106, true)), .val 107 .mov [.t 13], [], none⟩,
    ⟨(some (106, true)), .val 108 (.bin .eql) [.t 107, .k (.p (.int .i64 0))], [], none⟩,
    ⟨none, .val 109 .pick [.t 106, .t 108, .k (.p (.bool false))], [], none⟩,
    ⟨none, .val 110 .mov [.t 109], [], none⟩,
    ⟨(some (110, true)), .val 111 .mov [.t 15], [], none⟩,
    ⟨(some (110, true)), .val 112 (.bin .eql) [.t 111, .k (.p (.int .i64 0))], [], none⟩,
    ⟨none, .val 113 .pick [.t 110, .t 112, .k (.p (.bool false))], [], none⟩,
    ⟨none, .val 114 .mov [.t 113], [], none⟩,
    ⟨(some (114, true)), .val 115 .mov [.t 17], [], none⟩,
    ⟨(some (114, true)), .val 116 .len [.t 115], [], none⟩,
    ⟨(some (114, true)), .val 117 (.bin .eql) [.t 116, .k (.p (.int .i64 0))], [], none⟩,
    ⟨none, .val 118 .pick [.t 114, .t 117, .k (.p (.bool false))], [], none⟩,
    ⟨none, .val 6 .mov [.t 118], [], none⟩]
def r3_14 : IC := (.reg o3_14 [6])
def o3_15 : List IOp := [⟨none, .load 119 (.t 3) 3 true, [], none⟩,
    ⟨none, .val 120 .mov [.t 7], [], none⟩,
    ⟨none, .call (some 121) 20 [.t 119, .t 120], [], none⟩,
    ⟨none, .val 20 .mov [.t 121], [], none⟩]
def r3_15 : IC := (.reg o3_15 [2, 3, 7, 8, 10, 11, 13, 15, 16, 17, 20])
def o3_16 : List IOp := [⟨none, .val 122 .mov [.t 8], [], none⟩,
    ⟨none, .val 123 .mov [.t 20], [], none⟩,
    ⟨none, .call (some 124) 21 [.t 122, .t 123], [], none⟩,
    ⟨none, .val 125 .not [.t 124], [], none⟩,
    ⟨none, .val 126 .mov [.t 125], [], none⟩,
    ⟨(some (126, false)), .val 127 .mov [.t 10], [], none⟩,
    ⟨(some (126, false)), .val 128 .mov [.t 20], [], none⟩,
    ⟨(some (126, false)), .val 129 (.iaddrS 1) [.t 128, .k (.p (.int .i64 0))], [], none⟩,
    ⟨(some (126, false)), .load 130 (.t 129) 1 false, [], none⟩,
    ⟨(some (126, false)), .val 131 (.bin .neq) [.t 127, .t 130], [], none⟩,
    ⟨none, .val 132 .pick [.t 126, .k (.p (.bool true)), .t 131], [], none⟩,
    ⟨none, .val 133 .mov [.t 132], [], none⟩,
    ⟨(some (133, false)), .val 134 .mov [.t 11], [], none⟩,
    ⟨(some (133, false)), .val 135 .mov [.t 20], [], none⟩,
    ⟨(some (133, false)), .val 136 .mov [.t 20], [], none⟩,
    ⟨(some (133, false)), .val 137 .len [.t 136], [], none⟩,
    ⟨(some (133, false)), .val 138 (.bin .sub) [.t 137, .k (.p (.int .i64 1))], [], none⟩,
    ⟨(some (133, false)), .val 139 (.iaddrS 1) [.t 135, .t 138], [], none⟩,
    ⟨(some (133, false)), .load 140 (.t 139) 1 false, [], none⟩,
    ⟨(some (133, false)), .val 141 (.bin .neq) [.t 134, .t 140], [], none⟩,
    ⟨none, .val 142 .pick [.t 133, .k (.p (.bool true)), .t 141], [], none⟩,
    ⟨none, .val 143 .mov [.t 142], [], none⟩,
    ⟨(some (143, false)), .val 144 .mov [.t 13], [], none⟩,
    ⟨(some (143, false)), .load 145 (.t 3) 3 true, [], none⟩,
    ⟨(some (143, false)), .val 146 .mov [.t 7], [], none⟩,
    ⟨(some (143, false)), .call (some 147) 22 [.t 145, .t 146], [], none⟩,
    ⟨(some (143, false)), .val 148 (.bin .neq) [.t 144, .t 147], [], none⟩,
    ⟨none, .val 149 .pick [.t 143, .k (.p (.bool true)), .t 148], [], none⟩,
    ⟨none, .val 150 .mov [.t 149], [], none⟩,
    ⟨(some (150, false)), .val 151 .mov [.t 17], [], none⟩,
    ⟨(some (150, false)), .val 152 .mov [.t 7], [], none⟩,
    ⟨(some (150, false)), .call (some 153) 24 [.t 152], [], none⟩,
    ⟨(some (150, false)), .call (some 154) 23 [.t 151, .t 153], [], none⟩,
    ⟨(some (150, false)), .val 155 .not [.t 154], [], none⟩,
    ⟨none, .val 156 .pick [.t 150, .k (.p (.bool true)), .t 155], [], none⟩]
def r3_16 : IC := (.reg o3_16 [2, 3, 7, 15, 16, 156])
def o3_17 : List IOp := [⟨none, .val 6 .mov [.k (.p (.bool false))], [], none⟩]
def r3_17 : IC := (.reg o3_17 [6])
def o3_18 : List IOp := [⟨none, .val 157 .mov [.t 2], [], none⟩,
    ⟨none, .val 158 (.bin .lss) [.t 157, .k (.p (.int .i64 84))], [], none⟩,
    ⟨none, .val 159 .mov [.t 158], [], none⟩,
    ⟨(some (159, false)), .val 160 .mov [.t 2], [], none⟩,
    ⟨(some (159, false)), .val 161 (.bin .gtr) [.t 160, .k (.p (.int .i64 1542))], [], none⟩,
    ⟨none, .val 162 .pick [.t 159, .k (.p (.bool true)), .t 161], [], none⟩]
def r3_18 : IC := (.reg o3_18 [2, 3, 7, 15, 16, 162])
def o3_19 : List IOp := [⟨none, .val 163 .mov [.t 15], [], none⟩,
    ⟨none, .val 164 (.bin .eql) [.t 163, .k (.p (.int .i64 0))], [], none⟩,
    ⟨none, .val 165 .mov [.t 164], [], none⟩,
    ⟨(some (165, true)), .val 166 .mov [.t 16], [], none⟩,
    ⟨(some (165, true)), .val 167 (.bin .eql) [.t 166, .k (.p (.int .i64 2))], [], none⟩,
    ⟨none, .val 168 .pick [.t 165, .t 167, .k (.p (.bool false))], [], none⟩,
    ⟨none, .val 6 .mov [.t 168], [], none⟩]
def r3_19 : IC := (.reg o3_19 [6])
def o3_20 : List IOp := [⟨none, .val 169 .mov [.t 15], [], none⟩,
    ⟨none, .load 170 (.t 3) 3 true, [], none⟩,
    ⟨none, .val 171 .mov [.t 7], [], none⟩,
    ⟨none, .val 172 .mov [.t 2], [], none⟩,
    ⟨none, .call (some 173) 25 [.t 170, .t 171, .t 172], [], none⟩,
    ⟨none, .val 174 (.bin .eql) [.t 169, .t 173], [], none⟩,
    ⟨none, .val 175 .mov [.t 174], [], none⟩,
    ⟨(some (175, true)), .val 176 .mov [.t 16], [], none⟩,
    ⟨(some (175, true)), .val 177 (.bin .eql) [.t 176, .k (.p (.int .i64 0))], [], none⟩,
    ⟨none, .val 178 .pick [.t 175, .t 177, .k (.p (.bool false))], [], none⟩,
    ⟨none, .val 6 .mov [.t 178], [], none⟩]
def r3_20 : IC := (.reg o3_20 [6])
def b3 : IC := (.seq r3_0 (.seq (.seq r3_1 (.cond (.t 22) (.seq r3_2 .ret) .skip)) (.kp [1, 2, 3] (.seq r3_3 (.seq r3_4 (.seq r3_5 (.seq r3_6 (.seq r3_7 (.seq r3_8 (.seq r3_9 (.seq r3_10 (.seq (.seq r3_11 (.cond (.t 87) (.seq r3_12 .ret) .skip)) (.kp [2, 3, 7, 8, 10, 11, 13, 15, 16, 17, 19] (.seq (.seq r3_13 (.cond (.t 89) (.seq r3_14 .ret) .skip)) (.kp [2, 3, 7, 8, 10, 11, 13, 15, 16, 17] (.seq r3_15 (.seq (.seq r3_16 (.cond (.t 156) (.seq r3_17 .ret) .skip)) (.kp [2, 3, 7, 15, 16] (.seq (.seq r3_18 (.cond (.t 162) (.seq r3_19 .ret) .skip)) (.kp [2, 3, 7, 15, 16] (.seq r3_20 .ret)))))))))))))))))))))
def i3 : IFn := ⟨3, 179, b3, [.tmp 6]⟩
def o4_0 : List IOp := [⟨none, .boxL 3 (.t 0), [], none⟩,
    ⟨none, .val 6 .mov [.k (.p (.bool false))], [], none⟩]
def r4_0 : IC := (.reg o4_0 [1, 2, 3])
def o4_1 : List IOp := [⟨none, .call (some 12) 10 [], [], none⟩,
    ⟨none, .val 13 .not [.t 12], [], none⟩]
def r4_1 : IC := (.reg o4_1 [1, 2, 3, 13])
def o4_2 : List IOp := [⟨none, .val 6 .mov [.k (.p (.bool false))], [], none⟩]
def r4_2 : IC := (.reg o4_2 [6])
def o4_3 : List IOp := [⟨none, .load 14 (.t 3) 3 true, [], none⟩,
    ⟨none, .call (some 15) 11 [.t 14], [], none⟩,
    ⟨none, .store (.t 3) (.t 15) 3, [], none⟩]
def r4_3 : IC := (.reg o4_3 [1, 2, 3])
def o4_4 : List IOp := [⟨none, .val 16 .mov [.t 1], [], none⟩,
    ⟨none, .call (some 17) 12 [.t 16], [], none⟩,
    ⟨none, .val 18 .mov [.t 2], [], none⟩,
    ⟨none, .call (some 19) 12 [.t 18], [], none⟩,
    ⟨none, .val 7 .mov [.t 17], [], none⟩,
    ⟨none, .val 8 .mov [.t 19], [], none⟩]
def r4_4 : IC := (.reg o4_4 [3, 7, 8])
def o4_5 : List IOp := [⟨none, .load 21 (.t 3) 3 true, [], none⟩,
    ⟨none, .val 22 .mov [.t 7], [], none⟩,
    ⟨none, .val 23 .mov [.t 8], [], none⟩,
    ⟨none, .call (some 24) 26 [.t 21, .t 22, .t 23], [], none⟩,
    ⟨none, .val 20 .mov [.t 24], [], none⟩,
    ⟨none, .val 25 (.ext 0) [.t 20], [], none⟩,
    ⟨none, .val 26 (.ext 1) [.t 20], [], none⟩,
    ⟨none, .val 9 .mov [.t 25], [], none⟩,
    ⟨none, .val 10 .mov [.t 26], [], none⟩]
def r4_5 : IC := (.reg o4_5 [3, 7, 8, 9, 10])
def o4_6 : List IOp := [⟨none, .load 27 (.t 3) 3 true, [], none⟩,
    ⟨none, .val 28 .mov [.t 7], [], none⟩,
    ⟨none, .val 29 .mov [.t 8], [], none⟩,
    ⟨none, .litP 30 1 [.t 28, .t 29], [], none⟩,
    ⟨none, .call (some 31) 18 [.t 27, .t 30], [], none⟩,
    ⟨none, .val 11 .mov [.t 31], [], none⟩]
def r4_6 : IC := (.reg o4_6 [3, 7, 8, 9, 10, 11])
def o4_7 : List IOp := [⟨none, .val 32 .mov [.t 11], [], none⟩,
    ⟨none, .val 33 (.bin .neq) [.t 32, .k (.p (.int .i64 0))], [], none⟩]
def r4_7 : IC := (.reg o4_7 [3, 7, 8, 9, 10, 11, 33])
def o4_8 : List IOp := [⟨none, .val 34 .mov [.t 9], [], none⟩,
    ⟨none, .val 35 .not [.t 34], [], none⟩,
    ⟨none, .val 36 .mov [.t 35], [], none⟩,
    ⟨(some (36, true)), .val 37 .mov [.t 10], [], none⟩,
    ⟨(some (36, true)), .val 38 .mov [.t 11], [], none⟩,
    ⟨(some (36, true)), .val 39 (.bin .eql) [.t 37, .t 38], [], none⟩,
    ⟨none, .val 40 .pick [.t 36, .t 39, .k (.p (.bool false))], [], none⟩,
    ⟨none, .val 6 .mov [.t 40], [], none⟩]
def r4_8 : IC := (.reg o4_8 [6])
def o4_9 : List IOp := [⟨none, .val 41 .mov [.t 10], [], none⟩,
    ⟨none, .val 42 (.bin .eql) [.t 41, .k (.p (.int .i64 0))], [], none⟩,
    ⟨none, .val 43 .mov [.t 42], [], none⟩,
    ⟨(some (43, true)), .val 44 .mov [.t 9], [], none⟩,
    ⟨(some (43, true)), .load 45 (.t 3) 3 true, [], none⟩,
    ⟨(some (43, true)), .val 46 .mov [.t 7], [], none⟩,
    ⟨(some (43, true)), .val 47 .mov [.t 8], [], none⟩,
    ⟨(some (43, true)), .call (some 48) 27 [.t 45, .t 46, .t 47], [], none⟩,
    ⟨(some (43, true)), .val 49 (.eqB false) [.t 44, .t 48], [], none⟩,
    ⟨none, .val 50 .pick [.t 43, .t 49, .k (.p (.bool false))], [], none⟩,
    ⟨none, .val 6 .mov [.t 50], [], none⟩]
def r4_9 : IC := (.reg o4_9 [6])
def b4 : IC := (.seq r4_0 (.seq (.seq r4_1 (.cond (.t 13) (.seq r4_2 .ret) .skip)) (.kp [1, 2, 3] (.seq r4_3 (.seq r4_4 (.seq r4_5 (.seq (.seq r4_6 (.seq r4_7 (.cond (.t 33) (.seq r4_8 .ret) .skip))) (.kp [3, 7, 8, 9, 10] (.seq r4_9 .ret)))))))))
def i4 : IFn := ⟨3, 51, b4, [.tmp 6]⟩
def o5_0 : List IOp := [⟨none, .boxL 2 (.t 0), [], none⟩,
    ⟨none, .val 4 .mov [.k (.p (.bool false))], [], none⟩]
def r5_0 : IC := (.reg o5_0 [1, 2])
def o5_1 : List IOp := [⟨none, .call (some 12) 10 [], [], none⟩,
    ⟨none, .val 13 .not [.t 12], [], none⟩]
def r5_1 : IC := (.reg o5_1 [1, 2, 13])
def o5_2 : List IOp := [⟨none, .val 4 .mov [.k (.p (.bool false))], [], none⟩]
def r5_2 : IC := (.reg o5_2 [4])
def o5_3 : List IOp := [⟨none, .load 14 (.t 2) 3 true, [], none⟩,
    ⟨none, .call (some 15) 11 [.t 14], [], none⟩,
    ⟨none, .store (.t 2) (.t 15) 3, [], none⟩]
def r5_3 : IC := (.reg o5_3 [1, 2])
def o5_4 : List IOp := [⟨none, .val 5 .mov [.k (.p (.sl 1 true []))], [], none⟩]
def r5_4 : IC := (.reg o5_4 [1, 2, 5])
def o5_5 : List IOp := [⟨none, .val 16 .mov [.t 1], [], none⟩,
    ⟨none, .val 17 .mov [.t 1], [], none⟩,
    ⟨none, .val 18 .len [.t 17], [], none⟩,
    ⟨none, .val 19 .min [.t 18, .k (.p (.int .i64 8))], [], none⟩,
    ⟨none, .val 20 (.slice 1 false true false) [.t 16, .t 19], [], none⟩,
    ⟨none, .val 21 .len [.t 20], [], none⟩,
    ⟨none, .val 22 .mov [.k (.p (.int .i64 0))], [], none⟩]
def r5_5 : IC := (.reg o5_5 [2, 5, 20, 21, 22])
def o5_6 : List IOp := [⟨none, .val 23 (.bin .lss) [.t 22, .t 21], [], none⟩]
def r5_6 : IC := (.reg o5_6 [2, 5, 20, 21, 22, 23])
def o5_7 : List IOp := [⟨none, .val 24 (.iaddrS 1) [.t 20, .t 22], [], none⟩,
    ⟨none, .load 25 (.t 24) 1 false, [], none⟩,
    ⟨none, .val 7 .mov [.t 25], [], none⟩]
def r5_7 : IC := (.reg o5_7 [2, 5, 7, 20, 21, 22])
def o5_8 : List IOp := [⟨none, .val 26 .mov [.t 5], [], none⟩,
    ⟨none, .val 27 .mov [.t 7], [], none⟩,
    ⟨none, .call (some 28) 12 [.t 27], [], none⟩,
    ⟨none, .litP 29 1 [.t 28], [], none⟩,
    ⟨none, .app 30 (.t 26) (.t 29) 1 24, [], none⟩,
    ⟨none, .val 5 .mov [.t 30], [], none⟩]
def r5_8 : IC := (.reg o5_8 [2, 5, 20, 21, 22])
def o5_9 : List IOp := [⟨none, .val 31 (.bin .add) [.t 22, .k (.p (.int .i64 1))], [], none⟩,
    ⟨none, .val 22 .mov [.t 31], [], none⟩]
def r5_9 : IC := (.reg o5_9 [2, 5, 20, 21, 22])
def l5_1 : IC := (.seq r5_6 (.seq (.cond (.t 23) .skip (.kp [2, 5] (.exit 0))) (.kp [2, 5, 20, 21, 22] (.seq (.block 1 (.seq r5_7 r5_8)) r5_9))))
def o5_10 : List IOp := [⟨none, .load 33 (.t 2) 3 true, [], none⟩,
    ⟨none, .val 34 .mov [.t 5], [], none⟩,
    ⟨none, .call (some 35) 28 [.t 33, .t 34], [], none⟩,
    ⟨none, .val 32 .mov [.t 35], [], none⟩,
    ⟨none, .val 36 (.ext 0) [.t 32], [], none⟩,
    ⟨none, .val 37 (.ext 1) [.t 32], [], none⟩,
    ⟨none, .val 38 (.ext 2) [.t 32], [], none⟩,
    ⟨none, .val 8 .mov [.t 36], [], none⟩,
    ⟨none, .val 9 .mov [.t 37], [], none⟩,
    ⟨none, .val 10 .mov [.t 38], [], none⟩]
def r5_10 : IC := (.reg o5_10 [2, 5, 8, 9, 10])
def o5_11 : List IOp := [⟨none, .load 39 (.t 2) 3 true, [], none⟩,
    ⟨none, .val 40 .mov [.t 5], [], none⟩,
    ⟨none, .call (some 41) 18 [.t 39, .t 40], [], none⟩,
    ⟨none, .val 11 .mov [.t 41], [], none⟩]
def r5_11 : IC := (.reg o5_11 [2, 5, 8, 9, 10, 11])
def o5_12 : List IOp := [⟨none, .val 42 .mov [.t 11], [], none⟩,
    ⟨none, .val 43 (.bin .neq) [.t 42, .k (.p (.int .i64 0))], [], none⟩]
def r5_12 : IC := (.reg o5_12 [2, 5, 8, 9, 10, 11, 43])
def o5_13 : List IOp := [⟨none, .val 44 .mov [.t 8], [], none⟩,
    ⟨none, .val 45 .len [.t 44], [], none⟩,
    ⟨none, .val 46 (.bin .eql) [.t 45, .k (.p (.int .i64 0))], [], none⟩,
    ⟨none, .val 47 .mov [.t 46], [], none⟩,
    ⟨(some (47, true)), .val 48 .mov [.t 9], [], none⟩,
    ⟨(some (47, true)), .val 49 .not [.t 48], [], none⟩,
    ⟨none, .val 50 .pick [.t 47, .t 49, .k (.p (.bool false))], [], none⟩,
    ⟨none, .val 51 .mov [.t 50], [], none⟩,
    ⟨(some (51, true)), .val 52 .mov [.t 10], [], none⟩,
    ⟨(some (51, true)), .val 53 .mov [.t 11], [], none⟩,
    ⟨(some (51, true)), .val 54 (.bin .eql) [.t 52, .t 53], [], none⟩,
    ⟨none, .val 55 .pick [.t 51, .t 54, .k (.p (.bool false))], [], none⟩,
    ⟨none, .val 4 .mov [.t 55], [], none⟩]
def r5_13 : IC := (.reg o5_13 [4])
def o5_14 : List IOp := [⟨none, .val 56 .mov [.t 10], [], none⟩,
    ⟨none, .val 57 (.bin .eql) [.t 56, .k (.p (.int .i64 0))], [], none⟩,
    ⟨none, .val 58 .mov [.t 57], [], none⟩,
    ⟨(some (58, true)), .val 59 .mov [.t 8], [], none⟩,
    ⟨(some (58, true)), .load 60 (.t 2) 3 true, [], none⟩,
    ⟨(some (58, true)), .val 61 .mov [.t 5], [], none⟩,
    ⟨(some (58, true)), .call (some 62) 29 [.t 60, .t 61], [], none⟩,
    ⟨(some (58, true)), .call (some 63) 21 [.t 59, .t 62], [], none⟩,
    ⟨none, .val 64 .pick [.t 58, .t 63, .k (.p (.bool false))], [], none⟩,
    ⟨none, .val 65 .mov [.t 64], [], none⟩,
    ⟨(some (65, true)), .val 66 .mov [.t 9], [], none⟩,
    ⟨(some (65, true)), .load 67 (.t 2) 3 true, [], none⟩,
    ⟨(some (65, true)), .val 68 .mov [.t 5], [], none⟩,
    ⟨(some (65, true)), .call (some 69) 30 [.t 67, .t 68], [], none⟩,
    ⟨(some (65, true)), .val 70 (.eqB false) [.t 66, .t 69], [], none⟩,
    ⟨none, .val 71 .pick [.t 65, .t 70, .k (.p (.bool false))], [], none⟩,
    ⟨none, .val 4 .mov [.t 71], [], none⟩]
def r5_14 : IC := (.reg o5_14 [4])
def b5 : IC := (.seq r5_0 (.seq (.seq r5_1 (.cond (.t 13) (.seq r5_2 .ret) .skip)) (.kp [1, 2] (.seq r5_3 (.seq r5_4 (.seq (.seq r5_5 (.block 0 (.loop l5_1))) (.seq r5_10 (.seq (.seq r5_11 (.seq r5_12 (.cond (.t 43) (.seq r5_13 .ret) .skip))) (.kp [2, 5, 8, 9, 10] (.seq r5_14 .ret))))))))))
def i5 : IFn := ⟨2, 72, b5, [.tmp 4]⟩
def o7_0 : List IOp := [⟨none, .boxL 5 (.t 0), [], none⟩,
    ⟨none, .val 10 .mov [.k (.p (.bool false))], [], none⟩]
def r7_0 : IC := (.reg o7_0 [1, 2, 3, 4, 5])
def o7_1 : List IOp := [⟨none, .call (some 24) 10 [], [], none⟩,
    ⟨none, .val 25 .not [.t 24], [], none⟩]
def r7_1 : IC := (.reg o7_1 [1, 2, 3, 4, 5, 25])
def o7_2 : List IOp := [⟨none, .val 10 .mov [.k (.p (.bool false))], [], none⟩]
def r7_2 : IC := (.reg o7_2 [10])
def o7_3 : List IOp := [⟨none, .load 26 (.t 5) 6 true, [], none⟩,
    ⟨none, .call (some 27) 31 [.t 26], [], none⟩,
    ⟨none, .newL 11 [.p (.int .i64 0), .p (.sl 1 true []), .p (.sl 4 true [])], [], none⟩,
    ⟨none, .store (.t 11) (.t 27) 3, [], none⟩]
def r7_3 : IC := (.reg o7_3 [1, 2, 3, 4, 11])
def o7_4 : List IOp := [⟨none, .loadL 28 (.t 11) 3 true, [], none⟩,
    ⟨none, .val 29 .mov [.t 1], [], none⟩,
    ⟨none, .val 30 .mov [.t 2], [], none⟩,
    ⟨none, .callP 31 32 [.t 28, .t 29, .t 30], [0, 1, 2], none⟩,
    ⟨none, .loadL 32 (.t 11) 3 true, [], none⟩,
    ⟨none, .val 33 .mov [.t 3], [], none⟩,
    ⟨none, .val 34 .mov [.t 4], [], none⟩,
    ⟨none, .callP 35 32 [.t 32, .t 33, .t 34], [0, 1, 2, 3, 4, 5, 6], none⟩,
    ⟨none, .val 12 .mov [.t 31], [0, 1, 2, 3, 4, 5, 6, 7], none⟩,
    ⟨none, .val 13 .mov [.t 35], [0, 1, 2, 3, 4, 5, 6, 7, 8], none⟩]
def r7_4 : IC := (.regD o7_4 [11, 12, 13])
def o7_5 : List IOp := [⟨none, .load 37 (.t 11) 3 true, [], none⟩,
    ⟨none, .val 38 .mov [.t 12], [], none⟩,
    ⟨none, .val 39 .mov [.t 13], [], none⟩,
    ⟨none, .call (some 40) 26 [.t 37, .t 38, .t 39], [], none⟩,
    ⟨none, .val 36 .mov [.t 40], [], none⟩,
    ⟨none, .val 41 (.ext 0) [.t 36], [], none⟩,
    ⟨none, .val 42 (.ext 1) [.t 36], [], none⟩,
    ⟨none, .val 14 .mov [.t 41], [], none⟩,
    ⟨none, .val 15 .mov [.t 42], [], none⟩]
def r7_5 : IC := (.reg o7_5 [11, 12, 13, 14, 15])
def o7_6 : List IOp := [⟨none, .load 44 (.t 11) 3 true, [], none⟩,
    ⟨none, .val 45 .mov [.t 13], [], none⟩,
    ⟨none, .val 46 .mov [.t 12], [], none⟩,
    ⟨none, .call (some 47) 26 [.t 44, .t 45, .t 46], [], none⟩,
    ⟨none, .val 43 .mov [.t 47], [], none⟩,
    ⟨none, .val 48 (.ext 0) [.t 43], [], none⟩,
    ⟨none, .val 49 (.ext 1) [.t 43], [], none⟩,
    ⟨none, .val 16 .mov [.t 48], [], none⟩,
    ⟨none, .val 17 .mov [.t 49], [], none⟩]
def r7_6 : IC := (.reg o7_6 [11, 12, 13, 14, 15, 16, 17])
def o7_7 : List IOp := [⟨none, .load 51 (.t 11) 3 true, [], none⟩,
    ⟨none, .val 52 .mov [.t 12], [], none⟩,
    ⟨none, .val 53 .mov [.t 12], [], none⟩,
    ⟨none, .call (some 54) 26 [.t 51, .t 52, .t 53], [], none⟩,
    ⟨none, .val 50 .mov [.t 54], [], none⟩,
    ⟨none, .val 55 (.ext 0) [.t 50], [], none⟩,
    ⟨none, .val 56 (.ext 1) [.t 50], [], none⟩,
    ⟨none, .val 18 .mov [.t 55], [], none⟩,
    ⟨none, .val 19 .mov [.t 56], [], none⟩]
def r7_7 : IC := (.reg o7_7 [11, 12, 13, 14, 15, 16, 17, 18, 19])
def o7_8 : List IOp := [⟨none, .load 58 (.t 11) 3 true, [], none⟩,
    ⟨none, .val 59 .mov [.t 13], [], none⟩,
    ⟨none, .call (some 60) 17 [.t 58, .t 59], [], none⟩,
    ⟨none, .val 57 .mov [.t 60], [], none⟩,
    ⟨none, .val 61 (.ext 0) [.t 57], [], none⟩,
    ⟨none, .val 62 (.ext 1) [.t 57], [], none⟩,
    ⟨none, .val 20 .mov [.t 61], [], none⟩,
    ⟨none, .val 21 .mov [.t 62], [], none⟩]
def r7_8 : IC := (.reg o7_8 [11, 12, 14, 15, 16, 17, 18, 19, 20, 21])
def o7_9 : List IOp := [⟨none, .load 64 (.t 11) 3 true, [], none⟩,
    ⟨none, .val 65 .mov [.t 12], [], none⟩,
    ⟨none, .val 66 .mov [.t 20], [], none⟩,
    ⟨none, .call (some 67) 26 [.t 64, .t 65, .t 66], [], none⟩,
    ⟨none, .val 63 .mov [.t 67], [], none⟩,
    ⟨none, .val 68 (.ext 0) [.t 63], [], none⟩,
    ⟨none, .val 69 (.ext 1) [.t 63], [], none⟩,
    ⟨none, .val 22 .mov [.t 68], [], none⟩,
    ⟨none, .val 23 .mov [.t 69], [], none⟩]
def r7_9 : IC := (.reg o7_9 [14, 15, 16, 17, 18, 19, 21, 22, 23])
def o7_10 : List IOp := [⟨none, .val 70 .mov [.t 15], [], none⟩,
    ⟨none, .val 71 (.bin .eql) [.t 70, .k (.p (.int .i64 0))], [], none⟩,
    ⟨none, .val 72 .mov [.t 71], [], none⟩,
    ⟨(some (72, true)), .val 73 .mov [.t 17], [], none⟩,
    ⟨(some (72, true)), .val 74 (.bin .eql) [.t 73, .k (.p (.int .i64 0))], [], none⟩,
    ⟨none, .val 75 .pick [.t 72, .t 74, .k (.p (.bool false))], [], none⟩,
    ⟨none, .val 76 .mov [.t 75], [], none⟩,
    ⟨(some (76, true)), .val 77 .mov [.t 19], [], none⟩,
    ⟨(some (76, true)), .val 78 (.bin .eql) [.t 77, .k (.p (.int .i64 0))], [], none⟩,
    ⟨none, .val 79 .pick [.t 76, .t 78, .k (.p (.bool false))], [], none⟩,
    ⟨none, .val 80 .mov [.t 79], [], none⟩,
    ⟨(some (80, true)), .val 81 .mov [.t 21], [], none⟩,
    ⟨(some (80, true)), .val 82 (.bin .eql) [.t 81, .k (.p (.int .i64 0))], [], none⟩,
    ⟨none, .val 83 .pick [.t 80, .t 82, .k (.p (.bool false))], [], none⟩,
    ⟨none, .val 84 .mov [.t 83], [], none⟩,
    ⟨(some (84, true)), .val 85 .mov [.t 23], [], none⟩,
    ⟨(some (84, true)), .val 86 (.bin .eql) [.t 85, .k (.p (.int .i64 0))], [], none⟩,
    ⟨none, .val 87 .pick [.t 84, .t 86, .k (.p (.bool false))], [], none⟩,
    ⟨none, .val 88 .mov [.t 87], [], none⟩,
    ⟨(some (88, true)), .val 89 .mov [.t 14], [], none⟩,
    ⟨(some (88, true)), .val 90 .mov [.t 16], [], none⟩,
    ⟨(some (88, true)), .val 91 (.eqB false) [.t 89, .t 90], [], none⟩,
    ⟨none, .val 92 .pick [.t 88, .t 91, .k (.p (.bool false))], [], none⟩,
    ⟨none, .val 93 .mov [.t 92], [], none⟩,
    ⟨(some (93, true)), .val 94 .mov [.t 14], [], none⟩,
    ⟨(some (93, true)), .val 95 .mov [.t 22], [], none⟩,
    ⟨(some (93, true)), .val 96 (.eqB false) [.t 94, .t 95], [], none⟩,
    ⟨none, .val 97 .pick [.t 93, .t 96, .k (.p (.bool false))], [], none⟩,
    ⟨none, .val 98 .mov [.t 97], [], none⟩,
    ⟨(some (98, true)), .val 99 .mov [.t 18], [], none⟩,
    ⟨(some (98, true)), .val 100 .not [.t 99], [], none⟩,
    ⟨none, .val 101 .pick [.t 98, .t 100, .k (.p (.bool false))], [], none⟩,
    ⟨none, .val 10 .mov [.t 101], [], none⟩]
def r7_10 : IC := (.reg o7_10 [10])
def b7 : IC := (.seq r7_0 (.seq (.seq r7_1 (.cond (.t 25) (.seq r7_2 .ret) .skip)) (.kp [1, 2, 3, 4, 5] (.seq r7_3 (.seq r7_4 (.seq r7_5 (.seq r7_6 (.seq r7_7 (.seq r7_8 (.seq r7_9 (.seq r7_10 .ret)))))))))))
def i7 : IFn := ⟨5, 102, b7, [.tmp 10]⟩
def o10_0 : List IOp := [⟨none, .val 0 .mov [.k (.p (.bool false))], [], none⟩]
def r10_0 : IC := (.reg o10_0 [])
def o10_1 : List IOp := [⟨none, .call (some 19) 33 [], [], none⟩,
    ⟨none, .newL 1 [.p (.int .i64 0), .p (.sl 1 true []), .p (.sl 4 true [])], [], none⟩,
    ⟨none, .store (.t 1) (.t 19) 3, [], none⟩]
def r10_1 : IC := (.reg o10_1 [1])
def o10_2 : List IOp := [⟨none, .load 21 (.t 1) 3 true, [], none⟩,
    ⟨none, .litP 22 1 [.k (.p (.int .i64 0)), .k (.p (.int .i64 2)), .k (.p (.int .i64 4))], [], none⟩,
    ⟨none, .call (some 23) 13 [.t 21, .t 22], [], none⟩,
    ⟨none, .val 20 .mov [.t 23], [], none⟩,
    ⟨none, .val 24 (.ext 0) [.t 20], [], none⟩,
    ⟨none, .val 25 (.ext 1) [.t 20], [], none⟩,
    ⟨none, .val 2 .mov [.t 24], [], none⟩,
    ⟨none, .val 3 .mov [.t 25], [], none⟩]
def r10_2 : IC := (.reg o10_2 [1, 2, 3])
def o10_3 : List IOp := [⟨none, .load 27 (.t 1) 3 true, [], none⟩,
    ⟨none, .litP 28 1 [.k (.p (.int .i64 2)), .k (.p (.int .i64 4))], [], none⟩,
    ⟨none, .call (some 29) 14 [.t 27, .t 28], [], none⟩,
    ⟨none, .val 26 .mov [.t 29], [], none⟩,
    ⟨none, .val 30 (.ext 0) [.t 26], [], none⟩,
    ⟨none, .val 31 (.ext 1) [.t 26], [], none⟩,
    ⟨none, .val 32 (.ext 2) [.t 26], [], none⟩,
    ⟨none, .val 4 .mov [.t 30], [], none⟩,
    ⟨none, .val 5 .mov [.t 31], [], none⟩,
    ⟨none, .val 6 .mov [.t 32], [], none⟩]
def r10_3 : IC := (.reg o10_3 [1, 2, 3, 4, 5, 6])
def o10_4 : List IOp := [⟨none, .load 34 (.t 1) 3 true, [], none⟩,
    ⟨none, .litP 35 1 [.k (.p (.int .i64 0)), .k (.p (.int .i64 2)), .k (.p (.int .i64 4))], [], none⟩,
    ⟨none, .call (some 36) 15 [.t 34, .t 35], [], none⟩,
    ⟨none, .val 33 .mov [.t 36], [], none⟩,
    ⟨none, .val 37 (.ext 0) [.t 33], [], none⟩,
    ⟨none, .val 38 (.ext 1) [.t 33], [], none⟩,
    ⟨none, .val 7 .mov [.t 37], [], none⟩,
    ⟨none, .val 8 .mov [.t 38], [], none⟩]
def r10_4 : IC := (.reg o10_4 [1, 2, 3, 4, 5, 6, 7, 8])
def o10_5 : List IOp := [⟨none, .load 40 (.t 1) 3 true, [], none⟩,
    ⟨none, .litP 41 1 [.k (.p (.int .i64 0)), .k (.p (.int .i64 2)), .k (.p (.int .i64 4))], [], none⟩,
    ⟨none, .call (some 42) 16 [.t 40, .t 41, .k (.p (.int .i64 100))], [], none⟩,
    ⟨none, .val 39 .mov [.t 42], [], none⟩,
    ⟨none, .val 43 (.ext 0) [.t 39], [], none⟩,
    ⟨none, .val 44 (.ext 1) [.t 39], [], none⟩,
    ⟨none, .val 9 .mov [.t 43], [], none⟩,
    ⟨none, .val 10 .mov [.t 44], [], none⟩]
def r10_5 : IC := (.reg o10_5 [1, 2, 3, 4, 5, 6, 7, 8, 9, 10])
def o10_6 : List IOp := [⟨none, .load 46 (.t 1) 3 true, [], none⟩,
    ⟨none, .litP 47 1 [.k (.p (.int .i64 0)), .k (.p (.int .i64 2)), .k (.p (.int .i64 4))], [], none⟩,
    ⟨none, .call (some 48) 17 [.t 46, .t 47], [], none⟩,
    ⟨none, .val 45 .mov [.t 48], [], none⟩,
    ⟨none, .val 49 (.ext 0) [.t 45], [], none⟩,
    ⟨none, .val 50 (.ext 1) [.t 45], [], none⟩,
    ⟨none, .val 11 .mov [.t 49], [], none⟩,
    ⟨none, .val 12 .mov [.t 50], [], none⟩]
def r10_6 : IC := (.reg o10_6 [1, 2, 3, 4, 5, 6, 7, 8, 9, 10, 11, 12])
def o10_7 : List IOp := [⟨none, .load 52 (.t 1) 3 true, [], none⟩,
    ⟨none, .litP 53 1 [.k (.p (.int .i64 0))], [], none⟩,
    ⟨none, .litP 54 1 [.k (.p (.int .i64 2)), .k (.p (.int .i64 4))], [], none⟩,
    ⟨none, .call (some 55) 26 [.t 52, .t 53, .t 54], [], none⟩,
    ⟨none, .val 51 .mov [.t 55], [], none⟩,
    ⟨none, .val 56 (.ext 0) [.t 51], [], none⟩,
    ⟨none, .val 57 (.ext 1) [.t 51], [], none⟩,
    ⟨none, .val 13 .mov [.t 56], [], none⟩,
    ⟨none, .val 14 .mov [.t 57], [], none⟩]
def r10_7 : IC := (.reg o10_7 [1, 2, 3, 4, 5, 6, 7, 8, 9, 10, 11, 12, 13, 14])
def o10_8 : List IOp := [⟨none, .load 59 (.t 1) 3 true, [], none⟩,
    ⟨none, .litP 60 1 [.k (.p (.int .i64 0)), .k (.p (.int .i64 2))], [], none⟩,
    ⟨none, .litP 61 1 [.k (.p (.int .i64 0)), .k (.p (.int .i64 2)), .k (.p (.int .i64 4))], [], none⟩,
    ⟨none, .litP 62 1 [.t 60, .t 61], [], none⟩,
    ⟨none, .call (some 63) 28 [.t 59, .t 62], [], none⟩,
    ⟨none, .val 58 .mov [.t 63], [], none⟩,
    ⟨none, .val 64 (.ext 0) [.t 58], [], none⟩,
    ⟨none, .val 65 (.ext 1) [.t 58], [], none⟩,
    ⟨none, .val 66 (.ext 2) [.t 58], [], none⟩,
    ⟨none, .val 15 .mov [.t 64], [], none⟩,
    ⟨none, .val 16 .mov [.t 65], [], none⟩,
    ⟨none, .val 17 .mov [.t 66], [], none⟩]
def r10_8 : IC := (.reg o10_8 [1, 2, 3, 4, 5, 6, 7, 8, 9, 10, 11, 12, 13, 14, 15, 16, 17])
def o10_9 : List IOp := [⟨none, .val 67 .mov [.t 3], [], none⟩,
    ⟨none, .val 68 (.bin .eql) [.t 67, .k (.p (.int .i64 0))], [], none⟩,
    ⟨none, .val 69 .mov [.t 68], [], none⟩,
    ⟨(some (69, true)), .val 70 .mov [.t 6], [], none⟩,
    ⟨(some (69, true)), .val 71 (.bin .eql) [.t 70, .k (.p (.int .i64 0))], [], none⟩,
    ⟨none, .val 72 .pick [.t 69, .t 71, .k (.p (.bool false))], [], none⟩,
    ⟨none, .val 73 .mov [.t 72], [], none⟩,
    ⟨(some (73, true)), .val 74 .mov [.t 8], [], none⟩,
    ⟨(some (73, true)), .val 75 (.bin .eql) [.t 74, .k (.p (.int .i64 0))], [], none⟩,
    ⟨none, .val 76 .pick [.t 73, .t 75, .k (.p (.bool false))], [], none⟩,
    ⟨none, .val 77 .mov [.t 76], [], none⟩,
    ⟨(some (77, true)), .val 78 .mov [.t 10], [], none⟩,
    ⟨(some (77, true)), .val 79 (.bin .eql) [.t 78, .k (.p (.int .i64 0))], [], none⟩,
    ⟨none, .val 80 .pick [.t 77, .t 79, .k (.p (.bool false))], [], none⟩,
    ⟨none, .val 81 .mov [.t 80], [], none⟩,
    ⟨(some (81, true)), .val 82 .mov [.t 12], [], none⟩,
    ⟨(some (81, true)), .val 83 (.bin .eql) [.t 82, .k (.p (.int .i64 0))], [], none⟩,
    ⟨none, .val 84 .pick [.t 81, .t 83, .k (.p (.bool false))], [], none⟩,
    ⟨none, .val 85 .mov [.t 84], [], none⟩,
    ⟨(some (85, true)), .val 86 .mov [.t 14], [], none⟩,
    ⟨(some (85, true)), .val 87 (.bin .eql) [.t 86, .k (.p (.int .i64 0))], [], none⟩,
    ⟨none, .val 88 .pick [.t 85, .t 87, .k (.p (.bool false))], [], none⟩,
    ⟨none, .val 89 .mov [.t 88], [], none⟩,
    ⟨(some (89, true)), .val 90 .mov [.t 17], [], none⟩,
    ⟨(some (89, true)), .val 91 (.bin .eql) [.t 90, .k (.p (.int .i64 0))], [], none⟩,
    ⟨none, .val 92 .pick [.t 89, .t 91, .k (.p (.bool false))], [], none⟩,
    ⟨none, .val 18 .mov [.t 92], [], none⟩]
def r10_9 : IC := (.reg o10_9 [1, 2, 4, 5, 7, 9, 11, 13, 15, 16, 18])
def o10_10 : List IOp := [⟨none, .val 93 .mov [.t 18], [], none⟩,
    ⟨none, .val 94 .mov [.t 93], [], none⟩,
    ⟨(some (94, true)), .val 95 .mov [.t 2], [], none⟩,
    ⟨(some (94, true)), .litP 96 1 [.k (.p (.int .i64 0)), .k (.p (.int .i64 1)), .k (.p (.int .i64 2)), .k (.p (.int .i64 3))], [], none⟩,
    ⟨(some (94, true)), .call (some 97) 21 [.t 95, .t 96], [], none⟩,
    ⟨none, .val 98 .pick [.t 94, .t 97, .k (.p (.bool false))], [], none⟩,
    ⟨none, .val 99 .mov [.t 98], [], none⟩,
    ⟨(some (99, true)), .val 100 .mov [.t 4], [], none⟩,
    ⟨(some (99, true)), .val 101 (.bin .eql) [.t 100, .k (.p (.int .i64 1))], [], none⟩,
    ⟨none, .val 102 .pick [.t 99, .t 101, .k (.p (.bool false))], [], none⟩,
    ⟨none, .val 103 .mov [.t 102], [], none⟩,
    ⟨(some (103, true)), .val 104 .mov [.t 5], [], none⟩,
    ⟨(some (103, true)), .val 105 (.bin .eql) [.t 104, .k (.p (.int .i64 3))], [], none⟩,
    ⟨none, .val 106 .pick [.t 103, .t 105, .k (.p (.bool false))], [], none⟩,
    ⟨none, .val 107 .mov [.t 106], [], none⟩,
    ⟨(some (107, true)), .val 108 .mov [.t 7], [], none⟩,
    ⟨(some (107, true)), .val 109 (.bin .eql) [.t 108, .k (.p (.int .i64 57))], [], none⟩,
    ⟨none, .val 110 .pick [.t 107, .t 109, .k (.p (.bool false))], [], none⟩,
    ⟨none, .val 111 .mov [.t 110], [], none⟩,
    ⟨(some (111, true)), .val 112 .mov [.t 9], [], none⟩,
    ⟨(some (111, true)), .val 113 (.bin .eql) [.t 112, .k (.p (.int .i64 9657))], [], none⟩,
    ⟨none, .val 114 .pick [.t 111, .t 113, .k (.p (.bool false))], [], none⟩,
    ⟨none, .val 115 .mov [.t 114], [], none⟩,
    ⟨(some (115, true)), .val 116 .mov [.t 11], [], none⟩,
    ⟨(some (115, true)), .litP 117 1 [.k (.p (.int .i64 5)), .k (.p (.int .i64 3)), .k (.p (.int .i64 1))], [], none⟩,
    ⟨(some (115, true)), .call (some 118) 23 [.t 116, .t 117], [], none⟩,
    ⟨none, .val 119 .pick [.t 115, .t 118, .k (.p (.bool false))], [], none⟩,
    ⟨none, .val 120 .mov [.t 119], [], none⟩,
    ⟨(some (120, true)), .val 121 .mov [.t 13], [], none⟩,
    ⟨none, .val 122 .pick [.t 120, .t 121, .k (.p (.bool false))], [], none⟩,
    ⟨none, .val 123 .mov [.t 122], [], none⟩,
    ⟨(some (123, true)), .val 124 .mov [.t 15], [], none⟩,
    ⟨(some (123, true)), .litP 125 1 [.k (.p (.int .i64 0)), .k (.p (.int .i64 2)), .k (.p (.int .i64 4))], [], none⟩,
    ⟨(some (123, true)), .call (some 126) 21 [.t 124, .t 125], [], none⟩,
    ⟨none, .val 127 .pick [.t 123, .t 126, .k (.p (.bool false))], [], none⟩,
    ⟨none, .val 128 .mov [.t 127], [], none⟩,
    ⟨(some (128, true)), .val 129 .mov [.t 16], [], none⟩,
    ⟨none, .val 130 .pick [.t 128, .t 129, .k (.p (.bool false))], [], none⟩,
    ⟨none, .val 131 .mov [.t 130], [], none⟩,
    ⟨(some (131, true)), .load 132 (.t 1) 3 true, [], none⟩,
    ⟨(some (131, true)), .litP 133 1 [.k (.p (.int .i64 0)), .k (.p (.int .i64 4))], [], none⟩,
    ⟨(some (131, true)), .call (some 134) 19 [.t 132, .t 133], [], none⟩,
    ⟨(some (131, true)), .val 135 (.bin .eql) [.t 134, .k (.p (.int .i64 310))], [], none⟩,
    ⟨none, .val 136 .pick [.t 131, .t 135, .k (.p (.bool false))], [], none⟩,
    ⟨none, .val 0 .mov [.t 136], [], none⟩]
def r10_10 : IC := (.reg o10_10 [0])
def b10 : IC := (.seq r10_0 (.seq r10_1 (.seq r10_2 (.seq r10_3 (.seq r10_4 (.seq r10_5 (.seq r10_6 (.seq r10_7 (.seq r10_8 (.seq r10_9 (.seq r10_10 .ret)))))))))))
def i10 : IFn := ⟨0, 137, b10, [.tmp 0]⟩
def o11_0 : List IOp := [⟨none, .boxL 1 (.t 0), [], none⟩,
    ⟨none, .newL 2 [.p (.int .i64 0), .p (.sl 1 true []), .p (.sl 4 true [])], [], none⟩]
def r11_0 : IC := (.reg o11_0 [1, 2])
def o11_1 : List IOp := [⟨none, .val 3 (.faddr 1) [.t 1], [], none⟩,
    ⟨none, .loadL 4 (.t 3) 1 false, [0], none⟩,
    ⟨none, .val 5 (.faddr 1) [.t 1], [], none⟩,
    ⟨none, .loadL 6 (.t 5) 1 false, [2], none⟩,
    ⟨none, .val 7 .len [.t 6], [2, 3], none⟩,
    ⟨none, .val 8 .min [.t 7, .k (.p (.int .i64 20))], [2, 3, 4], none⟩,
    ⟨none, .val 9 (.slice 1 false true false) [.t 4, .t 8], [0, 1, 2, 3, 4, 5], none⟩,
    ⟨none, .val 10 (.faddr 2) [.t 1], [], none⟩,
    ⟨none, .loadL 11 (.t 10) 1 false, [7], none⟩,
    ⟨none, .val 12 (.faddr 2) [.t 1], [], none⟩,
    ⟨none, .loadL 13 (.t 12) 1 false, [9], none⟩,
    ⟨none, .val 14 .len [.t 13], [9, 10], none⟩,
    ⟨none, .val 15 .min [.t 14, .k (.p (.int .i64 30))], [9, 10, 11], none⟩,
    ⟨none, .val 16 (.slice 4 false true false) [.t 11, .t 15], [7, 8, 9, 10, 11, 12], none⟩,
    ⟨none, .val 17 (.faddr 1) [.t 1], [0, 1, 2, 3, 4, 5, 6, 7, 8, 9, 10], none⟩,
    ⟨none, .store (.t 17) (.t 9) 1, [0, 1, 2, 3, 4, 5, 6, 7, 8, 9, 10, 14], none⟩,
    ⟨none, .val 18 (.faddr 2) [.t 1], [0, 1, 2, 3, 4, 5, 6, 7, 8, 9, 10, 11, 12, 13, 14, 15], none⟩,
    ⟨none, .store (.t 18) (.t 16) 1, [0, 1, 2, 3, 4, 5, 6, 7, 8, 9, 10, 11, 12, 13, 14, 15, 16], none⟩]
def r11_1 : IC := (.regD o11_1 [1, 2])
def o11_2 : List IOp := [⟨none, .load 19 (.t 1) 3 true, [], none⟩,
    ⟨none, .store (.t 2) (.t 19) 3, [], none⟩]
def r11_2 : IC := (.reg o11_2 [2])
def b11 : IC := (.seq r11_0 (.seq r11_1 (.seq r11_2 .ret)))
def i11 : IFn := ⟨1, 20, b11, [.cell 2 3 true]⟩
def o12_0 : List IOp := [⟨none, .val 2 .mov [.k (.p (.sl 1 true []))], [], none⟩]
def r12_0 : IC := (.reg o12_0 [0])
def o12_1 : List IOp := [⟨none, .litP 3 1 [], [], none⟩,
    ⟨none, .val 4 .mov [.t 0], [], none⟩,
    ⟨none, .val 5 .mov [.t 0], [], none⟩,
    ⟨none, .val 6 .len [.t 5], [], none⟩,
    ⟨none, .val 7 .min [.t 6, .k (.p (.int .i64 12))], [], none⟩,
    ⟨none, .val 8 (.slice 1 false true false) [.t 4, .t 7], [], none⟩,
    ⟨none, .app 9 (.t 3) (.t 8) 1 8, [], none⟩,
    ⟨none, .val 2 .mov [.t 9], [], none⟩]
def r12_1 : IC := (.reg o12_1 [2])
def b12 : IC := (.seq r12_0 (.seq r12_1 .ret))
def i12 : IFn := ⟨1, 10, b12, [.tmp 2]⟩
def o13_0 : List IOp := [⟨none, .boxL 2 (.t 0), [], none⟩,
    ⟨none, .boxH 3 (.t 1), [], none⟩,
    ⟨none, .val 4 .mov [.k (.p (.sl 1 true []))], [], none⟩,
    ⟨none, .val 5 .mov [.k (.p (.int .i64 0))], [], none⟩]
def r13_0 : IC := (.reg o13_0 [2, 3])
def o13_1 : List IOp := [⟨none, .load 6 (.t 2) 3 true, [], none⟩,
    ⟨none, .load 7 (.t 3) 1 false, [], none⟩,
    ⟨none, .val 8 (.mkfn 36 0) [.t 3], [], none⟩,
    ⟨none, .call (some 9) 35 [.t 6, .t 7, .t 8], [], none⟩,
    ⟨none, .val 10 (.ext 0) [.t 9], [], none⟩,
    ⟨none, .val 11 (.ext 1) [.t 9], [], none⟩,
    ⟨none, .val 4 .mov [.t 10], [], none⟩,
    ⟨none, .val 5 .mov [.t 11], [], none⟩]
def r13_1 : IC := (.reg o13_1 [4, 5])
def b13 : IC := (.seq r13_0 (.seq r13_1 .ret))
def i13 : IFn := ⟨2, 12, b13, [.tmp 4, .tmp 5]⟩
def o14_0 : List IOp := [⟨none, .boxL 2 (.t 0), [], none⟩,
    ⟨none, .val 4 .mov [.k (.p (.int .i64 0))], [], none⟩,
    ⟨none, .val 5 .mov [.k (.p (.int .i64 0))], [], none⟩,
    ⟨none, .val 6 .mov [.k (.p (.int .i64 0))], [], none⟩]
def r14_0 : IC := (.reg o14_0 [1, 2])
def o14_1 : List IOp := [⟨none, .load 9 (.t 2) 3 true, [], none⟩,
    ⟨none, .val 10 .mov [.t 1], [], none⟩,
    ⟨none, .call (some 11) 13 [.t 9, .t 10], [], none⟩,
    ⟨none, .val 8 .mov [.t 11], [], none⟩,
    ⟨none, .val 12 (.ext 0) [.t 8], [], none⟩,
    ⟨none, .val 13 (.ext 1) [.t 8], [], none⟩,
    ⟨none, .val 7 .mov [.t 12], [], none⟩,
    ⟨none, .val 6 .mov [.t 13], [], none⟩]
def r14_1 : IC := (.reg o14_1 [6, 7])
def o14_2 : List IOp := [⟨none, .val 14 .mov [.t 6], [], none⟩,
    ⟨none, .val 15 (.bin .neq) [.t 14, .k (.p (.int .i64 0))], [], none⟩]
def r14_2 : IC := (.reg o14_2 [6, 7, 15])
def o14_3 : List IOp := [⟨none, .val 16 .mov [.t 6], [], none⟩,
    ⟨none, .val 4 .mov [.k (.p (.int .i64 0))], [], none⟩,
    ⟨none, .val 5 .mov [.k (.p (.int .i64 0))], [], none⟩,
    ⟨none, .val 6 .mov [.t 16], [], none⟩]
def r14_3 : IC := (.reg o14_3 [4, 5, 6])
def o14_4 : List IOp := [⟨none, .val 17 .mov [.t 7], [], none⟩,
    ⟨none, .val 18 (.iaddrS 1) [.t 17, .k (.p (.int .i64 0))], [0], none⟩,
    ⟨none, .load 19 (.t 18) 1 false, [0, 1], none⟩,
    ⟨none, .val 20 .mov [.t 7], [], none⟩,
    ⟨none, .val 21 .mov [.t 7], [], none⟩,
    ⟨none, .val 22 .len [.t 21], [4], none⟩,
    ⟨none, .val 23 (.bin .sub) [.t 22, .k (.p (.int .i64 1))], [4, 5], none⟩,
    ⟨none, .val 24 (.iaddrS 1) [.t 20, .t 23], [3, 4, 5, 6], none⟩,
    ⟨none, .load 25 (.t 24) 1 false, [3, 4, 5, 6, 7], none⟩,
    ⟨none, .val 4 .mov [.t 19], [0, 1, 2], none⟩,
    ⟨none, .val 5 .mov [.t 25], [0, 1, 2, 3, 4, 5, 6, 7, 8, 9], none⟩,
    ⟨none, .val 6 .mov [.k (.p (.int .i64 0))], [0, 1, 2, 3, 4, 5, 6, 7, 8, 9, 10], none⟩]
def r14_4 : IC := (.regD o14_4 [4, 5, 6])
def b14 : IC := (.seq r14_0 (.seq r14_1 (.seq (.seq r14_2 (.cond (.t 15) (.seq r14_3 .ret) .skip)) (.kp [7] (.seq r14_4 .ret)))))
def i14 : IFn := ⟨2, 26, b14, [.tmp 4, .tmp 5, .tmp 6]⟩
def o15_0 : List IOp := [⟨none, .boxL 2 (.t 0), [], none⟩,
    ⟨none, .boxH 3 (.t 1), [], none⟩,
    ⟨none, .val 4 .mov [.k (.p (.int .i64 0))], [], none⟩,
    ⟨none, .val 5 .mov [.k (.p (.int .i64 0))], [], none⟩]
def r15_0 : IC := (.reg o15_0 [2, 3])
def o15_1 : List IOp := [⟨none, .load 6 (.t 2) 3 true, [], none⟩,
    ⟨none, .load 7 (.t 3) 1 false, [], none⟩,
    ⟨none, .val 8 (.mkfn 39 0) [.t 3], [], none⟩,
    ⟨none, .call (some 9) 38 [.t 6, .t 7, .t 8], [], none⟩,
    ⟨none, .val 10 (.ext 0) [.t 9], [], none⟩,
    ⟨none, .val 11 (.ext 1) [.t 9], [], none⟩,
    ⟨none, .val 4 .mov [.t 10], [], none⟩,
    ⟨none, .val 5 .mov [.t 11], [], none⟩]
def r15_1 : IC := (.reg o15_1 [4, 5])
def b15 : IC := (.seq r15_0 (.seq r15_1 .ret))
def i15 : IFn := ⟨2, 12, b15, [.tmp 4, .tmp 5]⟩
def o16_0 : List IOp := [⟨none, .boxL 3 (.t 0), [], none⟩,
    ⟨none, .boxH 4 (.t 1), [], none⟩,
    ⟨none, .boxH 5 (.t 2), [], none⟩,
    ⟨none, .val 6 .mov [.k (.p (.int .i64 0))], [], none⟩,
    ⟨none, .val 7 .mov [.k (.p (.int .i64 0))], [], none⟩]
def r16_0 : IC := (.reg o16_0 [3, 4, 5])
def o16_1 : List IOp := [⟨none, .load 8 (.t 3) 3 true, [], none⟩,
    ⟨none, .load 9 (.t 4) 1 false, [], none⟩,
    ⟨none, .val 10 (.mkfn 42 0) [.t 5, .t 4], [], none⟩,
    ⟨none, .call (some 11) 38 [.t 8, .t 9, .t 10], [], none⟩,
    ⟨none, .val 12 (.ext 0) [.t 11], [], none⟩,
    ⟨none, .val 13 (.ext 1) [.t 11], [], none⟩,
    ⟨none, .val 6 .mov [.t 12], [], none⟩,
    ⟨none, .val 7 .mov [.t 13], [], none⟩]
def r16_1 : IC := (.reg o16_1 [6, 7])
def b16 : IC := (.seq r16_0 (.seq r16_1 .ret))
def i16 : IFn := ⟨3, 14, b16, [.tmp 6, .tmp 7]⟩
def o17_0 : List IOp := [⟨none, .boxL 2 (.t 0), [], none⟩,
    ⟨none, .boxH 3 (.t 1), [], none⟩,
    ⟨none, .val 4 .mov [.k (.p (.sl 1 true []))], [], none⟩,
    ⟨none, .val 5 .mov [.k (.p (.int .i64 0))], [], none⟩]
def r17_0 : IC := (.reg o17_0 [2, 3])
def o17_1 : List IOp := [⟨none, .load 6 (.t 2) 3 true, [], none⟩,
    ⟨none, .load 7 (.t 3) 1 false, [], none⟩,
    ⟨none, .val 8 (.mkfn 45 0) [.t 3], [], none⟩,
    ⟨none, .call (some 9) 44 [.t 6, .t 7, .t 8], [], none⟩,
    ⟨none, .val 10 (.ext 0) [.t 9], [], none⟩,
    ⟨none, .val 11 (.ext 1) [.t 9], [], none⟩,
    ⟨none, .val 4 .mov [.t 10], [], none⟩,
    ⟨none, .val 5 .mov [.t 11], [], none⟩]
def r17_1 : IC := (.reg o17_1 [4, 5])
def b17 : IC := (.seq r17_0 (.seq r17_1 .ret))
def i17 : IFn := ⟨2, 12, b17, [.tmp 4, .tmp 5]⟩
def o18_0 : List IOp := [⟨none, .boxL 2 (.t 0), [], none⟩,
    ⟨none, .val 4 .mov [.k (.p (.int .i64 0))], [], none⟩]
def r18_0 : IC := (.reg o18_0 [1, 2])
def o18_1 : List IOp := [⟨none, .load 7 (.t 2) 3 true, [], none⟩,
    ⟨none, .call (some 8) 48 [.t 7], [], none⟩,
    ⟨none, .val 9 .not [.t 8], [], none⟩]
def r18_1 : IC := (.reg o18_1 [1, 2, 9])
def o18_2 : List IOp := [⟨none, .val 4 .mov [.k (.p (.int .i64 260))], [], none⟩]
def r18_2 : IC := (.reg o18_2 [4])
def o18_3 : List IOp := [⟨none, .val 10 .mov [.t 1], [], none⟩,
    ⟨none, .val 11 .len [.t 10], [], none⟩,
    ⟨none, .val 12 .mov [.k (.p (.int .i64 0))], [], none⟩]
def r18_3 : IC := (.reg o18_3 [2, 10, 11, 12])
def o18_4 : List IOp := [⟨none, .val 13 (.bin .lss) [.t 12, .t 11], [], none⟩]
def r18_4 : IC := (.reg o18_4 [2, 10, 11, 12, 13])
def o18_5 : List IOp := [⟨none, .val 14 (.iaddrS 1) [.t 10, .t 12], [], none⟩,
    ⟨none, .load 15 (.t 14) 1 false, [], none⟩,
    ⟨none, .val 6 .mov [.t 15], [], none⟩]
def r18_5 : IC := (.reg o18_5 [2, 6, 10, 11, 12])
def o18_6 : List IOp := [⟨none, .load 16 (.t 2) 3 true, [], none⟩,
    ⟨none, .val 17 .mov [.t 6], [], none⟩,
    ⟨none, .call (some 18) 49 [.t 16, .t 17], [], none⟩,
    ⟨none, .val 19 .not [.t 18], [], none⟩]
def r18_6 : IC := (.reg o18_6 [2, 10, 11, 12, 19])
def o18_7 : List IOp := [⟨none, .val 4 .mov [.k (.p (.int .i64 310))], [], none⟩]
def r18_7 : IC := (.reg o18_7 [4])
def o18_8 : List IOp := [⟨none, .val 20 (.bin .add) [.t 12, .k (.p (.int .i64 1))], [], none⟩,
    ⟨none, .val 12 .mov [.t 20], [], none⟩]
def r18_8 : IC := (.reg o18_8 [2, 10, 11, 12])
def l18_1 : IC := (.seq r18_4 (.seq (.cond (.t 13) .skip (.kp [] (.exit 0))) (.kp [2, 10, 11, 12] (.seq (.block 1 (.seq r18_5 (.seq r18_6 (.cond (.t 19) (.seq r18_7 .ret) .skip)))) (.kp [2, 10, 11, 12] r18_8)))))
def o18_9 : List IOp := [⟨none, .val 4 .mov [.k (.p (.int .i64 0))], [], none⟩]
def r18_9 : IC := (.reg o18_9 [4])
def b18 : IC := (.seq r18_0 (.seq (.seq r18_1 (.cond (.t 9) (.seq r18_2 .ret) .skip)) (.kp [1, 2] (.seq (.seq r18_3 (.block 0 (.loop l18_1))) (.seq r18_9 .ret)))))
def i18 : IFn := ⟨2, 21, b18, [.tmp 4]⟩
def o19_0 : List IOp := [⟨none, .boxL 2 (.t 0), [], none⟩,
    ⟨none, .val 4 .mov [.k (.p (.int .i64 0))], [], none⟩]
def r19_0 : IC := (.reg o19_0 [1, 2])
def o19_1 : List IOp := [⟨none, .load 6 (.t 2) 3 true, [], none⟩,
    ⟨none, .call (some 7) 50 [.t 6], [], none⟩,
    ⟨none, .val 5 .mov [.t 7], [], none⟩]
def r19_1 : IC := (.reg o19_1 [1, 2, 5])
def o19_2 : List IOp := [⟨none, .val 8 .mov [.t 5], [], none⟩,
    ⟨none, .val 9 (.bin .neq) [.t 8, .k (.p (.int .i64 0))], [], none⟩]
def r19_2 : IC := (.reg o19_2 [1, 2, 5, 9])
def o19_3 : List IOp := [⟨none, .val 10 .mov [.t 5], [], none⟩,
    ⟨none, .val 4 .mov [.t 10], [], none⟩]
def r19_3 : IC := (.reg o19_3 [4])
def o19_4 : List IOp := [⟨none, .load 11 (.t 2) 3 true, [], none⟩,
    ⟨none, .val 12 (.build [.p (.int .i64 0), .p (.sl 1 true []), .p (.sl 4 true [])] [(0, 3)]) [.t 11], [], none⟩,
    ⟨none, .val 13 .mov [.t 1], [], none⟩,
    ⟨none, .call (some 14) 51 [.t 12, .t 13], [], none⟩,
    ⟨none, .val 15 .not [.t 14], [], none⟩]
def r19_4 : IC := (.reg o19_4 [15])
def o19_5 : List IOp := [⟨none, .val 4 .mov [.k (.p (.int .i64 310))], [], none⟩]
def r19_5 : IC := (.reg o19_5 [4])
def o19_6 : List IOp := [⟨none, .val 4 .mov [.k (.p (.int .i64 0))], [], none⟩]
def r19_6 : IC := (.reg o19_6 [4])
def b19 : IC := (.seq r19_0 (.seq (.seq r19_1 (.seq r19_2 (.cond (.t 9) (.seq r19_3 .ret) .skip))) (.kp [1, 2] (.seq (.seq r19_4 (.cond (.t 15) (.seq r19_5 .ret) .skip)) (.kp [] (.seq r19_6 .ret))))))
def i19 : IFn := ⟨2, 16, b19, [.tmp 4]⟩
def o20_0 : List IOp := [⟨none, .boxL 2 (.t 0), [], none⟩,
    ⟨none, .val 4 .mov [.k (.p (.sl 1 true []))], [], none⟩]
def r20_0 : IC := (.reg o20_0 [1, 2])
def o20_1 : List IOp := [⟨none, .loadL 7 (.t 2) 3 true, [], none⟩,
    ⟨none, .val 8 .mov [.t 1], [], none⟩,
    ⟨none, .val 9 (.iaddrS 1) [.t 8, .k (.p (.int .i64 0))], [1], none⟩,
    ⟨none, .load 10 (.t 9) 1 false, [1, 2], none⟩,
    ⟨none, .callP 11 52 [.t 7, .t 10], [0, 1, 2, 3], none⟩,
    ⟨none, .litSl 12 1 [.t 11], [0, 1, 2, 3, 4], none⟩,
    ⟨none, .val 5 .mov [.t 12], [0, 1, 2, 3, 4, 5], none⟩]
def r20_1 : IC := (.regD o20_1 [1, 2, 5])
def o20_2 : List IOp := [⟨none, .val 6 .mov [.k (.p (.int .i64 0))], [], none⟩]
def r20_2 : IC := (.reg o20_2 [1, 2, 5, 6])
def o20_3 : List IOp := [⟨none, .val 13 .mov [.t 6], [], none⟩,
    ⟨none, .val 14 .mov [.t 1], [], none⟩,
    ⟨none, .val 15 .len [.t 14], [], none⟩,
    ⟨none, .val 16 (.bin .lss) [.t 13, .t 15], [], none⟩]
def r20_3 : IC := (.reg o20_3 [1, 2, 5, 6, 16])
def o20_5 : List IOp := [⟨none, .val 19 .mov [.t 5], [], none⟩,
    ⟨none, .loadL 20 (.t 2) 3 true, [], none⟩,
    ⟨none, .val 21 .mov [.t 1], [], none⟩,
    ⟨none, .val 22 .mov [.t 6], [], none⟩,
    ⟨none, .val 23 (.iaddrS 1) [.t 21, .t 22], [2, 3], none⟩,
    ⟨none, .load 24 (.t 23) 1 false, [2, 3, 4], none⟩,
    ⟨none, .callP 25 53 [.t 20, .t 24], [1, 2, 3, 4, 5], none⟩,
    ⟨none, .litP 26 1 [.t 25], [1, 2, 3, 4, 5, 6], none⟩,
    ⟨none, .app 27 (.t 19) (.t 26) 1 8, [0, 1, 2, 3, 4, 5, 6, 7], none⟩,
    ⟨none, .val 5 .mov [.t 27], [0, 1, 2, 3, 4, 5, 6, 7, 8], none⟩]
def r20_5 : IC := (.regD o20_5 [1, 2, 5, 6])
def o20_4 : List IOp := [⟨none, .val 17 .mov [.t 6], [], none⟩,
    ⟨none, .val 18 (.bin .add) [.t 17, .k (.p (.int .i64 1))], [], none⟩,
    ⟨none, .val 6 .mov [.t 18], [], none⟩]
def r20_4 : IC := (.reg o20_4 [1, 2, 5, 6])
def l20_1 : IC := (.seq (.seq r20_3 (.cond (.t 16) .skip (.kp [5] (.exit 0)))) (.kp [1, 2, 5, 6] (.seq (.block 1 r20_5) r20_4)))
def o20_6 : List IOp := [⟨none, .val 28 .mov [.t 5], [], none⟩,
    ⟨none, .val 4 .mov [.t 28], [], none⟩]
def r20_6 : IC := (.reg o20_6 [4])
def b20 : IC := (.seq r20_0 (.seq r20_1 (.seq (.seq r20_2 (.block 0 (.loop l20_1))) (.seq r20_6 .ret))))
def i20 : IFn := ⟨2, 29, b20, [.tmp 4]⟩
def o21_0 : List IOp := [⟨none, .val 4 .mov [.k (.p (.bool false))], [], none⟩]
def r21_0 : IC := (.reg o21_0 [0, 1])
def o21_1 : List IOp := [⟨none, .val 6 .mov [.t 0], [], none⟩,
    ⟨none, .val 7 .len [.t 6], [], none⟩,
    ⟨none, .val 8 .mov [.t 1], [], none⟩,
    ⟨none, .val 9 .len [.t 8], [], none⟩,
    ⟨none, .val 10 (.bin .neq) [.t 7, .t 9], [], none⟩]
def r21_1 : IC := (.reg o21_1 [0, 1, 10])
def o21_2 : List IOp := [⟨none, .val 4 .mov [.k (.p (.bool false))], [], none⟩]
def r21_2 : IC := (.reg o21_2 [4])
def o21_3 : List IOp := [⟨none, .val 11 .mov [.t 0], [], none⟩,
    ⟨none, .val 12 .len [.t 11], [], none⟩,
    ⟨none, .val 13 .mov [.k (.p (.int .i64 0))], [], none⟩]
def r21_3 : IC := (.reg o21_3 [0, 1, 12, 13])
def o21_4 : List IOp := [⟨none, .val 14 (.bin .lss) [.t 13, .t 12], [], none⟩]
def r21_4 : IC := (.reg o21_4 [0, 1, 12, 13, 14])
def o21_5 : List IOp := [⟨none, .val 15 .mov [.t 13], [], none⟩,
    ⟨none, .val 5 .mov [.t 15], [], none⟩]
def r21_5 : IC := (.reg o21_5 [0, 1, 5, 12, 13])
def o21_6 : List IOp := [⟨none, .val 16 .mov [.t 0], [], none⟩,
    ⟨none, .val 17 .mov [.t 5], [], none⟩,
    ⟨none, .val 18 (.iaddrS 1) [.t 16, .t 17], [0, 1], none⟩,
    ⟨none, .load 19 (.t 18) 1 false, [0, 1, 2], none⟩,
    ⟨none, .val 20 .mov [.t 1], [], none⟩,
    ⟨none, .val 21 .mov [.t 5], [], none⟩,
    ⟨none, .val 22 (.iaddrS 1) [.t 20, .t 21], [4, 5], none⟩,
    ⟨none, .load 23 (.t 22) 1 false, [4, 5, 6], none⟩,
    ⟨none, .val 24 (.bin .neq) [.t 19, .t 23], [0, 1, 2, 3, 4, 5, 6, 7], none⟩]
def r21_6 : IC := (.regD o21_6 [0, 1, 12, 13, 24])
def o21_7 : List IOp := [⟨none, .val 4 .mov [.k (.p (.bool false))], [], none⟩]
def r21_7 : IC := (.reg o21_7 [4])
def o21_8 : List IOp := [⟨none, .val 25 (.bin .add) [.t 13, .k (.p (.int .i64 1))], [], none⟩,
    ⟨none, .val 13 .mov [.t 25], [], none⟩]
def r21_8 : IC := (.reg o21_8 [0, 1, 12, 13])
def l21_1 : IC := (.seq r21_4 (.seq (.cond (.t 14) .skip (.kp [] (.exit 0))) (.kp [0, 1, 12, 13] (.seq (.block 1 (.seq r21_5 (.seq r21_6 (.cond (.t 24) (.seq r21_7 .ret) .skip)))) (.kp [0, 1, 12, 13] r21_8)))))
def o21_9 : List IOp := [⟨none, .val 4 .mov [.k (.p (.bool true))], [], none⟩]
def r21_9 : IC := (.reg o21_9 [4])
def b21 : IC := (.seq r21_0 (.seq (.seq r21_1 (.cond (.t 10) (.seq r21_2 .ret) .skip)) (.kp [0, 1] (.seq (.seq r21_3 (.block 0 (.loop l21_1))) (.seq r21_9 .ret)))))
def i21 : IFn := ⟨2, 26, b21, [.tmp 4]⟩
def o23_0 : List IOp := [⟨none, .val 4 .mov [.k (.p (.bool false))], [], none⟩]
def r23_0 : IC := (.reg o23_0 [0, 1])
def o23_1 : List IOp := [⟨none, .val 6 .mov [.t 0], [], none⟩,
    ⟨none, .val 7 .len [.t 6], [], none⟩,
    ⟨none, .val 8 .mov [.t 1], [], none⟩,
    ⟨none, .val 9 .len [.t 8], [], none⟩,
    ⟨none, .val 10 (.bin .neq) [.t 7, .t 9], [], none⟩]
def r23_1 : IC := (.reg o23_1 [0, 1, 10])
def o23_2 : List IOp := [⟨none, .val 4 .mov [.k (.p (.bool false))], [], none⟩]
def r23_2 : IC := (.reg o23_2 [4])
def o23_3 : List IOp := [⟨none, .val 11 .mov [.t 0], [], none⟩,
    ⟨none, .val 12 .len [.t 11], [], none⟩,
    ⟨none, .val 13 .mov [.k (.p (.int .i64 0))], [], none⟩]
def r23_3 : IC := (.reg o23_3 [0, 1, 12, 13])
def o23_4 : List IOp := [⟨none, .val 14 (.bin .lss) [.t 13, .t 12], [], none⟩]
def r23_4 : IC := (.reg o23_4 [0, 1, 12, 13, 14])
def o23_5 : List IOp := [⟨none, .val 15 .mov [.t 13], [], none⟩,
    ⟨none, .val 5 .mov [.t 15], [], none⟩]
def r23_5 : IC := (.reg o23_5 [0, 1, 5, 12, 13])
def o23_6 : List IOp := [⟨none, .val 16 .mov [.t 0], [], none⟩,
    ⟨none, .val 17 .mov [.t 5], [], none⟩,
    ⟨none, .val 18 (.iaddrS 1) [.t 16, .t 17], [0, 1], none⟩,
    ⟨none, .load 19 (.t 18) 1 false, [0, 1, 2], none⟩,
    ⟨none, .val 20 .mov [.t 1], [], none⟩,
    ⟨none, .val 21 .mov [.t 5], [], none⟩,
    ⟨none, .val 22 (.iaddrS 1) [.t 20, .t 21], [4, 5], none⟩,
    ⟨none, .load 23 (.t 22) 1 false, [4, 5, 6], none⟩,
    ⟨none, .val 24 (.bin .neq) [.t 19, .t 23], [0, 1, 2, 3, 4, 5, 6, 7], none⟩]
def r23_6 : IC := (.regD o23_6 [0, 1, 12, 13, 24])
def o23_7 : List IOp := [⟨none, .val 4 .mov [.k (.p (.bool false))], [], none⟩]
def r23_7 : IC := (.reg o23_7 [4])
def o23_8 : List IOp := [⟨none, .val 25 (.bin .add) [.t 13, .k (.p (.int .i64 1))], [], none⟩,
    ⟨none, .val 13 .mov [.t 25], [], none⟩]
def r23_8 : IC := (.reg o23_8 [0, 1, 12, 13])
def l23_1 : IC := (.seq r23_4 (.seq (.cond (.t 14) .skip (.kp [] (.exit 0))) (.kp [0, 1, 12, 13] (.seq (.block 1 (.seq r23_5 (.seq r23_6 (.cond (.t 24) (.seq r23_7 .ret) .skip)))) (.kp [0, 1, 12, 13] r23_8)))))
def o23_9 : List IOp := [⟨none, .val 4 .mov [.k (.p (.bool true))], [], none⟩]
def r23_9 : IC := (.reg o23_9 [4])
def b23 : IC := (.seq r23_0 (.seq (.seq r23_1 (.cond (.t 10) (.seq r23_2 .ret) .skip)) (.kp [0, 1] (.seq (.seq r23_3 (.block 0 (.loop l23_1))) (.seq r23_9 .ret)))))
def i23 : IFn := ⟨2, 26, b23, [.tmp 4]⟩
def o26_0 : List IOp := [⟨none, .boxL 3 (.t 0), [], none⟩,
    ⟨none, .boxH 4 (.t 1), [], none⟩,
    ⟨none, .boxH 5 (.t 2), [], none⟩,
    ⟨none, .val 6 .mov [.k (.p (.bool false))], [], none⟩,
    ⟨none, .val 7 .mov [.k (.p (.int .i64 0))], [], none⟩]
def r26_0 : IC := (.reg o26_0 [3, 4, 5])
def o26_1 : List IOp := [⟨none, .load 8 (.t 3) 3 true, [], none⟩,
    ⟨none, .load 9 (.t 4) 1 false, [], none⟩,
    ⟨none, .val 10 (.mkfn 58 0) [.t 5, .t 4], [], none⟩,
    ⟨none, .call (some 11) 57 [.t 8, .t 9, .t 10], [], none⟩,
    ⟨none, .val 12 (.ext 0) [.t 11], [], none⟩,
    ⟨none, .val 13 (.ext 1) [.t 11], [], none⟩,
    ⟨none, .val 6 .mov [.t 12], [], none⟩,
    ⟨none, .val 7 .mov [.t 13], [], none⟩]
def r26_1 : IC := (.reg o26_1 [6, 7])
def b26 : IC := (.seq r26_0 (.seq r26_1 .ret))
def i26 : IFn := ⟨3, 14, b26, [.tmp 6, .tmp 7]⟩
def o28_0 : List IOp := [⟨none, .boxL 2 (.t 0), [], none⟩,
    ⟨none, .val 4 .mov [.k (.p (.sl 1 true []))], [], none⟩,
    ⟨none, .val 5 .mov [.k (.p (.bool false))], [], none⟩,
    ⟨none, .val 6 .mov [.k (.p (.int .i64 0))], [], none⟩]
def r28_0 : IC := (.reg o28_0 [1, 2])
def o28_1 : List IOp := [⟨none, .load 22 (.t 2) 3 true, [], none⟩,
    ⟨none, .call (some 23) 50 [.t 22], [], none⟩,
    ⟨none, .val 7 .mov [.t 23], [], none⟩]
def r28_1 : IC := (.reg o28_1 [1, 2, 7])
def o28_2 : List IOp := [⟨none, .val 24 .mov [.t 7], [], none⟩,
    ⟨none, .val 25 (.bin .neq) [.t 24, .k (.p (.int .i64 0))], [], none⟩]
def r28_2 : IC := (.reg o28_2 [1, 2, 7, 25])
def o28_3 : List IOp := [⟨none, .val 26 .mov [.t 7], [], none⟩,
    ⟨none, .val 4 .mov [.k (.p (.sl 1 true []))], [], none⟩,
    ⟨none, .val 5 .mov [.k (.p (.bool false))], [], none⟩,
    ⟨none, .val 6 .mov [.t 26], [], none⟩]
def r28_3 : IC := (.reg o28_3 [4, 5, 6])
def o28_4 : List IOp := [⟨none, .load 27 (.t 2) 3 true, [], none⟩,
    ⟨none, .val 28 (.build [.p (.int .i64 0), .p (.sl 1 true []), .p (.sl 4 true [])] [(0, 3)]) [.t 27], [], none⟩,
    ⟨none, .newL 8 [.p (.int .i64 0), .p (.sl 1 true []), .p (.sl 4 true [])], [], none⟩,
    ⟨none, .store (.t 8) (.t 28) 3, [], none⟩]
def r28_4 : IC := (.reg o28_4 [1, 8])
def o28_5 : List IOp := [⟨none, .val 29 .mov [.t 1], [], none⟩,
    ⟨none, .val 30 .len [.t 29], [], none⟩,
    ⟨none, .val 31 .mov [.k (.p (.int .i64 0))], [], none⟩]
def r28_5 : IC := (.reg o28_5 [1, 8, 29, 30, 31])
def o28_6 : List IOp := [⟨none, .val 32 (.bin .lss) [.t 31, .t 30], [], none⟩]
def r28_6 : IC := (.reg o28_6 [1, 8, 29, 30, 31, 32])
def o28_7 : List IOp := [⟨none, .val 33 (.iaddrS 1) [.t 29, .t 31], [], none⟩,
    ⟨none, .load 34 (.t 33) 1 false, [], none⟩,
    ⟨none, .val 10 .mov [.t 34], [], none⟩]
def r28_7 : IC := (.reg o28_7 [1, 8, 10, 29, 30, 31])
def o28_8 : List IOp := [⟨none, .load 35 (.t 8) 3 true, [], none⟩,
    ⟨none, .val 36 .mov [.t 10], [], none⟩,
    ⟨none, .call (some 37) 51 [.t 35, .t 36], [], none⟩,
    ⟨none, .val 38 .not [.t 37], [], none⟩]
def r28_8 : IC := (.reg o28_8 [1, 8, 29, 30, 31, 38])
def o28_9 : List IOp := [⟨none, .val 4 .mov [.k (.p (.sl 1 true []))], [], none⟩,
    ⟨none, .val 5 .mov [.k (.p (.bool false))], [], none⟩,
    ⟨none, .val 6 .mov [.k (.p (.int .i64 310))], [], none⟩]
def r28_9 : IC := (.reg o28_9 [4, 5, 6])
def o28_10 : List IOp := [⟨none, .val 39 (.bin .add) [.t 31, .k (.p (.int .i64 1))], [], none⟩,
    ⟨none, .val 31 .mov [.t 39], [], none⟩]
def r28_10 : IC := (.reg o28_10 [1, 8, 29, 30, 31])
def l28_1 : IC := (.seq r28_6 (.seq (.cond (.t 32) .skip (.kp [1, 8] (.exit 0))) (.kp [1, 8, 29, 30, 31] (.seq (.block 1 (.seq r28_7 (.seq r28_8 (.cond (.t 38) (.seq r28_9 .ret) .skip)))) (.kp [1, 8, 29, 30, 31] r28_10)))))
def o28_11 : List IOp := [⟨none, .newH 11 (List.replicate 48 (.p (.bool false))), [], none⟩]
def r28_11 : IC := (.reg o28_11 [1, 8, 11])
def o28_12 : List IOp := [⟨none, .newH 12 [.p (.int .i64 0), .p (.int .i64 0), .p (.int .i64 0), .p (.int .i64 0), .p (.int .i64 0), .p (.int .i64 0), .p (.int .i64 0), .p (.int .i64 0), .p (.int .i64 0), .p (.int .i64 0), .p (.int .i64 0), .p (.int .i64 0)], [], none⟩]
def r28_12 : IC := (.reg o28_12 [1, 8, 11, 12])
def o28_13 : List IOp := [⟨none, .newH 13 [.p (.int .i64 0)], [], none⟩,
    ⟨none, .newH 14 [.p (.bool false)], [], none⟩,
    ⟨none, .store (.t 13) (.k (.p (.int .i64 (-1)))) 1, [], none⟩,
    ⟨none, .store (.t 14) (.k (.p (.bool true))) 1, [], none⟩]
def r28_13 : IC := (.reg o28_13 [1, 8, 11, 12, 13, 14])
def o28_14 : List IOp := [⟨none, .val 40 .mov [.t 1], [], none⟩,
    ⟨none, .val 41 .len [.t 40], [], none⟩,
    ⟨none, .val 42 .mov [.k (.p (.int .i64 0))], [], none⟩]
def r28_14 : IC := (.reg o28_14 [8, 11, 12, 13, 14, 40, 41, 42])
def o28_15 : List IOp := [⟨none, .val 43 (.bin .lss) [.t 42, .t 41], [], none⟩]
def r28_15 : IC := (.reg o28_15 [8, 11, 12, 13, 14, 40, 41, 42, 43])
def o28_16 : List IOp := [⟨none, .val 44 (.iaddrS 1) [.t 40, .t 42], [], none⟩,
    ⟨none, .load 45 (.t 44) 1 false, [], none⟩,
    ⟨none, .val 16 .mov [.t 45], [], none⟩]
def r28_16 : IC := (.reg o28_16 [8, 11, 12, 13, 14, 16, 40, 41, 42])
def o28_17 : List IOp := [⟨none, .load 46 (.t 8) 3 true, [], none⟩,
    ⟨none, .val 47 .mov [.t 16], [], none⟩,
    ⟨none, .call (some 48) 62 [.t 46, .t 47], [], none⟩]
def r28_17 : IC := (.reg o28_17 [8, 11, 12, 13, 14, 40, 41, 42, 48])
def o28_18 : List IOp := [⟨none, .val 17 .mov [.t 49], [], none⟩]
def r28_18 : IC := (.reg o28_18 [11, 12, 13, 14, 17, 50])
def o28_19 : List IOp := [⟨none, .newL 18 [.p (.int .i64 0), .p (.int .i64 0), .p (.int .i64 0)], [], none⟩,
    ⟨none, .store (.t 18) (.t 50) 3, [], none⟩]
def r28_19 : IC := (.reg o28_19 [11, 12, 13, 14, 17, 18])
def o28_20 : List IOp := [⟨none, .val 51 .mov [.t 17], [], none⟩,
    ⟨none, .val 52 (.bin .eql) [.t 51, .k (.p (.int .i64 0))], [], none⟩,
    ⟨none, .val 53 .mov [.t 52], [], none⟩,
    ⟨(some (53, true)), .load 54 (.t 13) 1 false, [], none⟩,
    ⟨(some (53, true)), .val 55 (.bin .lss) [.t 54, .k (.p (.int .i64 0))], [], none⟩,
    ⟨none, .val 56 .pick [.t 53, .t 55, .k (.p (.bool false))], [], none⟩]
def r28_20 : IC := (.reg o28_20 [11, 12, 13, 14, 17, 18, 56])
def o28_21 : List IOp := [⟨none, .val 57 (.faddr 1) [.t 18], [], none⟩,
    ⟨none, .load 58 (.t 57) 1 false, [], none⟩,
    ⟨none, .store (.t 13) (.t 58) 1, [], none⟩]
def r28_21 : IC := (.reg o28_21 [11, 12, 13, 14, 17, 18])
def o28_22 : List IOp := [⟨none, .val 59 .mov [.t 17], [], none⟩,
    ⟨none, .val 60 (.bin .eql) [.t 59, .k (.p (.int .i64 0))], [0], none⟩,
    ⟨none, .val 61 .mov [.t 60], [0, 1], none⟩,
    ⟨(some (61, true)), .load 62 (.t 13) 1 false, [0, 1, 2], none⟩,
    ⟨(some (61, true)), .val 63 (.faddr 1) [.t 18], [0, 1, 2], none⟩,
    ⟨(some (61, true)), .loadL 64 (.t 63) 1 false, [0, 1, 2, 4], none⟩,
    ⟨(some (61, true)), .val 65 (.bin .neq) [.t 62, .t 64], [0, 1, 2, 3, 4, 5], none⟩,
    ⟨none, .val 66 .pick [.t 61, .t 65, .k (.p (.bool false))], [0, 1, 2, 3, 4, 5, 6], none⟩,
    ⟨none, .val 67 .mov [.t 66], [0, 1, 2, 3, 4, 5, 6, 7], none⟩,
    ⟨(some (67, false)), .val 68 (.faddr 2) [.t 18], [0, 1, 2, 3, 4, 5, 6, 7, 8], none⟩,
    ⟨(some (67, false)), .loadL 69 (.t 68) 1 false, [0, 1, 2, 3, 4, 5, 6, 7, 8, 9], none⟩,
    ⟨(some (67, false)), .val 70 (.iaddr 12 1) [.t 12, .t 69], [0, 1, 2, 3, 4, 5, 6, 7, 8, 9, 10], none⟩,
    ⟨(some (67, false)), .load 71 (.t 70) 1 false, [0, 1, 2, 3, 4, 5, 6, 7, 8, 9, 10, 11], none⟩,
    ⟨(some (67, false)), .val 72 (.bin .neq) [.t 71, .k (.p (.int .i64 0))], [0, 1, 2, 3, 4, 5, 6, 7, 8, 9, 10, 11, 12], none⟩,
    ⟨(some (67, false)), .val 73 .mov [.t 72], [0, 1, 2, 3, 4, 5, 6, 7, 8, 9, 10, 11, 12, 13], none⟩,
    ⟨(some (73, true)), .val 74 (.faddr 2) [.t 18], [0, 1, 2, 3, 4, 5, 6, 7, 8, 9, 10, 11, 12, 13, 14], none⟩,
    ⟨(some (73, true)), .loadL 75 (.t 74) 1 false, [0, 1, 2, 3, 4, 5, 6, 7, 8, 9, 10, 11, 12, 13, 14, 15], none⟩,
    ⟨(some (73, true)), .val 76 (.iaddr 12 1) [.t 12, .t 75], [0, 1, 2, 3, 4, 5, 6, 7, 8, 9, 10, 11, 12, 13, 14, 15, 16], none⟩,
    ⟨(some (73, true)), .load 77 (.t 76) 1 false, [0, 1, 2, 3, 4, 5, 6, 7, 8, 9, 10, 11, 12, 13, 14, 15, 16, 17], none⟩,
    ⟨(some (73, true)), .val 78 (.faddr 0) [.t 18], [0, 1, 2, 3, 4, 5, 6, 7, 8, 9, 10, 11, 12, 13, 14], none⟩,
    ⟨(some (73, true)), .loadL 79 (.t 78) 1 false, [0, 1, 2, 3, 4, 5, 6, 7, 8, 9, 10, 11, 12, 13, 14, 19], none⟩,
    ⟨(some (73, true)), .val 80 (.bin .add) [.t 79, .k (.p (.int .i64 1))], [0, 1, 2, 3, 4, 5, 6, 7, 8, 9, 10, 11, 12, 13, 14, 19, 20], none⟩,
    ⟨(some (73, true)), .val 81 (.bin .neq) [.t 77, .t 80], [0, 1, 2, 3, 4, 5, 6, 7, 8, 9, 10, 11, 12, 13, 14, 15, 16, 17, 18, 19, 20, 21], none⟩,
    ⟨(some (67, false)), .val 82 .pick [.t 73, .t 81, .k (.p (.bool false))], [0, 1, 2, 3, 4, 5, 6, 7, 8, 9, 10, 11, 12, 13, 14, 15, 16, 17, 18, 19, 20, 21, 22], none⟩,
    ⟨none, .val 83 .pick [.t 67, .k (.p (.bool true)), .t 82], [0, 1, 2, 3, 4, 5, 6, 7, 8, 9, 10, 11, 12, 13, 14, 15, 16, 17, 18, 19, 20, 21, 22, 23], none⟩]
def r28_22 : IC := (.regD o28_22 [11, 12, 14, 18, 83])
def o28_23 : List IOp := [⟨none, .store (.t 14) (.k (.p (.bool false))) 1, [], none⟩]
def r28_23 : IC := (.reg o28_23 [11, 12, 18])
def o28_24 : List IOp := [⟨none, .val 84 (.faddr 2) [.t 18], [], none⟩,
    ⟨none, .load 85 (.t 84) 1 false, [], none⟩,
    ⟨none, .val 86 (.faddr 0) [.t 18], [], none⟩,
    ⟨none, .load 87 (.t 86) 1 false, [], none⟩,
    ⟨none, .val 88 (.bin .add) [.t 87, .k (.p (.int .i64 1))], [], none⟩,
    ⟨none, .val 89 (.iaddr 12 1) [.t 12, .t 85], [], none⟩,
    ⟨none, .store (.t 89) (.t 88) 1, [], none⟩]
def r28_24 : IC := (.reg o28_24 [11, 18])
def o28_25 : List IOp := [⟨none, .val 90 (.faddr 0) [.t 18], [], none⟩,
    ⟨none, .load 91 (.t 90) 1 false, [], none⟩,
    ⟨none, .val 92 (.iaddr 48 1) [.t 11, .t 91], [], none⟩,
    ⟨none, .store (.t 92) (.k (.p (.bool true))) 1, [], none⟩]
def r28_25 : IC := (.reg o28_25 [])
def ra28_3 : IC := (.seq r28_18 r28_19)
def rb28_3 : IC := (.block 5 (.seq (.seq r28_20 (.cond (.t 56) r28_21 .skip)) (.kp [11, 12, 13, 14, 17, 18] (.seq (.seq r28_22 (.cond (.t 83) r28_23 .skip)) (.kp [11, 12, 18] (.seq r28_24 r28_25))))))
def o28_26 : List IOp := [⟨none, .val 93 (.bin .add) [.t 42, .k (.p (.int .i64 1))], [], none⟩,
    ⟨none, .val 42 .mov [.t 93], [], none⟩]
def r28_26 : IC := (.reg o28_26 [8, 11, 12, 13, 14, 40, 41, 42])
def l28_2 : IC := (.seq r28_15 (.seq (.cond (.t 43) .skip (.kp [11, 14] (.exit 2))) (.kp [8, 11, 12, 13, 14, 40, 41, 42] (.seq (.block 3 (.seq r28_16 (.seq r28_17 (.block 4 (.rangeF (.t 48) [49, 50] ra28_3 rb28_3))))) (.kp [8, 11, 12, 13, 14, 40, 41, 42] r28_26)))))
def o28_27 : List IOp := [⟨none, .val 19 .mov [.k (.p (.sl 1 true []))], [], none⟩]
def r28_27 : IC := (.reg o28_27 [11, 14, 19])
def o28_28 : List IOp := [⟨none, .load 94 (.t 11) 48 true, [], none⟩,
    ⟨none, .val 95 .mov [.k (.p (.int .i64 0))], [], none⟩]
def r28_28 : IC := (.reg o28_28 [14, 19, 94, 95])
def o28_29 : List IOp := [⟨none, .val 96 (.bin .lss) [.t 95, .k (.p (.int .i64 48))], [], none⟩]
def r28_29 : IC := (.reg o28_29 [14, 19, 94, 95, 96])
def o28_30 : List IOp := [⟨none, .val 97 .mov [.t 95], [], none⟩,
    ⟨none, .val 98 (.idx 48 1 false) [.t 94, .t 95], [], none⟩,
    ⟨none, .val 20 .mov [.t 97], [], none⟩,
    ⟨none, .val 21 .mov [.t 98], [], none⟩]
def r28_30 : IC := (.reg o28_30 [14, 19, 20, 21, 94, 95])
def o28_31 : List IOp := [⟨none, .val 99 .mov [.t 21], [], none⟩]
def r28_31 : IC := (.reg o28_31 [14, 19, 20, 94, 95, 99])
def o28_32 : List IOp := [⟨none, .val 100 .mov [.t 19], [], none⟩,
    ⟨none, .val 101 .mov [.t 20], [], none⟩,
    ⟨none, .litP 102 1 [.t 101], [], none⟩,
    ⟨none, .app 103 (.t 100) (.t 102) 1 8, [], none⟩,
    ⟨none, .val 19 .mov [.t 103], [], none⟩]
def r28_32 : IC := (.reg o28_32 [14, 19, 94, 95])
def o28_33 : List IOp := [⟨none, .val 104 (.bin .add) [.t 95, .k (.p (.int .i64 1))], [], none⟩,
    ⟨none, .val 95 .mov [.t 104], [], none⟩]
def r28_33 : IC := (.reg o28_33 [14, 19, 94, 95])
def l28_4 : IC := (.seq r28_29 (.seq (.cond (.t 96) .skip (.kp [14, 19] (.exit 6))) (.kp [14, 19, 94, 95] (.seq (.block 7 (.seq r28_30 (.seq r28_31 (.cond (.t 99) r28_32 .skip)))) (.kp [14, 19, 94, 95] r28_33)))))
def o28_34 : List IOp := [⟨none, .val 105 .mov [.t 19], [], none⟩,
    ⟨none, .load 106 (.t 14) 1 false, [], none⟩,
    ⟨none, .val 4 .mov [.t 105], [0], none⟩,
    ⟨none, .val 5 .mov [.t 106], [0, 1, 2], none⟩,
    ⟨none, .val 6 .mov [.k (.p (.int .i64 0))], [0, 1, 2, 3], none⟩]
def r28_34 : IC := (.regD o28_34 [4, 5, 6])
def b28 : IC := (.seq r28_0 (.seq (.seq r28_1 (.seq r28_2 (.cond (.t 25) (.seq r28_3 .ret) .skip))) (.kp [1, 2] (.seq r28_4 (.seq (.seq r28_5 (.block 0 (.loop l28_1))) (.seq r28_11 (.seq r28_12 (.seq r28_13 (.seq (.seq r28_14 (.block 2 (.loop l28_2))) (.seq r28_27 (.seq (.seq r28_28 (.block 6 (.loop l28_4))) (.seq r28_34 .ret))))))))))))
def i28 : IFn := ⟨2, 107, b28, [.tmp 4, .tmp 5, .tmp 6]⟩
def o29_0 : List IOp := [⟨none, .boxL 2 (.t 0), [], none⟩,
    ⟨none, .val 4 .mov [.k (.p (.sl 1 true []))], [], none⟩]
def r29_0 : IC := (.reg o29_0 [1, 2])
def o29_1 : List IOp := [⟨none, .val 5 .mov [.k (.p (.sl 1 true []))], [], none⟩]
def r29_1 : IC := (.reg o29_1 [1, 2, 5])
def o29_2 : List IOp := [⟨none, .val 6 .mov [.k (.p (.int .i64 0))], [], none⟩]
def r29_2 : IC := (.reg o29_2 [1, 2, 5, 6])
def o29_3 : List IOp := [⟨none, .val 7 .mov [.t 6], [], none⟩,
    ⟨none, .val 8 (.faddr 2) [.t 2], [], none⟩,
    ⟨none, .load 9 (.t 8) 1 false, [], none⟩,
    ⟨none, .val 10 .len [.t 9], [], none⟩,
    ⟨none, .val 11 (.bin .mul) [.k (.p (.int .i64 2)), .t 10], [], none⟩,
    ⟨none, .val 12 (.bin .lss) [.t 7, .t 11], [], none⟩]
def r29_3 : IC := (.reg o29_3 [1, 2, 5, 6, 12])
def o29_5 : List IOp := [⟨none, .val 15 .mov [.t 1], [], none⟩,
    ⟨none, .val 16 .mov [.t 6], [], none⟩,
    ⟨none, .call (some 17) 63 [.t 15, .t 16], [], none⟩]
def r29_5 : IC := (.reg o29_5 [1, 2, 5, 6, 17])
def o29_6 : List IOp := [⟨none, .val 18 .mov [.t 5], [], none⟩,
    ⟨none, .val 19 .mov [.t 6], [], none⟩,
    ⟨none, .litP 20 1 [.t 19], [], none⟩,
    ⟨none, .app 21 (.t 18) (.t 20) 1 8, [], none⟩,
    ⟨none, .val 5 .mov [.t 21], [], none⟩]
def r29_6 : IC := (.reg o29_6 [1, 2, 5, 6])
def o29_4 : List IOp := [⟨none, .val 13 .mov [.t 6], [], none⟩,
    ⟨none, .val 14 (.bin .add) [.t 13, .k (.p (.int .i64 1))], [], none⟩,
    ⟨none, .val 6 .mov [.t 14], [], none⟩]
def r29_4 : IC := (.reg o29_4 [1, 2, 5, 6])
def l29_1 : IC := (.seq (.seq r29_3 (.cond (.t 12) .skip (.kp [5] (.exit 0)))) (.kp [1, 2, 5, 6] (.seq (.block 1 (.seq r29_5 (.cond (.t 17) r29_6 .skip))) (.kp [1, 2, 5, 6] r29_4))))
def o29_7 : List IOp := [⟨none, .val 22 .mov [.t 5], [], none⟩,
    ⟨none, .val 4 .mov [.t 22], [], none⟩]
def r29_7 : IC := (.reg o29_7 [4])
def b29 : IC := (.seq r29_0 (.seq r29_1 (.seq (.seq r29_2 (.block 0 (.loop l29_1))) (.seq r29_7 .ret))))
def i29 : IFn := ⟨2, 23, b29, [.tmp 4]⟩
def o30_0 : List IOp := [⟨none, .boxL 2 (.t 0), [], none⟩,
    ⟨none, .val 4 .mov [.k (.p (.bool false))], [], none⟩]
def r30_0 : IC := (.reg o30_0 [1, 2])
def o30_1 : List IOp := [⟨none, .val 5 .mov [.k (.p (.int .i64 0))], [], none⟩]
def r30_1 : IC := (.reg o30_1 [1, 2, 5])
def o30_2 : List IOp := [⟨none, .val 9 .mov [.t 5], [], none⟩,
    ⟨none, .val 10 .mov [.t 1], [], none⟩,
    ⟨none, .val 11 .len [.t 10], [], none⟩,
    ⟨none, .val 12 (.bin .lss) [.t 9, .t 11], [], none⟩]
def r30_2 : IC := (.reg o30_2 [1, 2, 5, 12])
def o30_4 : List IOp := [⟨none, .loadL 15 (.t 2) 3 true, [], none⟩,
    ⟨none, .val 16 .mov [.t 1], [], none⟩,
    ⟨none, .val 17 .mov [.t 5], [], none⟩,
    ⟨none, .val 18 (.iaddrS 1) [.t 16, .t 17], [1, 2], none⟩,
    ⟨none, .load 19 (.t 18) 1 false, [1, 2, 3], none⟩,
    ⟨none, .val 20 (.iaddrS 1) [.t 19, .k (.p (.int .i64 0))], [1, 2, 3, 4], none⟩,
    ⟨none, .load 21 (.t 20) 1 false, [1, 2, 3, 4, 5], none⟩,
    ⟨none, .callP 22 52 [.t 15, .t 21], [0, 1, 2, 3, 4, 5, 6], none⟩,
    ⟨none, .loadL 23 (.t 2) 3 true, [], none⟩,
    ⟨none, .val 24 .mov [.t 1], [], none⟩,
    ⟨none, .val 25 (.iaddrS 1) [.t 24, .k (.p (.int .i64 0))], [9], none⟩,
    ⟨none, .load 26 (.t 25) 1 false, [9, 10], none⟩,
    ⟨none, .val 27 (.iaddrS 1) [.t 26, .k (.p (.int .i64 0))], [9, 10, 11], none⟩,
    ⟨none, .load 28 (.t 27) 1 false, [9, 10, 11, 12], none⟩,
    ⟨none, .callP 29 52 [.t 23, .t 28], [0, 1, 2, 3, 4, 5, 6, 7, 8, 9, 10, 11, 12, 13], none⟩,
    ⟨none, .val 30 (.bin .neq) [.t 22, .t 29], [0, 1, 2, 3, 4, 5, 6, 7, 8, 9, 10, 11, 12, 13, 14], none⟩]
def r30_4 : IC := (.regD o30_4 [1, 2, 5, 30])
def o30_5 : List IOp := [⟨none, .val 4 .mov [.k (.p (.bool false))], [], none⟩]
def r30_5 : IC := (.reg o30_5 [4])
def o30_3 : List IOp := [⟨none, .val 13 .mov [.t 5], [], none⟩,
    ⟨none, .val 14 (.bin .add) [.t 13, .k (.p (.int .i64 1))], [], none⟩,
    ⟨none, .val 5 .mov [.t 14], [], none⟩]
def r30_3 : IC := (.reg o30_3 [1, 2, 5])
def l30_1 : IC := (.seq (.seq r30_2 (.cond (.t 12) .skip (.kp [1, 2] (.exit 0)))) (.kp [1, 2, 5] (.seq (.block 1 (.seq r30_4 (.cond (.t 30) (.seq r30_5 .ret) .skip))) (.kp [1, 2, 5] r30_3))))
def o30_6 : List IOp := [⟨none, .load 31 (.t 2) 3 true, [], none⟩,
    ⟨none, .val 32 .mov [.t 1], [], none⟩,
    ⟨none, .call (some 33) 29 [.t 31, .t 32], [], none⟩,
    ⟨none, .val 6 .mov [.t 33], [], none⟩]
def r30_6 : IC := (.reg o30_6 [2, 6])
def o30_7 : List IOp := [⟨none, .val 7 .mov [.k (.p (.int .i64 0))], [], none⟩]
def r30_7 : IC := (.reg o30_7 [2, 6, 7])
def o30_8 : List IOp := [⟨none, .val 34 .mov [.t 7], [], none⟩,
    ⟨none, .val 35 .mov [.t 6], [], none⟩,
    ⟨none, .val 36 .len [.t 35], [], none⟩,
    ⟨none, .val 37 (.bin .lss) [.t 34, .t 36], [], none⟩]
def r30_8 : IC := (.reg o30_8 [2, 6, 7, 37])
def o30_10 : List IOp := [⟨none, .val 8 .mov [.k (.p (.int .i64 0))], [], none⟩]
def r30_10 : IC := (.reg o30_10 [2, 6, 7, 8])
def o30_11 : List IOp := [⟨none, .val 40 .mov [.t 8], [], none⟩,
    ⟨none, .val 41 .mov [.t 7], [], none⟩,
    ⟨none, .val 42 (.bin .lss) [.t 40, .t 41], [], none⟩]
def r30_11 : IC := (.reg o30_11 [2, 6, 7, 8, 42])
def o30_13 : List IOp := [⟨none, .loadL 45 (.t 2) 3 true, [], none⟩,
    ⟨none, .val 46 .mov [.t 6], [], none⟩,
    ⟨none, .val 47 .mov [.t 7], [], none⟩,
    ⟨none, .val 48 (.iaddrS 1) [.t 46, .t 47], [1, 2], none⟩,
    ⟨none, .load 49 (.t 48) 1 false, [1, 2, 3], none⟩,
    ⟨none, .callP 50 53 [.t 45, .t 49], [0, 1, 2, 3, 4], none⟩,
    ⟨none, .loadL 51 (.t 2) 3 true, [], none⟩,
    ⟨none, .val 52 .mov [.t 6], [], none⟩,
    ⟨none, .val 53 .mov [.t 8], [], none⟩,
    ⟨none, .val 54 (.iaddrS 1) [.t 52, .t 53], [7, 8], none⟩,
    ⟨none, .load 55 (.t 54) 1 false, [7, 8, 9], none⟩,
    ⟨none, .callP 56 53 [.t 51, .t 55], [0, 1, 2, 3, 4, 5, 6, 7, 8, 9, 10], none⟩,
    ⟨none, .val 57 (.bin .eql) [.t 50, .t 56], [0, 1, 2, 3, 4, 5, 6, 7, 8, 9, 10, 11], none⟩]
def r30_13 : IC := (.regD o30_13 [2, 6, 7, 8, 57])
def o30_14 : List IOp := [⟨none, .val 4 .mov [.k (.p (.bool false))], [], none⟩]
def r30_14 : IC := (.reg o30_14 [4])
def o30_12 : List IOp := [⟨none, .val 43 .mov [.t 8], [], none⟩,
    ⟨none, .val 44 (.bin .add) [.t 43, .k (.p (.int .i64 1))], [], none⟩,
    ⟨none, .val 8 .mov [.t 44], [], none⟩]
def r30_12 : IC := (.reg o30_12 [2, 6, 7, 8])
def l30_3 : IC := (.seq (.seq r30_11 (.cond (.t 42) .skip (.kp [2, 6, 7] (.exit 4)))) (.kp [2, 6, 7, 8] (.seq (.block 5 (.seq r30_13 (.cond (.t 57) (.seq r30_14 .ret) .skip))) (.kp [2, 6, 7, 8] r30_12))))
def o30_9 : List IOp := [⟨none, .val 38 .mov [.t 7], [], none⟩,
    ⟨none, .val 39 (.bin .add) [.t 38, .k (.p (.int .i64 1))], [], none⟩,
    ⟨none, .val 7 .mov [.t 39], [], none⟩]
def r30_9 : IC := (.reg o30_9 [2, 6, 7])
def l30_2 : IC := (.seq (.seq r30_8 (.cond (.t 37) .skip (.kp [] (.exit 2)))) (.kp [2, 6, 7] (.seq (.block 3 (.seq r30_10 (.block 4 (.loop l30_3)))) r30_9)))
def o30_15 : List IOp := [⟨none, .val 4 .mov [.k (.p (.bool true))], [], none⟩]
def r30_15 : IC := (.reg o30_15 [4])
def b30 : IC := (.seq r30_0 (.seq (.seq r30_1 (.block 0 (.loop l30_1))) (.seq r30_6 (.seq (.seq r30_7 (.block 2 (.loop l30_2))) (.seq r30_15 .ret)))))
def i30 : IFn := ⟨2, 58, b30, [.tmp 4]⟩
def o33_0 : List IOp := [⟨none, .newL 0 [.p (.int .i64 0), .p (.sl 1 true []), .p (.sl 4 true [])], [], none⟩]
def r33_0 : IC := (.reg o33_0 [0])
def o33_1 : List IOp := [⟨none, .litP 1 1 [.k (.p (.bool true)), .k (.p (.bool false)), .k (.p (.bool false)), .k (.p (.bool true))], [], none⟩,
    ⟨none, .val 2 (.build [.p (.int .i64 0), .p (.int .i64 0), .p (.int .i64 0), .p (.int .i64 0)] [(0, 1), (1, 1), (2, 1), (3, 1)]) [.k (.p (.int .i64 0)), .k (.p (.int .i64 1)), .k (.p (.int .i64 8)), .k (.p (.int .i64 50))], [], none⟩,
    ⟨none, .val 3 (.build [.p (.int .i64 0), .p (.int .i64 0), .p (.int .i64 0), .p (.int .i64 0)] [(0, 1), (1, 1), (2, 1)]) [.k (.p (.int .i64 1)), .k (.p (.int .i64 2)), .k (.p (.int .i64 8))], [], none⟩,
    ⟨none, .val 4 (.build [.p (.int .i64 0), .p (.int .i64 0), .p (.int .i64 0), .p (.int .i64 0)] [(0, 1), (1, 1), (2, 1), (3, 1)]) [.k (.p (.int .i64 2)), .k (.p (.int .i64 3)), .k (.p (.int .i64 80)), .k (.p (.int .i64 7))], [], none⟩,
    ⟨none, .litP 5 4 [.t 2, .t 3, .t 4], [], none⟩,
    ⟨none, .val 6 (.build [.p (.int .i64 0), .p (.sl 1 true []), .p (.sl 4 true [])] [(0, 1), (1, 1), (2, 1)]) [.k (.p (.int .i64 4)), .t 1, .t 5], [], none⟩,
    ⟨none, .store (.t 0) (.t 6) 3, [], none⟩]
def r33_1 : IC := (.reg o33_1 [0])
def b33 : IC := (.seq r33_0 (.seq r33_1 .ret))
def i33 : IFn := ⟨0, 7, b33, [.cell 0 3 true]⟩
def o35_0 : List IOp := [⟨none, .boxL 3 (.t 0), [], none⟩,
    ⟨none, .val 6 .mov [.k (.p (.sl 1 true []))], [], none⟩,
    ⟨none, .val 7 .mov [.k (.p (.int .i64 0))], [], none⟩]
def r35_0 : IC := (.reg o35_0 [1, 2, 3])
def o35_1 : List IOp := [⟨none, .val 8 .mov [.k (.p (.sl 1 true []))], [], none⟩]
def r35_1 : IC := (.reg o35_1 [1, 2, 3, 8])
def o35_2 : List IOp := [⟨none, .load 10 (.t 3) 3 true, [], none⟩,
    ⟨none, .val 11 .mov [.t 1], [], none⟩,
    ⟨none, .call (some 12) 19 [.t 10, .t 11], [], none⟩,
    ⟨none, .val 9 .mov [.t 12], [], none⟩]
def r35_2 : IC := (.reg o35_2 [2, 3, 8, 9])
def o35_3 : List IOp := [⟨none, .val 13 .mov [.t 9], [], none⟩,
    ⟨none, .val 14 (.bin .neq) [.t 13, .k (.p (.int .i64 0))], [], none⟩]
def r35_3 : IC := (.reg o35_3 [2, 3, 8, 9, 14])
def o35_4 : List IOp := [⟨none, .val 15 .mov [.t 8], [], none⟩,
    ⟨none, .val 16 .mov [.t 9], [], none⟩,
    ⟨none, .val 6 .mov [.t 15], [], none⟩,
    ⟨none, .val 7 .mov [.t 16], [], none⟩]
def r35_4 : IC := (.reg o35_4 [6, 7])
def o35_5 : List IOp := [⟨none, .val 17 .mov [.t 2], [], none⟩,
    ⟨none, .load 18 (.t 3) 3 true, [], none⟩,
    ⟨none, .val 19 (.build [.p (.int .i64 0), .p (.sl 1 true []), .p (.sl 4 true [])] [(0, 3)]) [.t 18], [], none⟩,
    ⟨none, .callV (some 20) (.t 17) [.t 19], [], none⟩,
    ⟨none, .val 21 (.ext 0) [.t 20], [], none⟩,
    ⟨none, .val 22 (.ext 1) [.t 20], [], none⟩,
    ⟨none, .val 6 .mov [.t 21], [], none⟩,
    ⟨none, .val 7 .mov [.t 22], [], none⟩]
def r35_5 : IC := (.reg o35_5 [6, 7])
def b35 : IC := (.seq r35_0 (.seq r35_1 (.seq (.seq r35_2 (.seq r35_3 (.cond (.t 14) (.seq r35_4 .ret) .skip))) (.kp [2, 3] (.seq r35_5 .ret)))))
def i35 : IFn := ⟨3, 23, b35, [.tmp 6, .tmp 7]⟩
def o36_0 : List IOp := [⟨none, .boxL 2 (.t 0), [], none⟩,
    ⟨none, .val 3 .mov [.k (.p (.sl 1 true []))], [], none⟩,
    ⟨none, .val 4 .mov [.k (.p (.int .i64 0))], [], none⟩]
def r36_0 : IC := (.reg o36_0 [1, 2])
def o36_1 : List IOp := [⟨none, .load 5 (.t 2) 3 true, [], none⟩,
    ⟨none, .load 6 (.t 1) 1 false, [], none⟩,
    ⟨none, .call (some 7) 37 [.t 5, .t 6], [], none⟩,
    ⟨none, .val 3 .mov [.t 7], [], none⟩,
    ⟨none, .val 4 .mov [.k (.p (.int .i64 0))], [], none⟩]
def r36_1 : IC := (.reg o36_1 [3, 4])
def b36 : IC := (.seq r36_0 (.seq r36_1 .ret))
def i36 : IFn := ⟨2, 8, b36, [.tmp 3, .tmp 4]⟩
def o37_0 : List IOp := [⟨none, .boxL 2 (.t 0), [], none⟩,
    ⟨none, .val 4 .mov [.k (.p (.sl 1 true []))], [], none⟩]
def r37_0 : IC := (.reg o37_0 [1, 2])
def o37_1 : List IOp := [⟨none, .val 8 .mov [.t 1], [], none⟩,
    ⟨none, .val 9 .len [.t 8], [], none⟩,
    ⟨none, .val 10 (.bin .add) [.t 9, .k (.p (.int .i64 1))], [], none⟩,
    ⟨none, .mkSl 11 (.k (.p (.int .i64 0))) (.t 10) [.int .i64 0] 8, [], none⟩,
    ⟨none, .newH 5 [.p (.sl 1 true [])], [], none⟩,
    ⟨none, .store (.t 5) (.t 11) 1, [], none⟩]
def r37_1 : IC := (.reg o37_1 [1, 2, 5])
def o37_2 : List IOp := [⟨none, .load 12 (.t 2) 3 true, [], none⟩,
    ⟨none, .val 13 .mov [.t 1], [], none⟩,
    ⟨none, .call (some 14) 62 [.t 12, .t 13], [], none⟩]
def r37_2 : IC := (.reg o37_2 [5, 14])
def o37_3 : List IOp := [⟨none, .val 6 .mov [.t 15], [], none⟩]
def r37_3 : IC := (.reg o37_3 [5, 6, 16])
def o37_4 : List IOp := [⟨none, .newL 7 [.p (.int .i64 0), .p (.int .i64 0), .p (.int .i64 0)], [], none⟩,
    ⟨none, .store (.t 7) (.t 16) 3, [], none⟩]
def r37_4 : IC := (.reg o37_4 [5, 6, 7])
def o37_5 : List IOp := [⟨none, .val 17 .mov [.t 6], [], none⟩,
    ⟨none, .val 18 (.bin .eql) [.t 17, .k (.p (.int .i64 0))], [], none⟩]
def r37_5 : IC := (.reg o37_5 [5, 7, 18])
def o37_6 : List IOp := [⟨none, .load 19 (.t 5) 1 false, [], none⟩,
    ⟨none, .val 20 (.faddr 1) [.t 7], [], none⟩,
    ⟨none, .load 21 (.t 20) 1 false, [], none⟩,
    ⟨none, .litP 22 1 [.t 21], [], none⟩,
    ⟨none, .app 23 (.t 19) (.t 22) 1 8, [], none⟩,
    ⟨none, .store (.t 5) (.t 23) 1, [], none⟩]
def r37_6 : IC := (.reg o37_6 [5, 7])
def o37_7 : List IOp := [⟨none, .load 24 (.t 5) 1 false, [], none⟩,
    ⟨none, .val 25 (.faddr 2) [.t 7], [], none⟩,
    ⟨none, .load 26 (.t 25) 1 false, [], none⟩,
    ⟨none, .litP 27 1 [.t 26], [], none⟩,
    ⟨none, .app 28 (.t 24) (.t 27) 1 8, [], none⟩,
    ⟨none, .store (.t 5) (.t 28) 1, [], none⟩]
def r37_7 : IC := (.reg o37_7 [])
def ra37_1 : IC := (.seq r37_3 r37_4)
def rb37_1 : IC := (.block 1 (.seq (.seq r37_5 (.cond (.t 18) r37_6 .skip)) (.kp [5, 7] r37_7)))
def o37_8 : List IOp := [⟨none, .load 29 (.t 5) 1 false, [], none⟩,
    ⟨none, .val 4 .mov [.t 29], [], none⟩]
def r37_8 : IC := (.reg o37_8 [4])
def b37 : IC := (.seq r37_0 (.seq r37_1 (.seq (.seq r37_2 (.block 0 (.rangeF (.t 14) [15, 16] ra37_1 rb37_1))) (.kp [5] (.seq r37_8 .ret)))))
def i37 : IFn := ⟨2, 30, b37, [.tmp 4]⟩
def o38_0 : List IOp := [⟨none, .boxL 3 (.t 0), [], none⟩,
    ⟨none, .val 6 .mov [.k (.p (.int .i64 0))], [], none⟩,
    ⟨none, .val 7 .mov [.k (.p (.int .i64 0))], [], none⟩]
def r38_0 : IC := (.reg o38_0 [1, 2, 3])
def o38_1 : List IOp := [⟨none, .val 8 .mov [.k (.p (.int .i64 0))], [], none⟩]
def r38_1 : IC := (.reg o38_1 [1, 2, 3, 8])
def o38_2 : List IOp := [⟨none, .load 10 (.t 3) 3 true, [], none⟩,
    ⟨none, .val 11 .mov [.t 1], [], none⟩,
    ⟨none, .call (some 12) 19 [.t 10, .t 11], [], none⟩,
    ⟨none, .val 9 .mov [.t 12], [], none⟩]
def r38_2 : IC := (.reg o38_2 [2, 3, 8, 9])
def o38_3 : List IOp := [⟨none, .val 13 .mov [.t 9], [], none⟩,
    ⟨none, .val 14 (.bin .neq) [.t 13, .k (.p (.int .i64 0))], [], none⟩]
def r38_3 : IC := (.reg o38_3 [2, 3, 8, 9, 14])
def o38_4 : List IOp := [⟨none, .val 15 .mov [.t 8], [], none⟩,
    ⟨none, .val 16 .mov [.t 9], [], none⟩,
    ⟨none, .val 6 .mov [.t 15], [], none⟩,
    ⟨none, .val 7 .mov [.t 16], [], none⟩]
def r38_4 : IC := (.reg o38_4 [6, 7])
def o38_5 : List IOp := [⟨none, .val 17 .mov [.t 2], [], none⟩,
    ⟨none, .load 18 (.t 3) 3 true, [], none⟩,
    ⟨none, .val 19 (.build [.p (.int .i64 0), .p (.sl 1 true []), .p (.sl 4 true [])] [(0, 3)]) [.t 18], [], none⟩,
    ⟨none, .callV (some 20) (.t 17) [.t 19], [], none⟩,
    ⟨none, .val 21 (.ext 0) [.t 20], [], none⟩,
    ⟨none, .val 22 (.ext 1) [.t 20], [], none⟩,
    ⟨none, .val 6 .mov [.t 21], [], none⟩,
    ⟨none, .val 7 .mov [.t 22], [], none⟩]
def r38_5 : IC := (.reg o38_5 [6, 7])
def b38 : IC := (.seq r38_0 (.seq r38_1 (.seq (.seq r38_2 (.seq r38_3 (.cond (.t 14) (.seq r38_4 .ret) .skip))) (.kp [2, 3] (.seq r38_5 .ret)))))
def i38 : IFn := ⟨3, 23, b38, [.tmp 6, .tmp 7]⟩
def o39_0 : List IOp := [⟨none, .boxL 2 (.t 0), [], none⟩,
    ⟨none, .val 3 .mov [.k (.p (.int .i64 0))], [], none⟩,
    ⟨none, .val 4 .mov [.k (.p (.int .i64 0))], [], none⟩]
def r39_0 : IC := (.reg o39_0 [1, 2])
def o39_1 : List IOp := [⟨none, .load 5 (.t 1) 1 false, [], none⟩,
    ⟨none, .load 6 (.t 2) 3 true, [], none⟩,
    ⟨none, .val 7 (.mkfn 41 1) [.t 6], [], none⟩,
    ⟨none, .call (some 8) 40 [.t 5, .t 7], [], none⟩,
    ⟨none, .val 3 .mov [.t 8], [], none⟩,
    ⟨none, .val 4 .mov [.k (.p (.int .i64 0))], [], none⟩]
def r39_1 : IC := (.reg o39_1 [3, 4])
def b39 : IC := (.seq r39_0 (.seq r39_1 .ret))
def i39 : IFn := ⟨2, 9, b39, [.tmp 3, .tmp 4]⟩
def o40_0 : List IOp := [⟨none, .val 4 .mov [.k (.p (.int .i64 0))], [], none⟩]
def r40_0 : IC := (.reg o40_0 [0, 1])
def o40_1 : List IOp := [⟨none, .val 5 .mov [.k (.p (.int .i64 0))], [], none⟩]
def r40_1 : IC := (.reg o40_1 [0, 1, 5])
def o40_2 : List IOp := [⟨none, .val 8 .mov [.t 0], [], none⟩,
    ⟨none, .val 9 .len [.t 8], [], none⟩,
    ⟨none, .val 10 .mov [.k (.p (.int .i64 0))], [], none⟩]
def r40_2 : IC := (.reg o40_2 [1, 5, 8, 9, 10])
def o40_3 : List IOp := [⟨none, .val 11 (.bin .lss) [.t 10, .t 9], [], none⟩]
def r40_3 : IC := (.reg o40_3 [1, 5, 8, 9, 10, 11])
def o40_4 : List IOp := [⟨none, .val 12 (.iaddrS 1) [.t 8, .t 10], [], none⟩,
    ⟨none, .load 13 (.t 12) 1 false, [], none⟩,
    ⟨none, .val 7 .mov [.t 13], [], none⟩]
def r40_4 : IC := (.reg o40_4 [1, 5, 7, 8, 9, 10])
def o40_5 : List IOp := [⟨none, .val 14 .mov [.t 5], [], none⟩,
    ⟨none, .val 15 .mov [.t 1], [], none⟩,
    ⟨none, .val 16 .mov [.t 7], [], none⟩,
    ⟨none, .callV (some 17) (.t 15) [.t 16], [], none⟩,
    ⟨none, .val 18 (.bin .add) [.t 14, .t 17], [], none⟩,
    ⟨none, .val 5 .mov [.t 18], [], none⟩]
def r40_5 : IC := (.reg o40_5 [1, 5, 8, 9, 10])
def o40_6 : List IOp := [⟨none, .val 19 (.bin .add) [.t 10, .k (.p (.int .i64 1))], [], none⟩,
    ⟨none, .val 10 .mov [.t 19], [], none⟩]
def r40_6 : IC := (.reg o40_6 [1, 5, 8, 9, 10])
def l40_1 : IC := (.seq r40_3 (.seq (.cond (.t 11) .skip (.kp [5] (.exit 0))) (.kp [1, 5, 8, 9, 10] (.seq (.block 1 (.seq r40_4 r40_5)) r40_6))))
def o40_7 : List IOp := [⟨none, .val 20 .mov [.t 5], [], none⟩,
    ⟨none, .val 4 .mov [.t 20], [], none⟩]
def r40_7 : IC := (.reg o40_7 [4])
def b40 : IC := (.seq r40_0 (.seq r40_1 (.seq (.seq r40_2 (.block 0 (.loop l40_1))) (.seq r40_7 .ret))))
def i40 : IFn := ⟨2, 21, b40, [.tmp 4]⟩
def o41_0 : List IOp := [⟨none, .boxL 2 (.t 0), [], none⟩,
    ⟨none, .val 4 .mov [.k (.p (.int .i64 0))], [], none⟩]
def r41_0 : IC := (.reg o41_0 [1, 2])
def o41_1 : List IOp := [⟨none, .val 5 (.faddr 0) [.t 2], [], none⟩,
    ⟨none, .val 6 (.faddr 2) [.t 5], [], none⟩,
    ⟨none, .load 7 (.t 6) 1 false, [], none⟩,
    ⟨none, .val 8 .mov [.t 1], [], none⟩,
    ⟨none, .val 9 (.bin .quo) [.t 8, .k (.p (.int .i64 2))], [], none⟩,
    ⟨none, .val 10 (.iaddrS 4) [.t 7, .t 9], [], none⟩,
    ⟨none, .val 11 (.faddr 3) [.t 10], [], none⟩,
    ⟨none, .load 12 (.t 11) 1 false, [], none⟩,
    ⟨none, .val 4 .mov [.t 12], [], none⟩]
def r41_1 : IC := (.reg o41_1 [4])
def b41 : IC := (.seq r41_0 (.seq r41_1 .ret))
def i41 : IFn := ⟨2, 13, b41, [.tmp 4]⟩
def o42_0 : List IOp := [⟨none, .boxH 3 (.t 0), [], none⟩,
    ⟨none, .val 4 .mov [.k (.p (.int .i64 0))], [], none⟩,
    ⟨none, .val 5 .mov [.k (.p (.int .i64 0))], [], none⟩]
def r42_0 : IC := (.reg o42_0 [1, 2, 3])
def o42_1 : List IOp := [⟨none, .load 6 (.t 1) 1 false, [], none⟩,
    ⟨none, .val 7 (.bin .lss) [.t 6, .k (.p (.int .i64 84))], [], none⟩,
    ⟨none, .val 8 .mov [.t 7], [], none⟩,
    ⟨(some (8, false)), .load 9 (.t 1) 1 false, [], none⟩,
    ⟨(some (8, false)), .val 10 (.bin .gtr) [.t 9, .k (.p (.int .i64 1542))], [], none⟩,
    ⟨none, .val 11 .pick [.t 8, .k (.p (.bool true)), .t 10], [], none⟩]
def r42_1 : IC := (.reg o42_1 [1, 2, 3, 11])
def o42_2 : List IOp := [⟨none, .val 4 .mov [.k (.p (.int .i64 0))], [], none⟩,
    ⟨none, .val 5 .mov [.k (.p (.int .i64 2))], [], none⟩]
def r42_2 : IC := (.reg o42_2 [4, 5])
def o42_3 : List IOp := [⟨none, .load 12 (.t 2) 1 false, [], none⟩,
    ⟨none, .val 13 (.mkfn 43 0) [.t 1, .t 3], [], none⟩,
    ⟨none, .call (some 14) 40 [.t 12, .t 13], [], none⟩,
    ⟨none, .val 4 .mov [.t 14], [], none⟩,
    ⟨none, .val 5 .mov [.k (.p (.int .i64 0))], [], none⟩]
def r42_3 : IC := (.reg o42_3 [4, 5])
def b42 : IC := (.seq r42_0 (.seq (.seq r42_1 (.cond (.t 11) (.seq r42_2 .ret) .skip)) (.kp [1, 2, 3] (.seq r42_3 .ret))))
def i42 : IFn := ⟨3, 15, b42, [.tmp 4, .tmp 5]⟩
def o43_0 : List IOp := [⟨none, .val 4 .mov [.k (.p (.int .i64 0))], [], none⟩]
def r43_0 : IC := (.reg o43_0 [0, 1, 2])
def o43_1 : List IOp := [⟨none, .load 5 (.t 1) 1 false, [], none⟩,
    ⟨none, .val 6 (.faddr 0) [.t 2], [], none⟩,
    ⟨none, .val 7 (.faddr 2) [.t 6], [1], none⟩,
    ⟨none, .load 8 (.t 7) 1 false, [1, 2], none⟩,
    ⟨none, .val 9 .mov [.t 0], [], none⟩,
    ⟨none, .val 10 (.bin .quo) [.t 9, .k (.p (.int .i64 2))], [4], none⟩,
    ⟨none, .val 11 (.iaddrS 4) [.t 8, .t 10], [1, 2, 3, 4, 5], none⟩,
    ⟨none, .val 12 (.faddr 2) [.t 11], [1, 2, 3, 4, 5, 6], none⟩,
    ⟨none, .load 13 (.t 12) 1 false, [1, 2, 3, 4, 5, 6, 7], none⟩,
    ⟨none, .val 14 (.bin .mul) [.t 5, .t 13], [0, 1, 2, 3, 4, 5, 6, 7, 8], none⟩,
    ⟨none, .load 15 (.t 2) 3 true, [], none⟩,
    ⟨none, .val 16 .mov [.t 0], [], none⟩,
    ⟨none, .callP 17 41 [.t 15, .t 16], [10, 11], none⟩,
    ⟨none, .val 18 (.bin .add) [.t 14, .t 17], [0, 1, 2, 3, 4, 5, 6, 7, 8, 9, 10, 11, 12], none⟩,
    ⟨none, .val 4 .mov [.t 18], [0, 1, 2, 3, 4, 5, 6, 7, 8, 9, 10, 11, 12, 13], none⟩]
def r43_1 : IC := (.regD o43_1 [4])
def b43 : IC := (.seq r43_0 (.seq r43_1 .ret))
def i43 : IFn := ⟨3, 19, b43, [.tmp 4]⟩
def o44_0 : List IOp := [⟨none, .boxL 3 (.t 0), [], none⟩,
    ⟨none, .val 6 .mov [.k (.p (.sl 1 true []))], [], none⟩,
    ⟨none, .val 7 .mov [.k (.p (.int .i64 0))], [], none⟩]
def r44_0 : IC := (.reg o44_0 [1, 2, 3])
def o44_1 : List IOp := [⟨none, .val 8 .mov [.k (.p (.sl 1 true []))], [], none⟩]
def r44_1 : IC := (.reg o44_1 [1, 2, 3, 8])
def o44_2 : List IOp := [⟨none, .load 10 (.t 3) 3 true, [], none⟩,
    ⟨none, .val 11 .mov [.t 1], [], none⟩,
    ⟨none, .call (some 12) 19 [.t 10, .t 11], [], none⟩,
    ⟨none, .val 9 .mov [.t 12], [], none⟩]
def r44_2 : IC := (.reg o44_2 [2, 3, 8, 9])
def o44_3 : List IOp := [⟨none, .val 13 .mov [.t 9], [], none⟩,
    ⟨none, .val 14 (.bin .neq) [.t 13, .k (.p (.int .i64 0))], [], none⟩]
def r44_3 : IC := (.reg o44_3 [2, 3, 8, 9, 14])
def o44_4 : List IOp := [⟨none, .val 15 .mov [.t 8], [], none⟩,
    ⟨none, .val 16 .mov [.t 9], [], none⟩,
    ⟨none, .val 6 .mov [.t 15], [], none⟩,
    ⟨none, .val 7 .mov [.t 16], [], none⟩]
def r44_4 : IC := (.reg o44_4 [6, 7])
def o44_5 : List IOp := [⟨none, .val 17 .mov [.t 2], [], none⟩,
    ⟨none, .load 18 (.t 3) 3 true, [], none⟩,
    ⟨none, .val 19 (.build [.p (.int .i64 0), .p (.sl 1 true []), .p (.sl 4 true [])] [(0, 3)]) [.t 18], [], none⟩,
    ⟨none, .callV (some 20) (.t 17) [.t 19], [], none⟩,
    ⟨none, .val 21 (.ext 0) [.t 20], [], none⟩,
    ⟨none, .val 22 (.ext 1) [.t 20], [], none⟩,
    ⟨none, .val 6 .mov [.t 21], [], none⟩,
    ⟨none, .val 7 .mov [.t 22], [], none⟩]
def r44_5 : IC := (.reg o44_5 [6, 7])
def b44 : IC := (.seq r44_0 (.seq r44_1 (.seq (.seq r44_2 (.seq r44_3 (.cond (.t 14) (.seq r44_4 .ret) .skip))) (.kp [2, 3] (.seq r44_5 .ret)))))
def i44 : IFn := ⟨3, 23, b44, [.tmp 6, .tmp 7]⟩
def o45_0 : List IOp := [⟨none, .boxH 2 (.t 0), [], none⟩,
    ⟨none, .val 3 .mov [.k (.p (.sl 1 true []))], [], none⟩,
    ⟨none, .val 4 .mov [.k (.p (.int .i64 0))], [], none⟩]
def r45_0 : IC := (.reg o45_0 [1, 2])
def o45_1 : List IOp := [⟨none, .load 8 (.t 1) 1 false, [], none⟩,
    ⟨none, .val 9 .len [.t 8], [], none⟩,
    ⟨none, .mkSl 10 (.k (.p (.int .i64 0))) (.t 9) [.int .i64 0] 8, [], none⟩,
    ⟨none, .newH 5 [.p (.sl 1 true [])], [], none⟩,
    ⟨none, .store (.t 5) (.t 10) 1, [], none⟩]
def r45_1 : IC := (.reg o45_1 [1, 2, 5])
def o45_2 : List IOp := [⟨none, .load 11 (.t 1) 1 false, [], none⟩,
    ⟨none, .call (some 12) 46 [.t 11], [], none⟩]
def r45_2 : IC := (.reg o45_2 [2, 5, 12])
def o45_3 : List IOp := [⟨none, .val 7 .mov [.t 14], [], none⟩]
def r45_3 : IC := (.reg o45_3 [2, 5, 7])
def o45_4 : List IOp := [⟨none, .load 15 (.t 5) 1 false, [], none⟩,
    ⟨none, .load 16 (.t 2) 3 true, [], none⟩,
    ⟨none, .val 17 .mov [.t 7], [], none⟩,
    ⟨none, .callP 18 47 [.t 16, .t 17], [1, 2], none⟩,
    ⟨none, .litP 19 1 [.t 18], [1, 2, 3], none⟩,
    ⟨none, .app 20 (.t 15) (.t 19) 1 8, [0, 1, 2, 3, 4], none⟩,
    ⟨none, .storeH (.t 5) (.t 20) 1, [0, 1, 2, 3, 4, 5], none⟩]
def r45_4 : IC := (.regD o45_4 [])
def ra45_1 : IC := r45_3
def rb45_1 : IC := (.block 1 r45_4)
def o45_5 : List IOp := [⟨none, .load 21 (.t 5) 1 false, [], none⟩,
    ⟨none, .val 3 .mov [.t 21], [], none⟩,
    ⟨none, .val 4 .mov [.k (.p (.int .i64 0))], [], none⟩]
def r45_5 : IC := (.reg o45_5 [3, 4])
def b45 : IC := (.seq r45_0 (.seq r45_1 (.seq (.seq r45_2 (.block 0 (.rangeF (.t 12) [13, 14] ra45_1 rb45_1))) (.kp [5] (.seq r45_5 .ret)))))
def i45 : IFn := ⟨2, 22, b45, [.tmp 3, .tmp 4]⟩
def o46_0 : List IOp := [⟨none, .boxH 1 (.t 0), [], none⟩,
    ⟨none, .val 2 .mov [.k (.nl .nilFunc)], [], none⟩]
def r46_0 : IC := (.reg o46_0 [1])
def o46_1 : List IOp := [⟨none, .val 3 (.mkfn 68 0) [.t 1], [], none⟩,
    ⟨none, .val 2 .mov [.t 3], [], none⟩]
def r46_1 : IC := (.reg o46_1 [2])
def b46 : IC := (.seq r46_0 (.seq r46_1 .ret))
def i46 : IFn := ⟨1, 4, b46, [.tmp 2]⟩
def o47_0 : List IOp := [⟨none, .boxL 2 (.t 0), [], none⟩,
    ⟨none, .val 4 .mov [.k (.p (.int .i64 0))], [], none⟩]
def r47_0 : IC := (.reg o47_0 [1, 2])
def o47_1 : List IOp := [⟨none, .val 8 (.faddr 0) [.t 2], [], none⟩,
    ⟨none, .load 9 (.t 8) 3 true, [], none⟩,
    ⟨none, .val 10 .mov [.t 1], [], none⟩,
    ⟨none, .call (some 11) 69 [.t 9, .t 10], [], none⟩,
    ⟨none, .val 7 .mov [.t 11], [], none⟩,
    ⟨none, .val 12 (.ext 0) [.t 7], [], none⟩,
    ⟨none, .val 13 (.ext 1) [.t 7], [], none⟩,
    ⟨none, .val 5 .mov [.t 12], [], none⟩,
    ⟨none, .val 6 .mov [.t 13], [], none⟩]
def r47_1 : IC := (.reg o47_1 [5])
def o47_2 : List IOp := [⟨none, .val 14 .mov [.t 5], [], none⟩,
    ⟨none, .val 4 .mov [.t 14], [], none⟩]
def r47_2 : IC := (.reg o47_2 [4])
def b47 : IC := (.seq r47_0 (.seq r47_1 (.seq r47_2 .ret)))
def i47 : IFn := ⟨2, 15, b47, [.tmp 4]⟩
def o48_0 : List IOp := [⟨none, .boxL 1 (.t 0), [], none⟩,
    ⟨none, .val 2 .mov [.k (.p (.bool false))], [], none⟩]
def r48_0 : IC := (.reg o48_0 [1])
def o48_1 : List IOp := [⟨none, .val 9 (.faddr 0) [.t 1], [], none⟩,
    ⟨none, .load 10 (.t 9) 1 false, [], none⟩,
    ⟨none, .val 11 (.bin .lss) [.t 10, .k (.p (.int .i64 2))], [], none⟩,
    ⟨none, .val 12 .mov [.t 11], [], none⟩,
    ⟨(some (12, false)), .val 13 (.faddr 0) [.t 1], [], none⟩,
    ⟨(some (12, false)), .load 14 (.t 13) 1 false, [], none⟩,
    ⟨(some (12, false)), .val 15 (.bin .gtr) [.t 14, .k (.p (.int .i64 12))], [], none⟩,
    ⟨none, .val 16 .pick [.t 12, .k (.p (.bool true)), .t 15], [], none⟩,
    ⟨none, .val 17 .mov [.t 16], [], none⟩,
    ⟨(some (17, false)), .val 18 (.faddr 1) [.t 1], [], none⟩,
    ⟨(some (17, false)), .load 19 (.t 18) 1 false, [], none⟩,
    ⟨(some (17, false)), .val 20 .len [.t 19], [], none⟩,
    ⟨(some (17, false)), .val 21 (.faddr 0) [.t 1], [], none⟩,
    ⟨(some (17, false)), .load 22 (.t 21) 1 false, [], none⟩,
    ⟨(some (17, false)), .val 23 (.bin .neq) [.t 20, .t 22], [], none⟩,
    ⟨none, .val 24 .pick [.t 17, .k (.p (.bool true)), .t 23], [], none⟩,
    ⟨none, .val 25 .mov [.t 24], [], none⟩,
    ⟨(some (25, false)), .val 26 (.faddr 2) [.t 1], [], none⟩,
    ⟨(some (25, false)), .load 27 (.t 26) 1 false, [], none⟩,
    ⟨(some (25, false)), .val 28 .len [.t 27], [], none⟩,
    ⟨(some (25, false)), .val 29 (.bin .gtr) [.t 28, .k (.p (.int .i64 24))], [], none⟩,
    ⟨none, .val 30 .pick [.t 25, .k (.p (.bool true)), .t 29], [], none⟩]
def r48_1 : IC := (.reg o48_1 [1, 30])
def o48_2 : List IOp := [⟨none, .val 2 .mov [.k (.p (.bool false))], [], none⟩]
def r48_2 : IC := (.reg o48_2 [2])
def o48_3 : List IOp := [⟨none, .val 31 (.faddr 0) [.t 1], [], none⟩,
    ⟨none, .load 32 (.t 31) 1 false, [], none⟩,
    ⟨none, .mkSl 33 (.t 32) (.t 32) [.int .i64 0] 8, [], none⟩,
    ⟨none, .val 3 .mov [.t 33], [], none⟩]
def r48_3 : IC := (.reg o48_3 [1, 3])
def o48_4 : List IOp := [⟨none, .val 4 .mov [.k (.p (.int .i64 0))], [], none⟩]
def r48_4 : IC := (.reg o48_4 [1, 3, 4])
def o48_5 : List IOp := [⟨none, .val 34 .mov [.t 4], [], none⟩,
    ⟨none, .val 35 (.faddr 2) [.t 1], [], none⟩,
    ⟨none, .load 36 (.t 35) 1 false, [], none⟩,
    ⟨none, .val 37 .len [.t 36], [], none⟩,
    ⟨none, .val 38 (.bin .lss) [.t 34, .t 37], [], none⟩]
def r48_5 : IC := (.reg o48_5 [1, 3, 4, 38])
def o48_7 : List IOp := [⟨none, .val 41 (.faddr 2) [.t 1], [], none⟩,
    ⟨none, .load 42 (.t 41) 1 false, [], none⟩,
    ⟨none, .val 43 .mov [.t 4], [], none⟩,
    ⟨none, .val 44 (.iaddrS 4) [.t 42, .t 43], [], none⟩,
    ⟨none, .load 45 (.t 44) 4 true, [], none⟩,
    ⟨none, .newL 5 [.p (.int .i64 0), .p (.int .i64 0), .p (.int .i64 0), .p (.int .i64 0)], [], none⟩,
    ⟨none, .store (.t 5) (.t 45) 4, [], none⟩]
def r48_7 : IC := (.reg o48_7 [1, 3, 4, 5])
def o48_8 : List IOp := [⟨none, .load 46 (.t 1) 3 true, [], none⟩,
    ⟨none, .load 47 (.t 5) 4 true, [], none⟩,
    ⟨none, .call (some 48) 70 [.t 46, .t 47], [], none⟩,
    ⟨none, .val 49 .not [.t 48], [], none⟩]
def r48_8 : IC := (.reg o48_8 [1, 3, 4, 5, 49])
def o48_9 : List IOp := [⟨none, .val 2 .mov [.k (.p (.bool false))], [], none⟩]
def r48_9 : IC := (.reg o48_9 [2])
def o48_10 : List IOp := [⟨none, .val 6 .mov [.k (.p (.int .i64 0))], [], none⟩]
def r48_10 : IC := (.reg o48_10 [1, 3, 4, 5, 6])
def o48_11 : List IOp := [⟨none, .val 50 .mov [.t 6], [], none⟩,
    ⟨none, .val 51 .mov [.t 4], [], none⟩,
    ⟨none, .val 52 (.bin .lss) [.t 50, .t 51], [], none⟩]
def r48_11 : IC := (.reg o48_11 [1, 3, 4, 5, 6, 52])
def o48_13 : List IOp := [⟨none, .val 55 (.faddr 2) [.t 1], [], none⟩,
    ⟨none, .loadL 56 (.t 55) 1 false, [0], none⟩,
    ⟨none, .val 57 .mov [.t 6], [], none⟩,
    ⟨none, .val 58 (.iaddrS 4) [.t 56, .t 57], [0, 1, 2], none⟩,
    ⟨none, .load 59 (.t 58) 4 true, [0, 1, 2, 3], none⟩,
    ⟨none, .val 60 (.faddr 0) [.t 5], [], none⟩,
    ⟨none, .loadL 61 (.t 60) 1 false, [5], none⟩,
    ⟨none, .val 62 (.faddr 1) [.t 5], [], none⟩,
    ⟨none, .loadL 63 (.t 62) 1 false, [7], none⟩,
    ⟨none, .callP 64 71 [.t 59, .t 61, .t 63], [0, 1, 2, 3, 4, 5, 6, 7, 8], none⟩]
def r48_13 : IC := (.regD o48_13 [1, 3, 4, 5, 6, 64])
def o48_14 : List IOp := [⟨none, .val 2 .mov [.k (.p (.bool false))], [], none⟩]
def r48_14 : IC := (.reg o48_14 [2])
def o48_12 : List IOp := [⟨none, .val 53 .mov [.t 6], [], none⟩,
    ⟨none, .val 54 (.bin .add) [.t 53, .k (.p (.int .i64 1))], [], none⟩,
    ⟨none, .val 6 .mov [.t 54], [], none⟩]
def r48_12 : IC := (.reg o48_12 [1, 3, 4, 5, 6])
def l48_2 : IC := (.seq (.seq r48_11 (.cond (.t 52) .skip (.kp [1, 3, 4, 5] (.exit 2)))) (.kp [1, 3, 4, 5, 6] (.seq (.block 3 (.seq r48_13 (.cond (.t 64) (.seq r48_14 .ret) .skip))) (.kp [1, 3, 4, 5, 6] r48_12))))
def o48_15 : List IOp := [⟨none, .val 65 .mov [.t 3], [], none⟩,
    ⟨none, .val 66 (.faddr 0) [.t 5], [], none⟩,
    ⟨none, .loadL 67 (.t 66) 1 false, [1], none⟩,
    ⟨none, .val 68 .mov [.t 3], [], none⟩,
    ⟨none, .val 69 (.faddr 0) [.t 5], [], none⟩,
    ⟨none, .loadL 70 (.t 69) 1 false, [4], none⟩,
    ⟨none, .val 71 (.iaddrS 1) [.t 68, .t 70], [3, 4, 5], none⟩,
    ⟨none, .load 72 (.t 71) 1 false, [3, 4, 5, 6], none⟩,
    ⟨none, .val 73 (.bin .add) [.t 72, .k (.p (.int .i64 1))], [3, 4, 5, 6, 7], none⟩,
    ⟨none, .val 74 (.iaddrS 1) [.t 65, .t 67], [0, 1, 2, 3, 4, 5, 6, 7, 8], none⟩,
    ⟨none, .storeH (.t 74) (.t 73) 1, [0, 1, 2, 3, 4, 5, 6, 7, 8, 9], none⟩]
def r48_15 : IC := (.regD o48_15 [1, 3, 4, 5])
def o48_16 : List IOp := [⟨none, .val 75 .mov [.t 3], [], none⟩,
    ⟨none, .val 76 (.faddr 1) [.t 5], [], none⟩,
    ⟨none, .loadL 77 (.t 76) 1 false, [1], none⟩,
    ⟨none, .val 78 .mov [.t 3], [], none⟩,
    ⟨none, .val 79 (.faddr 1) [.t 5], [], none⟩,
    ⟨none, .loadL 80 (.t 79) 1 false, [4], none⟩,
    ⟨none, .val 81 (.iaddrS 1) [.t 78, .t 80], [3, 4, 5], none⟩,
    ⟨none, .load 82 (.t 81) 1 false, [3, 4, 5, 6], none⟩,
    ⟨none, .val 83 (.bin .add) [.t 82, .k (.p (.int .i64 1))], [3, 4, 5, 6, 7], none⟩,
    ⟨none, .val 84 (.iaddrS 1) [.t 75, .t 77], [0, 1, 2, 3, 4, 5, 6, 7, 8], none⟩,
    ⟨none, .storeH (.t 84) (.t 83) 1, [0, 1, 2, 3, 4, 5, 6, 7, 8, 9], none⟩]
def r48_16 : IC := (.regD o48_16 [1, 3, 4])
def o48_6 : List IOp := [⟨none, .val 39 .mov [.t 4], [], none⟩,
    ⟨none, .val 40 (.bin .add) [.t 39, .k (.p (.int .i64 1))], [], none⟩,
    ⟨none, .val 4 .mov [.t 40], [], none⟩]
def r48_6 : IC := (.reg o48_6 [1, 3, 4])
def l48_1 : IC := (.seq (.seq r48_5 (.cond (.t 38) .skip (.kp [1, 3] (.exit 0)))) (.kp [1, 3, 4] (.seq (.block 1 (.seq r48_7 (.seq (.seq r48_8 (.cond (.t 49) (.seq r48_9 .ret) .skip)) (.kp [1, 3, 4, 5] (.seq (.seq r48_10 (.block 2 (.loop l48_2))) (.seq r48_15 r48_16)))))) (.kp [1, 3, 4] r48_6))))
def o48_17 : List IOp := [⟨none, .load 85 (.t 1) 3 true, [], none⟩,
    ⟨none, .call (some 86) 72 [.t 85, .k (.p (.int .i64 0)), .k (.p (.sl 1 true []))], [], none⟩,
    ⟨none, .val 7 .mov [.t 86], [], none⟩]
def r48_17 : IC := (.reg o48_17 [1, 3, 7])
def o48_18 : List IOp := [⟨none, .val 8 .mov [.k (.p (.int .i64 0))], [], none⟩]
def r48_18 : IC := (.reg o48_18 [1, 3, 7, 8])
def o48_19 : List IOp := [⟨none, .val 87 .mov [.t 8], [], none⟩,
    ⟨none, .val 88 (.faddr 0) [.t 1], [], none⟩,
    ⟨none, .load 89 (.t 88) 1 false, [], none⟩,
    ⟨none, .val 90 (.bin .lss) [.t 87, .t 89], [], none⟩]
def r48_19 : IC := (.reg o48_19 [1, 3, 7, 8, 90])
def o48_21 : List IOp := [⟨none, .val 93 .mov [.t 7], [], none⟩,
    ⟨none, .val 94 .mov [.t 8], [], none⟩,
    ⟨none, .val 95 (.iaddrS 1) [.t 93, .t 94], [], none⟩,
    ⟨none, .load 96 (.t 95) 1 false, [], none⟩,
    ⟨none, .val 97 .not [.t 96], [], none⟩,
    ⟨none, .val 98 .mov [.t 97], [], none⟩,
    ⟨(some (98, false)), .val 99 (.faddr 1) [.t 1], [], none⟩,
    ⟨(some (98, false)), .load 100 (.t 99) 1 false, [], none⟩,
    ⟨(some (98, false)), .val 101 .mov [.t 8], [], none⟩,
    ⟨(some (98, false)), .val 102 (.iaddrS 1) [.t 100, .t 101], [], none⟩,
    ⟨(some (98, false)), .load 103 (.t 102) 1 false, [], none⟩,
    ⟨(some (98, false)), .val 104 .mov [.t 103], [], none⟩,
    ⟨(some (104, true)), .val 105 .mov [.t 3], [], none⟩,
    ⟨(some (104, true)), .val 106 .mov [.t 8], [], none⟩,
    ⟨(some (104, true)), .val 107 (.iaddrS 1) [.t 105, .t 106], [], none⟩,
    ⟨(some (104, true)), .load 108 (.t 107) 1 false, [], none⟩,
    ⟨(some (104, true)), .val 109 (.bin .lss) [.t 108, .k (.p (.int .i64 1))], [], none⟩,
    ⟨(some (104, true)), .val 110 .mov [.t 109], [], none⟩,
    ⟨(some (110, false)), .val 111 .mov [.t 3], [], none⟩,
    ⟨(some (110, false)), .val 112 .mov [.t 8], [], none⟩,
    ⟨(some (110, false)), .val 113 (.iaddrS 1) [.t 111, .t 112], [], none⟩,
    ⟨(some (110, false)), .load 114 (.t 113) 1 false, [], none⟩,
    ⟨(some (110, false)), .val 115 (.bin .gtr) [.t 114, .k (.p (.int .i64 2))], [], none⟩,
    ⟨(some (104, true)), .val 116 .pick [.t 110, .k (.p (.bool true)), .t 115], [], none⟩,
    ⟨(some (98, false)), .val 117 .pick [.t 104, .t 116, .k (.p (.bool false))], [], none⟩,
    ⟨none, .val 118 .pick [.t 98, .k (.p (.bool true)), .t 117], [], none⟩]
def r48_21 : IC := (.reg o48_21 [1, 3, 7, 8, 118])
def o48_22 : List IOp := [⟨none, .val 2 .mov [.k (.p (.bool false))], [], none⟩]
def r48_22 : IC := (.reg o48_22 [2])
def o48_20 : List IOp := [⟨none, .val 91 .mov [.t 8], [], none⟩,
    ⟨none, .val 92 (.bin .add) [.t 91, .k (.p (.int .i64 1))], [], none⟩,
    ⟨none, .val 8 .mov [.t 92], [], none⟩]
def r48_20 : IC := (.reg o48_20 [1, 3, 7, 8])
def l48_3 : IC := (.seq (.seq r48_19 (.cond (.t 90) .skip (.kp [] (.exit 4)))) (.kp [1, 3, 7, 8] (.seq (.block 5 (.seq r48_21 (.cond (.t 118) (.seq r48_22 .ret) .skip))) (.kp [1, 3, 7, 8] r48_20))))
def o48_23 : List IOp := [⟨none, .val 2 .mov [.k (.p (.bool true))], [], none⟩]
def r48_23 : IC := (.reg o48_23 [2])
def b48 : IC := (.seq r48_0 (.seq (.seq r48_1 (.cond (.t 30) (.seq r48_2 .ret) .skip)) (.kp [1] (.seq r48_3 (.seq (.seq r48_4 (.block 0 (.loop l48_1))) (.seq r48_17 (.seq (.seq r48_18 (.block 4 (.loop l48_3))) (.seq r48_23 .ret))))))))
def i48 : IFn := ⟨1, 119, b48, [.tmp 2]⟩
def o49_0 : List IOp := [⟨none, .boxL 2 (.t 0), [], none⟩,
    ⟨none, .val 4 .mov [.k (.p (.bool false))], [], none⟩]
def r49_0 : IC := (.reg o49_0 [1, 2])
def o49_1 : List IOp := [⟨none, .val 8 .mov [.t 1], [], none⟩,
    ⟨none, .val 9 .len [.t 8], [], none⟩,
    ⟨none, .val 10 (.bin .lss) [.t 9, .k (.p (.int .i64 1))], [], none⟩,
    ⟨none, .val 11 .mov [.t 10], [], none⟩,
    ⟨(some (11, false)), .val 12 .mov [.t 1], [], none⟩,
    ⟨(some (11, false)), .val 13 .len [.t 12], [], none⟩,
    ⟨(some (11, false)), .val 14 (.bin .gtr) [.t 13, .k (.p (.int .i64 8))], [], none⟩,
    ⟨none, .val 15 .pick [.t 11, .k (.p (.bool true)), .t 14], [], none⟩]
def r49_1 : IC := (.reg o49_1 [1, 2, 15])
def o49_2 : List IOp := [⟨none, .val 4 .mov [.k (.p (.bool false))], [], none⟩]
def r49_2 : IC := (.reg o49_2 [4])
def o49_3 : List IOp := [⟨none, .val 5 .mov [.k (.p (.int .i64 0))], [], none⟩]
def r49_3 : IC := (.reg o49_3 [1, 2, 5])
def o49_4 : List IOp := [⟨none, .val 16 .mov [.t 5], [], none⟩,
    ⟨none, .val 17 .mov [.t 1], [], none⟩,
    ⟨none, .val 18 .len [.t 17], [], none⟩,
    ⟨none, .val 19 (.bin .lss) [.t 16, .t 18], [], none⟩]
def r49_4 : IC := (.reg o49_4 [1, 2, 5, 19])
def o49_6 : List IOp := [⟨none, .loadL 22 (.t 2) 3 true, [], none⟩,
    ⟨none, .val 23 .mov [.t 1], [], none⟩,
    ⟨none, .val 24 .mov [.t 5], [], none⟩,
    ⟨none, .val 25 (.iaddrS 1) [.t 23, .t 24], [1, 2], none⟩,
    ⟨none, .load 26 (.t 25) 1 false, [1, 2, 3], none⟩,
    ⟨none, .callP 27 73 [.t 22, .t 26], [0, 1, 2, 3, 4], none⟩,
    ⟨none, .val 28 .not [.t 27], [0, 1, 2, 3, 4, 5], none⟩]
def r49_6 : IC := (.regD o49_6 [1, 2, 5, 28])
def o49_7 : List IOp := [⟨none, .val 4 .mov [.k (.p (.bool false))], [], none⟩]
def r49_7 : IC := (.reg o49_7 [4])
def o49_5 : List IOp := [⟨none, .val 20 .mov [.t 5], [], none⟩,
    ⟨none, .val 21 (.bin .add) [.t 20, .k (.p (.int .i64 1))], [], none⟩,
    ⟨none, .val 5 .mov [.t 21], [], none⟩]
def r49_5 : IC := (.reg o49_5 [1, 2, 5])
def l49_1 : IC := (.seq (.seq r49_4 (.cond (.t 19) .skip (.kp [1, 2] (.exit 0)))) (.kp [1, 2, 5] (.seq (.block 1 (.seq r49_6 (.cond (.t 28) (.seq r49_7 .ret) .skip))) (.kp [1, 2, 5] r49_5))))
def o49_8 : List IOp := [⟨none, .load 29 (.t 2) 3 true, [], none⟩,
    ⟨none, .val 30 .mov [.t 1], [], none⟩,
    ⟨none, .call (some 31) 20 [.t 29, .t 30], [], none⟩,
    ⟨none, .val 6 .mov [.t 31], [], none⟩]
def r49_8 : IC := (.reg o49_8 [1, 2, 6])
def o49_9 : List IOp := [⟨none, .val 7 .mov [.k (.p (.int .i64 0))], [], none⟩]
def r49_9 : IC := (.reg o49_9 [1, 2, 6, 7])
def o49_10 : List IOp := [⟨none, .val 32 .mov [.t 7], [], none⟩,
    ⟨none, .val 33 .mov [.t 6], [], none⟩,
    ⟨none, .val 34 .len [.t 33], [], none⟩,
    ⟨none, .val 35 (.bin .lss) [.t 32, .t 34], [], none⟩]
def r49_10 : IC := (.reg o49_10 [1, 2, 6, 7, 35])
def o49_12 : List IOp := [⟨none, .val 38 .mov [.t 6], [], none⟩,
    ⟨none, .val 39 .mov [.t 7], [], none⟩,
    ⟨none, .val 40 (.slice 1 false true false) [.t 38, .t 39], [0, 1], none⟩,
    ⟨none, .val 41 .mov [.t 6], [], none⟩,
    ⟨none, .val 42 .mov [.t 7], [], none⟩,
    ⟨none, .val 43 (.iaddrS 1) [.t 41, .t 42], [3, 4], none⟩,
    ⟨none, .load 44 (.t 43) 1 false, [3, 4, 5], none⟩,
    ⟨none, .callP 45 67 [.t 40, .t 44], [0, 1, 2, 3, 4, 5, 6], none⟩]
def r49_12 : IC := (.regD o49_12 [1, 2, 6, 7, 45])
def o49_13 : List IOp := [⟨none, .val 4 .mov [.k (.p (.bool false))], [], none⟩]
def r49_13 : IC := (.reg o49_13 [4])
def o49_14 : List IOp := [⟨none, .val 46 .mov [.t 7], [], none⟩,
    ⟨none, .val 47 (.bin .gtr) [.t 46, .k (.p (.int .i64 0))], [0], none⟩,
    ⟨none, .val 48 .mov [.t 47], [0, 1], none⟩,
    ⟨(some (48, true)), .val 49 .mov [.t 7], [0, 1, 2], none⟩,
    ⟨(some (48, true)), .val 50 .mov [.t 1], [0, 1, 2], none⟩,
    ⟨(some (48, true)), .val 51 .len [.t 50], [0, 1, 2, 4], none⟩,
    ⟨(some (48, true)), .val 52 (.bin .lss) [.t 49, .t 51], [0, 1, 2, 3, 4, 5], none⟩,
    ⟨none, .val 53 .pick [.t 48, .t 52, .k (.p (.bool false))], [0, 1, 2, 3, 4, 5, 6], none⟩,
    ⟨none, .val 54 .mov [.t 53], [0, 1, 2, 3, 4, 5, 6, 7], none⟩,
    ⟨(some (54, true)), .val 55 (.faddr 1) [.t 2], [0, 1, 2, 3, 4, 5, 6, 7, 8], none⟩,
    ⟨(some (54, true)), .loadL 56 (.t 55) 1 false, [0, 1, 2, 3, 4, 5, 6, 7, 8, 9], none⟩,
    ⟨(some (54, true)), .val 57 .mov [.t 6], [0, 1, 2, 3, 4, 5, 6, 7, 8], none⟩,
    ⟨(some (54, true)), .val 58 .mov [.t 7], [0, 1, 2, 3, 4, 5, 6, 7, 8], none⟩,
    ⟨(some (54, true)), .val 59 (.iaddrS 1) [.t 57, .t 58], [0, 1, 2, 3, 4, 5, 6, 7, 8, 11, 12], none⟩,
    ⟨(some (54, true)), .load 60 (.t 59) 1 false, [0, 1, 2, 3, 4, 5, 6, 7, 8, 11, 12, 13], none⟩,
    ⟨(some (54, true)), .val 61 (.iaddrS 1) [.t 56, .t 60], [0, 1, 2, 3, 4, 5, 6, 7, 8, 9, 10, 11, 12, 13, 14], none⟩,
    ⟨(some (54, true)), .load 62 (.t 61) 1 false, [0, 1, 2, 3, 4, 5, 6, 7, 8, 9, 10, 11, 12, 13, 14, 15], none⟩,
    ⟨(some (54, true)), .val 63 .mov [.t 62], [0, 1, 2, 3, 4, 5, 6, 7, 8, 9, 10, 11, 12, 13, 14, 15, 16], none⟩,
    ⟨(some (63, false)), .loadL 64 (.t 2) 3 true, [0, 1, 2, 3, 4, 5, 6, 7, 8, 9, 10, 11, 12, 13, 14, 15, 16, 17], none⟩,
    ⟨(some (63, false)), .val 65 .mov [.t 1], [0, 1, 2, 3, 4, 5, 6, 7, 8, 9, 10, 11, 12, 13, 14, 15, 16, 17], none⟩,
    ⟨(some (63, false)), .val 66 .mov [.t 7], [0, 1, 2, 3, 4, 5, 6, 7, 8, 9, 10, 11, 12, 13, 14, 15, 16, 17], none⟩,
    ⟨(some (63, false)), .val 67 (.iaddrS 1) [.t 65, .t 66], [0, 1, 2, 3, 4, 5, 6, 7, 8, 9, 10, 11, 12, 13, 14, 15, 16, 17, 19, 20], none⟩,
    ⟨(some (63, false)), .load 68 (.t 67) 1 false, [0, 1, 2, 3, 4, 5, 6, 7, 8, 9, 10, 11, 12, 13, 14, 15, 16, 17, 19, 20, 21], none⟩,
    ⟨(some (63, false)), .callP 69 52 [.t 64, .t 68], [0, 1, 2, 3, 4, 5, 6, 7, 8, 9, 10, 11, 12, 13, 14, 15, 16, 17, 18, 19, 20, 21, 22], none⟩,
    ⟨(some (63, false)), .val 70 .mov [.t 6], [0, 1, 2, 3, 4, 5, 6, 7, 8, 9, 10, 11, 12, 13, 14, 15, 16, 17], none⟩,
    ⟨(some (63, false)), .val 71 .mov [.t 7], [0, 1, 2, 3, 4, 5, 6, 7, 8, 9, 10, 11, 12, 13, 14, 15, 16, 17], none⟩,
    ⟨(some (63, false)), .val 72 (.iaddrS 1) [.t 70, .t 71], [0, 1, 2, 3, 4, 5, 6, 7, 8, 9, 10, 11, 12, 13, 14, 15, 16, 17, 24, 25], none⟩,
    ⟨(some (63, false)), .load 73 (.t 72) 1 false, [0, 1, 2, 3, 4, 5, 6, 7, 8, 9, 10, 11, 12, 13, 14, 15, 16, 17, 24, 25, 26], none⟩,
    ⟨(some (63, false)), .val 74 (.bin .neq) [.t 69, .t 73], [0, 1, 2, 3, 4, 5, 6, 7, 8, 9, 10, 11, 12, 13, 14, 15, 16, 17, 18, 19, 20, 21, 22, 23, 24, 25, 26, 27], none⟩,
    ⟨(some (54, true)), .val 75 .pick [.t 63, .k (.p (.bool true)), .t 74], [0, 1, 2, 3, 4, 5, 6, 7, 8, 9, 10, 11, 12, 13, 14, 15, 16, 17, 18, 19, 20, 21, 22, 23, 24, 25, 26, 27, 28], none⟩,
    ⟨none, .val 76 .pick [.t 54, .t 75, .k (.p (.bool false))], [0, 1, 2, 3, 4, 5, 6, 7, 8, 9, 10, 11, 12, 13, 14, 15, 16, 17, 18, 19, 20, 21, 22, 23, 24, 25, 26, 27, 28, 29], none⟩]
def r49_14 : IC := (.regD o49_14 [1, 2, 6, 7, 76])
def o49_15 : List IOp := [⟨none, .val 4 .mov [.k (.p (.bool false))], [], none⟩]
def r49_15 : IC := (.reg o49_15 [4])
def o49_11 : List IOp := [⟨none, .val 36 .mov [.t 7], [], none⟩,
    ⟨none, .val 37 (.bin .add) [.t 36, .k (.p (.int .i64 1))], [], none⟩,
    ⟨none, .val 7 .mov [.t 37], [], none⟩]
def r49_11 : IC := (.reg o49_11 [1, 2, 6, 7])
def l49_2 : IC := (.seq (.seq r49_10 (.cond (.t 35) .skip (.kp [] (.exit 2)))) (.kp [1, 2, 6, 7] (.seq (.block 3 (.seq (.seq r49_12 (.cond (.t 45) (.seq r49_13 .ret) .skip)) (.kp [1, 2, 6, 7] (.seq r49_14 (.cond (.t 76) (.seq r49_15 .ret) .skip))))) (.kp [1, 2, 6, 7] r49_11))))
def o49_16 : List IOp := [⟨none, .val 4 .mov [.k (.p (.bool true))], [], none⟩]
def r49_16 : IC := (.reg o49_16 [4])
def b49 : IC := (.seq r49_0 (.seq (.seq r49_1 (.cond (.t 15) (.seq r49_2 .ret) .skip)) (.kp [1, 2] (.seq (.seq r49_3 (.block 0 (.loop l49_1))) (.seq r49_8 (.seq (.seq r49_9 (.block 2 (.loop l49_2))) (.seq r49_16 .ret)))))))
def i49 : IFn := ⟨2, 77, b49, [.tmp 4]⟩
def o50_0 : List IOp := [⟨none, .boxL 1 (.t 0), [], none⟩,
    ⟨none, .val 2 .mov [.k (.p (.int .i64 0))], [], none⟩]
def r50_0 : IC := (.reg o50_0 [1])
def o50_1 : List IOp := [⟨none, .val 8 (.faddr 0) [.t 1], [], none⟩,
    ⟨none, .load 9 (.t 8) 1 false, [], none⟩,
    ⟨none, .val 10 (.bin .lss) [.t 9, .k (.p (.int .i64 2))], [], none⟩,
    ⟨none, .val 11 .mov [.t 10], [], none⟩,
    ⟨(some (11, false)), .val 12 (.faddr 0) [.t 1], [], none⟩,
    ⟨(some (11, false)), .load 13 (.t 12) 1 false, [], none⟩,
    ⟨(some (11, false)), .val 14 (.bin .gtr) [.t 13, .k (.p (.int .i64 12))], [], none⟩,
    ⟨none, .val 15 .pick [.t 11, .k (.p (.bool true)), .t 14], [], none⟩,
    ⟨none, .val 16 .mov [.t 15], [], none⟩,
    ⟨(some (16, false)), .val 17 (.faddr 1) [.t 1], [], none⟩,
    ⟨(some (16, false)), .load 18 (.t 17) 1 false, [], none⟩,
    ⟨(some (16, false)), .val 19 .len [.t 18], [], none⟩,
    ⟨(some (16, false)), .val 20 (.faddr 0) [.t 1], [], none⟩,
    ⟨(some (16, false)), .load 21 (.t 20) 1 false, [], none⟩,
    ⟨(some (16, false)), .val 22 (.bin .neq) [.t 19, .t 21], [], none⟩,
    ⟨none, .val 23 .pick [.t 16, .k (.p (.bool true)), .t 22], [], none⟩]
def r50_1 : IC := (.reg o50_1 [1, 23])
def o50_2 : List IOp := [⟨none, .val 2 .mov [.k (.p (.int .i64 260))], [], none⟩]
def r50_2 : IC := (.reg o50_2 [2])
def o50_3 : List IOp := [⟨none, .val 24 (.faddr 2) [.t 1], [], none⟩,
    ⟨none, .load 25 (.t 24) 1 false, [], none⟩,
    ⟨none, .val 26 .len [.t 25], [], none⟩,
    ⟨none, .val 27 (.bin .gtr) [.t 26, .k (.p (.int .i64 24))], [], none⟩,
    ⟨none, .val 28 .mov [.t 27], [], none⟩,
    ⟨(some (28, false)), .load 29 (.t 1) 3 true, [], none⟩,
    ⟨(some (28, false)), .call (some 30) 74 [.t 29], [], none⟩,
    ⟨(some (28, false)), .val 31 .not [.t 30], [], none⟩,
    ⟨none, .val 32 .pick [.t 28, .k (.p (.bool true)), .t 31], [], none⟩]
def r50_3 : IC := (.reg o50_3 [1, 32])
def o50_4 : List IOp := [⟨none, .val 2 .mov [.k (.p (.int .i64 260))], [], none⟩]
def r50_4 : IC := (.reg o50_4 [2])
def o50_5 : List IOp := [⟨none, .val 33 (.faddr 0) [.t 1], [], none⟩,
    ⟨none, .load 34 (.t 33) 1 false, [], none⟩,
    ⟨none, .mkSl 35 (.t 34) (.t 34) [.int .i64 0] 8, [], none⟩,
    ⟨none, .val 3 .mov [.t 35], [], none⟩]
def r50_5 : IC := (.reg o50_5 [1, 3])
def o50_6 : List IOp := [⟨none, .val 36 (.faddr 2) [.t 1], [], none⟩,
    ⟨none, .load 37 (.t 36) 1 false, [], none⟩,
    ⟨none, .val 38 .len [.t 37], [], none⟩,
    ⟨none, .val 39 .mov [.k (.p (.int .i64 0))], [], none⟩]
def r50_6 : IC := (.reg o50_6 [1, 3, 37, 38, 39])
def o50_7 : List IOp := [⟨none, .val 40 (.bin .lss) [.t 39, .t 38], [], none⟩]
def r50_7 : IC := (.reg o50_7 [1, 3, 37, 38, 39, 40])
def o50_8 : List IOp := [⟨none, .val 41 (.iaddrS 4) [.t 37, .t 39], [], none⟩,
    ⟨none, .load 42 (.t 41) 4 true, [], none⟩,
    ⟨none, .newL 5 [.p (.int .i64 0), .p (.int .i64 0), .p (.int .i64 0), .p (.int .i64 0)], [], none⟩,
    ⟨none, .store (.t 5) (.t 42) 4, [], none⟩]
def r50_8 : IC := (.reg o50_8 [1, 3, 5, 37, 38, 39])
def o50_9 : List IOp := [⟨none, .val 43 .mov [.t 3], [], none⟩,
    ⟨none, .val 44 (.faddr 0) [.t 5], [], none⟩,
    ⟨none, .load 45 (.t 44) 1 false, [], none⟩,
    ⟨none, .val 46 (.iaddrS 1) [.t 43, .t 45], [], none⟩,
    ⟨none, .load 47 (.t 46) 1 false, [], none⟩,
    ⟨none, .val 48 (.bin .add) [.t 47, .k (.p (.int .i64 1))], [], none⟩,
    ⟨none, .val 49 (.iaddrS 1) [.t 43, .t 45], [], none⟩,
    ⟨none, .store (.t 49) (.t 48) 1, [], none⟩]
def r50_9 : IC := (.reg o50_9 [1, 3, 5, 37, 38, 39])
def o50_10 : List IOp := [⟨none, .val 50 .mov [.t 3], [], none⟩,
    ⟨none, .val 51 (.faddr 1) [.t 5], [], none⟩,
    ⟨none, .load 52 (.t 51) 1 false, [], none⟩,
    ⟨none, .val 53 (.iaddrS 1) [.t 50, .t 52], [], none⟩,
    ⟨none, .load 54 (.t 53) 1 false, [], none⟩,
    ⟨none, .val 55 (.bin .add) [.t 54, .k (.p (.int .i64 1))], [], none⟩,
    ⟨none, .val 56 (.iaddrS 1) [.t 50, .t 52], [], none⟩,
    ⟨none, .store (.t 56) (.t 55) 1, [], none⟩]
def r50_10 : IC := (.reg o50_10 [1, 3, 37, 38, 39])
def o50_11 : List IOp := [⟨none, .val 57 (.bin .add) [.t 39, .k (.p (.int .i64 1))], [], none⟩,
    ⟨none, .val 39 .mov [.t 57], [], none⟩]
def r50_11 : IC := (.reg o50_11 [1, 3, 37, 38, 39])
def l50_1 : IC := (.seq r50_7 (.seq (.cond (.t 40) .skip (.kp [1, 3] (.exit 0))) (.kp [1, 3, 37, 38, 39] (.seq (.block 1 (.seq r50_8 (.seq r50_9 r50_10))) r50_11))))
def o50_12 : List IOp := [⟨none, .val 58 (.faddr 1) [.t 1], [], none⟩,
    ⟨none, .load 59 (.t 58) 1 false, [], none⟩,
    ⟨none, .val 60 .len [.t 59], [], none⟩,
    ⟨none, .val 61 .mov [.k (.p (.int .i64 0))], [], none⟩]
def r50_12 : IC := (.reg o50_12 [1, 3, 59, 60, 61])
def o50_13 : List IOp := [⟨none, .val 62 (.bin .lss) [.t 61, .t 60], [], none⟩]
def r50_13 : IC := (.reg o50_13 [1, 3, 59, 60, 61, 62])
def o50_14 : List IOp := [⟨none, .val 63 .mov [.t 61], [], none⟩,
    ⟨none, .val 64 (.iaddrS 1) [.t 59, .t 61], [], none⟩,
    ⟨none, .load 65 (.t 64) 1 false, [], none⟩,
    ⟨none, .val 6 .mov [.t 63], [], none⟩,
    ⟨none, .val 7 .mov [.t 65], [], none⟩]
def r50_14 : IC := (.reg o50_14 [1, 3, 6, 7, 59, 60, 61])
def o50_15 : List IOp := [⟨none, .val 66 .mov [.t 7], [], none⟩,
    ⟨none, .val 67 .mov [.t 66], [], none⟩,
    ⟨(some (67, true)), .val 68 .mov [.t 3], [], none⟩,
    ⟨(some (67, true)), .val 69 .mov [.t 6], [], none⟩,
    ⟨(some (67, true)), .val 70 (.iaddrS 1) [.t 68, .t 69], [], none⟩,
    ⟨(some (67, true)), .load 71 (.t 70) 1 false, [], none⟩,
    ⟨(some (67, true)), .val 72 (.bin .lss) [.t 71, .k (.p (.int .i64 1))], [], none⟩,
    ⟨(some (67, true)), .val 73 .mov [.t 72], [], none⟩,
    ⟨(some (73, false)), .val 74 .mov [.t 3], [], none⟩,
    ⟨(some (73, false)), .val 75 .mov [.t 6], [], none⟩,
    ⟨(some (73, false)), .val 76 (.iaddrS 1) [.t 74, .t 75], [], none⟩,
    ⟨(some (73, false)), .load 77 (.t 76) 1 false, [], none⟩,
    ⟨(some (73, false)), .val 78 (.bin .gtr) [.t 77, .k (.p (.int .i64 2))], [], none⟩,
    ⟨(some (67, true)), .val 79 .pick [.t 73, .k (.p (.bool true)), .t 78], [], none⟩,
    ⟨none, .val 80 .pick [.t 67, .t 79, .k (.p (.bool false))], [], none⟩]
def r50_15 : IC := (.reg o50_15 [1, 3, 59, 60, 61, 80])
def o50_16 : List IOp := [⟨none, .val 2 .mov [.k (.p (.int .i64 260))], [], none⟩]
def r50_16 : IC := (.reg o50_16 [2])
def o50_17 : List IOp := [⟨none, .val 81 (.bin .add) [.t 61, .k (.p (.int .i64 1))], [], none⟩,
    ⟨none, .val 61 .mov [.t 81], [], none⟩]
def r50_17 : IC := (.reg o50_17 [1, 3, 59, 60, 61])
def l50_2 : IC := (.seq r50_13 (.seq (.cond (.t 62) .skip (.kp [1] (.exit 2))) (.kp [1, 3, 59, 60, 61] (.seq (.block 3 (.seq r50_14 (.seq r50_15 (.cond (.t 80) (.seq r50_16 .ret) .skip)))) (.kp [1, 3, 59, 60, 61] r50_17)))))
def o50_18 : List IOp := [⟨none, .load 82 (.t 1) 3 true, [], none⟩,
    ⟨none, .val 83 (.build (List.replicate 24 (.p (.bool false))) []) [], [], none⟩,
    ⟨none, .call (some 84) 76 [.t 82, .k (.p (.int .i64 0)), .t 83], [], none⟩,
    ⟨none, .call (some 85) 75 [.t 84, .k (.p (.bool false))], [], none⟩]
def r50_18 : IC := (.reg o50_18 [85])
def o50_19 : List IOp := [⟨none, .val 2 .mov [.k (.p (.int .i64 260))], [], none⟩]
def r50_19 : IC := (.reg o50_19 [2])
def o50_20 : List IOp := [⟨none, .val 2 .mov [.k (.p (.int .i64 0))], [], none⟩]
def r50_20 : IC := (.reg o50_20 [2])
def b50 : IC := (.seq r50_0 (.seq (.seq r50_1 (.cond (.t 23) (.seq r50_2 .ret) .skip)) (.kp [1] (.seq (.seq r50_3 (.cond (.t 32) (.seq r50_4 .ret) .skip)) (.kp [1] (.seq r50_5 (.seq (.seq r50_6 (.block 0 (.loop l50_1))) (.seq (.seq r50_12 (.block 2 (.loop l50_2))) (.seq (.seq r50_18 (.cond (.t 85) (.seq r50_19 .ret) .skip)) (.kp [] (.seq r50_20 .ret)))))))))))
def i50 : IFn := ⟨1, 86, b50, [.tmp 2]⟩
def o51_0 : List IOp := [⟨none, .boxH 2 (.t 0), [], none⟩,
    ⟨none, .val 4 .mov [.k (.p (.bool false))], [], none⟩]
def r51_0 : IC := (.reg o51_0 [1, 2])
def o51_1 : List IOp := [⟨none, .val 10 .mov [.t 1], [], none⟩,
    ⟨none, .val 11 .len [.t 10], [], none⟩,
    ⟨none, .val 12 (.bin .lss) [.t 11, .k (.p (.int .i64 1))], [], none⟩,
    ⟨none, .val 13 .mov [.t 12], [], none⟩,
    ⟨(some (13, false)), .val 14 .mov [.t 1], [], none⟩,
    ⟨(some (13, false)), .val 15 .len [.t 14], [], none⟩,
    ⟨(some (13, false)), .val 16 (.bin .gtr) [.t 15, .k (.p (.int .i64 8))], [], none⟩,
    ⟨none, .val 17 .pick [.t 13, .k (.p (.bool true)), .t 16], [], none⟩]
def r51_1 : IC := (.reg o51_1 [1, 2, 17])
def o51_2 : List IOp := [⟨none, .val 4 .mov [.k (.p (.bool false))], [], none⟩]
def r51_2 : IC := (.reg o51_2 [4])
def o51_3 : List IOp := [⟨none, .newH 5 [.p (.bool false), .p (.bool false), .p (.bool false), .p (.bool false), .p (.bool false), .p (.bool false), .p (.bool false), .p (.bool false), .p (.bool false), .p (.bool false), .p (.bool false), .p (.bool false)], [], none⟩]
def r51_3 : IC := (.reg o51_3 [1, 2, 5])
def o51_4 : List IOp := [⟨none, .newH 6 [.p (.int .i64 0)], [], none⟩,
    ⟨none, .newH 7 [.p (.int .i64 0)], [], none⟩,
    ⟨none, .store (.t 6) (.k (.p (.int .i64 0))) 1, [], none⟩,
    ⟨none, .store (.t 7) (.k (.p (.int .i64 0))) 1, [], none⟩]
def r51_4 : IC := (.reg o51_4 [1, 2, 5, 6, 7])
def o51_5 : List IOp := [⟨none, .load 18 (.t 2) 3 true, [], none⟩,
    ⟨none, .val 19 .mov [.t 1], [], none⟩,
    ⟨none, .call (some 20) 62 [.t 18, .t 19], [], none⟩]
def r51_5 : IC := (.reg o51_5 [1, 2, 5, 6, 7, 20])
def o51_6 : List IOp := [⟨none, .val 8 .mov [.t 21], [], none⟩]
def r51_6 : IC := (.reg o51_6 [2, 5, 6, 7, 8, 22])
def o51_7 : List IOp := [⟨none, .newL 9 [.p (.int .i64 0), .p (.int .i64 0), .p (.int .i64 0)], [], none⟩,
    ⟨none, .store (.t 9) (.t 22) 3, [], none⟩]
def r51_7 : IC := (.reg o51_7 [2, 5, 6, 7, 8, 9])
def o51_8 : List IOp := [⟨none, .val 23 .mov [.t 8], [], none⟩,
    ⟨none, .val 24 (.bin .eql) [.t 23, .k (.p (.int .i64 0))], [], none⟩]
def r51_8 : IC := (.reg o51_8 [2, 5, 6, 7, 9, 24])
def o51_9 : List IOp := [⟨none, .val 25 (.faddr 1) [.t 9], [], none⟩,
    ⟨none, .load 26 (.t 25) 1 false, [], none⟩,
    ⟨none, .val 27 (.iaddr 12 1) [.t 5, .t 26], [], none⟩,
    ⟨none, .store (.t 27) (.k (.p (.bool true))) 1, [], none⟩]
def r51_9 : IC := (.reg o51_9 [5, 6, 7, 9])
def o51_10 : List IOp := [⟨none, .val 28 (.faddr 1) [.t 9], [], none⟩,
    ⟨none, .load 29 (.t 28) 1 false, [], none⟩,
    ⟨none, .load 30 (.t 6) 1 false, [], none⟩,
    ⟨none, .val 31 (.bin .neq) [.t 29, .t 30], [], none⟩,
    ⟨none, .val 32 .mov [.t 31], [], none⟩,
    ⟨(some (32, false)), .val 33 (.faddr 0) [.t 2], [], none⟩,
    ⟨(some (32, false)), .val 34 (.faddr 1) [.t 33], [], none⟩,
    ⟨(some (32, false)), .load 35 (.t 34) 1 false, [], none⟩,
    ⟨(some (32, false)), .load 36 (.t 6) 1 false, [], none⟩,
    ⟨(some (32, false)), .val 37 (.iaddrS 1) [.t 35, .t 36], [], none⟩,
    ⟨(some (32, false)), .load 38 (.t 37) 1 false, [], none⟩,
    ⟨none, .val 39 .pick [.t 32, .k (.p (.bool true)), .t 38], [], none⟩]
def r51_10 : IC := (.reg o51_10 [5, 6, 7, 9, 39])
def o51_11 : List IOp := [⟨none, .val 40 (.faddr 2) [.t 9], [], none⟩,
    ⟨none, .load 41 (.t 40) 1 false, [], none⟩,
    ⟨none, .val 42 (.iaddr 12 1) [.t 5, .t 41], [], none⟩,
    ⟨none, .load 43 (.t 42) 1 false, [], none⟩]
def r51_11 : IC := (.reg o51_11 [5, 6, 7, 9, 43])
def o51_12 : List IOp := [⟨none, .val 44 (.faddr 2) [.t 9], [], none⟩,
    ⟨none, .load 45 (.t 44) 1 false, [], none⟩,
    ⟨none, .val 46 (.iaddr 12 1) [.t 5, .t 45], [], none⟩,
    ⟨none, .store (.t 46) (.k (.p (.bool true))) 1, [], none⟩]
def r51_12 : IC := (.reg o51_12 [6, 7, 9])
def o51_13 : List IOp := [⟨none, .val 47 (.faddr 2) [.t 9], [], none⟩,
    ⟨none, .load 48 (.t 47) 1 false, [], none⟩,
    ⟨none, .store (.t 6) (.t 48) 1, [], none⟩]
def r51_13 : IC := (.reg o51_13 [7])
def o51_14 : List IOp := [⟨none, .load 49 (.t 7) 1 false, [], none⟩,
    ⟨none, .val 50 (.bin .add) [.t 49, .k (.p (.int .i64 1))], [], none⟩,
    ⟨none, .store (.t 7) (.t 50) 1, [], none⟩]
def r51_14 : IC := (.reg o51_14 [])
def ra51_1 : IC := (.seq r51_6 r51_7)
def rb51_1 : IC := (.block 1 (.seq (.seq r51_8 (.cond (.t 24) r51_9 (.seq r51_10 (.cond (.t 39) (.kp [] (.exit 0)) .skip)))) (.kp [5, 6, 7, 9] (.seq (.seq r51_11 (.cond (.t 43) (.kp [] (.exit 0)) .skip)) (.kp [5, 6, 7, 9] (.seq r51_12 (.seq r51_13 r51_14)))))))
def o51_15 : List IOp := [⟨none, .load 51 (.t 7) 1 false, [], none⟩,
    ⟨none, .val 52 .mov [.t 1], [], none⟩,
    ⟨none, .val 53 .len [.t 52], [], none⟩,
    ⟨none, .val 54 (.bin .eql) [.t 51, .t 53], [], none⟩,
    ⟨none, .val 4 .mov [.t 54], [], none⟩]
def r51_15 : IC := (.reg o51_15 [4])
def b51 : IC := (.seq r51_0 (.seq (.seq r51_1 (.cond (.t 17) (.seq r51_2 .ret) .skip)) (.kp [1, 2] (.seq r51_3 (.seq r51_4 (.seq (.seq r51_5 (.block 0 (.rangeF (.t 20) [21, 22] ra51_1 rb51_1))) (.kp [1, 7] (.seq r51_15 .ret))))))))
def i51 : IFn := ⟨2, 55, b51, [.tmp 4]⟩
def o52_0 : List IOp := [⟨none, .boxL 2 (.t 0), [], none⟩,
    ⟨none, .val 4 .mov [.k (.p (.int .i64 0))], [], none⟩]
def r52_0 : IC := (.reg o52_0 [1, 2])
def o52_1 : List IOp := [⟨none, .val 6 (.faddr 2) [.t 2], [], none⟩,
    ⟨none, .load 7 (.t 6) 1 false, [], none⟩,
    ⟨none, .val 8 .mov [.t 1], [], none⟩,
    ⟨none, .val 9 (.bin .quo) [.t 8, .k (.p (.int .i64 2))], [], none⟩,
    ⟨none, .val 10 (.iaddrS 4) [.t 7, .t 9], [], none⟩,
    ⟨none, .load 11 (.t 10) 4 true, [], none⟩,
    ⟨none, .newL 5 [.p (.int .i64 0), .p (.int .i64 0), .p (.int .i64 0), .p (.int .i64 0)], [], none⟩,
    ⟨none, .store (.t 5) (.t 11) 4, [], none⟩]
def r52_1 : IC := (.reg o52_1 [1, 5])
def o52_2 : List IOp := [⟨none, .val 12 .mov [.t 1], [], none⟩,
    ⟨none, .val 13 (.bin .rem) [.t 12, .k (.p (.int .i64 2))], [], none⟩,
    ⟨none, .val 14 (.bin .eql) [.t 13, .k (.p (.int .i64 1))], [], none⟩]
def r52_2 : IC := (.reg o52_2 [5, 14])
def o52_3 : List IOp := [⟨none, .val 15 (.faddr 1) [.t 5], [], none⟩,
    ⟨none, .load 16 (.t 15) 1 false, [], none⟩,
    ⟨none, .val 4 .mov [.t 16], [], none⟩]
def r52_3 : IC := (.reg o52_3 [4])
def o52_4 : List IOp := [⟨none, .val 17 (.faddr 0) [.t 5], [], none⟩,
    ⟨none, .load 18 (.t 17) 1 false, [], none⟩,
    ⟨none, .val 4 .mov [.t 18], [], none⟩]
def r52_4 : IC := (.reg o52_4 [4])
def b52 : IC := (.seq r52_0 (.seq r52_1 (.seq (.seq r52_2 (.cond (.t 14) (.seq r52_3 .ret) .skip)) (.kp [5] (.seq r52_4 .ret)))))
def i52 : IFn := ⟨2, 19, b52, [.tmp 4]⟩
def o53_0 : List IOp := [⟨none, .boxL 2 (.t 0), [], none⟩,
    ⟨none, .val 4 .mov [.k (.p (.int .i64 0))], [], none⟩]
def r53_0 : IC := (.reg o53_0 [1, 2])
def o53_1 : List IOp := [⟨none, .val 6 (.faddr 2) [.t 2], [], none⟩,
    ⟨none, .load 7 (.t 6) 1 false, [], none⟩,
    ⟨none, .val 8 .mov [.t 1], [], none⟩,
    ⟨none, .val 9 (.bin .quo) [.t 8, .k (.p (.int .i64 2))], [], none⟩,
    ⟨none, .val 10 (.iaddrS 4) [.t 7, .t 9], [], none⟩,
    ⟨none, .load 11 (.t 10) 4 true, [], none⟩,
    ⟨none, .newL 5 [.p (.int .i64 0), .p (.int .i64 0), .p (.int .i64 0), .p (.int .i64 0)], [], none⟩,
    ⟨none, .store (.t 5) (.t 11) 4, [], none⟩]
def r53_1 : IC := (.reg o53_1 [1, 5])
def o53_2 : List IOp := [⟨none, .val 12 .mov [.t 1], [], none⟩,
    ⟨none, .val 13 (.bin .rem) [.t 12, .k (.p (.int .i64 2))], [], none⟩,
    ⟨none, .val 14 (.bin .eql) [.t 13, .k (.p (.int .i64 1))], [], none⟩]
def r53_2 : IC := (.reg o53_2 [5, 14])
def o53_3 : List IOp := [⟨none, .val 15 (.faddr 0) [.t 5], [], none⟩,
    ⟨none, .load 16 (.t 15) 1 false, [], none⟩,
    ⟨none, .val 4 .mov [.t 16], [], none⟩]
def r53_3 : IC := (.reg o53_3 [4])
def o53_4 : List IOp := [⟨none, .val 17 (.faddr 1) [.t 5], [], none⟩,
    ⟨none, .load 18 (.t 17) 1 false, [], none⟩,
    ⟨none, .val 4 .mov [.t 18], [], none⟩]
def r53_4 : IC := (.reg o53_4 [4])
def b53 : IC := (.seq r53_0 (.seq r53_1 (.seq (.seq r53_2 (.cond (.t 14) (.seq r53_3 .ret) .skip)) (.kp [5] (.seq r53_4 .ret)))))
def i53 : IFn := ⟨2, 19, b53, [.tmp 4]⟩
def o57_0 : List IOp := [⟨none, .boxL 3 (.t 0), [], none⟩,
    ⟨none, .val 6 .mov [.k (.p (.bool false))], [], none⟩,
    ⟨none, .val 7 .mov [.k (.p (.int .i64 0))], [], none⟩]
def r57_0 : IC := (.reg o57_0 [1, 2, 3])
def o57_1 : List IOp := [⟨none, .val 8 .mov [.k (.p (.bool false))], [], none⟩]
def r57_1 : IC := (.reg o57_1 [1, 2, 3, 8])
def o57_2 : List IOp := [⟨none, .load 10 (.t 3) 3 true, [], none⟩,
    ⟨none, .val 11 .mov [.t 1], [], none⟩,
    ⟨none, .call (some 12) 19 [.t 10, .t 11], [], none⟩,
    ⟨none, .val 9 .mov [.t 12], [], none⟩]
def r57_2 : IC := (.reg o57_2 [2, 3, 8, 9])
def o57_3 : List IOp := [⟨none, .val 13 .mov [.t 9], [], none⟩,
    ⟨none, .val 14 (.bin .neq) [.t 13, .k (.p (.int .i64 0))], [], none⟩]
def r57_3 : IC := (.reg o57_3 [2, 3, 8, 9, 14])
def o57_4 : List IOp := [⟨none, .val 15 .mov [.t 8], [], none⟩,
    ⟨none, .val 16 .mov [.t 9], [], none⟩,
    ⟨none, .val 6 .mov [.t 15], [], none⟩,
    ⟨none, .val 7 .mov [.t 16], [], none⟩]
def r57_4 : IC := (.reg o57_4 [6, 7])
def o57_5 : List IOp := [⟨none, .val 17 .mov [.t 2], [], none⟩,
    ⟨none, .load 18 (.t 3) 3 true, [], none⟩,
    ⟨none, .val 19 (.build [.p (.int .i64 0), .p (.sl 1 true []), .p (.sl 4 true [])] [(0, 3)]) [.t 18], [], none⟩,
    ⟨none, .callV (some 20) (.t 17) [.t 19], [], none⟩,
    ⟨none, .val 21 (.ext 0) [.t 20], [], none⟩,
    ⟨none, .val 22 (.ext 1) [.t 20], [], none⟩,
    ⟨none, .val 6 .mov [.t 21], [], none⟩,
    ⟨none, .val 7 .mov [.t 22], [], none⟩]
def r57_5 : IC := (.reg o57_5 [6, 7])
def b57 : IC := (.seq r57_0 (.seq r57_1 (.seq (.seq r57_2 (.seq r57_3 (.cond (.t 14) (.seq r57_4 .ret) .skip))) (.kp [2, 3] (.seq r57_5 .ret)))))
def i57 : IFn := ⟨3, 23, b57, [.tmp 6, .tmp 7]⟩
def o58_0 : List IOp := [⟨none, .boxL 3 (.t 0), [], none⟩,
    ⟨none, .val 4 .mov [.k (.p (.bool false))], [], none⟩,
    ⟨none, .val 5 .mov [.k (.p (.int .i64 0))], [], none⟩]
def r58_0 : IC := (.reg o58_0 [1, 2, 3])
def o58_1 : List IOp := [⟨none, .load 6 (.t 3) 3 true, [], none⟩,
    ⟨none, .load 7 (.t 1) 1 false, [], none⟩,
    ⟨none, .call (some 8) 51 [.t 6, .t 7], [], none⟩,
    ⟨none, .val 9 .not [.t 8], [], none⟩]
def r58_1 : IC := (.reg o58_1 [1, 2, 3, 9])
def o58_2 : List IOp := [⟨none, .val 4 .mov [.k (.p (.bool false))], [], none⟩,
    ⟨none, .val 5 .mov [.k (.p (.int .i64 310))], [], none⟩]
def r58_2 : IC := (.reg o58_2 [4, 5])
def o58_3 : List IOp := [⟨none, .load 10 (.t 2) 1 false, [], none⟩,
    ⟨none, .load 11 (.t 1) 1 false, [], none⟩,
    ⟨none, .call (some 12) 59 [.t 10, .t 11], [], none⟩,
    ⟨none, .val 13 .not [.t 12], [], none⟩,
    ⟨none, .val 14 .mov [.t 13], [], none⟩,
    ⟨(some (14, true)), .load 15 (.t 3) 3 true, [], none⟩,
    ⟨(some (14, true)), .load 16 (.t 2) 1 false, [], none⟩,
    ⟨(some (14, true)), .load 17 (.t 1) 1 false, [], none⟩,
    ⟨(some (14, true)), .call (some 18) 60 [.t 15, .t 16, .t 17], [], none⟩,
    ⟨(some (14, true)), .val 19 .not [.t 18], [], none⟩,
    ⟨none, .val 20 .pick [.t 14, .t 19, .k (.p (.bool false))], [], none⟩,
    ⟨none, .val 21 .mov [.t 20], [], none⟩,
    ⟨(some (21, true)), .load 22 (.t 3) 3 true, [], none⟩,
    ⟨(some (21, true)), .load 23 (.t 1) 1 false, [], none⟩,
    ⟨(some (21, true)), .load 24 (.t 2) 1 false, [], none⟩,
    ⟨(some (21, true)), .call (some 25) 60 [.t 22, .t 23, .t 24], [], none⟩,
    ⟨(some (21, true)), .val 26 .not [.t 25], [], none⟩,
    ⟨none, .val 27 .pick [.t 21, .t 26, .k (.p (.bool false))], [], none⟩,
    ⟨none, .val 4 .mov [.t 27], [], none⟩,
    ⟨none, .val 5 .mov [.k (.p (.int .i64 0))], [], none⟩]
def r58_3 : IC := (.reg o58_3 [4, 5])
def b58 : IC := (.seq r58_0 (.seq (.seq r58_1 (.cond (.t 9) (.seq r58_2 .ret) .skip)) (.kp [1, 2, 3] (.seq r58_3 .ret))))
def i58 : IFn := ⟨3, 28, b58, [.tmp 4, .tmp 5]⟩
def o59_0 : List IOp := [⟨none, .val 4 .mov [.k (.p (.bool false))], [], none⟩]
def r59_0 : IC := (.reg o59_0 [0, 1])
def o59_1 : List IOp := [⟨none, .val 9 .mov [.t 0], [], none⟩,
    ⟨none, .val 10 .len [.t 9], [], none⟩,
    ⟨none, .val 11 .mov [.k (.p (.int .i64 0))], [], none⟩]
def r59_1 : IC := (.reg o59_1 [1, 9, 10, 11])
def o59_2 : List IOp := [⟨none, .val 12 (.bin .lss) [.t 11, .t 10], [], none⟩]
def r59_2 : IC := (.reg o59_2 [1, 9, 10, 11, 12])
def o59_3 : List IOp := [⟨none, .val 13 (.iaddrS 1) [.t 9, .t 11], [], none⟩,
    ⟨none, .load 14 (.t 13) 1 false, [], none⟩,
    ⟨none, .val 6 .mov [.t 14], [], none⟩]
def r59_3 : IC := (.reg o59_3 [1, 6, 9, 10, 11])
def o59_4 : List IOp := [⟨none, .val 15 .mov [.t 1], [], none⟩,
    ⟨none, .val 16 .len [.t 15], [], none⟩,
    ⟨none, .val 17 .mov [.k (.p (.int .i64 0))], [], none⟩]
def r59_4 : IC := (.reg o59_4 [1, 6, 9, 10, 11, 15, 16, 17])
def o59_5 : List IOp := [⟨none, .val 18 (.bin .lss) [.t 17, .t 16], [], none⟩]
def r59_5 : IC := (.reg o59_5 [1, 6, 9, 10, 11, 15, 16, 17, 18])
def o59_6 : List IOp := [⟨none, .val 19 (.iaddrS 1) [.t 15, .t 17], [], none⟩,
    ⟨none, .load 20 (.t 19) 1 false, [], none⟩,
    ⟨none, .val 8 .mov [.t 20], [], none⟩]
def r59_6 : IC := (.reg o59_6 [1, 6, 8, 9, 10, 11, 15, 16, 17])
def o59_7 : List IOp := [⟨none, .val 21 .mov [.t 6], [], none⟩,
    ⟨none, .val 22 (.bin .quo) [.t 21, .k (.p (.int .i64 2))], [], none⟩,
    ⟨none, .val 23 .mov [.t 8], [], none⟩,
    ⟨none, .val 24 (.bin .quo) [.t 23, .k (.p (.int .i64 2))], [], none⟩,
    ⟨none, .val 25 (.bin .eql) [.t 22, .t 24], [], none⟩]
def r59_7 : IC := (.reg o59_7 [1, 6, 9, 10, 11, 15, 16, 17, 25])
def o59_8 : List IOp := [⟨none, .val 4 .mov [.k (.p (.bool true))], [], none⟩]
def r59_8 : IC := (.reg o59_8 [4])
def o59_9 : List IOp := [⟨none, .val 26 (.bin .add) [.t 17, .k (.p (.int .i64 1))], [], none⟩,
    ⟨none, .val 17 .mov [.t 26], [], none⟩]
def r59_9 : IC := (.reg o59_9 [1, 6, 9, 10, 11, 15, 16, 17])
def l59_2 : IC := (.seq r59_5 (.seq (.cond (.t 18) .skip (.kp [1, 9, 10, 11] (.exit 2))) (.kp [1, 6, 9, 10, 11, 15, 16, 17] (.seq (.block 3 (.seq r59_6 (.seq r59_7 (.cond (.t 25) (.seq r59_8 .ret) .skip)))) (.kp [1, 6, 9, 10, 11, 15, 16, 17] r59_9)))))
def o59_10 : List IOp := [⟨none, .val 27 (.bin .add) [.t 11, .k (.p (.int .i64 1))], [], none⟩,
    ⟨none, .val 11 .mov [.t 27], [], none⟩]
def r59_10 : IC := (.reg o59_10 [1, 9, 10, 11])
def l59_1 : IC := (.seq r59_2 (.seq (.cond (.t 12) .skip (.kp [] (.exit 0))) (.kp [1, 9, 10, 11] (.seq (.block 1 (.seq r59_3 (.seq r59_4 (.block 2 (.loop l59_2))))) r59_10))))
def o59_11 : List IOp := [⟨none, .val 4 .mov [.k (.p (.bool false))], [], none⟩]
def r59_11 : IC := (.reg o59_11 [4])
def b59 : IC := (.seq r59_0 (.seq (.seq r59_1 (.block 0 (.loop l59_1))) (.seq r59_11 .ret)))
def i59 : IFn := ⟨2, 28, b59, [.tmp 4]⟩
def o60_0 : List IOp := [⟨none, .boxL 3 (.t 0), [], none⟩,
    ⟨none, .val 6 .mov [.k (.p (.bool false))], [], none⟩]
def r60_0 : IC := (.reg o60_0 [1, 2, 3])
def o60_1 : List IOp := [⟨none, .load 12 (.t 3) 3 true, [], none⟩,
    ⟨none, .val 13 .mov [.t 1], [], none⟩,
    ⟨none, .call (some 14) 37 [.t 12, .t 13], [], none⟩,
    ⟨none, .val 7 .mov [.t 14], [], none⟩]
def r60_1 : IC := (.reg o60_1 [2, 3, 7])
def o60_2 : List IOp := [⟨none, .val 15 .mov [.t 7], [], none⟩,
    ⟨none, .val 16 .len [.t 15], [], none⟩,
    ⟨none, .val 17 (.bin .sub) [.t 16, .k (.p (.int .i64 1))], [], none⟩,
    ⟨none, .val 8 .mov [.t 17], [], none⟩]
def r60_2 : IC := (.reg o60_2 [2, 3, 7, 8])
def o60_3 : List IOp := [⟨none, .load 18 (.t 3) 3 true, [], none⟩,
    ⟨none, .val 19 .mov [.t 2], [], none⟩,
    ⟨none, .call (some 20) 37 [.t 18, .t 19], [], none⟩,
    ⟨none, .val 9 .mov [.t 20], [], none⟩]
def r60_3 : IC := (.reg o60_3 [7, 8, 9])
def o60_4 : List IOp := [⟨none, .val 21 .mov [.t 7], [], none⟩,
    ⟨none, .val 22 .mov [.t 8], [], none⟩,
    ⟨none, .val 23 .mov [.t 8], [], none⟩,
    ⟨none, .val 24 (.slice 1 true true true) [.t 21, .k (.p (.int .i64 1)), .t 22, .t 23], [], none⟩,
    ⟨none, .val 25 .len [.t 24], [], none⟩,
    ⟨none, .val 26 .mov [.k (.p (.int .i64 0))], [], none⟩]
def r60_4 : IC := (.reg o60_4 [9, 24, 25, 26])
def o60_5 : List IOp := [⟨none, .val 27 (.bin .lss) [.t 26, .t 25], [], none⟩]
def r60_5 : IC := (.reg o60_5 [9, 24, 25, 26, 27])
def o60_6 : List IOp := [⟨none, .val 28 (.iaddrS 1) [.t 24, .t 26], [], none⟩,
    ⟨none, .load 29 (.t 28) 1 false, [], none⟩,
    ⟨none, .val 11 .mov [.t 29], [], none⟩]
def r60_6 : IC := (.reg o60_6 [9, 11, 24, 25, 26])
def o60_7 : List IOp := [⟨none, .val 30 .mov [.t 9], [], none⟩,
    ⟨none, .val 31 .mov [.t 11], [], none⟩,
    ⟨none, .call (some 32) 77 [.t 30, .t 31], [], none⟩]
def r60_7 : IC := (.reg o60_7 [9, 24, 25, 26, 32])
def o60_8 : List IOp := [⟨none, .val 6 .mov [.k (.p (.bool true))], [], none⟩]
def r60_8 : IC := (.reg o60_8 [6])
def o60_9 : List IOp := [⟨none, .val 33 (.bin .add) [.t 26, .k (.p (.int .i64 1))], [], none⟩,
    ⟨none, .val 26 .mov [.t 33], [], none⟩]
def r60_9 : IC := (.reg o60_9 [9, 24, 25, 26])
def l60_1 : IC := (.seq r60_5 (.seq (.cond (.t 27) .skip (.kp [] (.exit 0))) (.kp [9, 24, 25, 26] (.seq (.block 1 (.seq r60_6 (.seq r60_7 (.cond (.t 32) (.seq r60_8 .ret) .skip)))) (.kp [9, 24, 25, 26] r60_9)))))
def o60_10 : List IOp := [⟨none, .val 6 .mov [.k (.p (.bool false))], [], none⟩]
def r60_10 : IC := (.reg o60_10 [6])
def b60 : IC := (.seq r60_0 (.seq r60_1 (.seq r60_2 (.seq r60_3 (.seq (.seq r60_4 (.block 0 (.loop l60_1))) (.seq r60_10 .ret))))))
def i60 : IFn := ⟨3, 34, b60, [.tmp 6]⟩
def o62_0 : List IOp := [⟨none, .boxH 2 (.t 0), [], none⟩,
    ⟨none, .boxH 3 (.t 1), [], none⟩,
    ⟨none, .val 4 .mov [.k (.nl .nilFunc)], [], none⟩]
def r62_0 : IC := (.reg o62_0 [2, 3])
def o62_1 : List IOp := [⟨none, .val 5 (.mkfn 78 0) [.t 3, .t 2], [], none⟩,
    ⟨none, .val 4 .mov [.t 5], [], none⟩]
def r62_1 : IC := (.reg o62_1 [4])
def b62 : IC := (.seq r62_0 (.seq r62_1 .ret))
def i62 : IFn := ⟨2, 6, b62, [.tmp 4]⟩
def o63_0 : List IOp := [⟨none, .val 4 .mov [.k (.p (.bool false))], [], none⟩]
def r63_0 : IC := (.reg o63_0 [0, 1])
def o63_1 : List IOp := [⟨none, .val 5 .mov [.k (.p (.int .i64 0))], [], none⟩]
def r63_1 : IC := (.reg o63_1 [0, 1, 5])
def o63_2 : List IOp := [⟨none, .val 6 .mov [.t 5], [], none⟩,
    ⟨none, .val 7 .mov [.t 0], [], none⟩,
    ⟨none, .val 8 .len [.t 7], [], none⟩,
    ⟨none, .val 9 (.bin .lss) [.t 6, .t 8], [], none⟩]
def r63_2 : IC := (.reg o63_2 [0, 1, 5, 9])
def o63_4 : List IOp := [⟨none, .val 12 .mov [.t 0], [], none⟩,
    ⟨none, .val 13 .mov [.t 5], [], none⟩,
    ⟨none, .val 14 (.iaddrS 1) [.t 12, .t 13], [], none⟩,
    ⟨none, .load 15 (.t 14) 1 false, [], none⟩,
    ⟨none, .val 16 .mov [.t 1], [], none⟩,
    ⟨none, .call (some 17) 67 [.t 15, .t 16], [], none⟩]
def r63_4 : IC := (.reg o63_4 [0, 1, 5, 17])
def o63_5 : List IOp := [⟨none, .val 4 .mov [.k (.p (.bool true))], [], none⟩]
def r63_5 : IC := (.reg o63_5 [4])
def o63_3 : List IOp := [⟨none, .val 10 .mov [.t 5], [], none⟩,
    ⟨none, .val 11 (.bin .add) [.t 10, .k (.p (.int .i64 1))], [], none⟩,
    ⟨none, .val 5 .mov [.t 11], [], none⟩]
def r63_3 : IC := (.reg o63_3 [0, 1, 5])
def l63_1 : IC := (.seq (.seq r63_2 (.cond (.t 9) .skip (.kp [] (.exit 0)))) (.kp [0, 1, 5] (.seq (.block 1 (.seq r63_4 (.cond (.t 17) (.seq r63_5 .ret) .skip))) (.kp [0, 1, 5] r63_3))))
def o63_6 : List IOp := [⟨none, .val 4 .mov [.k (.p (.bool false))], [], none⟩]
def r63_6 : IC := (.reg o63_6 [4])
def b63 : IC := (.seq r63_0 (.seq (.seq r63_1 (.block 0 (.loop l63_1))) (.seq r63_6 .ret)))
def i63 : IFn := ⟨2, 18, b63, [.tmp 4]⟩
def o64_0 : List IOp := [⟨none, .boxL 4 (.t 0), [], none⟩,
    ⟨none, .boxL 5 (.t 1), [], none⟩,
    ⟨none, .newL 8 [.p (.int .i64 0), .p (.sl 1 true []), .p (.sl 4 true [])], [], none⟩]
def r64_0 : IC := (.reg o64_0 [2, 3, 4, 5, 8])
def o64_1 : List IOp := [⟨none, .val 12 (.faddr 2) [.t 5], [], none⟩,
    ⟨none, .load 13 (.t 12) 1 false, [], none⟩,
    ⟨none, .val 14 .len [.t 13], [], none⟩,
    ⟨none, .val 9 .mov [.t 14], [], none⟩]
def r64_1 : IC := (.reg o64_1 [2, 3, 4, 5, 8, 9])
def o64_2 : List IOp := [⟨none, .val 15 .mov [.t 2], [], none⟩,
    ⟨none, .val 16 .mov [.t 3], [], none⟩,
    ⟨none, .val 17 (.faddr 4) [.t 4], [], none⟩,
    ⟨none, .loadL 18 (.t 17) 1 false, [2], none⟩,
    ⟨none, .val 19 .mov [.t 9], [], none⟩,
    ⟨none, .callP 20 65 [.t 18, .t 19], [2, 3, 4], none⟩,
    ⟨none, .val 21 (.bin .rem) [.t 20, .k (.p (.int .i64 20))], [2, 3, 4, 5], none⟩,
    ⟨none, .val 22 (.bin .add) [.k (.p (.int .i64 1)), .t 21], [2, 3, 4, 5, 6], none⟩,
    ⟨none, .val 23 (.faddr 5) [.t 4], [], none⟩,
    ⟨none, .loadL 24 (.t 23) 1 false, [8], none⟩,
    ⟨none, .val 25 .mov [.t 9], [], none⟩,
    ⟨none, .callP 26 65 [.t 24, .t 25], [2, 3, 4, 5, 8, 9, 10], none⟩,
    ⟨none, .val 27 (.bin .rem) [.t 26, .k (.p (.int .i64 50))], [2, 3, 4, 5, 8, 9, 10, 11], none⟩,
    ⟨none, .val 28 (.build [.p (.int .i64 0), .p (.int .i64 0), .p (.int .i64 0), .p (.int .i64 0)] [(0, 1), (1, 1), (2, 1), (3, 1)]) [.t 15, .t 16, .t 22, .t 27], [0, 1, 2, 3, 4, 5, 6, 7, 8, 9, 10, 11, 12], none⟩,
    ⟨none, .newL 10 [.p (.int .i64 0), .p (.int .i64 0), .p (.int .i64 0), .p (.int .i64 0)], [], none⟩,
    ⟨none, .store (.t 10) (.t 28) 4, [0, 1, 2, 3, 4, 5, 6, 7, 8, 9, 10, 11, 12, 13, 14], none⟩]
def r64_2 : IC := (.regD o64_2 [2, 3, 5, 8, 9, 10])
def o64_3 : List IOp := [⟨none, .val 29 .mov [.t 9], [], none⟩,
    ⟨none, .val 30 (.bin .eql) [.t 29, .k (.p (.int .i64 24))], [], none⟩,
    ⟨none, .val 31 .mov [.t 30], [], none⟩,
    ⟨(some (31, false)), .load 32 (.t 5) 3 true, [], none⟩,
    ⟨(some (31, false)), .load 33 (.t 10) 4 true, [], none⟩,
    ⟨(some (31, false)), .call (some 34) 70 [.t 32, .t 33], [], none⟩,
    ⟨(some (31, false)), .val 35 .not [.t 34], [], none⟩,
    ⟨none, .val 36 .pick [.t 31, .k (.p (.bool true)), .t 35], [], none⟩]
def r64_3 : IC := (.reg o64_3 [2, 3, 5, 8, 9, 10, 36])
def o64_4 : List IOp := [⟨none, .load 37 (.t 5) 3 true, [], none⟩,
    ⟨none, .store (.t 8) (.t 37) 3, [], none⟩]
def r64_4 : IC := (.reg o64_4 [8])
def o64_5 : List IOp := [⟨none, .val 11 .mov [.k (.p (.int .i64 0))], [], none⟩]
def r64_5 : IC := (.reg o64_5 [2, 3, 5, 8, 9, 10, 11])
def o64_6 : List IOp := [⟨none, .val 38 .mov [.t 11], [], none⟩,
    ⟨none, .val 39 .mov [.t 9], [], none⟩,
    ⟨none, .val 40 (.bin .lss) [.t 38, .t 39], [], none⟩]
def r64_6 : IC := (.reg o64_6 [2, 3, 5, 8, 9, 10, 11, 40])
def o64_8 : List IOp := [⟨none, .val 43 (.faddr 2) [.t 5], [], none⟩,
    ⟨none, .load 44 (.t 43) 1 false, [], none⟩,
    ⟨none, .val 45 .mov [.t 11], [], none⟩,
    ⟨none, .val 46 (.iaddrS 4) [.t 44, .t 45], [], none⟩,
    ⟨none, .load 47 (.t 46) 4 true, [], none⟩,
    ⟨none, .val 48 .mov [.t 2], [], none⟩,
    ⟨none, .val 49 .mov [.t 3], [], none⟩,
    ⟨none, .call (some 50) 71 [.t 47, .t 48, .t 49], [], none⟩]
def r64_8 : IC := (.reg o64_8 [2, 3, 5, 8, 9, 10, 11, 50])
def o64_9 : List IOp := [⟨none, .load 51 (.t 5) 3 true, [], none⟩,
    ⟨none, .store (.t 8) (.t 51) 3, [], none⟩]
def r64_9 : IC := (.reg o64_9 [8])
def o64_7 : List IOp := [⟨none, .val 41 .mov [.t 11], [], none⟩,
    ⟨none, .val 42 (.bin .add) [.t 41, .k (.p (.int .i64 1))], [], none⟩,
    ⟨none, .val 11 .mov [.t 42], [], none⟩]
def r64_7 : IC := (.reg o64_7 [2, 3, 5, 8, 9, 10, 11])
def l64_1 : IC := (.seq (.seq r64_6 (.cond (.t 40) .skip (.kp [5, 8, 10] (.exit 0)))) (.kp [2, 3, 5, 8, 9, 10, 11] (.seq (.block 1 (.seq r64_8 (.cond (.t 50) (.seq r64_9 .ret) .skip))) (.kp [2, 3, 5, 8, 9, 10, 11] r64_7))))
def o64_10 : List IOp := [⟨none, .val 52 (.faddr 2) [.t 5], [], none⟩,
    ⟨none, .load 53 (.t 52) 1 false, [], none⟩,
    ⟨none, .load 54 (.t 10) 4 true, [], none⟩,
    ⟨none, .litP 55 4 [.t 54], [], none⟩,
    ⟨none, .app 56 (.t 53) (.t 55) 4 32, [], none⟩,
    ⟨none, .val 57 (.faddr 2) [.t 5], [], none⟩,
    ⟨none, .store (.t 57) (.t 56) 1, [], none⟩]
def r64_10 : IC := (.reg o64_10 [5, 8])
def o64_11 : List IOp := [⟨none, .load 58 (.t 5) 3 true, [], none⟩,
    ⟨none, .store (.t 8) (.t 58) 3, [], none⟩]
def r64_11 : IC := (.reg o64_11 [8])
def b64 : IC := (.seq r64_0 (.seq r64_1 (.seq r64_2 (.seq (.seq r64_3 (.cond (.t 36) (.seq r64_4 .ret) .skip)) (.kp [2, 3, 5, 8, 9, 10] (.seq (.seq r64_5 (.block 0 (.loop l64_1))) (.seq r64_10 (.seq r64_11 .ret))))))))
def i64 : IFn := ⟨4, 59, b64, [.cell 8 3 true]⟩
def o67_0 : List IOp := [⟨none, .val 4 .mov [.k (.p (.bool false))], [], none⟩]
def r67_0 : IC := (.reg o67_0 [0, 1])
def o67_1 : List IOp := [⟨none, .val 5 .mov [.k (.p (.int .i64 0))], [], none⟩]
def r67_1 : IC := (.reg o67_1 [0, 1, 5])
def o67_2 : List IOp := [⟨none, .val 6 .mov [.t 5], [], none⟩,
    ⟨none, .val 7 .mov [.t 0], [], none⟩,
    ⟨none, .val 8 .len [.t 7], [], none⟩,
    ⟨none, .val 9 (.bin .lss) [.t 6, .t 8], [], none⟩]
def r67_2 : IC := (.reg o67_2 [0, 1, 5, 9])
def o67_4 : List IOp := [⟨none, .val 12 .mov [.t 0], [], none⟩,
    ⟨none, .val 13 .mov [.t 5], [], none⟩,
    ⟨none, .val 14 (.iaddrS 1) [.t 12, .t 13], [], none⟩,
    ⟨none, .load 15 (.t 14) 1 false, [], none⟩,
    ⟨none, .val 16 .mov [.t 1], [], none⟩,
    ⟨none, .val 17 (.bin .eql) [.t 15, .t 16], [], none⟩]
def r67_4 : IC := (.reg o67_4 [0, 1, 5, 17])
def o67_5 : List IOp := [⟨none, .val 4 .mov [.k (.p (.bool true))], [], none⟩]
def r67_5 : IC := (.reg o67_5 [4])
def o67_3 : List IOp := [⟨none, .val 10 .mov [.t 5], [], none⟩,
    ⟨none, .val 11 (.bin .add) [.t 10, .k (.p (.int .i64 1))], [], none⟩,
    ⟨none, .val 5 .mov [.t 11], [], none⟩]
def r67_3 : IC := (.reg o67_3 [0, 1, 5])
def l67_1 : IC := (.seq (.seq r67_2 (.cond (.t 9) .skip (.kp [] (.exit 0)))) (.kp [0, 1, 5] (.seq (.block 1 (.seq r67_4 (.cond (.t 17) (.seq r67_5 .ret) .skip))) (.kp [0, 1, 5] r67_3))))
def o67_6 : List IOp := [⟨none, .val 4 .mov [.k (.p (.bool false))], [], none⟩]
def r67_6 : IC := (.reg o67_6 [4])
def b67 : IC := (.seq r67_0 (.seq (.seq r67_1 (.block 0 (.loop l67_1))) (.seq r67_6 .ret)))
def i67 : IFn := ⟨2, 18, b67, [.tmp 4]⟩
def o68_0 : List IOp := [⟨none, .load 4 (.t 1) 1 false, [], none⟩,
    ⟨none, .val 5 .len [.t 4], [], none⟩,
    ⟨none, .val 6 (.bin .sub) [.t 5, .k (.p (.int .i64 1))], [], none⟩,
    ⟨none, .val 3 .mov [.t 6], [], none⟩]
def r68_0 : IC := (.reg o68_0 [0, 1, 3])
def o68_1 : List IOp := [⟨none, .val 7 .mov [.t 3], [], none⟩,
    ⟨none, .val 8 (.bin .geq) [.t 7, .k (.p (.int .i64 0))], [], none⟩]
def r68_1 : IC := (.reg o68_1 [0, 1, 3, 8])
def o68_3 : List IOp := [⟨none, .val 11 .mov [.t 0], [], none⟩,
    ⟨none, .val 12 .mov [.t 3], [], none⟩,
    ⟨none, .load 13 (.t 1) 1 false, [], none⟩,
    ⟨none, .val 14 .mov [.t 3], [], none⟩,
    ⟨none, .val 15 (.iaddrS 1) [.t 13, .t 14], [], none⟩,
    ⟨none, .load 16 (.t 15) 1 false, [], none⟩,
    ⟨none, .callY (some 17) (.t 11) [.t 12, .t 16], [], none⟩,
    ⟨none, .val 18 .not [.t 17], [], none⟩]
def r68_3 : IC := (.reg o68_3 [0, 1, 3, 18])
def o68_2 : List IOp := [⟨none, .val 9 .mov [.t 3], [], none⟩,
    ⟨none, .val 10 (.bin .sub) [.t 9, .k (.p (.int .i64 1))], [], none⟩,
    ⟨none, .val 3 .mov [.t 10], [], none⟩]
def r68_2 : IC := (.reg o68_2 [0, 1, 3])
def l68_1 : IC := (.seq (.seq r68_1 (.cond (.t 8) .skip (.kp [] (.exit 0)))) (.kp [0, 1, 3] (.seq (.block 1 (.seq r68_3 (.cond (.t 18) .ret .skip))) (.kp [0, 1, 3] r68_2))))
def b68 : IC := (.seq r68_0 (.block 0 (.loop l68_1)))
def i68 : IFn := ⟨2, 19, b68, []⟩
def o69_0 : List IOp := [⟨none, .boxL 2 (.t 0), [], none⟩,
    ⟨none, .val 4 .mov [.k (.p (.int .i64 0))], [], none⟩,
    ⟨none, .val 5 .mov [.k (.p (.int .i64 0))], [], none⟩]
def r69_0 : IC := (.reg o69_0 [1, 2])
def o69_1 : List IOp := [⟨none, .load 6 (.t 2) 3 true, [], none⟩,
    ⟨none, .val 7 .mov [.t 1], [], none⟩,
    ⟨none, .call (some 8) 79 [.t 6, .t 7, .k (.fn 80 [] [])], [], none⟩,
    ⟨none, .val 9 (.ext 0) [.t 8], [], none⟩,
    ⟨none, .val 10 (.ext 1) [.t 8], [], none⟩,
    ⟨none, .val 4 .mov [.t 9], [], none⟩,
    ⟨none, .val 5 .mov [.t 10], [], none⟩]
def r69_1 : IC := (.reg o69_1 [4, 5])
def b69 : IC := (.seq r69_0 (.seq r69_1 .ret))
def i69 : IFn := ⟨2, 11, b69, [.tmp 4, .tmp 5]⟩
def o70_0 : List IOp := [⟨none, .boxL 2 (.t 0), [], none⟩,
    ⟨none, .boxL 3 (.t 1), [], none⟩,
    ⟨none, .val 4 .mov [.k (.p (.bool false))], [], none⟩]
def r70_0 : IC := (.reg o70_0 [2, 3])
def o70_1 : List IOp := [⟨none, .load 5 (.t 2) 3 true, [], none⟩,
    ⟨none, .val 6 (.faddr 0) [.t 3], [], none⟩,
    ⟨none, .load 7 (.t 6) 1 false, [], none⟩,
    ⟨none, .call (some 8) 81 [.t 5, .t 7], [], none⟩,
    ⟨none, .val 9 .not [.t 8], [], none⟩,
    ⟨none, .val 10 .mov [.t 9], [], none⟩,
    ⟨(some (10, false)), .load 11 (.t 2) 3 true, [], none⟩,
    ⟨(some (10, false)), .val 12 (.faddr 1) [.t 3], [], none⟩,
    ⟨(some (10, false)), .load 13 (.t 12) 1 false, [], none⟩,
    ⟨(some (10, false)), .call (some 14) 81 [.t 11, .t 13], [], none⟩,
    ⟨(some (10, false)), .val 15 .not [.t 14], [], none⟩,
    ⟨none, .val 16 .pick [.t 10, .k (.p (.bool true)), .t 15], [], none⟩,
    ⟨none, .val 17 .mov [.t 16], [], none⟩,
    ⟨(some (17, false)), .val 18 (.faddr 0) [.t 3], [], none⟩,
    ⟨(some (17, false)), .load 19 (.t 18) 1 false, [], none⟩,
    ⟨(some (17, false)), .val 20 (.faddr 1) [.t 3], [], none⟩,
    ⟨(some (17, false)), .load 21 (.t 20) 1 false, [], none⟩,
    ⟨(some (17, false)), .val 22 (.bin .eql) [.t 19, .t 21], [], none⟩,
    ⟨none, .val 23 .pick [.t 17, .k (.p (.bool true)), .t 22], [], none⟩,
    ⟨none, .val 24 .mov [.t 23], [], none⟩,
    ⟨(some (24, false)), .val 25 (.faddr 1) [.t 2], [], none⟩,
    ⟨(some (24, false)), .load 26 (.t 25) 1 false, [], none⟩,
    ⟨(some (24, false)), .val 27 (.faddr 0) [.t 3], [], none⟩,
    ⟨(some (24, false)), .load 28 (.t 27) 1 false, [], none⟩,
    ⟨(some (24, false)), .val 29 (.iaddrS 1) [.t 26, .t 28], [], none⟩,
    ⟨(some (24, false)), .load 30 (.t 29) 1 false, [], none⟩,
    ⟨(some (24, false)), .val 31 .mov [.t 30], [], none⟩,
    ⟨(some (31, true)), .val 32 (.faddr 1) [.t 2], [], none⟩,
    ⟨(some (31, true)), .load 33 (.t 32) 1 false, [], none⟩,
    ⟨(some (31, true)), .val 34 (.faddr 1) [.t 3], [], none⟩,
    ⟨(some (31, true)), .load 35 (.t 34) 1 false, [], none⟩,
    ⟨(some (31, true)), .val 36 (.iaddrS 1) [.t 33, .t 35], [], none⟩,
    ⟨(some (31, true)), .load 37 (.t 36) 1 false, [], none⟩,
    ⟨(some (24, false)), .val 38 .pick [.t 31, .t 37, .k (.p (.bool false))], [], none⟩,
    ⟨none, .val 39 .pick [.t 24, .k (.p (.bool true)), .t 38], [], none⟩]
def r70_1 : IC := (.reg o70_1 [3, 39])
def o70_2 : List IOp := [⟨none, .val 4 .mov [.k (.p (.bool false))], [], none⟩]
def r70_2 : IC := (.reg o70_2 [4])
def o70_3 : List IOp := [⟨none, .val 40 (.faddr 2) [.t 3], [], none⟩,
    ⟨none, .load 41 (.t 40) 1 false, [], none⟩,
    ⟨none, .val 42 (.bin .geq) [.t 41, .k (.p (.int .i64 1))], [], none⟩,
    ⟨none, .val 43 .mov [.t 42], [], none⟩,
    ⟨(some (43, true)), .val 44 (.faddr 2) [.t 3], [], none⟩,
    ⟨(some (43, true)), .load 45 (.t 44) 1 false, [], none⟩,
    ⟨(some (43, true)), .val 46 (.bin .leq) [.t 45, .k (.p (.int .i64 1000))], [], none⟩,
    ⟨none, .val 47 .pick [.t 43, .t 46, .k (.p (.bool false))], [], none⟩,
    ⟨none, .val 48 .mov [.t 47], [], none⟩,
    ⟨(some (48, true)), .val 49 (.faddr 3) [.t 3], [], none⟩,
    ⟨(some (48, true)), .load 50 (.t 49) 1 false, [], none⟩,
    ⟨(some (48, true)), .val 51 (.bin .geq) [.t 50, .k (.p (.int .i64 0))], [], none⟩,
    ⟨none, .val 52 .pick [.t 48, .t 51, .k (.p (.bool false))], [], none⟩,
    ⟨none, .val 53 .mov [.t 52], [], none⟩,
    ⟨(some (53, true)), .val 54 (.faddr 3) [.t 3], [], none⟩,
    ⟨(some (53, true)), .load 55 (.t 54) 1 false, [], none⟩,
    ⟨(some (53, true)), .val 56 (.bin .leq) [.t 55, .k (.p (.int .i64 10000))], [], none⟩,
    ⟨none, .val 57 .pick [.t 53, .t 56, .k (.p (.bool false))], [], none⟩,
    ⟨none, .val 4 .mov [.t 57], [], none⟩]
def r70_3 : IC := (.reg o70_3 [4])
def b70 : IC := (.seq r70_0 (.seq (.seq r70_1 (.cond (.t 39) (.seq r70_2 .ret) .skip)) (.kp [3] (.seq r70_3 .ret))))
def i70 : IFn := ⟨2, 58, b70, [.tmp 4]⟩
def o71_0 : List IOp := [⟨none, .boxL 3 (.t 0), [], none⟩,
    ⟨none, .val 6 .mov [.k (.p (.bool false))], [], none⟩]
def r71_0 : IC := (.reg o71_0 [1, 2, 3])
def o71_1 : List IOp := [⟨none, .val 7 (.faddr 0) [.t 3], [], none⟩,
    ⟨none, .load 8 (.t 7) 1 false, [], none⟩,
    ⟨none, .val 9 .mov [.t 1], [], none⟩,
    ⟨none, .val 10 (.bin .eql) [.t 8, .t 9], [], none⟩,
    ⟨none, .val 11 .mov [.t 10], [], none⟩,
    ⟨(some (11, true)), .val 12 (.faddr 1) [.t 3], [], none⟩,
    ⟨(some (11, true)), .load 13 (.t 12) 1 false, [], none⟩,
    ⟨(some (11, true)), .val 14 .mov [.t 2], [], none⟩,
    ⟨(some (11, true)), .val 15 (.bin .eql) [.t 13, .t 14], [], none⟩,
    ⟨none, .val 16 .pick [.t 11, .t 15, .k (.p (.bool false))], [], none⟩,
    ⟨none, .val 17 .mov [.t 16], [], none⟩,
    ⟨(some (17, false)), .val 18 (.faddr 0) [.t 3], [], none⟩,
    ⟨(some (17, false)), .load 19 (.t 18) 1 false, [], none⟩,
    ⟨(some (17, false)), .val 20 .mov [.t 2], [], none⟩,
    ⟨(some (17, false)), .val 21 (.bin .eql) [.t 19, .t 20], [], none⟩,
    ⟨(some (17, false)), .val 22 .mov [.t 21], [], none⟩,
    ⟨(some (22, true)), .val 23 (.faddr 1) [.t 3], [], none⟩,
    ⟨(some (22, true)), .load 24 (.t 23) 1 false, [], none⟩,
    ⟨(some (22, true)), .val 25 .mov [.t 1], [], none⟩,
    ⟨(some (22, true)), .val 26 (.bin .eql) [.t 24, .t 25], [], none⟩,
    ⟨(some (17, false)), .val 27 .pick [.t 22, .t 26, .k (.p (.bool false))], [], none⟩,
    ⟨none, .val 28 .pick [.t 17, .k (.p (.bool true)), .t 27], [], none⟩,
    ⟨none, .val 6 .mov [.t 28], [], none⟩]
def r71_1 : IC := (.reg o71_1 [6])
def b71 : IC := (.seq r71_0 (.seq r71_1 .ret))
def i71 : IFn := ⟨3, 29, b71, [.tmp 6]⟩
def o72_0 : List IOp := [⟨none, .boxL 3 (.t 0), [], none⟩,
    ⟨none, .val 6 .mov [.k (.p (.sl 1 true []))], [], none⟩]
def r72_0 : IC := (.reg o72_0 [1, 2, 3])
def o72_1 : List IOp := [⟨none, .val 11 (.faddr 0) [.t 3], [], none⟩,
    ⟨none, .load 12 (.t 11) 1 false, [], none⟩,
    ⟨none, .mkSl 13 (.t 12) (.t 12) [.bool false] 1, [], none⟩,
    ⟨none, .val 7 .mov [.t 13], [], none⟩]
def r72_1 : IC := (.reg o72_1 [1, 2, 3, 7])
def o72_2 : List IOp := [⟨none, .val 14 .mov [.t 7], [], none⟩,
    ⟨none, .val 15 .mov [.t 1], [], none⟩,
    ⟨none, .val 16 (.iaddrS 1) [.t 14, .t 15], [], none⟩,
    ⟨none, .store (.t 16) (.k (.p (.bool true))) 1, [], none⟩]
def r72_2 : IC := (.reg o72_2 [2, 3, 7])
def o72_3 : List IOp := [⟨none, .val 8 .mov [.k (.p (.int .i64 0))], [], none⟩]
def r72_3 : IC := (.reg o72_3 [2, 3, 7, 8])
def o72_4 : List IOp := [⟨none, .val 17 .mov [.t 8], [], none⟩,
    ⟨none, .val 18 (.faddr 0) [.t 3], [], none⟩,
    ⟨none, .load 19 (.t 18) 1 false, [], none⟩,
    ⟨none, .val 20 (.bin .lss) [.t 17, .t 19], [], none⟩]
def r72_4 : IC := (.reg o72_4 [2, 3, 7, 8, 20])
def o72_6 : List IOp := [⟨none, .val 9 .mov [.k (.p (.int .i64 0))], [], none⟩]
def r72_6 : IC := (.reg o72_6 [2, 3, 7, 8, 9])
def o72_7 : List IOp := [⟨none, .val 23 .mov [.t 9], [], none⟩,
    ⟨none, .val 24 (.faddr 2) [.t 3], [], none⟩,
    ⟨none, .load 25 (.t 24) 1 false, [], none⟩,
    ⟨none, .val 26 .len [.t 25], [], none⟩,
    ⟨none, .val 27 (.bin .lss) [.t 23, .t 26], [], none⟩]
def r72_7 : IC := (.reg o72_7 [2, 3, 7, 8, 9, 27])
def o72_9 : List IOp := [⟨none, .val 30 (.faddr 2) [.t 3], [], none⟩,
    ⟨none, .load 31 (.t 30) 1 false, [], none⟩,
    ⟨none, .val 32 .mov [.t 9], [], none⟩,
    ⟨none, .val 33 (.iaddrS 4) [.t 31, .t 32], [], none⟩,
    ⟨none, .load 34 (.t 33) 4 true, [], none⟩,
    ⟨none, .newL 10 [.p (.int .i64 0), .p (.int .i64 0), .p (.int .i64 0), .p (.int .i64 0)], [], none⟩,
    ⟨none, .store (.t 10) (.t 34) 4, [], none⟩]
def r72_9 : IC := (.reg o72_9 [2, 3, 7, 8, 9, 10])
def o72_10 : List IOp := [⟨none, .val 35 .mov [.t 2], [], none⟩,
    ⟨none, .val 36 .mov [.t 9], [], none⟩,
    ⟨none, .call (some 37) 67 [.t 35, .t 36], [], none⟩,
    ⟨none, .val 38 .not [.t 37], [], none⟩,
    ⟨none, .val 39 .mov [.t 38], [], none⟩,
    ⟨(some (39, true)), .val 40 .mov [.t 7], [], none⟩,
    ⟨(some (39, true)), .val 41 (.faddr 0) [.t 10], [], none⟩,
    ⟨(some (39, true)), .load 42 (.t 41) 1 false, [], none⟩,
    ⟨(some (39, true)), .val 43 (.iaddrS 1) [.t 40, .t 42], [], none⟩,
    ⟨(some (39, true)), .load 44 (.t 43) 1 false, [], none⟩,
    ⟨(some (39, true)), .val 45 .mov [.t 44], [], none⟩,
    ⟨(some (45, false)), .val 46 .mov [.t 7], [], none⟩,
    ⟨(some (45, false)), .val 47 (.faddr 1) [.t 10], [], none⟩,
    ⟨(some (45, false)), .load 48 (.t 47) 1 false, [], none⟩,
    ⟨(some (45, false)), .val 49 (.iaddrS 1) [.t 46, .t 48], [], none⟩,
    ⟨(some (45, false)), .load 50 (.t 49) 1 false, [], none⟩,
    ⟨(some (39, true)), .val 51 .pick [.t 45, .k (.p (.bool true)), .t 50], [], none⟩,
    ⟨none, .val 52 .pick [.t 39, .t 51, .k (.p (.bool false))], [], none⟩]
def r72_10 : IC := (.reg o72_10 [2, 3, 7, 8, 9, 10, 52])
def o72_11 : List IOp := [⟨none, .val 53 .mov [.t 7], [], none⟩,
    ⟨none, .val 54 (.faddr 0) [.t 10], [], none⟩,
    ⟨none, .load 55 (.t 54) 1 false, [], none⟩,
    ⟨none, .val 56 (.iaddrS 1) [.t 53, .t 55], [], none⟩,
    ⟨none, .store (.t 56) (.k (.p (.bool true))) 1, [], none⟩]
def r72_11 : IC := (.reg o72_11 [2, 3, 7, 8, 9, 10])
def o72_12 : List IOp := [⟨none, .val 57 .mov [.t 7], [], none⟩,
    ⟨none, .val 58 (.faddr 1) [.t 10], [], none⟩,
    ⟨none, .load 59 (.t 58) 1 false, [], none⟩,
    ⟨none, .val 60 (.iaddrS 1) [.t 57, .t 59], [], none⟩,
    ⟨none, .store (.t 60) (.k (.p (.bool true))) 1, [], none⟩]
def r72_12 : IC := (.reg o72_12 [2, 3, 7, 8, 9])
def o72_8 : List IOp := [⟨none, .val 28 .mov [.t 9], [], none⟩,
    ⟨none, .val 29 (.bin .add) [.t 28, .k (.p (.int .i64 1))], [], none⟩,
    ⟨none, .val 9 .mov [.t 29], [], none⟩]
def r72_8 : IC := (.reg o72_8 [2, 3, 7, 8, 9])
def l72_2 : IC := (.seq (.seq r72_7 (.cond (.t 27) .skip (.kp [2, 3, 7, 8] (.exit 2)))) (.kp [2, 3, 7, 8, 9] (.seq (.block 3 (.seq r72_9 (.seq r72_10 (.cond (.t 52) (.seq r72_11 r72_12) .skip)))) (.kp [2, 3, 7, 8, 9] r72_8))))
def o72_5 : List IOp := [⟨none, .val 21 .mov [.t 8], [], none⟩,
    ⟨none, .val 22 (.bin .add) [.t 21, .k (.p (.int .i64 1))], [], none⟩,
    ⟨none, .val 8 .mov [.t 22], [], none⟩]
def r72_5 : IC := (.reg o72_5 [2, 3, 7, 8])
def l72_1 : IC := (.seq (.seq r72_4 (.cond (.t 20) .skip (.kp [7] (.exit 0)))) (.kp [2, 3, 7, 8] (.seq (.block 1 (.seq r72_6 (.block 2 (.loop l72_2)))) r72_5)))
def o72_13 : List IOp := [⟨none, .val 61 .mov [.t 7], [], none⟩,
    ⟨none, .val 6 .mov [.t 61], [], none⟩]
def r72_13 : IC := (.reg o72_13 [6])
def b72 : IC := (.seq r72_0 (.seq r72_1 (.seq r72_2 (.seq (.seq r72_3 (.block 0 (.loop l72_1))) (.seq r72_13 .ret)))))
def i72 : IFn := ⟨3, 62, b72, [.tmp 6]⟩
def o73_0 : List IOp := [⟨none, .boxL 2 (.t 0), [], none⟩,
    ⟨none, .val 4 .mov [.k (.p (.bool false))], [], none⟩]
def r73_0 : IC := (.reg o73_0 [1, 2])
def o73_1 : List IOp := [⟨none, .val 5 .mov [.t 1], [], none⟩,
    ⟨none, .val 6 (.bin .geq) [.t 5, .k (.p (.int .i64 0))], [], none⟩,
    ⟨none, .val 7 .mov [.t 6], [], none⟩,
    ⟨(some (7, true)), .val 8 .mov [.t 1], [], none⟩,
    ⟨(some (7, true)), .val 9 (.faddr 2) [.t 2], [], none⟩,
    ⟨(some (7, true)), .load 10 (.t 9) 1 false, [], none⟩,
    ⟨(some (7, true)), .val 11 .len [.t 10], [], none⟩,
    ⟨(some (7, true)), .val 12 (.bin .mul) [.k (.p (.int .i64 2)), .t 11], [], none⟩,
    ⟨(some (7, true)), .val 13 (.bin .lss) [.t 8, .t 12], [], none⟩,
    ⟨none, .val 14 .pick [.t 7, .t 13, .k (.p (.bool false))], [], none⟩,
    ⟨none, .val 4 .mov [.t 14], [], none⟩]
def r73_1 : IC := (.reg o73_1 [4])
def b73 : IC := (.seq r73_0 (.seq r73_1 .ret))
def i73 : IFn := ⟨2, 15, b73, [.tmp 4]⟩
def o74_0 : List IOp := [⟨none, .boxH 1 (.t 0), [], none⟩,
    ⟨none, .val 2 .mov [.k (.p (.bool false))], [], none⟩]
def r74_0 : IC := (.reg o74_0 [1])
def o74_1 : List IOp := [⟨none, .val 7 (.mkfn 82 0) [.t 1], [], none⟩,
    ⟨none, .val 8 (.mkfn 84 0) [.t 1], [], none⟩,
    ⟨none, .val 9 (.mkfn 85 0) [.t 1], [], none⟩,
    ⟨none, .val 10 (.mkfn 86 0) [.t 1], [], none⟩,
    ⟨none, .val 11 (.build [.nl .nilFunc, .nl .nilFunc, .nl .nilFunc, .nl .nilFunc] [(0, 1), (1, 1), (2, 1), (3, 1)]) [.t 7, .t 8, .t 9, .t 10], [], none⟩,
    ⟨none, .newL 3 [.nl .nilFunc, .nl .nilFunc, .nl .nilFunc, .nl .nilFunc], [], none⟩,
    ⟨none, .store (.t 3) (.t 11) 4, [], none⟩]
def r74_1 : IC := (.reg o74_1 [1, 3])
def o74_2 : List IOp := [⟨none, .val 12 (.faddr 2) [.t 1], [], none⟩,
    ⟨none, .load 13 (.t 12) 1 false, [], none⟩,
    ⟨none, .val 14 .len [.t 13], [], none⟩,
    ⟨none, .val 15 .mov [.k (.p (.int .i64 0))], [], none⟩]
def r74_2 : IC := (.reg o74_2 [3, 14, 15])
def o74_3 : List IOp := [⟨none, .val 16 (.bin .lss) [.t 15, .t 14], [], none⟩]
def r74_3 : IC := (.reg o74_3 [3, 14, 15, 16])
def o74_4 : List IOp := [⟨none, .val 17 .mov [.t 15], [], none⟩,
    ⟨none, .val 4 .mov [.t 17], [], none⟩]
def r74_4 : IC := (.reg o74_4 [3, 4, 14, 15])
def o74_5 : List IOp := [⟨none, .load 18 (.t 3) 4 true, [], none⟩,
    ⟨none, .val 19 .mov [.k (.p (.int .i64 0))], [], none⟩]
def r74_5 : IC := (.reg o74_5 [3, 4, 14, 15, 18, 19])
def o74_6 : List IOp := [⟨none, .val 20 (.bin .lss) [.t 19, .k (.p (.int .i64 4))], [], none⟩]
def r74_6 : IC := (.reg o74_6 [3, 4, 14, 15, 18, 19, 20])
def o74_7 : List IOp := [⟨none, .val 21 (.idx 4 1 false) [.t 18, .t 19], [], none⟩,
    ⟨none, .val 6 .mov [.t 21], [], none⟩]
def r74_7 : IC := (.reg o74_7 [3, 4, 6, 14, 15, 18, 19])
def o74_8 : List IOp := [⟨none, .val 22 .mov [.t 6], [], none⟩,
    ⟨none, .val 23 .mov [.t 4], [], none⟩,
    ⟨none, .callV (some 24) (.t 22) [.t 23], [], none⟩,
    ⟨none, .val 25 .not [.t 24], [], none⟩]
def r74_8 : IC := (.reg o74_8 [3, 4, 14, 15, 18, 19, 25])
def o74_9 : List IOp := [⟨none, .val 2 .mov [.k (.p (.bool false))], [], none⟩]
def r74_9 : IC := (.reg o74_9 [2])
def o74_10 : List IOp := [⟨none, .val 26 (.bin .add) [.t 19, .k (.p (.int .i64 1))], [], none⟩,
    ⟨none, .val 19 .mov [.t 26], [], none⟩]
def r74_10 : IC := (.reg o74_10 [3, 4, 14, 15, 18, 19])
def l74_2 : IC := (.seq r74_6 (.seq (.cond (.t 20) .skip (.kp [3, 14, 15] (.exit 2))) (.kp [3, 4, 14, 15, 18, 19] (.seq (.block 3 (.seq r74_7 (.seq r74_8 (.cond (.t 25) (.seq r74_9 .ret) .skip)))) (.kp [3, 4, 14, 15, 18, 19] r74_10)))))
def o74_11 : List IOp := [⟨none, .val 27 (.bin .add) [.t 15, .k (.p (.int .i64 1))], [], none⟩,
    ⟨none, .val 15 .mov [.t 27], [], none⟩]
def r74_11 : IC := (.reg o74_11 [3, 14, 15])
def l74_1 : IC := (.seq r74_3 (.seq (.cond (.t 16) .skip (.kp [] (.exit 0))) (.kp [3, 14, 15] (.seq (.block 1 (.seq r74_4 (.seq r74_5 (.block 2 (.loop l74_2))))) r74_11))))
def o74_12 : List IOp := [⟨none, .val 2 .mov [.k (.p (.bool true))], [], none⟩]
def r74_12 : IC := (.reg o74_12 [2])
def b74 : IC := (.seq r74_0 (.seq r74_1 (.seq (.seq r74_2 (.block 0 (.loop l74_1))) (.seq r74_12 .ret))))
def i74 : IFn := ⟨1, 28, b74, [.tmp 2]⟩
def o75_0 : List IOp := [⟨none, .val 4 .mov [.k (.p (.bool false))], [], none⟩]
def r75_0 : IC := (.reg o75_0 [0, 1])
def o75_1 : List IOp := [⟨none, .val 5 .mov [.t 0], [], none⟩,
    ⟨none, .val 6 .mov [.t 1], [], none⟩,
    ⟨none, .call (some 7) 87 [.t 5, .t 6], [], none⟩,
    ⟨none, .val 8 (.bin .geq) [.t 7, .k (.p (.int .i64 0))], [], none⟩,
    ⟨none, .val 4 .mov [.t 8], [], none⟩]
def r75_1 : IC := (.reg o75_1 [4])
def b75 : IC := (.seq r75_0 (.seq r75_1 .ret))
def i75 : IFn := ⟨2, 9, b75, [.tmp 4]⟩
def o76_0 : List IOp := [⟨none, .boxL 3 (.t 0), [], none⟩,
    ⟨none, .boxL 5 (.t 2), [], none⟩,
    ⟨none, .val 6 .mov [.k (.p (.sl 1 true []))], [], none⟩]
def r76_0 : IC := (.reg o76_0 [1, 3, 5])
def o76_1 : List IOp := [⟨none, .val 10 (.faddr 0) [.t 3], [], none⟩,
    ⟨none, .load 11 (.t 10) 1 false, [], none⟩,
    ⟨none, .mkSl 12 (.t 11) (.t 11) [.bool false] 1, [], none⟩,
    ⟨none, .val 7 .mov [.t 12], [], none⟩]
def r76_1 : IC := (.reg o76_1 [1, 3, 5, 7])
def o76_2 : List IOp := [⟨none, .val 13 .mov [.t 7], [], none⟩,
    ⟨none, .val 14 .mov [.t 1], [], none⟩,
    ⟨none, .val 15 (.iaddrS 1) [.t 13, .t 14], [], none⟩,
    ⟨none, .store (.t 15) (.k (.p (.bool true))) 1, [], none⟩]
def r76_2 : IC := (.reg o76_2 [3, 5, 7])
def o76_3 : List IOp := [⟨none, .val 16 (.faddr 0) [.t 3], [], none⟩,
    ⟨none, .load 17 (.t 16) 1 false, [], none⟩,
    ⟨none, .val 18 .mov [.k (.p (.int .i64 0))], [], none⟩]
def r76_3 : IC := (.reg o76_3 [3, 5, 7, 17, 18])
def o76_4 : List IOp := [⟨none, .val 19 (.bin .lss) [.t 18, .t 17], [], none⟩]
def r76_4 : IC := (.reg o76_4 [3, 5, 7, 17, 18, 19])
def o76_5 : List IOp := [⟨none, .val 20 (.faddr 2) [.t 3], [], none⟩,
    ⟨none, .load 21 (.t 20) 1 false, [], none⟩,
    ⟨none, .val 22 .len [.t 21], [], none⟩,
    ⟨none, .val 23 .mov [.k (.p (.int .i64 0))], [], none⟩]
def r76_5 : IC := (.reg o76_5 [3, 5, 7, 17, 18, 21, 22, 23])
def o76_6 : List IOp := [⟨none, .val 24 (.bin .lss) [.t 23, .t 22], [], none⟩]
def r76_6 : IC := (.reg o76_6 [3, 5, 7, 17, 18, 21, 22, 23, 24])
def o76_7 : List IOp := [⟨none, .val 25 .mov [.t 23], [], none⟩,
    ⟨none, .val 26 (.iaddrS 4) [.t 21, .t 23], [], none⟩,
    ⟨none, .load 27 (.t 26) 4 true, [], none⟩,
    ⟨none, .newL 9 [.p (.int .i64 0), .p (.int .i64 0), .p (.int .i64 0), .p (.int .i64 0)], [], none⟩,
    ⟨none, .val 8 .mov [.t 25], [], none⟩,
    ⟨none, .store (.t 9) (.t 27) 4, [], none⟩]
def r76_7 : IC := (.reg o76_7 [3, 5, 7, 8, 9, 17, 18, 21, 22, 23])
def o76_8 : List IOp := [⟨none, .val 28 .mov [.t 8], [], none⟩,
    ⟨none, .val 29 (.iaddr 24 1) [.t 5, .t 28], [0], none⟩,
    ⟨none, .loadL 30 (.t 29) 1 false, [0, 1], none⟩,
    ⟨none, .val 31 .not [.t 30], [0, 1, 2], none⟩,
    ⟨none, .val 32 .mov [.t 31], [0, 1, 2, 3], none⟩,
    ⟨(some (32, true)), .val 33 .mov [.t 7], [0, 1, 2, 3, 4], none⟩,
    ⟨(some (32, true)), .val 34 (.faddr 0) [.t 9], [0, 1, 2, 3, 4], none⟩,
    ⟨(some (32, true)), .loadL 35 (.t 34) 1 false, [0, 1, 2, 3, 4, 6], none⟩,
    ⟨(some (32, true)), .val 36 (.iaddrS 1) [.t 33, .t 35], [0, 1, 2, 3, 4, 5, 6, 7], none⟩,
    ⟨(some (32, true)), .load 37 (.t 36) 1 false, [0, 1, 2, 3, 4, 5, 6, 7, 8], none⟩,
    ⟨(some (32, true)), .val 38 .mov [.t 7], [0, 1, 2, 3, 4], none⟩,
    ⟨(some (32, true)), .val 39 (.faddr 1) [.t 9], [0, 1, 2, 3, 4], none⟩,
    ⟨(some (32, true)), .loadL 40 (.t 39) 1 false, [0, 1, 2, 3, 4, 11], none⟩,
    ⟨(some (32, true)), .val 41 (.iaddrS 1) [.t 38, .t 40], [0, 1, 2, 3, 4, 10, 11, 12], none⟩,
    ⟨(some (32, true)), .load 42 (.t 41) 1 false, [0, 1, 2, 3, 4, 10, 11, 12, 13], none⟩,
    ⟨(some (32, true)), .val 43 (.eqB true) [.t 37, .t 42], [0, 1, 2, 3, 4, 5, 6, 7, 8, 9, 10, 11, 12, 13, 14], none⟩,
    ⟨none, .val 44 .pick [.t 32, .t 43, .k (.p (.bool false))], [0, 1, 2, 3, 4, 5, 6, 7, 8, 9, 10, 11, 12, 13, 14, 15], none⟩]
def r76_8 : IC := (.regD o76_8 [3, 5, 7, 9, 17, 18, 21, 22, 23, 44])
def o76_9 : List IOp := [⟨none, .val 45 .mov [.t 7], [], none⟩,
    ⟨none, .val 46 (.faddr 0) [.t 9], [], none⟩,
    ⟨none, .loadL 47 (.t 46) 1 false, [1], none⟩,
    ⟨none, .val 48 .mov [.t 7], [], none⟩,
    ⟨none, .val 49 (.faddr 1) [.t 9], [], none⟩,
    ⟨none, .loadL 50 (.t 49) 1 false, [4], none⟩,
    ⟨none, .val 51 (.iaddrS 1) [.t 45, .t 47], [0, 1, 2], none⟩,
    ⟨none, .storeH (.t 51) (.k (.p (.bool true))) 1, [0, 1, 2, 6], none⟩,
    ⟨none, .val 52 (.iaddrS 1) [.t 48, .t 50], [0, 1, 2, 3, 4, 5, 6, 7], none⟩,
    ⟨none, .storeH (.t 52) (.k (.p (.bool true))) 1, [0, 1, 2, 3, 4, 5, 6, 7, 8], none⟩]
def r76_9 : IC := (.regD o76_9 [3, 5, 7, 17, 18, 21, 22, 23])
def o76_10 : List IOp := [⟨none, .val 53 (.bin .add) [.t 23, .k (.p (.int .i64 1))], [], none⟩,
    ⟨none, .val 23 .mov [.t 53], [], none⟩]
def r76_10 : IC := (.reg o76_10 [3, 5, 7, 17, 18, 21, 22, 23])
def l76_2 : IC := (.seq r76_6 (.seq (.cond (.t 24) .skip (.kp [3, 5, 7, 17, 18] (.exit 2))) (.kp [3, 5, 7, 17, 18, 21, 22, 23] (.seq (.block 3 (.seq r76_7 (.seq r76_8 (.cond (.t 44) r76_9 .skip)))) (.kp [3, 5, 7, 17, 18, 21, 22, 23] r76_10)))))
def o76_11 : List IOp := [⟨none, .val 54 (.bin .add) [.t 18, .k (.p (.int .i64 1))], [], none⟩,
    ⟨none, .val 18 .mov [.t 54], [], none⟩]
def r76_11 : IC := (.reg o76_11 [3, 5, 7, 17, 18])
def l76_1 : IC := (.seq r76_4 (.seq (.cond (.t 19) .skip (.kp [7] (.exit 0))) (.kp [3, 5, 7, 17, 18] (.seq (.block 1 (.seq r76_5 (.block 2 (.loop l76_2)))) r76_11))))
def o76_12 : List IOp := [⟨none, .val 55 .mov [.t 7], [], none⟩,
    ⟨none, .val 6 .mov [.t 55], [], none⟩]
def r76_12 : IC := (.reg o76_12 [6])
def b76 : IC := (.seq r76_0 (.seq r76_1 (.seq r76_2 (.seq (.seq r76_3 (.block 0 (.loop l76_1))) (.seq r76_12 .ret)))))
def i76 : IFn := ⟨3, 56, b76, [.tmp 6]⟩
def o77_0 : List IOp := [⟨none, .val 4 .mov [.k (.p (.bool false))], [], none⟩]
def r77_0 : IC := (.reg o77_0 [0, 1])
def o77_1 : List IOp := [⟨none, .val 5 .mov [.t 0], [], none⟩,
    ⟨none, .val 6 .mov [.t 1], [], none⟩,
    ⟨none, .call (some 7) 88 [.t 5, .t 6], [], none⟩,
    ⟨none, .val 8 (.bin .geq) [.t 7, .k (.p (.int .i64 0))], [], none⟩,
    ⟨none, .val 4 .mov [.t 8], [], none⟩]
def r77_1 : IC := (.reg o77_1 [4])
def b77 : IC := (.seq r77_0 (.seq r77_1 .ret))
def i77 : IFn := ⟨2, 9, b77, [.tmp 4]⟩
def o78_0 : List IOp := [⟨none, .load 8 (.t 1) 1 false, [], none⟩,
    ⟨none, .val 9 .len [.t 8], [], none⟩,
    ⟨none, .val 10 .mov [.k (.p (.int .i64 0))], [], none⟩]
def r78_0 : IC := (.reg o78_0 [0, 2, 8, 9, 10])
def o78_1 : List IOp := [⟨none, .val 11 (.bin .lss) [.t 10, .t 9], [], none⟩]
def r78_1 : IC := (.reg o78_1 [0, 2, 8, 9, 10, 11])
def o78_2 : List IOp := [⟨none, .val 12 .mov [.t 10], [], none⟩,
    ⟨none, .val 13 (.iaddrS 1) [.t 8, .t 10], [], none⟩,
    ⟨none, .load 14 (.t 13) 1 false, [], none⟩,
    ⟨none, .val 4 .mov [.t 12], [], none⟩,
    ⟨none, .val 5 .mov [.t 14], [], none⟩]
def r78_2 : IC := (.reg o78_2 [0, 2, 4, 5, 8, 9, 10])
def o78_3 : List IOp := [⟨none, .val 15 .mov [.t 5], [], none⟩,
    ⟨none, .val 16 (.bin .lss) [.t 15, .k (.p (.int .i64 0))], [], none⟩,
    ⟨none, .val 17 .mov [.t 16], [], none⟩,
    ⟨(some (17, false)), .val 18 .mov [.t 5], [], none⟩,
    ⟨(some (17, false)), .val 19 (.faddr 0) [.t 2], [], none⟩,
    ⟨(some (17, false)), .val 20 (.faddr 2) [.t 19], [], none⟩,
    ⟨(some (17, false)), .load 21 (.t 20) 1 false, [], none⟩,
    ⟨(some (17, false)), .val 22 .len [.t 21], [], none⟩,
    ⟨(some (17, false)), .val 23 (.bin .mul) [.k (.p (.int .i64 2)), .t 22], [], none⟩,
    ⟨(some (17, false)), .val 24 (.bin .geq) [.t 18, .t 23], [], none⟩,
    ⟨none, .val 25 .pick [.t 17, .k (.p (.bool true)), .t 24], [], none⟩]
def r78_3 : IC := (.reg o78_3 [0, 2, 4, 5, 8, 9, 10, 25])
def o78_4 : List IOp := [⟨none, .val 26 (.faddr 0) [.t 2], [], none⟩,
    ⟨none, .val 27 (.faddr 2) [.t 26], [], none⟩,
    ⟨none, .load 28 (.t 27) 1 false, [], none⟩,
    ⟨none, .val 29 .mov [.t 5], [], none⟩,
    ⟨none, .val 30 (.bin .quo) [.t 29, .k (.p (.int .i64 2))], [], none⟩,
    ⟨none, .val 31 (.iaddrS 4) [.t 28, .t 30], [], none⟩,
    ⟨none, .load 32 (.t 31) 4 true, [], none⟩,
    ⟨none, .newL 6 [.p (.int .i64 0), .p (.int .i64 0), .p (.int .i64 0), .p (.int .i64 0)], [], none⟩,
    ⟨none, .store (.t 6) (.t 32) 4, [], none⟩]
def r78_4 : IC := (.reg o78_4 [0, 2, 4, 5, 6, 8, 9, 10])
def o78_5 : List IOp := [⟨none, .val 33 .mov [.t 5], [], none⟩,
    ⟨none, .val 34 (.faddr 0) [.t 6], [], none⟩,
    ⟨none, .load 35 (.t 34) 1 false, [], none⟩,
    ⟨none, .val 36 (.faddr 1) [.t 6], [], none⟩,
    ⟨none, .load 37 (.t 36) 1 false, [], none⟩,
    ⟨none, .val 38 (.build [.p (.int .i64 0), .p (.int .i64 0), .p (.int .i64 0)] [(0, 1), (1, 1), (2, 1)]) [.t 33, .t 35, .t 37], [], none⟩,
    ⟨none, .newL 7 [.p (.int .i64 0), .p (.int .i64 0), .p (.int .i64 0)], [], none⟩,
    ⟨none, .store (.t 7) (.t 38) 3, [], none⟩]
def r78_5 : IC := (.reg o78_5 [0, 2, 4, 5, 6, 7, 8, 9, 10])
def o78_6 : List IOp := [⟨none, .val 39 .mov [.t 5], [], none⟩,
    ⟨none, .val 40 (.bin .rem) [.t 39, .k (.p (.int .i64 2))], [], none⟩,
    ⟨none, .val 41 (.bin .eql) [.t 40, .k (.p (.int .i64 1))], [], none⟩]
def r78_6 : IC := (.reg o78_6 [0, 2, 4, 5, 6, 7, 8, 9, 10, 41])
def o78_7 : List IOp := [⟨none, .val 42 .mov [.t 5], [], none⟩,
    ⟨none, .val 43 (.faddr 1) [.t 6], [], none⟩,
    ⟨none, .load 44 (.t 43) 1 false, [], none⟩,
    ⟨none, .val 45 (.faddr 0) [.t 6], [], none⟩,
    ⟨none, .load 46 (.t 45) 1 false, [], none⟩,
    ⟨none, .val 47 (.build [.p (.int .i64 0), .p (.int .i64 0), .p (.int .i64 0)] [(0, 1), (1, 1), (2, 1)]) [.t 42, .t 44, .t 46], [], none⟩,
    ⟨none, .store (.t 7) (.t 47) 3, [], none⟩]
def r78_7 : IC := (.reg o78_7 [0, 2, 4, 7, 8, 9, 10])
def o78_8 : List IOp := [⟨none, .val 48 .mov [.t 0], [], none⟩,
    ⟨none, .val 49 .mov [.t 4], [], none⟩,
    ⟨none, .load 50 (.t 7) 3 true, [], none⟩,
    ⟨none, .callY (some 51) (.t 48) [.t 49, .t 50], [], none⟩,
    ⟨none, .val 52 .not [.t 51], [], none⟩]
def r78_8 : IC := (.reg o78_8 [0, 2, 8, 9, 10, 52])
def o78_9 : List IOp := [⟨none, .val 53 (.bin .add) [.t 10, .k (.p (.int .i64 1))], [], none⟩,
    ⟨none, .val 10 .mov [.t 53], [], none⟩]
def r78_9 : IC := (.reg o78_9 [0, 2, 8, 9, 10])
def l78_1 : IC := (.seq r78_1 (.seq (.cond (.t 11) .skip (.kp [] (.exit 0))) (.kp [0, 2, 8, 9, 10] (.seq (.block 1 (.seq r78_2 (.seq (.seq r78_3 (.cond (.t 25) (.kp [] (.exit 0)) .skip)) (.kp [0, 2, 4, 5, 8, 9, 10] (.seq r78_4 (.seq r78_5 (.seq (.seq r78_6 (.cond (.t 41) r78_7 .skip)) (.kp [0, 2, 4, 7, 8, 9, 10] (.seq r78_8 (.cond (.t 52) (.kp [] (.exit 0)) .skip)))))))))) (.kp [0, 2, 8, 9, 10] r78_9)))))
def s78 : IC := (.seq (.label 0) (.seq r78_0 (.block 0 (.loop l78_1))))
def b78 : IC := (.scope s78)
def i78 : IFn := ⟨3, 54, b78, []⟩
def o79_0 : List IOp := [⟨none, .boxL 3 (.t 0), [], none⟩,
    ⟨none, .val 6 .mov [.k (.p (.int .i64 0))], [], none⟩,
    ⟨none, .val 7 .mov [.k (.p (.int .i64 0))], [], none⟩]
def r79_0 : IC := (.reg o79_0 [1, 2, 3])
def o79_1 : List IOp := [⟨none, .val 8 .mov [.k (.p (.int .i64 0))], [], none⟩]
def r79_1 : IC := (.reg o79_1 [1, 2, 3, 8])
def o79_2 : List IOp := [⟨none, .load 10 (.t 3) 3 true, [], none⟩,
    ⟨none, .call (some 11) 50 [.t 10], [], none⟩,
    ⟨none, .val 9 .mov [.t 11], [], none⟩]
def r79_2 : IC := (.reg o79_2 [1, 2, 3, 8, 9])
def o79_3 : List IOp := [⟨none, .val 12 .mov [.t 9], [], none⟩,
    ⟨none, .val 13 (.bin .neq) [.t 12, .k (.p (.int .i64 0))], [], none⟩]
def r79_3 : IC := (.reg o79_3 [1, 2, 3, 8, 9, 13])
def o79_4 : List IOp := [⟨none, .val 14 .mov [.t 8], [], none⟩,
    ⟨none, .val 15 .mov [.t 9], [], none⟩,
    ⟨none, .val 6 .mov [.t 14], [], none⟩,
    ⟨none, .val 7 .mov [.t 15], [], none⟩]
def r79_4 : IC := (.reg o79_4 [6, 7])
def o79_5 : List IOp := [⟨none, .val 16 .mov [.t 1], [], none⟩,
    ⟨none, .val 17 (.bin .lss) [.t 16, .k (.p (.int .i64 0))], [], none⟩,
    ⟨none, .val 18 .mov [.t 17], [], none⟩,
    ⟨(some (18, false)), .val 19 .mov [.t 1], [], none⟩,
    ⟨(some (18, false)), .val 20 (.faddr 2) [.t 3], [], none⟩,
    ⟨(some (18, false)), .load 21 (.t 20) 1 false, [], none⟩,
    ⟨(some (18, false)), .val 22 .len [.t 21], [], none⟩,
    ⟨(some (18, false)), .val 23 (.bin .mul) [.k (.p (.int .i64 2)), .t 22], [], none⟩,
    ⟨(some (18, false)), .val 24 (.bin .geq) [.t 19, .t 23], [], none⟩,
    ⟨none, .val 25 .pick [.t 18, .k (.p (.bool true)), .t 24], [], none⟩]
def r79_5 : IC := (.reg o79_5 [1, 2, 3, 8, 25])
def o79_6 : List IOp := [⟨none, .val 26 .mov [.t 8], [], none⟩,
    ⟨none, .val 6 .mov [.t 26], [], none⟩,
    ⟨none, .val 7 .mov [.k (.p (.int .i64 2))], [], none⟩]
def r79_6 : IC := (.reg o79_6 [6, 7])
def o79_7 : List IOp := [⟨none, .val 27 .mov [.t 2], [], none⟩,
    ⟨none, .val 28 (.faddr 2) [.t 3], [], none⟩,
    ⟨none, .load 29 (.t 28) 1 false, [], none⟩,
    ⟨none, .val 30 .mov [.t 1], [], none⟩,
    ⟨none, .val 31 (.bin .quo) [.t 30, .k (.p (.int .i64 2))], [], none⟩,
    ⟨none, .val 32 (.iaddrS 4) [.t 29, .t 31], [], none⟩,
    ⟨none, .load 33 (.t 32) 4 true, [], none⟩,
    ⟨none, .val 34 .mov [.t 1], [], none⟩,
    ⟨none, .val 35 (.build [.p (.int .i64 0), .p (.int .i64 0), .p (.int .i64 0), .p (.int .i64 0), .p (.int .i64 0)] [(0, 4), (4, 1)]) [.t 33, .t 34], [], none⟩,
    ⟨none, .callV (some 36) (.t 27) [.t 35], [], none⟩,
    ⟨none, .val 6 .mov [.t 36], [], none⟩,
    ⟨none, .val 7 .mov [.k (.p (.int .i64 0))], [], none⟩]
def r79_7 : IC := (.reg o79_7 [6, 7])
def b79 : IC := (.seq r79_0 (.seq r79_1 (.seq (.seq r79_2 (.seq r79_3 (.cond (.t 13) (.seq r79_4 .ret) .skip))) (.kp [1, 2, 3, 8] (.seq (.seq r79_5 (.cond (.t 25) (.seq r79_6 .ret) .skip)) (.kp [1, 2, 3] (.seq r79_7 .ret)))))))
def i79 : IFn := ⟨3, 37, b79, [.tmp 6, .tmp 7]⟩
def o80_0 : List IOp := [⟨none, .boxL 1 (.t 0), [], none⟩,
    ⟨none, .val 2 .mov [.k (.p (.int .i64 0))], [], none⟩]
def r80_0 : IC := (.reg o80_0 [1])
def o80_1 : List IOp := [⟨none, .val 3 (.faddr 4) [.t 1], [], none⟩,
    ⟨none, .load 4 (.t 3) 1 false, [], none⟩,
    ⟨none, .val 5 (.bin .xor) [.t 4, .k (.p (.int .i64 1))], [], none⟩,
    ⟨none, .val 2 .mov [.t 5], [], none⟩]
def r80_1 : IC := (.reg o80_1 [2])
def b80 : IC := (.seq r80_0 (.seq r80_1 .ret))
def i80 : IFn := ⟨1, 6, b80, [.tmp 2]⟩
def o81_0 : List IOp := [⟨none, .boxL 2 (.t 0), [], none⟩,
    ⟨none, .val 4 .mov [.k (.p (.bool false))], [], none⟩]
def r81_0 : IC := (.reg o81_0 [1, 2])
def o81_1 : List IOp := [⟨none, .val 5 .mov [.t 1], [], none⟩,
    ⟨none, .val 6 (.bin .geq) [.t 5, .k (.p (.int .i64 0))], [], none⟩,
    ⟨none, .val 7 .mov [.t 6], [], none⟩,
    ⟨(some (7, true)), .val 8 .mov [.t 1], [], none⟩,
    ⟨(some (7, true)), .val 9 (.faddr 0) [.t 2], [], none⟩,
    ⟨(some (7, true)), .load 10 (.t 9) 1 false, [], none⟩,
    ⟨(some (7, true)), .val 11 (.bin .lss) [.t 8, .t 10], [], none⟩,
    ⟨none, .val 12 .pick [.t 7, .t 11, .k (.p (.bool false))], [], none⟩,
    ⟨none, .val 4 .mov [.t 12], [], none⟩]
def r81_1 : IC := (.reg o81_1 [4])
def b81 : IC := (.seq r81_0 (.seq r81_1 .ret))
def i81 : IFn := ⟨2, 13, b81, [.tmp 4]⟩
def o82_0 : List IOp := [⟨none, .val 3 .mov [.k (.p (.bool false))], [], none⟩]
def r82_0 : IC := (.reg o82_0 [0, 1])
def o82_1 : List IOp := [⟨none, .val 5 (.faddr 2) [.t 1], [], none⟩,
    ⟨none, .load 6 (.t 5) 1 false, [], none⟩,
    ⟨none, .val 7 .mov [.t 0], [], none⟩,
    ⟨none, .val 8 (.iaddrS 4) [.t 6, .t 7], [], none⟩,
    ⟨none, .load 9 (.t 8) 4 true, [], none⟩,
    ⟨none, .newL 4 [.p (.int .i64 0), .p (.int .i64 0), .p (.int .i64 0), .p (.int .i64 0)], [], none⟩,
    ⟨none, .store (.t 4) (.t 9) 4, [], none⟩]
def r82_1 : IC := (.reg o82_1 [1, 4])
def o82_2 : List IOp := [⟨none, .load 10 (.t 1) 3 true, [], none⟩,
    ⟨none, .val 11 (.faddr 0) [.t 4], [], none⟩,
    ⟨none, .load 12 (.t 11) 1 false, [], none⟩,
    ⟨none, .call (some 13) 83 [.t 10, .t 12], [], none⟩,
    ⟨none, .val 14 .mov [.t 13], [], none⟩,
    ⟨(some (14, true)), .load 15 (.t 1) 3 true, [], none⟩,
    ⟨(some (14, true)), .val 16 (.faddr 1) [.t 4], [], none⟩,
    ⟨(some (14, true)), .load 17 (.t 16) 1 false, [], none⟩,
    ⟨(some (14, true)), .call (some 18) 83 [.t 15, .t 17], [], none⟩,
    ⟨none, .val 19 .pick [.t 14, .t 18, .k (.p (.bool false))], [], none⟩,
    ⟨none, .val 20 .mov [.t 19], [], none⟩,
    ⟨(some (20, true)), .val 21 (.faddr 0) [.t 4], [], none⟩,
    ⟨(some (20, true)), .load 22 (.t 21) 1 false, [], none⟩,
    ⟨(some (20, true)), .val 23 (.faddr 1) [.t 4], [], none⟩,
    ⟨(some (20, true)), .load 24 (.t 23) 1 false, [], none⟩,
    ⟨(some (20, true)), .val 25 (.bin .neq) [.t 22, .t 24], [], none⟩,
    ⟨none, .val 26 .pick [.t 20, .t 25, .k (.p (.bool false))], [], none⟩,
    ⟨none, .val 3 .mov [.t 26], [], none⟩]
def r82_2 : IC := (.reg o82_2 [3])
def b82 : IC := (.seq r82_0 (.seq r82_1 (.seq r82_2 .ret)))
def i82 : IFn := ⟨2, 27, b82, [.tmp 3]⟩
def o83_0 : List IOp := [⟨none, .boxL 2 (.t 0), [], none⟩,
    ⟨none, .val 4 .mov [.k (.p (.bool false))], [], none⟩]
def r83_0 : IC := (.reg o83_0 [1, 2])
def o83_1 : List IOp := [⟨none, .val 5 .mov [.t 1], [], none⟩,
    ⟨none, .val 6 (.bin .geq) [.t 5, .k (.p (.int .i64 0))], [], none⟩,
    ⟨none, .val 7 .mov [.t 6], [], none⟩,
    ⟨(some (7, true)), .val 8 .mov [.t 1], [], none⟩,
    ⟨(some (7, true)), .val 9 (.faddr 0) [.t 2], [], none⟩,
    ⟨(some (7, true)), .load 10 (.t 9) 1 false, [], none⟩,
    ⟨(some (7, true)), .val 11 (.bin .lss) [.t 8, .t 10], [], none⟩,
    ⟨none, .val 12 .pick [.t 7, .t 11, .k (.p (.bool false))], [], none⟩,
    ⟨none, .val 4 .mov [.t 12], [], none⟩]
def r83_1 : IC := (.reg o83_1 [4])
def b83 : IC := (.seq r83_0 (.seq r83_1 .ret))
def i83 : IFn := ⟨2, 13, b83, [.tmp 4]⟩
def o84_0 : List IOp := [⟨none, .val 3 .mov [.k (.p (.bool false))], [], none⟩]
def r84_0 : IC := (.reg o84_0 [0, 1])
def o84_1 : List IOp := [⟨none, .val 5 (.faddr 2) [.t 1], [], none⟩,
    ⟨none, .load 6 (.t 5) 1 false, [], none⟩,
    ⟨none, .val 7 .mov [.t 0], [], none⟩,
    ⟨none, .val 8 (.iaddrS 4) [.t 6, .t 7], [], none⟩,
    ⟨none, .load 9 (.t 8) 4 true, [], none⟩,
    ⟨none, .newL 4 [.p (.int .i64 0), .p (.int .i64 0), .p (.int .i64 0), .p (.int .i64 0)], [], none⟩,
    ⟨none, .store (.t 4) (.t 9) 4, [], none⟩]
def r84_1 : IC := (.reg o84_1 [1, 4])
def o84_2 : List IOp := [⟨none, .val 10 (.faddr 1) [.t 1], [], none⟩,
    ⟨none, .load 11 (.t 10) 1 false, [], none⟩,
    ⟨none, .val 12 (.faddr 0) [.t 4], [], none⟩,
    ⟨none, .load 13 (.t 12) 1 false, [], none⟩,
    ⟨none, .val 14 (.iaddrS 1) [.t 11, .t 13], [], none⟩,
    ⟨none, .load 15 (.t 14) 1 false, [], none⟩,
    ⟨none, .val 16 .not [.t 15], [], none⟩,
    ⟨none, .val 17 .mov [.t 16], [], none⟩,
    ⟨(some (17, false)), .val 18 (.faddr 1) [.t 1], [], none⟩,
    ⟨(some (17, false)), .load 19 (.t 18) 1 false, [], none⟩,
    ⟨(some (17, false)), .val 20 (.faddr 1) [.t 4], [], none⟩,
    ⟨(some (17, false)), .load 21 (.t 20) 1 false, [], none⟩,
    ⟨(some (17, false)), .val 22 (.iaddrS 1) [.t 19, .t 21], [], none⟩,
    ⟨(some (17, false)), .load 23 (.t 22) 1 false, [], none⟩,
    ⟨(some (17, false)), .val 24 .not [.t 23], [], none⟩,
    ⟨none, .val 25 .pick [.t 17, .k (.p (.bool true)), .t 24], [], none⟩,
    ⟨none, .val 3 .mov [.t 25], [], none⟩]
def r84_2 : IC := (.reg o84_2 [3])
def b84 : IC := (.seq r84_0 (.seq r84_1 (.seq r84_2 .ret)))
def i84 : IFn := ⟨2, 26, b84, [.tmp 3]⟩
def o85_0 : List IOp := [⟨none, .val 3 .mov [.k (.p (.bool false))], [], none⟩]
def r85_0 : IC := (.reg o85_0 [0, 1])
def o85_1 : List IOp := [⟨none, .val 7 (.faddr 2) [.t 1], [], none⟩,
    ⟨none, .load 8 (.t 7) 1 false, [], none⟩,
    ⟨none, .val 9 .mov [.t 0], [], none⟩,
    ⟨none, .val 10 (.iaddrS 4) [.t 8, .t 9], [], none⟩,
    ⟨none, .load 11 (.t 10) 4 true, [], none⟩,
    ⟨none, .newL 4 [.p (.int .i64 0), .p (.int .i64 0), .p (.int .i64 0), .p (.int .i64 0)], [], none⟩,
    ⟨none, .store (.t 4) (.t 11) 4, [], none⟩]
def r85_1 : IC := (.reg o85_1 [0, 1, 4])
def o85_2 : List IOp := [⟨none, .val 12 (.faddr 2) [.t 1], [], none⟩,
    ⟨none, .load 13 (.t 12) 1 false, [], none⟩,
    ⟨none, .val 14 .mov [.t 0], [], none⟩,
    ⟨none, .val 15 (.slice 4 false true false) [.t 13, .t 14], [], none⟩,
    ⟨none, .val 16 .len [.t 15], [], none⟩,
    ⟨none, .val 17 .mov [.k (.p (.int .i64 0))], [], none⟩]
def r85_2 : IC := (.reg o85_2 [4, 15, 16, 17])
def o85_3 : List IOp := [⟨none, .val 18 (.bin .lss) [.t 17, .t 16], [], none⟩]
def r85_3 : IC := (.reg o85_3 [4, 15, 16, 17, 18])
def o85_4 : List IOp := [⟨none, .val 19 (.iaddrS 4) [.t 15, .t 17], [], none⟩,
    ⟨none, .load 20 (.t 19) 4 true, [], none⟩,
    ⟨none, .newL 6 [.p (.int .i64 0), .p (.int .i64 0), .p (.int .i64 0), .p (.int .i64 0)], [], none⟩,
    ⟨none, .store (.t 6) (.t 20) 4, [], none⟩]
def r85_4 : IC := (.reg o85_4 [4, 6, 15, 16, 17])
def o85_5 : List IOp := [⟨none, .val 21 (.faddr 0) [.t 4], [], none⟩,
    ⟨none, .load 22 (.t 21) 1 false, [], none⟩,
    ⟨none, .val 23 (.faddr 0) [.t 6], [], none⟩,
    ⟨none, .load 24 (.t 23) 1 false, [], none⟩,
    ⟨none, .val 25 (.bin .eql) [.t 22, .t 24], [], none⟩,
    ⟨none, .val 26 .mov [.t 25], [], none⟩,
    ⟨(some (26, true)), .val 27 (.faddr 1) [.t 4], [], none⟩,
    ⟨(some (26, true)), .load 28 (.t 27) 1 false, [], none⟩,
    ⟨(some (26, true)), .val 29 (.faddr 1) [.t 6], [], none⟩,
    ⟨(some (26, true)), .load 30 (.t 29) 1 false, [], none⟩,
    ⟨(some (26, true)), .val 31 (.bin .eql) [.t 28, .t 30], [], none⟩,
    ⟨none, .val 32 .pick [.t 26, .t 31, .k (.p (.bool false))], [], none⟩,
    ⟨none, .val 33 .mov [.t 32], [], none⟩,
    ⟨(some (33, false)), .val 34 (.faddr 0) [.t 4], [], none⟩,
    ⟨(some (33, false)), .load 35 (.t 34) 1 false, [], none⟩,
    ⟨(some (33, false)), .val 36 (.faddr 1) [.t 6], [], none⟩,
    ⟨(some (33, false)), .load 37 (.t 36) 1 false, [], none⟩,
    ⟨(some (33, false)), .val 38 (.bin .eql) [.t 35, .t 37], [], none⟩,
    ⟨(some (33, false)), .val 39 .mov [.t 38], [], none⟩,
    ⟨(some (39, true)), .val 40 (.faddr 1) [.t 4], [], none⟩,
    ⟨(some (39, true)), .load 41 (.t 40) 1 false, [], none⟩,
    ⟨(some (39, true)), .val 42 (.faddr 0) [.t 6], [], none⟩,
    ⟨(some (39, true)), .load 43 (.t 42) 1 false, [], none⟩,
    ⟨(some (39, true)), .val 44 (.bin .eql) [.t 41, .t 43], [], none⟩,
    ⟨(some (33, false)), .val 45 .pick [.t 39, .t 44, .k (.p (.bool false))], [], none⟩,
    ⟨none, .val 46 .pick [.t 33, .k (.p (.bool true)), .t 45], [], none⟩]
def r85_5 : IC := (.reg o85_5 [4, 15, 16, 17, 46])
def o85_6 : List IOp := [⟨none, .val 3 .mov [.k (.p (.bool false))], [], none⟩]
def r85_6 : IC := (.reg o85_6 [3])
def o85_7 : List IOp := [⟨none, .val 47 (.bin .add) [.t 17, .k (.p (.int .i64 1))], [], none⟩,
    ⟨none, .val 17 .mov [.t 47], [], none⟩]
def r85_7 : IC := (.reg o85_7 [4, 15, 16, 17])
def l85_1 : IC := (.seq r85_3 (.seq (.cond (.t 18) .skip (.kp [] (.exit 0))) (.kp [4, 15, 16, 17] (.seq (.block 1 (.seq r85_4 (.seq r85_5 (.cond (.t 46) (.seq r85_6 .ret) .skip)))) (.kp [4, 15, 16, 17] r85_7)))))
def o85_8 : List IOp := [⟨none, .val 3 .mov [.k (.p (.bool true))], [], none⟩]
def r85_8 : IC := (.reg o85_8 [3])
def b85 : IC := (.seq r85_0 (.seq r85_1 (.seq (.seq r85_2 (.block 0 (.loop l85_1))) (.seq r85_8 .ret))))
def i85 : IFn := ⟨2, 48, b85, [.tmp 3]⟩
def o86_0 : List IOp := [⟨none, .val 3 .mov [.k (.p (.bool false))], [], none⟩]
def r86_0 : IC := (.reg o86_0 [0, 1])
def o86_1 : List IOp := [⟨none, .val 5 (.faddr 2) [.t 1], [], none⟩,
    ⟨none, .load 6 (.t 5) 1 false, [], none⟩,
    ⟨none, .val 7 .mov [.t 0], [], none⟩,
    ⟨none, .val 8 (.iaddrS 4) [.t 6, .t 7], [], none⟩,
    ⟨none, .load 9 (.t 8) 4 true, [], none⟩,
    ⟨none, .newL 4 [.p (.int .i64 0), .p (.int .i64 0), .p (.int .i64 0), .p (.int .i64 0)], [], none⟩,
    ⟨none, .store (.t 4) (.t 9) 4, [], none⟩]
def r86_1 : IC := (.reg o86_1 [4])
def o86_2 : List IOp := [⟨none, .val 10 (.faddr 2) [.t 4], [], none⟩,
    ⟨none, .load 11 (.t 10) 1 false, [], none⟩,
    ⟨none, .val 12 (.bin .geq) [.t 11, .k (.p (.int .i64 1))], [], none⟩,
    ⟨none, .val 13 .mov [.t 12], [], none⟩,
    ⟨(some (13, true)), .val 14 (.faddr 2) [.t 4], [], none⟩,
    ⟨(some (13, true)), .load 15 (.t 14) 1 false, [], none⟩,
    ⟨(some (13, true)), .val 16 (.bin .leq) [.t 15, .k (.p (.int .i64 1000))], [], none⟩,
    ⟨none, .val 17 .pick [.t 13, .t 16, .k (.p (.bool false))], [], none⟩,
    ⟨none, .val 18 .mov [.t 17], [], none⟩,
    ⟨(some (18, true)), .val 19 (.faddr 3) [.t 4], [], none⟩,
    ⟨(some (18, true)), .load 20 (.t 19) 1 false, [], none⟩,
    ⟨(some (18, true)), .val 21 (.bin .geq) [.t 20, .k (.p (.int .i64 0))], [], none⟩,
    ⟨none, .val 22 .pick [.t 18, .t 21, .k (.p (.bool false))], [], none⟩,
    ⟨none, .val 23 .mov [.t 22], [], none⟩,
    ⟨(some (23, true)), .val 24 (.faddr 3) [.t 4], [], none⟩,
    ⟨(some (23, true)), .load 25 (.t 24) 1 false, [], none⟩,
    ⟨(some (23, true)), .val 26 (.bin .leq) [.t 25, .k (.p (.int .i64 10000))], [], none⟩,
    ⟨none, .val 27 .pick [.t 23, .t 26, .k (.p (.bool false))], [], none⟩,
    ⟨none, .val 3 .mov [.t 27], [], none⟩]
def r86_2 : IC := (.reg o86_2 [3])
def b86 : IC := (.seq r86_0 (.seq r86_1 (.seq r86_2 .ret)))
def i86 : IFn := ⟨2, 28, b86, [.tmp 3]⟩
def o87_0 : List IOp := [⟨none, .val 4 .mov [.k (.p (.int .i64 0))], [], none⟩]
def r87_0 : IC := (.reg o87_0 [0, 1])
def o87_1 : List IOp := [⟨none, .val 6 .mov [.t 0], [], none⟩,
    ⟨none, .val 7 .len [.t 6], [], none⟩,
    ⟨none, .val 8 .mov [.k (.p (.int .i64 0))], [], none⟩]
def r87_1 : IC := (.reg o87_1 [0, 1, 7, 8])
def o87_2 : List IOp := [⟨none, .val 9 (.bin .lss) [.t 8, .t 7], [], none⟩]
def r87_2 : IC := (.reg o87_2 [0, 1, 7, 8, 9])
def o87_3 : List IOp := [⟨none, .val 10 .mov [.t 8], [], none⟩,
    ⟨none, .val 5 .mov [.t 10], [], none⟩]
def r87_3 : IC := (.reg o87_3 [0, 1, 5, 7, 8])
def o87_4 : List IOp := [⟨none, .val 11 .mov [.t 1], [], none⟩,
    ⟨none, .val 12 .mov [.t 0], [], none⟩,
    ⟨none, .val 13 .mov [.t 5], [], none⟩,
    ⟨none, .val 14 (.iaddrS 1) [.t 12, .t 13], [], none⟩,
    ⟨none, .load 15 (.t 14) 1 false, [], none⟩,
    ⟨none, .val 16 (.eqB false) [.t 11, .t 15], [], none⟩]
def r87_4 : IC := (.reg o87_4 [0, 1, 5, 7, 8, 16])
def o87_5 : List IOp := [⟨none, .val 17 .mov [.t 5], [], none⟩,
    ⟨none, .val 4 .mov [.t 17], [], none⟩]
def r87_5 : IC := (.reg o87_5 [4])
def o87_6 : List IOp := [⟨none, .val 18 (.bin .add) [.t 8, .k (.p (.int .i64 1))], [], none⟩,
    ⟨none, .val 8 .mov [.t 18], [], none⟩]
def r87_6 : IC := (.reg o87_6 [0, 1, 7, 8])
def l87_1 : IC := (.seq r87_2 (.seq (.cond (.t 9) .skip (.kp [] (.exit 0))) (.kp [0, 1, 7, 8] (.seq (.block 1 (.seq r87_3 (.seq r87_4 (.cond (.t 16) (.seq r87_5 .ret) .skip)))) (.kp [0, 1, 7, 8] r87_6)))))
def o87_7 : List IOp := [⟨none, .val 4 .mov [.k (.p (.int .i64 (-1)))], [], none⟩]
def r87_7 : IC := (.reg o87_7 [4])
def b87 : IC := (.seq r87_0 (.seq (.seq r87_1 (.block 0 (.loop l87_1))) (.seq r87_7 .ret)))
def i87 : IFn := ⟨2, 19, b87, [.tmp 4]⟩
def o88_0 : List IOp := [⟨none, .val 4 .mov [.k (.p (.int .i64 0))], [], none⟩]
def r88_0 : IC := (.reg o88_0 [0, 1])
def o88_1 : List IOp := [⟨none, .val 6 .mov [.t 0], [], none⟩,
    ⟨none, .val 7 .len [.t 6], [], none⟩,
    ⟨none, .val 8 .mov [.k (.p (.int .i64 0))], [], none⟩]
def r88_1 : IC := (.reg o88_1 [0, 1, 7, 8])
def o88_2 : List IOp := [⟨none, .val 9 (.bin .lss) [.t 8, .t 7], [], none⟩]
def r88_2 : IC := (.reg o88_2 [0, 1, 7, 8, 9])
def o88_3 : List IOp := [⟨none, .val 10 .mov [.t 8], [], none⟩,
    ⟨none, .val 5 .mov [.t 10], [], none⟩]
def r88_3 : IC := (.reg o88_3 [0, 1, 5, 7, 8])
def o88_4 : List IOp := [⟨none, .val 11 .mov [.t 1], [], none⟩,
    ⟨none, .val 12 .mov [.t 0], [], none⟩,
    ⟨none, .val 13 .mov [.t 5], [], none⟩,
    ⟨none, .val 14 (.iaddrS 1) [.t 12, .t 13], [], none⟩,
    ⟨none, .load 15 (.t 14) 1 false, [], none⟩,
    ⟨none, .val 16 (.bin .eql) [.t 11, .t 15], [], none⟩]
def r88_4 : IC := (.reg o88_4 [0, 1, 5, 7, 8, 16])
def o88_5 : List IOp := [⟨none, .val 17 .mov [.t 5], [], none⟩,
    ⟨none, .val 4 .mov [.t 17], [], none⟩]
def r88_5 : IC := (.reg o88_5 [4])
def o88_6 : List IOp := [⟨none, .val 18 (.bin .add) [.t 8, .k (.p (.int .i64 1))], [], none⟩,
    ⟨none, .val 8 .mov [.t 18], [], none⟩]
def r88_6 : IC := (.reg o88_6 [0, 1, 7, 8])
def l88_1 : IC := (.seq r88_2 (.seq (.cond (.t 9) .skip (.kp [] (.exit 0))) (.kp [0, 1, 7, 8] (.seq (.block 1 (.seq r88_3 (.seq r88_4 (.cond (.t 16) (.seq r88_5 .ret) .skip)))) (.kp [0, 1, 7, 8] r88_6)))))
def o88_7 : List IOp := [⟨none, .val 4 .mov [.k (.p (.int .i64 (-1)))], [], none⟩]
def r88_7 : IC := (.reg o88_7 [4])
def b88 : IC := (.seq r88_0 (.seq (.seq r88_1 (.block 0 (.loop l88_1))) (.seq r88_7 .ret)))
def i88 : IFn := ⟨2, 19, b88, [.tmp 4]⟩
end Go.Eng

