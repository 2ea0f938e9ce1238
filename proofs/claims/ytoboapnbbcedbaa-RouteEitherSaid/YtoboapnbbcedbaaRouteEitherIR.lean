/- Part of the proof; written by a program out of the texts in wip/. -/
import Derived.Test.YtoboapnbbcedbaaRouteEitherE16
import Derived.Test.YtoboapnbbcedbaaProg
import Derived.KernelRfl
namespace Go.Eng
open Go Go.Proofs
set_option maxRecDepth 100000
set_option linter.unusedVariables false
set_option linter.unusedSimpArgs false
def q (i : Ins) : IOp := ⟨none, i, [], none⟩
def mv (d x : Nat) : IOp := ⟨none, .val d .mov [.t x], [], none⟩
def ki (n : Int) : IX := .k (.p (.int .i64 n))
def o3_0 : List IOp := [q (.boxL 3 (.t 0)),
 q (.val 6 .mov [.k (.p (.bool false))])]
def r3_0 : IC := (.reg o3_0 [1, 2, 3])
def o3_1 : List IOp := [q (.call (some 21) 10 []),
 q (.val 22 .not [.t 21])]
def r3_1 : IC := (.reg o3_1 [1, 2, 3, 22])
def o3_2 : List IOp := [q (.val 6 .mov [.k (.p (.bool false))])]
def r3_2 : IC := (.reg o3_2 [6])
def o3_3 : List IOp := [q (.load 23 (.t 3) 3 true),
 q (.call (some 24) 11 [.t 23]),
 q (.store (.t 3) (.t 24) 3)]
def r3_3 : IC := (.reg o3_3 [1, 2, 3])
def o3_4 : List IOp := [mv 25 1,
 q (.call (some 26) 12 [.t 25]),
 mv 7 26]
def r3_4 : IC := (.reg o3_4 [2, 3, 7])
def o3_5 : List IOp := [q (.load 28 (.t 3) 3 true),
 mv 29 7,
 q (.call (some 30) 13 [.t 28, .t 29]),
 mv 27 30,
 q (.val 31 (.ext 0) [.t 27]),
 q (.val 32 (.ext 1) [.t 27]),
 mv 8 31,
 mv 9 32]
def r3_5 : IC := (.reg o3_5 [2, 3, 7, 8, 9])
def o3_6 : List IOp := [q (.load 34 (.t 3) 3 true),
 mv 35 7,
 q (.call (some 36) 14 [.t 34, .t 35]),
 mv 33 36,
 q (.val 37 (.ext 0) [.t 33]),
 q (.val 38 (.ext 1) [.t 33]),
 q (.val 39 (.ext 2) [.t 33]),
 mv 10 37,
 mv 11 38,
 mv 12 39]
def r3_6 : IC := (.reg o3_6 [2, 3, 7, 8, 9, 10, 11, 12])
def o3_7 : List IOp := [q (.load 41 (.t 3) 3 true),
 mv 42 7,
 q (.call (some 43) 15 [.t 41, .t 42]),
 mv 40 43,
 q (.val 44 (.ext 0) [.t 40]),
 q (.val 45 (.ext 1) [.t 40]),
 mv 13 44,
 mv 14 45]
def r3_7 : IC := (.reg o3_7 [2, 3, 7, 8, 9, 10, 11, 12, 13, 14])
def o3_8 : List IOp := [q (.load 47 (.t 3) 3 true),
 mv 48 7,
 mv 49 2,
 q (.call (some 50) 16 [.t 47, .t 48, .t 49]),
 mv 46 50,
 q (.val 51 (.ext 0) [.t 46]),
 q (.val 52 (.ext 1) [.t 46]),
 mv 15 51,
 mv 16 52]
def r3_8 : IC := (.reg o3_8 [2, 3, 7, 8, 9, 10, 11, 12, 13, 14, 15, 16])
def o3_9 : List IOp := [q (.load 54 (.t 3) 3 true),
 mv 55 7,
 q (.call (some 56) 17 [.t 54, .t 55]),
 mv 53 56,
 q (.val 57 (.ext 0) [.t 53]),
 q (.val 58 (.ext 1) [.t 53]),
 mv 17 57,
 mv 18 58]
def r3_9 : IC := (.reg o3_9 [2, 3, 7, 8, 9, 10, 11, 12, 13, 14, 15, 16, 17, 18])
def o3_10 : List IOp := [q (.load 59 (.t 3) 3 true),
 mv 60 7,
 q (.litP 61 1 [.t 60]),
 q (.call (some 62) 18 [.t 59, .t 61]),
 mv 19 62]
def r3_10 : IC := (.reg o3_10 [2, 3, 7, 8, 9, 10, 11, 12, 13, 14, 15, 16, 17, 18, 19])
def o3_11 : List IOp := [q (.load 63 (.t 3) 3 true),
 mv 64 7,
 q (.call (some 65) 19 [.t 63, .t 64]),
 mv 66 19,
 q (.val 67 (.bin .neq) [.t 65, .t 66]),
 mv 68 67,
 ⟨(some (68, false)), .val 69 .mov [.t 9], [], none⟩,
 ⟨(some (68, false)), .val 70 .mov [.t 19], [], none⟩,
 ⟨(some (68, false)), .val 71 (.bin .neq) [.t 69, .t 70], [], none⟩,
 q (.val 72 .pick [.t 68, .k (.p (.bool true)), .t 71]),
 mv 73 72,
 ⟨(some (73, false)), .val 74 .mov [.t 12], [], none⟩,
 ⟨(some (73, false)), .val 75 .mov [.t 19], [], none⟩,
 ⟨(some (73, false)), .val 76 (.bin .neq) [.t 74, .t 75], [], none⟩,
 q (.val 77 .pick [.t 73, .k (.p (.bool true)), .t 76]),
 mv 78 77,
 ⟨(some (78, false)), .val 79 .mov [.t 14], [], none⟩,
 ⟨(some (78, false)), .val 80 .mov [.t 19], [], none⟩,
 ⟨(some (78, false)), .val 81 (.bin .neq) [.t 79, .t 80], [], none⟩,
 q (.val 82 .pick [.t 78, .k (.p (.bool true)), .t 81]),
 mv 83 82,
 ⟨(some (83, false)), .val 84 .mov [.t 18], [], none⟩,
 ⟨(some (83, false)), .val 85 .mov [.t 19], [], none⟩,
 ⟨(some (83, false)), .val 86 (.bin .neq) [.t 84, .t 85], [], none⟩,
 q (.val 87 .pick [.t 83, .k (.p (.bool true)), .t 86])]
def r3_11 : IC := (.reg o3_11 [2, 3, 7, 8, 10, 11, 13, 15, 16, 17, 19, 87])
def o3_12 : List IOp := [q (.val 6 .mov [.k (.p (.bool false))])]
def r3_12 : IC := (.reg o3_12 [6])
def o3_13 : List IOp := [mv 88 19,
 q (.val 89 (.bin .neq) [.t 88, ki 0])]
def r3_13 : IC := (.reg o3_13 [2, 3, 7, 8, 10, 11, 13, 15, 16, 17, 19, 89])
def o3_14 : List IOp := [mv 90 16,
 mv 91 19,
 q (.val 92 (.bin .eql) [.t 90, .t 91]),
 mv 93 92,
 ⟨(some (93, true)), .val 94 .mov [.t 8], [], none⟩,
 ⟨(some (93, true)), .val 95 .len [.t 94], [], none⟩,
 ⟨(some (93, true)), .val 96 (.bin .eql) [.t 95, ki 0], [], none⟩,
 q (.val 97 .pick [.t 93, .t 96, .k (.p (.bool false))]),
 mv 98 97,
 ⟨(some (98, true)), .val 99 .mov [.t 10], [], none⟩,
 ⟨(some (98, true)), .val 100 (.bin .eql) [.t 99, ki 0], [], none⟩,
 q (.val 101 .pick [.t 98, .t 100, .k (.p (.bool false))]),
 mv 102 101,
 ⟨(some (102, true)), .val 103 .mov [.t 11], [], none⟩,
 ⟨(some (102, true)), .val 104 (.bin .eql) [.t 103, ki 0], [], none⟩,
 q (.val 105 .pick [.t 102, .t 104, .k (.p (.bool false))]),
 mv 106 105,
 ⟨(some (106, true)), .val 107 .mov [.t 13], [], none⟩,
 ⟨(some (106, true)), .val 108 (.bin .eql) [.t 107, ki 0], [], none⟩,
 q (.val 109 .pick [.t 106, .t 108, .k (.p (.bool false))]),
 mv 110 109,
 ⟨(some (110, true)), .val 111 .mov [.t 15], [], none⟩,
 ⟨(some (110, true)), .val 112 (.bin .eql) [.t 111, ki 0], [], none⟩,
 q (.val 113 .pick [.t 110, .t 112, .k (.p (.bool false))]),
 mv 114 113,
 ⟨(some (114, true)), .val 115 .mov [.t 17], [], none⟩,
 ⟨(some (114, true)), .val 116 .len [.t 115], [], none⟩,
 ⟨(some (114, true)), .val 117 (.bin .eql) [.t 116, ki 0], [], none⟩,
 q (.val 118 .pick [.t 114, .t 117, .k (.p (.bool false))]),
 mv 6 118]
def r3_14 : IC := (.reg o3_14 [6])
def o3_15 : List IOp := [q (.load 119 (.t 3) 3 true),
 mv 120 7,
 q (.call (some 121) 20 [.t 119, .t 120]),
 mv 20 121]
def r3_15 : IC := (.reg o3_15 [2, 3, 7, 8, 10, 11, 13, 15, 16, 17, 20])
def o3_16 : List IOp := [mv 122 8,
 mv 123 20,
 q (.call (some 124) 21 [.t 122, .t 123]),
 q (.val 125 .not [.t 124]),
 mv 126 125,
 ⟨(some (126, false)), .val 127 .mov [.t 10], [], none⟩,
 ⟨(some (126, false)), .val 128 .mov [.t 20], [], none⟩,
 ⟨(some (126, false)), .val 129 (.iaddrS 1) [.t 128, ki 0], [], none⟩,
 ⟨(some (126, false)), .load 130 (.t 129) 1 false, [], none⟩,
 ⟨(some (126, false)), .val 131 (.bin .neq) [.t 127, .t 130], [], none⟩,
 q (.val 132 .pick [.t 126, .k (.p (.bool true)), .t 131]),
 mv 133 132,
 ⟨(some (133, false)), .val 134 .mov [.t 11], [], none⟩,
 ⟨(some (133, false)), .val 135 .mov [.t 20], [], none⟩,
 ⟨(some (133, false)), .val 136 .mov [.t 20], [], none⟩,
 ⟨(some (133, false)), .val 137 .len [.t 136], [], none⟩,
 ⟨(some (133, false)), .val 138 (.bin .sub) [.t 137, ki 1], [], none⟩,
 ⟨(some (133, false)), .val 139 (.iaddrS 1) [.t 135, .t 138], [], none⟩,
 ⟨(some (133, false)), .load 140 (.t 139) 1 false, [], none⟩,
 ⟨(some (133, false)), .val 141 (.bin .neq) [.t 134, .t 140], [], none⟩,
 q (.val 142 .pick [.t 133, .k (.p (.bool true)), .t 141]),
 mv 143 142,
 ⟨(some (143, false)), .val 144 .mov [.t 13], [], none⟩,
 ⟨(some (143, false)), .load 145 (.t 3) 3 true, [], none⟩,
 ⟨(some (143, false)), .val 146 .mov [.t 7], [], none⟩,
 ⟨(some (143, false)), .call (some 147) 22 [.t 145, .t 146], [], none⟩,
 ⟨(some (143, false)), .val 148 (.bin .neq) [.t 144, .t 147], [], none⟩,
 q (.val 149 .pick [.t 143, .k (.p (.bool true)), .t 148]),
 mv 150 149,
 ⟨(some (150, false)), .val 151 .mov [.t 17], [], none⟩,
 ⟨(some (150, false)), .val 152 .mov [.t 7], [], none⟩,
 ⟨(some (150, false)), .call (some 153) 24 [.t 152], [], none⟩,
 ⟨(some (150, false)), .call (some 154) 23 [.t 151, .t 153], [], none⟩,
 ⟨(some (150, false)), .val 155 .not [.t 154], [], none⟩,
 q (.val 156 .pick [.t 150, .k (.p (.bool true)), .t 155])]
def r3_16 : IC := (.reg o3_16 [2, 3, 7, 15, 16, 156])
def o3_17 : List IOp := [q (.val 6 .mov [.k (.p (.bool false))])]
def r3_17 : IC := (.reg o3_17 [6])
def o3_18 : List IOp := [mv 157 2,
 q (.val 158 (.bin .lss) [.t 157, ki 84]),
 mv 159 158,
 ⟨(some (159, false)), .val 160 .mov [.t 2], [], none⟩,
 ⟨(some (159, false)), .val 161 (.bin .gtr) [.t 160, ki 1542], [], none⟩,
 q (.val 162 .pick [.t 159, .k (.p (.bool true)), .t 161])]
def r3_18 : IC := (.reg o3_18 [2, 3, 7, 15, 16, 162])
def o3_19 : List IOp := [mv 163 15,
 q (.val 164 (.bin .eql) [.t 163, ki 0]),
 mv 165 164,
 ⟨(some (165, true)), .val 166 .mov [.t 16], [], none⟩,
 ⟨(some (165, true)), .val 167 (.bin .eql) [.t 166, ki 2], [], none⟩,
 q (.val 168 .pick [.t 165, .t 167, .k (.p (.bool false))]),
 mv 6 168]
def r3_19 : IC := (.reg o3_19 [6])
def o3_20 : List IOp := [mv 169 15,
 q (.load 170 (.t 3) 3 true),
 mv 171 7,
 mv 172 2,
 q (.call (some 173) 25 [.t 170, .t 171, .t 172]),
 q (.val 174 (.bin .eql) [.t 169, .t 173]),
 mv 175 174,
 ⟨(some (175, true)), .val 176 .mov [.t 16], [], none⟩,
 ⟨(some (175, true)), .val 177 (.bin .eql) [.t 176, ki 0], [], none⟩,
 q (.val 178 .pick [.t 175, .t 177, .k (.p (.bool false))]),
 mv 6 178]
def r3_20 : IC := (.reg o3_20 [6])
def b3 : IC := (.seq r3_0 (.seq (.seq r3_1 (.cond (.t 22) (.seq r3_2 .ret) .skip)) (.kp [1, 2, 3] (.seq r3_3 (.seq r3_4 (.seq r3_5 (.seq r3_6 (.seq r3_7 (.seq r3_8 (.seq r3_9 (.seq r3_10 (.seq (.seq r3_11 (.cond (.t 87) (.seq r3_12 .ret) .skip)) (.kp [2, 3, 7, 8, 10, 11, 13, 15, 16, 17, 19] (.seq (.seq r3_13 (.cond (.t 89) (.seq r3_14 .ret) .skip)) (.kp [2, 3, 7, 8, 10, 11, 13, 15, 16, 17] (.seq r3_15 (.seq (.seq r3_16 (.cond (.t 156) (.seq r3_17 .ret) .skip)) (.kp [2, 3, 7, 15, 16] (.seq (.seq r3_18 (.cond (.t 162) (.seq r3_19 .ret) .skip)) (.kp [2, 3, 7, 15, 16] (.seq r3_20 .ret)))))))))))))))))))))
def i3 : IFn := ⟨3, 179, b3, [.tmp 6]⟩
def o4_0 : List IOp := [q (.boxL 3 (.t 0)),
 q (.val 6 .mov [.k (.p (.bool false))])]
def r4_0 : IC := (.reg o4_0 [1, 2, 3])
def o4_1 : List IOp := [q (.call (some 12) 10 []),
 q (.val 13 .not [.t 12])]
def r4_1 : IC := (.reg o4_1 [1, 2, 3, 13])
def o4_2 : List IOp := [q (.val 6 .mov [.k (.p (.bool false))])]
def r4_2 : IC := (.reg o4_2 [6])
def o4_3 : List IOp := [q (.load 14 (.t 3) 3 true),
 q (.call (some 15) 11 [.t 14]),
 q (.store (.t 3) (.t 15) 3)]
def r4_3 : IC := (.reg o4_3 [1, 2, 3])
def o4_4 : List IOp := [mv 16 1,
 q (.call (some 17) 12 [.t 16]),
 mv 18 2,
 q (.call (some 19) 12 [.t 18]),
 mv 7 17,
 mv 8 19]
def r4_4 : IC := (.reg o4_4 [3, 7, 8])
def o4_5 : List IOp := [q (.load 21 (.t 3) 3 true),
 mv 22 7,
 mv 23 8,
 q (.call (some 24) 26 [.t 21, .t 22, .t 23]),
 mv 20 24,
 q (.val 25 (.ext 0) [.t 20]),
 q (.val 26 (.ext 1) [.t 20]),
 mv 9 25,
 mv 10 26]
def r4_5 : IC := (.reg o4_5 [3, 7, 8, 9, 10])
def o4_6 : List IOp := [q (.load 27 (.t 3) 3 true),
 mv 28 7,
 mv 29 8,
 q (.litP 30 1 [.t 28, .t 29]),
 q (.call (some 31) 18 [.t 27, .t 30]),
 mv 11 31]
def r4_6 : IC := (.reg o4_6 [3, 7, 8, 9, 10, 11])
def o4_7 : List IOp := [mv 32 11,
 q (.val 33 (.bin .neq) [.t 32, ki 0])]
def r4_7 : IC := (.reg o4_7 [3, 7, 8, 9, 10, 11, 33])
def o4_8 : List IOp := [mv 34 9,
 q (.val 35 .not [.t 34]),
 mv 36 35,
 ⟨(some (36, true)), .val 37 .mov [.t 10], [], none⟩,
 ⟨(some (36, true)), .val 38 .mov [.t 11], [], none⟩,
 ⟨(some (36, true)), .val 39 (.bin .eql) [.t 37, .t 38], [], none⟩,
 q (.val 40 .pick [.t 36, .t 39, .k (.p (.bool false))]),
 mv 6 40]
def r4_8 : IC := (.reg o4_8 [6])
def o4_9 : List IOp := [mv 41 10,
 q (.val 42 (.bin .eql) [.t 41, ki 0]),
 mv 43 42,
 ⟨(some (43, true)), .val 44 .mov [.t 9], [], none⟩,
 ⟨(some (43, true)), .load 45 (.t 3) 3 true, [], none⟩,
 ⟨(some (43, true)), .val 46 .mov [.t 7], [], none⟩,
 ⟨(some (43, true)), .val 47 .mov [.t 8], [], none⟩,
 ⟨(some (43, true)), .call (some 48) 27 [.t 45, .t 46, .t 47], [], none⟩,
 ⟨(some (43, true)), .val 49 (.eqB false) [.t 44, .t 48], [], none⟩,
 q (.val 50 .pick [.t 43, .t 49, .k (.p (.bool false))]),
 mv 6 50]
def r4_9 : IC := (.reg o4_9 [6])
def b4 : IC := (.seq r4_0 (.seq (.seq r4_1 (.cond (.t 13) (.seq r4_2 .ret) .skip)) (.kp [1, 2, 3] (.seq r4_3 (.seq r4_4 (.seq r4_5 (.seq (.seq r4_6 (.seq r4_7 (.cond (.t 33) (.seq r4_8 .ret) .skip))) (.kp [3, 7, 8, 9, 10] (.seq r4_9 .ret)))))))))
def i4 : IFn := ⟨3, 51, b4, [.tmp 6]⟩
def o5_0 : List IOp := [q (.boxL 2 (.t 0)),
 q (.val 4 .mov [.k (.p (.bool false))])]
def r5_0 : IC := (.reg o5_0 [1, 2])
def o5_1 : List IOp := [q (.call (some 12) 10 []),
 q (.val 13 .not [.t 12])]
def r5_1 : IC := (.reg o5_1 [1, 2, 13])
def o5_2 : List IOp := [q (.val 4 .mov [.k (.p (.bool false))])]
def r5_2 : IC := (.reg o5_2 [4])
def o5_3 : List IOp := [q (.load 14 (.t 2) 3 true),
 q (.call (some 15) 11 [.t 14]),
 q (.store (.t 2) (.t 15) 3)]
def r5_3 : IC := (.reg o5_3 [1, 2])
def o5_4 : List IOp := [q (.val 5 .mov [.k (.p (.sl 1 true []))])]
def r5_4 : IC := (.reg o5_4 [1, 2, 5])
def o5_5 : List IOp := [mv 16 1,
 mv 17 1,
 q (.val 18 .len [.t 17]),
 q (.val 19 .min [.t 18, ki 8]),
 q (.val 20 (.slice 1 false true false) [.t 16, .t 19]),
 q (.val 21 .len [.t 20]),
 q (.val 22 .mov [ki 0])]
def r5_5 : IC := (.reg o5_5 [2, 5, 20, 21, 22])
def o5_6 : List IOp := [q (.val 23 (.bin .lss) [.t 22, .t 21])]
def r5_6 : IC := (.reg o5_6 [2, 5, 20, 21, 22, 23])
def o5_7 : List IOp := [q (.val 24 (.iaddrS 1) [.t 20, .t 22]),
 q (.load 25 (.t 24) 1 false),
 mv 7 25]
def r5_7 : IC := (.reg o5_7 [2, 5, 7, 20, 21, 22])
def o5_8 : List IOp := [mv 26 5,
 mv 27 7,
 q (.call (some 28) 12 [.t 27]),
 q (.litP 29 1 [.t 28]),
 q (.app 30 (.t 26) (.t 29) 1 24),
 mv 5 30]
def r5_8 : IC := (.reg o5_8 [2, 5, 20, 21, 22])
def o5_9 : List IOp := [q (.val 31 (.bin .add) [.t 22, ki 1]),
 mv 22 31]
def r5_9 : IC := (.reg o5_9 [2, 5, 20, 21, 22])
def l5_1 : IC := (.seq r5_6 (.seq (.cond (.t 23) .skip (.kp [2, 5] (.exit 0))) (.kp [2, 5, 20, 21, 22] (.seq (.block 1 (.seq r5_7 r5_8)) r5_9))))
def o5_10 : List IOp := [q (.load 33 (.t 2) 3 true),
 mv 34 5,
 q (.call (some 35) 28 [.t 33, .t 34]),
 mv 32 35,
 q (.val 36 (.ext 0) [.t 32]),
 q (.val 37 (.ext 1) [.t 32]),
 q (.val 38 (.ext 2) [.t 32]),
 mv 8 36,
 mv 9 37,
 mv 10 38]
def r5_10 : IC := (.reg o5_10 [2, 5, 8, 9, 10])
def o5_11 : List IOp := [q (.load 39 (.t 2) 3 true),
 mv 40 5,
 q (.call (some 41) 18 [.t 39, .t 40]),
 mv 11 41]
def r5_11 : IC := (.reg o5_11 [2, 5, 8, 9, 10, 11])
def o5_12 : List IOp := [mv 42 11,
 q (.val 43 (.bin .neq) [.t 42, ki 0])]
def r5_12 : IC := (.reg o5_12 [2, 5, 8, 9, 10, 11, 43])
def o5_13 : List IOp := [mv 44 8,
 q (.val 45 .len [.t 44]),
 q (.val 46 (.bin .eql) [.t 45, ki 0]),
 mv 47 46,
 ⟨(some (47, true)), .val 48 .mov [.t 9], [], none⟩,
 ⟨(some (47, true)), .val 49 .not [.t 48], [], none⟩,
 q (.val 50 .pick [.t 47, .t 49, .k (.p (.bool false))]),
 mv 51 50,
 ⟨(some (51, true)), .val 52 .mov [.t 10], [], none⟩,
 ⟨(some (51, true)), .val 53 .mov [.t 11], [], none⟩,
 ⟨(some (51, true)), .val 54 (.bin .eql) [.t 52, .t 53], [], none⟩,
 q (.val 55 .pick [.t 51, .t 54, .k (.p (.bool false))]),
 mv 4 55]
def r5_13 : IC := (.reg o5_13 [4])
def o5_14 : List IOp := [mv 56 10,
 q (.val 57 (.bin .eql) [.t 56, ki 0]),
 mv 58 57,
 ⟨(some (58, true)), .val 59 .mov [.t 8], [], none⟩,
 ⟨(some (58, true)), .load 60 (.t 2) 3 true, [], none⟩,
 ⟨(some (58, true)), .val 61 .mov [.t 5], [], none⟩,
 ⟨(some (58, true)), .call (some 62) 29 [.t 60, .t 61], [], none⟩,
 ⟨(some (58, true)), .call (some 63) 21 [.t 59, .t 62], [], none⟩,
 q (.val 64 .pick [.t 58, .t 63, .k (.p (.bool false))]),
 mv 65 64,
 ⟨(some (65, true)), .val 66 .mov [.t 9], [], none⟩,
 ⟨(some (65, true)), .load 67 (.t 2) 3 true, [], none⟩,
 ⟨(some (65, true)), .val 68 .mov [.t 5], [], none⟩,
 ⟨(some (65, true)), .call (some 69) 30 [.t 67, .t 68], [], none⟩,
 ⟨(some (65, true)), .val 70 (.eqB false) [.t 66, .t 69], [], none⟩,
 q (.val 71 .pick [.t 65, .t 70, .k (.p (.bool false))]),
 mv 4 71]
def r5_14 : IC := (.reg o5_14 [4])
def b5 : IC := (.seq r5_0 (.seq (.seq r5_1 (.cond (.t 13) (.seq r5_2 .ret) .skip)) (.kp [1, 2] (.seq r5_3 (.seq r5_4 (.seq (.seq r5_5 (.block 0 (.loop l5_1))) (.seq r5_10 (.seq (.seq r5_11 (.seq r5_12 (.cond (.t 43) (.seq r5_13 .ret) .skip))) (.kp [2, 5, 8, 9, 10] (.seq r5_14 .ret))))))))))
def i5 : IFn := ⟨2, 72, b5, [.tmp 4]⟩
def o6_0 : List IOp := [q (.boxL 5 (.t 0)),
 q (.val 10 .mov [.k (.p (.bool false))])]
def r6_0 : IC := (.reg o6_0 [1, 2, 3, 4, 5])
def o6_1 : List IOp := [q (.call (some 38) 10 []),
 q (.val 39 .not [.t 38])]
def r6_1 : IC := (.reg o6_1 [1, 2, 3, 4, 5, 39])
def o6_2 : List IOp := [q (.val 10 .mov [.k (.p (.bool false))])]
def r6_2 : IC := (.reg o6_2 [10])
def o6_3 : List IOp := [q (.load 40 (.t 5) 6 true),
 q (.call (some 41) 31 [.t 40]),
 q (.newL 11 [.p (.int .i64 0), .p (.sl 1 true []), .p (.sl 4 true [])]),
 q (.store (.t 11) (.t 41) 3)]
def r6_3 : IC := (.reg o6_3 [1, 2, 3, 4, 11])
def o6_4 : List IOp := [q (.load 42 (.t 11) 3 true),
 mv 43 1,
 mv 44 2,
 q (.call (some 45) 32 [.t 42, .t 43, .t 44]),
 mv 12 45]
def r6_4 : IC := (.reg o6_4 [3, 4, 11, 12])
def o6_5 : List IOp := [q (.load 46 (.t 11) 3 true),
 mv 47 12,
 q (.call (some 48) 19 [.t 46, .t 47]),
 q (.val 49 (.bin .neq) [.t 48, ki 0])]
def r6_5 : IC := (.reg o6_5 [3, 4, 11, 12, 49])
def o6_6 : List IOp := [q (.val 10 .mov [.k (.p (.bool false))])]
def r6_6 : IC := (.reg o6_6 [10])
def o6_7 : List IOp := [mv 50 3,
 q (.val 51 (.conv .i64) [.t 50]),
 mv 52 12,
 q (.val 53 .len [.t 52]),
 q (.val 54 (.bin .add) [.t 53, ki 1]),
 q (.val 55 (.bin .rem) [.t 51, .t 54]),
 mv 13 55]
def r6_7 : IC := (.reg o6_7 [4, 11, 12, 13])
def o6_8 : List IOp := [mv 56 13,
 q (.val 57 (.bin .eql) [.t 56, ki 0]),
 mv 58 57,
 ⟨(some (58, false)), .val 59 .mov [.t 13], [], none⟩,
 ⟨(some (58, false)), .val 60 .mov [.t 12], [], none⟩,
 ⟨(some (58, false)), .val 61 .len [.t 60], [], none⟩,
 ⟨(some (58, false)), .val 62 (.bin .eql) [.t 59, .t 61], [], none⟩,
 q (.val 63 .pick [.t 58, .k (.p (.bool true)), .t 62])]
def r6_8 : IC := (.reg o6_8 [4, 11, 12, 13, 63])
def o6_9 : List IOp := [q (.val 10 .mov [.k (.p (.bool true))])]
def r6_9 : IC := (.reg o6_9 [10])
def o6_10 : List IOp := [mv 64 12,
 mv 65 13,
 mv 66 13,
 ⟨none, .val 67 (.slice 1 false true true) [.t 64, .t 65, .t 66], [0, 1, 2], none⟩,
 mv 68 12,
 mv 69 13,
 ⟨none, .val 70 (.slice 1 true false false) [.t 68, .t 69], [4, 5], none⟩,
 ⟨none, .val 14 .mov [.t 67], [0, 1, 2, 3], none⟩,
 ⟨none, .val 15 .mov [.t 70], [0, 1, 2, 3, 4, 5, 6, 7], none⟩]
def r6_10 : IC := (.regD o6_10 [4, 11, 12, 14, 15])
def o6_11 : List IOp := [mv 71 4,
 q (.val 72 (.conv .i64) [.t 71]),
 q (.val 73 (.bin .rem) [.t 72, ki 1459]),
 q (.val 74 (.bin .add) [ki 84, .t 73]),
 mv 16 74]
def r6_11 : IC := (.reg o6_11 [11, 12, 14, 15, 16])
def o6_12 : List IOp := [q (.load 76 (.t 11) 3 true),
 mv 77 14,
 mv 78 16,
 q (.call (some 79) 16 [.t 76, .t 77, .t 78]),
 mv 75 79,
 q (.val 80 (.ext 0) [.t 75]),
 q (.val 81 (.ext 1) [.t 75]),
 mv 17 80,
 mv 18 81]
def r6_12 : IC := (.reg o6_12 [11, 12, 14, 15, 16, 17, 18])
def o6_13 : List IOp := [q (.load 83 (.t 11) 3 true),
 mv 84 15,
 mv 85 16,
 q (.call (some 86) 16 [.t 83, .t 84, .t 85]),
 mv 82 86,
 q (.val 87 (.ext 0) [.t 82]),
 q (.val 88 (.ext 1) [.t 82]),
 mv 19 87,
 mv 20 88]
def r6_13 : IC := (.reg o6_13 [11, 12, 14, 15, 16, 17, 18, 19, 20])
def o6_14 : List IOp := [q (.load 90 (.t 11) 3 true),
 mv 91 12,
 mv 92 16,
 q (.call (some 93) 16 [.t 90, .t 91, .t 92]),
 mv 89 93,
 q (.val 94 (.ext 0) [.t 89]),
 q (.val 95 (.ext 1) [.t 89]),
 mv 21 94,
 mv 22 95]
def r6_14 : IC := (.reg o6_14 [11, 12, 14, 15, 17, 18, 19, 20, 21, 22])
def o6_15 : List IOp := [q (.load 97 (.t 11) 3 true),
 mv 98 14,
 q (.call (some 99) 15 [.t 97, .t 98]),
 mv 96 99,
 q (.val 100 (.ext 0) [.t 96]),
 q (.val 101 (.ext 1) [.t 96]),
 mv 23 100,
 mv 24 101]
def r6_15 : IC := (.reg o6_15 [11, 12, 14, 15, 17, 18, 19, 20, 21, 22, 23, 24])
def o6_16 : List IOp := [q (.load 103 (.t 11) 3 true),
 mv 104 15,
 q (.call (some 105) 15 [.t 103, .t 104]),
 mv 102 105,
 q (.val 106 (.ext 0) [.t 102]),
 q (.val 107 (.ext 1) [.t 102]),
 mv 25 106,
 mv 26 107]
def r6_16 : IC := (.reg o6_16 [11, 12, 14, 15, 17, 18, 19, 20, 21, 22, 23, 24, 25, 26])
def o6_17 : List IOp := [q (.load 109 (.t 11) 3 true),
 mv 110 12,
 q (.call (some 111) 15 [.t 109, .t 110]),
 mv 108 111,
 q (.val 112 (.ext 0) [.t 108]),
 q (.val 113 (.ext 1) [.t 108]),
 mv 27 112,
 mv 28 113]
def r6_17 : IC := (.reg o6_17 [11, 14, 15, 17, 18, 19, 20, 21, 22, 23, 24, 25, 26, 27, 28])
def o6_18 : List IOp := [q (.load 115 (.t 11) 3 true),
 mv 116 14,
 q (.call (some 117) 14 [.t 115, .t 116]),
 mv 114 117,
 q (.val 118 (.ext 0) [.t 114]),
 q (.val 119 (.ext 1) [.t 114]),
 q (.val 120 (.ext 2) [.t 114]),
 mv 29 118,
 mv 30 119,
 mv 31 120]
def r6_18 : IC := (.reg o6_18 [11, 14, 15, 17, 18, 19, 20, 21, 22, 23, 24, 25, 26, 27, 28, 30, 31])
def o6_19 : List IOp := [q (.load 122 (.t 11) 3 true),
 mv 123 15,
 q (.call (some 124) 14 [.t 122, .t 123]),
 mv 121 124,
 q (.val 125 (.ext 0) [.t 121]),
 q (.val 126 (.ext 1) [.t 121]),
 q (.val 127 (.ext 2) [.t 121]),
 mv 32 125,
 mv 33 126,
 mv 34 127]
def r6_19 : IC := (.reg o6_19 [11, 14, 15, 17, 18, 19, 20, 21, 22, 23, 24, 25, 26, 27, 28, 30, 31, 32, 34])
def o6_20 : List IOp := [q (.load 129 (.t 11) 3 true),
 mv 130 14,
 mv 131 15,
 q (.call (some 132) 26 [.t 129, .t 130, .t 131]),
 mv 128 132,
 q (.val 133 (.ext 0) [.t 128]),
 q (.val 134 (.ext 1) [.t 128]),
 mv 35 133,
 mv 36 134]
def r6_20 : IC := (.reg o6_20 [17, 18, 19, 20, 21, 22, 23, 24, 25, 26, 27, 28, 30, 31, 32, 34, 35, 36])
def o6_21 : List IOp := [mv 135 18,
 q (.val 136 (.bin .eql) [.t 135, ki 0]),
 mv 137 136,
 ⟨(some (137, true)), .val 138 .mov [.t 20], [], none⟩,
 ⟨(some (137, true)), .val 139 (.bin .eql) [.t 138, ki 0], [], none⟩,
 q (.val 140 .pick [.t 137, .t 139, .k (.p (.bool false))]),
 mv 141 140,
 ⟨(some (141, true)), .val 142 .mov [.t 22], [], none⟩,
 ⟨(some (141, true)), .val 143 (.bin .eql) [.t 142, ki 0], [], none⟩,
 q (.val 144 .pick [.t 141, .t 143, .k (.p (.bool false))]),
 mv 145 144,
 ⟨(some (145, true)), .val 146 .mov [.t 24], [], none⟩,
 ⟨(some (145, true)), .val 147 (.bin .eql) [.t 146, ki 0], [], none⟩,
 q (.val 148 .pick [.t 145, .t 147, .k (.p (.bool false))]),
 mv 149 148,
 ⟨(some (149, true)), .val 150 .mov [.t 26], [], none⟩,
 ⟨(some (149, true)), .val 151 (.bin .eql) [.t 150, ki 0], [], none⟩,
 q (.val 152 .pick [.t 149, .t 151, .k (.p (.bool false))]),
 mv 153 152,
 ⟨(some (153, true)), .val 154 .mov [.t 28], [], none⟩,
 ⟨(some (153, true)), .val 155 (.bin .eql) [.t 154, ki 0], [], none⟩,
 q (.val 156 .pick [.t 153, .t 155, .k (.p (.bool false))]),
 mv 157 156,
 ⟨(some (157, true)), .val 158 .mov [.t 31], [], none⟩,
 ⟨(some (157, true)), .val 159 (.bin .eql) [.t 158, ki 0], [], none⟩,
 q (.val 160 .pick [.t 157, .t 159, .k (.p (.bool false))]),
 mv 161 160,
 ⟨(some (161, true)), .val 162 .mov [.t 34], [], none⟩,
 ⟨(some (161, true)), .val 163 (.bin .eql) [.t 162, ki 0], [], none⟩,
 q (.val 164 .pick [.t 161, .t 163, .k (.p (.bool false))]),
 mv 165 164,
 ⟨(some (165, true)), .val 166 .mov [.t 36], [], none⟩,
 ⟨(some (165, true)), .val 167 (.bin .eql) [.t 166, ki 0], [], none⟩,
 q (.val 168 .pick [.t 165, .t 167, .k (.p (.bool false))]),
 mv 37 168]
def r6_21 : IC := (.reg o6_21 [17, 19, 21, 23, 25, 27, 30, 32, 35, 37])
def o6_22 : List IOp := [mv 169 37,
 mv 170 169,
 ⟨(some (170, true)), .val 171 .mov [.t 17], [], none⟩,
 ⟨(some (170, true)), .val 172 .mov [.t 19], [], none⟩,
 ⟨(some (170, true)), .val 173 (.bin .add) [.t 171, .t 172], [], none⟩,
 ⟨(some (170, true)), .val 174 .mov [.t 21], [], none⟩,
 ⟨(some (170, true)), .val 175 (.bin .eql) [.t 173, .t 174], [], none⟩,
 q (.val 176 .pick [.t 170, .t 175, .k (.p (.bool false))]),
 mv 177 176,
 ⟨(some (177, true)), .val 178 .mov [.t 23], [], none⟩,
 ⟨(some (177, true)), .val 179 .mov [.t 25], [], none⟩,
 ⟨(some (177, true)), .val 180 (.bin .add) [.t 178, .t 179], [], none⟩,
 ⟨(some (177, true)), .val 181 .mov [.t 27], [], none⟩,
 ⟨(some (177, true)), .val 182 (.bin .eql) [.t 180, .t 181], [], none⟩,
 q (.val 183 .pick [.t 177, .t 182, .k (.p (.bool false))]),
 mv 184 183,
 ⟨(some (184, true)), .val 185 .mov [.t 30], [], none⟩,
 ⟨(some (184, true)), .val 186 .mov [.t 32], [], none⟩,
 ⟨(some (184, true)), .val 187 (.bin .eql) [.t 185, .t 186], [], none⟩,
 q (.val 188 .pick [.t 184, .t 187, .k (.p (.bool false))]),
 mv 189 188,
 ⟨(some (189, true)), .val 190 .mov [.t 35], [], none⟩,
 q (.val 191 .pick [.t 189, .t 190, .k (.p (.bool false))]),
 mv 10 191]
def r6_22 : IC := (.reg o6_22 [10])
def b6 : IC := (.seq r6_0 (.seq (.seq r6_1 (.cond (.t 39) (.seq r6_2 .ret) .skip)) (.kp [1, 2, 3, 4, 5] (.seq r6_3 (.seq r6_4 (.seq (.seq r6_5 (.cond (.t 49) (.seq r6_6 .ret) .skip)) (.kp [3, 4, 11, 12] (.seq r6_7 (.seq (.seq r6_8 (.cond (.t 63) (.seq r6_9 .ret) .skip)) (.kp [4, 11, 12, 13] (.seq r6_10 (.seq r6_11 (.seq r6_12 (.seq r6_13 (.seq r6_14 (.seq r6_15 (.seq r6_16 (.seq r6_17 (.seq r6_18 (.seq r6_19 (.seq r6_20 (.seq r6_21 (.seq r6_22 .ret)))))))))))))))))))))))
def i6 : IFn := ⟨5, 192, b6, [.tmp 10]⟩
def o7_0 : List IOp := [q (.boxL 5 (.t 0)),
 q (.val 10 .mov [.k (.p (.bool false))])]
def r7_0 : IC := (.reg o7_0 [1, 2, 3, 4, 5])
def o7_1 : List IOp := [q (.call (some 24) 10 []),
 q (.val 25 .not [.t 24])]
def r7_1 : IC := (.reg o7_1 [1, 2, 3, 4, 5, 25])
def o7_2 : List IOp := [q (.val 10 .mov [.k (.p (.bool false))])]
def r7_2 : IC := (.reg o7_2 [10])
def o7_3 : List IOp := [q (.load 26 (.t 5) 6 true),
 q (.call (some 27) 31 [.t 26]),
 q (.newL 11 [.p (.int .i64 0), .p (.sl 1 true []), .p (.sl 4 true [])]),
 q (.store (.t 11) (.t 27) 3)]
def r7_3 : IC := (.reg o7_3 [1, 2, 3, 4, 11])
def o7_4 : List IOp := [q (.loadL 28 (.t 11) 3 true),
 mv 29 1,
 mv 30 2,
 ⟨none, .callP 31 32 [.t 28, .t 29, .t 30], [0, 1, 2], none⟩,
 q (.loadL 32 (.t 11) 3 true),
 mv 33 3,
 mv 34 4,
 ⟨none, .call (some 35) 32 [.t 32, .t 33, .t 34], [0, 1, 2, 3, 4, 5, 6], none⟩,
 ⟨none, .val 12 .mov [.t 31], [0, 1, 2, 3, 4, 5, 6, 7], none⟩,
 ⟨none, .val 13 .mov [.t 35], [0, 1, 2, 3, 4, 5, 6, 7, 8], none⟩]
def r7_4 : IC := (.regD o7_4 [11, 12, 13])
def o7_5 : List IOp := [q (.load 37 (.t 11) 3 true),
 mv 38 12,
 mv 39 13,
 q (.call (some 40) 26 [.t 37, .t 38, .t 39]),
 mv 36 40,
 q (.val 41 (.ext 0) [.t 36]),
 q (.val 42 (.ext 1) [.t 36]),
 mv 14 41,
 mv 15 42]
def r7_5 : IC := (.reg o7_5 [11, 12, 13, 14, 15])
def o7_6 : List IOp := [q (.load 44 (.t 11) 3 true),
 mv 45 13,
 mv 46 12,
 q (.call (some 47) 26 [.t 44, .t 45, .t 46]),
 mv 43 47,
 q (.val 48 (.ext 0) [.t 43]),
 q (.val 49 (.ext 1) [.t 43]),
 mv 16 48,
 mv 17 49]
def r7_6 : IC := (.reg o7_6 [11, 12, 13, 14, 15, 16, 17])
def o7_7 : List IOp := [q (.load 51 (.t 11) 3 true),
 mv 52 12,
 mv 53 12,
 q (.call (some 54) 26 [.t 51, .t 52, .t 53]),
 mv 50 54,
 q (.val 55 (.ext 0) [.t 50]),
 q (.val 56 (.ext 1) [.t 50]),
 mv 18 55,
 mv 19 56]
def r7_7 : IC := (.reg o7_7 [11, 12, 13, 14, 15, 16, 17, 18, 19])
def o7_8 : List IOp := [q (.load 58 (.t 11) 3 true),
 mv 59 13,
 q (.call (some 60) 17 [.t 58, .t 59]),
 mv 57 60,
 q (.val 61 (.ext 0) [.t 57]),
 q (.val 62 (.ext 1) [.t 57]),
 mv 20 61,
 mv 21 62]
def r7_8 : IC := (.reg o7_8 [11, 12, 14, 15, 16, 17, 18, 19, 20, 21])
def o7_9 : List IOp := [q (.load 64 (.t 11) 3 true),
 mv 65 12,
 mv 66 20,
 q (.call (some 67) 26 [.t 64, .t 65, .t 66]),
 mv 63 67,
 q (.val 68 (.ext 0) [.t 63]),
 q (.val 69 (.ext 1) [.t 63]),
 mv 22 68,
 mv 23 69]
def r7_9 : IC := (.reg o7_9 [14, 15, 16, 17, 18, 19, 21, 22, 23])
def o7_10 : List IOp := [mv 70 15,
 q (.val 71 (.bin .eql) [.t 70, ki 0]),
 mv 72 71,
 ⟨(some (72, true)), .val 73 .mov [.t 17], [], none⟩,
 ⟨(some (72, true)), .val 74 (.bin .eql) [.t 73, ki 0], [], none⟩,
 q (.val 75 .pick [.t 72, .t 74, .k (.p (.bool false))]),
 mv 76 75,
 ⟨(some (76, true)), .val 77 .mov [.t 19], [], none⟩,
 ⟨(some (76, true)), .val 78 (.bin .eql) [.t 77, ki 0], [], none⟩,
 q (.val 79 .pick [.t 76, .t 78, .k (.p (.bool false))]),
 mv 80 79,
 ⟨(some (80, true)), .val 81 .mov [.t 21], [], none⟩,
 ⟨(some (80, true)), .val 82 (.bin .eql) [.t 81, ki 0], [], none⟩,
 q (.val 83 .pick [.t 80, .t 82, .k (.p (.bool false))]),
 mv 84 83,
 ⟨(some (84, true)), .val 85 .mov [.t 23], [], none⟩,
 ⟨(some (84, true)), .val 86 (.bin .eql) [.t 85, ki 0], [], none⟩,
 q (.val 87 .pick [.t 84, .t 86, .k (.p (.bool false))]),
 mv 88 87,
 ⟨(some (88, true)), .val 89 .mov [.t 14], [], none⟩,
 ⟨(some (88, true)), .val 90 .mov [.t 16], [], none⟩,
 ⟨(some (88, true)), .val 91 (.eqB false) [.t 89, .t 90], [], none⟩,
 q (.val 92 .pick [.t 88, .t 91, .k (.p (.bool false))]),
 mv 93 92,
 ⟨(some (93, true)), .val 94 .mov [.t 14], [], none⟩,
 ⟨(some (93, true)), .val 95 .mov [.t 22], [], none⟩,
 ⟨(some (93, true)), .val 96 (.eqB false) [.t 94, .t 95], [], none⟩,
 q (.val 97 .pick [.t 93, .t 96, .k (.p (.bool false))]),
 mv 98 97,
 ⟨(some (98, true)), .val 99 .mov [.t 18], [], none⟩,
 ⟨(some (98, true)), .val 100 .not [.t 99], [], none⟩,
 q (.val 101 .pick [.t 98, .t 100, .k (.p (.bool false))]),
 mv 10 101]
def r7_10 : IC := (.reg o7_10 [10])
def b7 : IC := (.seq r7_0 (.seq (.seq r7_1 (.cond (.t 25) (.seq r7_2 .ret) .skip)) (.kp [1, 2, 3, 4, 5] (.seq r7_3 (.seq r7_4 (.seq r7_5 (.seq r7_6 (.seq r7_7 (.seq r7_8 (.seq r7_9 (.seq r7_10 .ret)))))))))))
def i7 : IFn := ⟨5, 102, b7, [.tmp 10]⟩
def o8_0 : List IOp := [q (.val 0 .mov [.k (.p (.bool false))])]
def r8_0 : IC := (.reg o8_0 [])
def o8_1 : List IOp := [q (.call (some 21) 10 []),
 q (.val 22 .not [.t 21])]
def r8_1 : IC := (.reg o8_1 [22])
def o8_2 : List IOp := [q (.val 0 .mov [.k (.p (.bool false))])]
def r8_2 : IC := (.reg o8_2 [0])
def o8_3 : List IOp := [q (.call (some 23) 33 []),
 q (.newL 1 [.p (.int .i64 0), .p (.sl 1 true []), .p (.sl 4 true [])]),
 q (.store (.t 1) (.t 23) 3)]
def r8_3 : IC := (.reg o8_3 [1])
def o8_4 : List IOp := [q (.litP 24 1 [ki 0, ki 4]),
 q (.litP 25 1 [ki 0, ki 1]),
 q (.litP 26 1 []),
 q (.litP 27 1 [ki 6]),
 q (.litP 28 1 [ki (-1)]),
 q (.litP 29 1 [ki 0, ki 2, ki 4, ki 5]),
 q (.litP 30 1 [ki 4, ki 2]),
 q (.litP 31 1 [.t 24, .t 25, .t 26, .t 27, .t 28, .t 29, .t 30]),
 q (.val 32 .len [.t 31]),
 q (.val 33 .mov [ki 0])]
def r8_4 : IC := (.reg o8_4 [1, 31, 32, 33])
def o8_5 : List IOp := [q (.val 34 (.bin .lss) [.t 33, .t 32])]
def r8_5 : IC := (.reg o8_5 [1, 31, 32, 33, 34])
def o8_6 : List IOp := [q (.val 35 (.iaddrS 1) [.t 31, .t 33]),
 q (.load 36 (.t 35) 1 false),
 mv 3 36]
def r8_6 : IC := (.reg o8_6 [1, 3, 31, 32, 33])
def o8_7 : List IOp := [q (.load 37 (.t 1) 3 true),
 mv 38 3,
 q (.call (some 39) 19 [.t 37, .t 38]),
 q (.val 40 (.bin .neq) [.t 39, ki 310])]
def r8_7 : IC := (.reg o8_7 [1, 31, 32, 33, 40])
def o8_8 : List IOp := [q (.val 0 .mov [.k (.p (.bool false))])]
def r8_8 : IC := (.reg o8_8 [0])
def o8_9 : List IOp := [q (.val 41 (.bin .add) [.t 33, ki 1]),
 mv 33 41]
def r8_9 : IC := (.reg o8_9 [1, 31, 32, 33])
def l8_1 : IC := (.seq r8_5 (.seq (.cond (.t 34) .skip (.kp [1] (.exit 0))) (.kp [1, 31, 32, 33] (.seq (.block 1 (.seq r8_6 (.seq r8_7 (.cond (.t 40) (.seq r8_8 .ret) .skip)))) (.kp [1, 31, 32, 33] r8_9)))))
def o8_10 : List IOp := [q (.load 43 (.t 1) 3 true),
 q (.litP 44 1 [ki 0]),
 q (.call (some 45) 16 [.t 43, .t 44, ki 83]),
 mv 42 45,
 q (.val 46 (.ext 0) [.t 42]),
 q (.val 47 (.ext 1) [.t 42]),
 mv 4 46,
 mv 5 47]
def r8_10 : IC := (.reg o8_10 [1, 5])
def o8_11 : List IOp := [q (.load 49 (.t 1) 3 true),
 q (.litP 50 1 [ki 0]),
 q (.call (some 51) 16 [.t 49, .t 50, ki 1543]),
 mv 48 51,
 q (.val 52 (.ext 0) [.t 48]),
 q (.val 53 (.ext 1) [.t 48]),
 mv 6 52,
 mv 7 53]
def r8_11 : IC := (.reg o8_11 [1, 5, 7])
def o8_12 : List IOp := [q (.load 55 (.t 1) 3 true),
 q (.litP 56 1 [ki 6]),
 q (.call (some 57) 16 [.t 55, .t 56, ki 83]),
 mv 54 57,
 q (.val 58 (.ext 0) [.t 54]),
 q (.val 59 (.ext 1) [.t 54]),
 mv 8 58,
 mv 9 59]
def r8_12 : IC := (.reg o8_12 [1, 5, 7, 9])
def o8_13 : List IOp := [q (.load 61 (.t 1) 3 true),
 q (.litP 62 1 [ki 0, ki 2]),
 q (.litP 63 1 [ki 2]),
 q (.call (some 64) 26 [.t 61, .t 62, .t 63]),
 mv 60 64,
 q (.val 65 (.ext 0) [.t 60]),
 q (.val 66 (.ext 1) [.t 60]),
 mv 10 65,
 mv 11 66]
def r8_13 : IC := (.reg o8_13 [1, 5, 7, 9, 10, 11])
def o8_14 : List IOp := [q (.load 68 (.t 1) 3 true),
 q (.litP 69 1 [ki 0, ki 2]),
 q (.litP 70 1 [ki 3]),
 q (.call (some 71) 26 [.t 68, .t 69, .t 70]),
 mv 67 71,
 q (.val 72 (.ext 0) [.t 67]),
 q (.val 73 (.ext 1) [.t 67]),
 mv 12 72,
 mv 13 73]
def r8_14 : IC := (.reg o8_14 [1, 5, 7, 9, 10, 11, 12, 13])
def o8_15 : List IOp := [q (.load 75 (.t 1) 3 true),
 q (.litP 76 1 [ki 2]),
 q (.litP 77 1 [ki 5]),
 q (.litP 78 1 [.t 76, .t 77]),
 q (.call (some 79) 28 [.t 75, .t 78]),
 mv 74 79,
 q (.val 80 (.ext 0) [.t 74]),
 q (.val 81 (.ext 1) [.t 74]),
 q (.val 82 (.ext 2) [.t 74]),
 mv 14 80,
 mv 15 81,
 mv 16 82]
def r8_15 : IC := (.reg o8_15 [1, 5, 7, 9, 10, 11, 12, 13, 14, 15, 16])
def o8_16 : List IOp := [q (.load 84 (.t 1) 3 true),
 q (.call (some 85) 28 [.t 84, .k (.p (.sl 1 true []))]),
 mv 83 85,
 q (.val 86 (.ext 0) [.t 83]),
 q (.val 87 (.ext 1) [.t 83]),
 q (.val 88 (.ext 2) [.t 83]),
 mv 17 86,
 mv 18 87,
 mv 19 88]
def r8_16 : IC := (.reg o8_16 [5, 7, 9, 10, 11, 12, 13, 14, 15, 16, 18, 19])
def o8_17 : List IOp := [q (.litP 89 1 [.k (.p (.bool false)), .k (.p (.bool true)), .k (.p (.bool false))]),
 q (.val 90 (.build [.p (.int .i64 0), .p (.int .i64 0), .p (.int .i64 0), .p (.int .i64 0)] [(0, 1), (1, 1), (2, 1)]) [ki 0, ki 1, ki 1]),
 q (.val 91 (.build [.p (.int .i64 0), .p (.int .i64 0), .p (.int .i64 0), .p (.int .i64 0)] [(0, 1), (1, 1), (2, 1)]) [ki 1, ki 2, ki 1]),
 q (.litP 92 4 [.t 90, .t 91]),
 q (.val 93 (.build [.p (.int .i64 0), .p (.sl 1 true []), .p (.sl 4 true [])] [(0, 1), (1, 1), (2, 1)]) [ki 3, .t 89, .t 92]),
 q (.newL 20 [.p (.int .i64 0), .p (.sl 1 true []), .p (.sl 4 true [])]),
 q (.store (.t 20) (.t 93) 3)]
def r8_17 : IC := (.reg o8_17 [5, 7, 9, 10, 11, 12, 13, 14, 15, 16, 18, 19, 20])
def o8_18 : List IOp := [mv 94 5,
 q (.val 95 (.bin .eql) [.t 94, ki 2]),
 mv 96 95,
 ⟨(some (96, true)), .val 97 .mov [.t 7], [], none⟩,
 ⟨(some (96, true)), .val 98 (.bin .eql) [.t 97, ki 2], [], none⟩,
 q (.val 99 .pick [.t 96, .t 98, .k (.p (.bool false))]),
 mv 100 99,
 ⟨(some (100, true)), .val 101 .mov [.t 9], [], none⟩,
 ⟨(some (100, true)), .val 102 (.bin .eql) [.t 101, ki 310], [], none⟩,
 q (.val 103 .pick [.t 100, .t 102, .k (.p (.bool false))]),
 mv 104 103,
 ⟨(some (104, true)), .val 105 .mov [.t 11], [], none⟩,
 ⟨(some (104, true)), .val 106 (.bin .eql) [.t 105, ki 0], [], none⟩,
 q (.val 107 .pick [.t 104, .t 106, .k (.p (.bool false))]),
 mv 108 107,
 ⟨(some (108, true)), .val 109 .mov [.t 10], [], none⟩,
 ⟨(some (108, true)), .val 110 .not [.t 109], [], none⟩,
 q (.val 111 .pick [.t 108, .t 110, .k (.p (.bool false))]),
 mv 112 111,
 ⟨(some (112, true)), .val 113 .mov [.t 13], [], none⟩,
 ⟨(some (112, true)), .val 114 (.bin .eql) [.t 113, ki 0], [], none⟩,
 q (.val 115 .pick [.t 112, .t 114, .k (.p (.bool false))]),
 mv 116 115,
 ⟨(some (116, true)), .val 117 .mov [.t 12], [], none⟩,
 ⟨(some (116, true)), .val 118 .not [.t 117], [], none⟩,
 q (.val 119 .pick [.t 116, .t 118, .k (.p (.bool false))]),
 mv 120 119,
 ⟨(some (120, true)), .val 121 .mov [.t 16], [], none⟩,
 ⟨(some (120, true)), .val 122 (.bin .eql) [.t 121, ki 0], [], none⟩,
 q (.val 123 .pick [.t 120, .t 122, .k (.p (.bool false))]),
 mv 124 123,
 ⟨(some (124, true)), .val 125 .mov [.t 14], [], none⟩,
 ⟨(some (124, true)), .litP 126 1 [ki 2, ki 5], [], none⟩,
 ⟨(some (124, true)), .call (some 127) 21 [.t 125, .t 126], [], none⟩,
 q (.val 128 .pick [.t 124, .t 127, .k (.p (.bool false))]),
 mv 129 128,
 ⟨(some (129, true)), .val 130 .mov [.t 15], [], none⟩,
 ⟨(some (129, true)), .val 131 .not [.t 130], [], none⟩,
 q (.val 132 .pick [.t 129, .t 131, .k (.p (.bool false))]),
 mv 133 132,
 ⟨(some (133, true)), .val 134 .mov [.t 19], [], none⟩,
 ⟨(some (133, true)), .val 135 (.bin .eql) [.t 134, ki 0], [], none⟩,
 q (.val 136 .pick [.t 133, .t 135, .k (.p (.bool false))]),
 mv 137 136,
 ⟨(some (137, true)), .val 138 .mov [.t 18], [], none⟩,
 q (.val 139 .pick [.t 137, .t 138, .k (.p (.bool false))]),
 mv 140 139,
 ⟨(some (140, true)), .load 141 (.t 20) 3 true, [], none⟩,
 ⟨(some (140, true)), .litP 142 1 [ki 0, ki 2], [], none⟩,
 ⟨(some (140, true)), .call (some 143) 19 [.t 141, .t 142], [], none⟩,
 ⟨(some (140, true)), .val 144 (.bin .eql) [.t 143, ki 310], [], none⟩,
 q (.val 145 .pick [.t 140, .t 144, .k (.p (.bool false))]),
 mv 146 145,
 ⟨(some (146, true)), .load 147 (.t 20) 3 true, [], none⟩,
 ⟨(some (146, true)), .litP 148 1 [ki 0], [], none⟩,
 ⟨(some (146, true)), .call (some 149) 19 [.t 147, .t 148], [], none⟩,
 ⟨(some (146, true)), .val 150 (.bin .eql) [.t 149, ki 0], [], none⟩,
 q (.val 151 .pick [.t 146, .t 150, .k (.p (.bool false))]),
 mv 152 151,
 ⟨(some (152, true)), .val 153 (.build [.p (.int .i64 0), .p (.sl 1 true []), .p (.sl 4 true [])] []) [], [], none⟩,
 ⟨(some (152, true)), .call (some 154) 19 [.t 153, .k (.p (.sl 1 true []))], [], none⟩,
 ⟨(some (152, true)), .val 155 (.bin .eql) [.t 154, ki 260], [], none⟩,
 q (.val 156 .pick [.t 152, .t 155, .k (.p (.bool false))]),
 mv 0 156]
def r8_18 : IC := (.reg o8_18 [0])
def b8 : IC := (.seq r8_0 (.seq (.seq r8_1 (.cond (.t 22) (.seq r8_2 .ret) .skip)) (.kp [] (.seq r8_3 (.seq (.seq r8_4 (.block 0 (.loop l8_1))) (.seq r8_10 (.seq r8_11 (.seq r8_12 (.seq r8_13 (.seq r8_14 (.seq r8_15 (.seq r8_16 (.seq r8_17 (.seq r8_18 .ret))))))))))))))
def o10_0 : List IOp := [q (.val 0 .mov [.k (.p (.bool false))])]
def r10_0 : IC := (.reg o10_0 [])
def o10_1 : List IOp := [q (.call (some 19) 33 []),
 q (.newL 1 [.p (.int .i64 0), .p (.sl 1 true []), .p (.sl 4 true [])]),
 q (.store (.t 1) (.t 19) 3)]
def r10_1 : IC := (.reg o10_1 [1])
def o10_2 : List IOp := [q (.load 21 (.t 1) 3 true),
 q (.litP 22 1 [ki 0, ki 2, ki 4]),
 q (.call (some 23) 13 [.t 21, .t 22]),
 mv 20 23,
 q (.val 24 (.ext 0) [.t 20]),
 q (.val 25 (.ext 1) [.t 20]),
 mv 2 24,
 mv 3 25]
def r10_2 : IC := (.reg o10_2 [1, 2, 3])
def o10_3 : List IOp := [q (.load 27 (.t 1) 3 true),
 q (.litP 28 1 [ki 2, ki 4]),
 q (.call (some 29) 14 [.t 27, .t 28]),
 mv 26 29,
 q (.val 30 (.ext 0) [.t 26]),
 q (.val 31 (.ext 1) [.t 26]),
 q (.val 32 (.ext 2) [.t 26]),
 mv 4 30,
 mv 5 31,
 mv 6 32]
def r10_3 : IC := (.reg o10_3 [1, 2, 3, 4, 5, 6])
def o10_4 : List IOp := [q (.load 34 (.t 1) 3 true),
 q (.litP 35 1 [ki 0, ki 2, ki 4]),
 q (.call (some 36) 15 [.t 34, .t 35]),
 mv 33 36,
 q (.val 37 (.ext 0) [.t 33]),
 q (.val 38 (.ext 1) [.t 33]),
 mv 7 37,
 mv 8 38]
def r10_4 : IC := (.reg o10_4 [1, 2, 3, 4, 5, 6, 7, 8])
def o10_5 : List IOp := [q (.load 40 (.t 1) 3 true),
 q (.litP 41 1 [ki 0, ki 2, ki 4]),
 q (.call (some 42) 16 [.t 40, .t 41, ki 100]),
 mv 39 42,
 q (.val 43 (.ext 0) [.t 39]),
 q (.val 44 (.ext 1) [.t 39]),
 mv 9 43,
 mv 10 44]
def r10_5 : IC := (.reg o10_5 [1, 2, 3, 4, 5, 6, 7, 8, 9, 10])
def o10_6 : List IOp := [q (.load 46 (.t 1) 3 true),
 q (.litP 47 1 [ki 0, ki 2, ki 4]),
 q (.call (some 48) 17 [.t 46, .t 47]),
 mv 45 48,
 q (.val 49 (.ext 0) [.t 45]),
 q (.val 50 (.ext 1) [.t 45]),
 mv 11 49,
 mv 12 50]
def r10_6 : IC := (.reg o10_6 [1, 2, 3, 4, 5, 6, 7, 8, 9, 10, 11, 12])
def o10_7 : List IOp := [q (.load 52 (.t 1) 3 true),
 q (.litP 53 1 [ki 0]),
 q (.litP 54 1 [ki 2, ki 4]),
 q (.call (some 55) 26 [.t 52, .t 53, .t 54]),
 mv 51 55,
 q (.val 56 (.ext 0) [.t 51]),
 q (.val 57 (.ext 1) [.t 51]),
 mv 13 56,
 mv 14 57]
def r10_7 : IC := (.reg o10_7 [1, 2, 3, 4, 5, 6, 7, 8, 9, 10, 11, 12, 13, 14])
def o10_8 : List IOp := [q (.load 59 (.t 1) 3 true),
 q (.litP 60 1 [ki 0, ki 2]),
 q (.litP 61 1 [ki 0, ki 2, ki 4]),
 q (.litP 62 1 [.t 60, .t 61]),
 q (.call (some 63) 28 [.t 59, .t 62]),
 mv 58 63,
 q (.val 64 (.ext 0) [.t 58]),
 q (.val 65 (.ext 1) [.t 58]),
 q (.val 66 (.ext 2) [.t 58]),
 mv 15 64,
 mv 16 65,
 mv 17 66]
def r10_8 : IC := (.reg o10_8 [1, 2, 3, 4, 5, 6, 7, 8, 9, 10, 11, 12, 13, 14, 15, 16, 17])
def o10_9 : List IOp := [mv 67 3,
 q (.val 68 (.bin .eql) [.t 67, ki 0]),
 mv 69 68,
 ⟨(some (69, true)), .val 70 .mov [.t 6], [], none⟩,
 ⟨(some (69, true)), .val 71 (.bin .eql) [.t 70, ki 0], [], none⟩,
 q (.val 72 .pick [.t 69, .t 71, .k (.p (.bool false))]),
 mv 73 72,
 ⟨(some (73, true)), .val 74 .mov [.t 8], [], none⟩,
 ⟨(some (73, true)), .val 75 (.bin .eql) [.t 74, ki 0], [], none⟩,
 q (.val 76 .pick [.t 73, .t 75, .k (.p (.bool false))]),
 mv 77 76,
 ⟨(some (77, true)), .val 78 .mov [.t 10], [], none⟩,
 ⟨(some (77, true)), .val 79 (.bin .eql) [.t 78, ki 0], [], none⟩,
 q (.val 80 .pick [.t 77, .t 79, .k (.p (.bool false))]),
 mv 81 80,
 ⟨(some (81, true)), .val 82 .mov [.t 12], [], none⟩,
 ⟨(some (81, true)), .val 83 (.bin .eql) [.t 82, ki 0], [], none⟩,
 q (.val 84 .pick [.t 81, .t 83, .k (.p (.bool false))]),
 mv 85 84,
 ⟨(some (85, true)), .val 86 .mov [.t 14], [], none⟩,
 ⟨(some (85, true)), .val 87 (.bin .eql) [.t 86, ki 0], [], none⟩,
 q (.val 88 .pick [.t 85, .t 87, .k (.p (.bool false))]),
 mv 89 88,
 ⟨(some (89, true)), .val 90 .mov [.t 17], [], none⟩,
 ⟨(some (89, true)), .val 91 (.bin .eql) [.t 90, ki 0], [], none⟩,
 q (.val 92 .pick [.t 89, .t 91, .k (.p (.bool false))]),
 mv 18 92]
def r10_9 : IC := (.reg o10_9 [1, 2, 4, 5, 7, 9, 11, 13, 15, 16, 18])
def o10_10 : List IOp := [mv 93 18,
 mv 94 93,
 ⟨(some (94, true)), .val 95 .mov [.t 2], [], none⟩,
 ⟨(some (94, true)), .litP 96 1 [ki 0, ki 1, ki 2, ki 3], [], none⟩,
 ⟨(some (94, true)), .call (some 97) 21 [.t 95, .t 96], [], none⟩,
 q (.val 98 .pick [.t 94, .t 97, .k (.p (.bool false))]),
 mv 99 98,
 ⟨(some (99, true)), .val 100 .mov [.t 4], [], none⟩,
 ⟨(some (99, true)), .val 101 (.bin .eql) [.t 100, ki 1], [], none⟩,
 q (.val 102 .pick [.t 99, .t 101, .k (.p (.bool false))]),
 mv 103 102,
 ⟨(some (103, true)), .val 104 .mov [.t 5], [], none⟩,
 ⟨(some (103, true)), .val 105 (.bin .eql) [.t 104, ki 3], [], none⟩,
 q (.val 106 .pick [.t 103, .t 105, .k (.p (.bool false))]),
 mv 107 106,
 ⟨(some (107, true)), .val 108 .mov [.t 7], [], none⟩,
 ⟨(some (107, true)), .val 109 (.bin .eql) [.t 108, ki 57], [], none⟩,
 q (.val 110 .pick [.t 107, .t 109, .k (.p (.bool false))]),
 mv 111 110,
 ⟨(some (111, true)), .val 112 .mov [.t 9], [], none⟩,
 ⟨(some (111, true)), .val 113 (.bin .eql) [.t 112, ki 9657], [], none⟩,
 q (.val 114 .pick [.t 111, .t 113, .k (.p (.bool false))]),
 mv 115 114,
 ⟨(some (115, true)), .val 116 .mov [.t 11], [], none⟩,
 ⟨(some (115, true)), .litP 117 1 [ki 5, ki 3, ki 1], [], none⟩,
 ⟨(some (115, true)), .call (some 118) 23 [.t 116, .t 117], [], none⟩,
 q (.val 119 .pick [.t 115, .t 118, .k (.p (.bool false))]),
 mv 120 119,
 ⟨(some (120, true)), .val 121 .mov [.t 13], [], none⟩,
 q (.val 122 .pick [.t 120, .t 121, .k (.p (.bool false))]),
 mv 123 122,
 ⟨(some (123, true)), .val 124 .mov [.t 15], [], none⟩,
 ⟨(some (123, true)), .litP 125 1 [ki 0, ki 2, ki 4], [], none⟩,
 ⟨(some (123, true)), .call (some 126) 21 [.t 124, .t 125], [], none⟩,
 q (.val 127 .pick [.t 123, .t 126, .k (.p (.bool false))]),
 mv 128 127,
 ⟨(some (128, true)), .val 129 .mov [.t 16], [], none⟩,
 q (.val 130 .pick [.t 128, .t 129, .k (.p (.bool false))]),
 mv 131 130,
 ⟨(some (131, true)), .load 132 (.t 1) 3 true, [], none⟩,
 ⟨(some (131, true)), .litP 133 1 [ki 0, ki 4], [], none⟩,
 ⟨(some (131, true)), .call (some 134) 19 [.t 132, .t 133], [], none⟩,
 ⟨(some (131, true)), .val 135 (.bin .eql) [.t 134, ki 310], [], none⟩,
 q (.val 136 .pick [.t 131, .t 135, .k (.p (.bool false))]),
 mv 0 136]
def r10_10 : IC := (.reg o10_10 [0])
def b10 : IC := (.seq r10_0 (.seq r10_1 (.seq r10_2 (.seq r10_3 (.seq r10_4 (.seq r10_5 (.seq r10_6 (.seq r10_7 (.seq r10_8 (.seq r10_9 (.seq r10_10 .ret)))))))))))
def i10 : IFn := ⟨0, 137, b10, [.tmp 0]⟩
def o11_0 : List IOp := [q (.boxL 1 (.t 0)),
 q (.newL 2 [.p (.int .i64 0), .p (.sl 1 true []), .p (.sl 4 true [])])]
def r11_0 : IC := (.reg o11_0 [1, 2])
def o11_1 : List IOp := [q (.val 3 (.faddr 1) [.t 1]),
 ⟨none, .loadL 4 (.t 3) 1 false, [0], none⟩,
 q (.val 5 (.faddr 1) [.t 1]),
 ⟨none, .loadL 6 (.t 5) 1 false, [2], none⟩,
 ⟨none, .val 7 .len [.t 6], [2, 3], none⟩,
 ⟨none, .val 8 .min [.t 7, ki 20], [2, 3, 4], none⟩,
 ⟨none, .val 9 (.slice 1 false true false) [.t 4, .t 8], [0, 1, 2, 3, 4, 5], none⟩,
 q (.val 10 (.faddr 2) [.t 1]),
 ⟨none, .loadL 11 (.t 10) 1 false, [7], none⟩,
 q (.val 12 (.faddr 2) [.t 1]),
 ⟨none, .loadL 13 (.t 12) 1 false, [9], none⟩,
 ⟨none, .val 14 .len [.t 13], [9, 10], none⟩,
 ⟨none, .val 15 .min [.t 14, ki 30], [9, 10, 11], none⟩,
 ⟨none, .val 16 (.slice 4 false true false) [.t 11, .t 15], [7, 8, 9, 10, 11, 12], none⟩,
 ⟨none, .val 17 (.faddr 1) [.t 1], [0, 1, 2, 3, 4, 5, 6, 7, 8, 9, 10], none⟩,
 ⟨none, .store (.t 17) (.t 9) 1, [0, 1, 2, 3, 4, 5, 6, 7, 8, 9, 10, 14], none⟩,
 ⟨none, .val 18 (.faddr 2) [.t 1], [0, 1, 2, 3, 4, 5, 6, 7, 8, 9, 10, 11, 12, 13, 14, 15], none⟩,
 ⟨none, .store (.t 18) (.t 16) 1, [0, 1, 2, 3, 4, 5, 6, 7, 8, 9, 10, 11, 12, 13, 14, 15, 16], none⟩]
def r11_1 : IC := (.regD o11_1 [1, 2])
def o11_2 : List IOp := [q (.load 19 (.t 1) 3 true),
 q (.store (.t 2) (.t 19) 3)]
def r11_2 : IC := (.reg o11_2 [2])
def b11 : IC := (.seq r11_0 (.seq r11_1 (.seq r11_2 .ret)))
def o12_0 : List IOp := [q (.val 2 .mov [.k (.p (.sl 1 true []))])]
def r12_0 : IC := (.reg o12_0 [0])
def o12_1 : List IOp := [q (.litP 3 1 []),
 mv 4 0,
 mv 5 0,
 q (.val 6 .len [.t 5]),
 q (.val 7 .min [.t 6, ki 12]),
 q (.val 8 (.slice 1 false true false) [.t 4, .t 7]),
 q (.app 9 (.t 3) (.t 8) 1 8),
 mv 2 9]
def r12_1 : IC := (.reg o12_1 [2])
def b12 : IC := (.seq r12_0 (.seq r12_1 .ret))
def o13_0 : List IOp := [q (.boxL 2 (.t 0)),
 q (.boxH 3 (.t 1)),
 q (.val 4 .mov [.k (.p (.sl 1 true []))]),
 q (.val 5 .mov [ki 0])]
def r13_0 : IC := (.reg o13_0 [2, 3])
def o13_1 : List IOp := [q (.load 6 (.t 2) 3 true),
 q (.load 7 (.t 3) 1 false),
 q (.val 8 (.mkfn 36 0) [.t 3]),
 q (.call (some 9) 35 [.t 6, .t 7, .t 8]),
 q (.val 10 (.ext 0) [.t 9]),
 q (.val 11 (.ext 1) [.t 9]),
 mv 4 10,
 mv 5 11]
def r13_1 : IC := (.reg o13_1 [4, 5])
def b13 : IC := (.seq r13_0 (.seq r13_1 .ret))
def i13 : IFn := ⟨2, 12, b13, [.tmp 4, .tmp 5]⟩
def o14_0 : List IOp := [q (.boxL 2 (.t 0)),
 q (.val 4 .mov [ki 0]),
 q (.val 5 .mov [ki 0]),
 q (.val 6 .mov [ki 0])]
def r14_0 : IC := (.reg o14_0 [1, 2])
def o14_1 : List IOp := [q (.load 9 (.t 2) 3 true),
 mv 10 1,
 q (.call (some 11) 13 [.t 9, .t 10]),
 mv 8 11,
 q (.val 12 (.ext 0) [.t 8]),
 q (.val 13 (.ext 1) [.t 8]),
 mv 7 12,
 mv 6 13]
def r14_1 : IC := (.reg o14_1 [6, 7])
def o14_2 : List IOp := [mv 14 6,
 q (.val 15 (.bin .neq) [.t 14, ki 0])]
def r14_2 : IC := (.reg o14_2 [6, 7, 15])
def o14_3 : List IOp := [mv 16 6,
 q (.val 4 .mov [ki 0]),
 q (.val 5 .mov [ki 0]),
 mv 6 16]
def r14_3 : IC := (.reg o14_3 [4, 5, 6])
def o14_4 : List IOp := [mv 17 7,
 ⟨none, .val 18 (.iaddrS 1) [.t 17, ki 0], [0], none⟩,
 ⟨none, .load 19 (.t 18) 1 false, [0, 1], none⟩,
 mv 20 7,
 mv 21 7,
 ⟨none, .val 22 .len [.t 21], [4], none⟩,
 ⟨none, .val 23 (.bin .sub) [.t 22, ki 1], [4, 5], none⟩,
 ⟨none, .val 24 (.iaddrS 1) [.t 20, .t 23], [3, 4, 5, 6], none⟩,
 ⟨none, .load 25 (.t 24) 1 false, [3, 4, 5, 6, 7], none⟩,
 ⟨none, .val 4 .mov [.t 19], [0, 1, 2], none⟩,
 ⟨none, .val 5 .mov [.t 25], [0, 1, 2, 3, 4, 5, 6, 7, 8, 9], none⟩,
 ⟨none, .val 6 .mov [ki 0], [0, 1, 2, 3, 4, 5, 6, 7, 8, 9, 10], none⟩]
def r14_4 : IC := (.regD o14_4 [4, 5, 6])
def b14 : IC := (.seq r14_0 (.seq r14_1 (.seq (.seq r14_2 (.cond (.t 15) (.seq r14_3 .ret) .skip)) (.kp [7] (.seq r14_4 .ret)))))
def i14 : IFn := ⟨2, 26, b14, [.tmp 4, .tmp 5, .tmp 6]⟩
def o15_0 : List IOp := [q (.boxL 2 (.t 0)),
 q (.boxH 3 (.t 1)),
 q (.val 4 .mov [ki 0]),
 q (.val 5 .mov [ki 0])]
def r15_0 : IC := (.reg o15_0 [2, 3])
def o15_1 : List IOp := [q (.load 6 (.t 2) 3 true),
 q (.load 7 (.t 3) 1 false),
 q (.val 8 (.mkfn 39 0) [.t 3]),
 q (.call (some 9) 38 [.t 6, .t 7, .t 8]),
 q (.val 10 (.ext 0) [.t 9]),
 q (.val 11 (.ext 1) [.t 9]),
 mv 4 10,
 mv 5 11]
def r15_1 : IC := (.reg o15_1 [4, 5])
def b15 : IC := (.seq r15_0 (.seq r15_1 .ret))
def i15 : IFn := ⟨2, 12, b15, [.tmp 4, .tmp 5]⟩
def o16_0 : List IOp := [q (.boxL 3 (.t 0)),
 q (.boxH 4 (.t 1)),
 q (.boxH 5 (.t 2)),
 q (.val 6 .mov [ki 0]),
 q (.val 7 .mov [ki 0])]
def r16_0 : IC := (.reg o16_0 [3, 4, 5])
def o16_1 : List IOp := [q (.load 8 (.t 3) 3 true),
 q (.load 9 (.t 4) 1 false),
 q (.val 10 (.mkfn 42 0) [.t 5, .t 4]),
 q (.call (some 11) 38 [.t 8, .t 9, .t 10]),
 q (.val 12 (.ext 0) [.t 11]),
 q (.val 13 (.ext 1) [.t 11]),
 mv 6 12,
 mv 7 13]
def r16_1 : IC := (.reg o16_1 [6, 7])
def b16 : IC := (.seq r16_0 (.seq r16_1 .ret))
def i16 : IFn := ⟨3, 14, b16, [.tmp 6, .tmp 7]⟩
def o17_0 : List IOp := [q (.boxL 2 (.t 0)),
 q (.boxH 3 (.t 1)),
 q (.val 4 .mov [.k (.p (.sl 1 true []))]),
 q (.val 5 .mov [ki 0])]
def r17_0 : IC := (.reg o17_0 [2, 3])
def o17_1 : List IOp := [q (.load 6 (.t 2) 3 true),
 q (.load 7 (.t 3) 1 false),
 q (.val 8 (.mkfn 45 0) [.t 3]),
 q (.call (some 9) 44 [.t 6, .t 7, .t 8]),
 q (.val 10 (.ext 0) [.t 9]),
 q (.val 11 (.ext 1) [.t 9]),
 mv 4 10,
 mv 5 11]
def r17_1 : IC := (.reg o17_1 [4, 5])
def b17 : IC := (.seq r17_0 (.seq r17_1 .ret))
def i17 : IFn := ⟨2, 12, b17, [.tmp 4, .tmp 5]⟩
def o19_0 : List IOp := [q (.boxL 2 (.t 0)),
 q (.val 4 .mov [ki 0])]
def r19_0 : IC := (.reg o19_0 [1, 2])
def o19_1 : List IOp := [q (.load 6 (.t 2) 3 true),
 q (.call (some 7) 50 [.t 6]),
 mv 5 7]
def r19_1 : IC := (.reg o19_1 [1, 2, 5])
def o19_2 : List IOp := [mv 8 5,
 q (.val 9 (.bin .neq) [.t 8, ki 0])]
def r19_2 : IC := (.reg o19_2 [1, 2, 5, 9])
def o19_3 : List IOp := [mv 10 5,
 mv 4 10]
def r19_3 : IC := (.reg o19_3 [4])
def o19_4 : List IOp := [q (.load 11 (.t 2) 3 true),
 q (.val 12 (.build [.p (.int .i64 0), .p (.sl 1 true []), .p (.sl 4 true [])] [(0, 3)]) [.t 11]),
 mv 13 1,
 q (.call (some 14) 51 [.t 12, .t 13]),
 q (.val 15 .not [.t 14])]
def r19_4 : IC := (.reg o19_4 [15])
def o19_5 : List IOp := [q (.val 4 .mov [ki 310])]
def r19_5 : IC := (.reg o19_5 [4])
def o19_6 : List IOp := [q (.val 4 .mov [ki 0])]
def r19_6 : IC := (.reg o19_6 [4])
def b19 : IC := (.seq r19_0 (.seq (.seq r19_1 (.seq r19_2 (.cond (.t 9) (.seq r19_3 .ret) .skip))) (.kp [1, 2] (.seq (.seq r19_4 (.cond (.t 15) (.seq r19_5 .ret) .skip)) (.kp [] (.seq r19_6 .ret))))))
def i19 : IFn := ⟨2, 16, b19, [.tmp 4]⟩
def o21_0 : List IOp := [q (.val 4 .mov [.k (.p (.bool false))])]
def r21_0 : IC := (.reg o21_0 [0, 1])
def o21_1 : List IOp := [mv 6 0,
 q (.val 7 .len [.t 6]),
 mv 8 1,
 q (.val 9 .len [.t 8]),
 q (.val 10 (.bin .neq) [.t 7, .t 9])]
def r21_1 : IC := (.reg o21_1 [0, 1, 10])
def o21_2 : List IOp := [q (.val 4 .mov [.k (.p (.bool false))])]
def r21_2 : IC := (.reg o21_2 [4])
def o21_3 : List IOp := [mv 11 0,
 q (.val 12 .len [.t 11]),
 q (.val 13 .mov [ki 0])]
def r21_3 : IC := (.reg o21_3 [0, 1, 12, 13])
def o21_4 : List IOp := [q (.val 14 (.bin .lss) [.t 13, .t 12])]
def r21_4 : IC := (.reg o21_4 [0, 1, 12, 13, 14])
def o21_5 : List IOp := [mv 15 13,
 mv 5 15]
def r21_5 : IC := (.reg o21_5 [0, 1, 5, 12, 13])
def o21_6 : List IOp := [mv 16 0,
 mv 17 5,
 ⟨none, .val 18 (.iaddrS 1) [.t 16, .t 17], [0, 1], none⟩,
 ⟨none, .load 19 (.t 18) 1 false, [0, 1, 2], none⟩,
 mv 20 1,
 mv 21 5,
 ⟨none, .val 22 (.iaddrS 1) [.t 20, .t 21], [4, 5], none⟩,
 ⟨none, .load 23 (.t 22) 1 false, [4, 5, 6], none⟩,
 ⟨none, .val 24 (.bin .neq) [.t 19, .t 23], [0, 1, 2, 3, 4, 5, 6, 7], none⟩]
def r21_6 : IC := (.regD o21_6 [0, 1, 12, 13, 24])
def o21_7 : List IOp := [q (.val 4 .mov [.k (.p (.bool false))])]
def r21_7 : IC := (.reg o21_7 [4])
def o21_8 : List IOp := [q (.val 25 (.bin .add) [.t 13, ki 1]),
 mv 13 25]
def r21_8 : IC := (.reg o21_8 [0, 1, 12, 13])
def l21_1 : IC := (.seq r21_4 (.seq (.cond (.t 14) .skip (.kp [] (.exit 0))) (.kp [0, 1, 12, 13] (.seq (.block 1 (.seq r21_5 (.seq r21_6 (.cond (.t 24) (.seq r21_7 .ret) .skip)))) (.kp [0, 1, 12, 13] r21_8)))))
def o21_9 : List IOp := [q (.val 4 .mov [.k (.p (.bool true))])]
def r21_9 : IC := (.reg o21_9 [4])
def b21 : IC := (.seq r21_0 (.seq (.seq r21_1 (.cond (.t 10) (.seq r21_2 .ret) .skip)) (.kp [0, 1] (.seq (.seq r21_3 (.block 0 (.loop l21_1))) (.seq r21_9 .ret)))))
def i21 : IFn := ⟨2, 26, b21, [.tmp 4]⟩
def o22_0 : List IOp := [q (.boxL 2 (.t 0)),
 q (.val 4 .mov [ki 0])]
def r22_0 : IC := (.reg o22_0 [1, 2])
def o22_1 : List IOp := [q (.val 5 .mov [ki 0])]
def r22_1 : IC := (.reg o22_1 [1, 2, 5])
def o22_2 : List IOp := [q (.val 6 .mov [ki 0])]
def r22_2 : IC := (.reg o22_2 [1, 2, 5, 6])
def o22_3 : List IOp := [mv 7 6,
 mv 8 1,
 q (.val 9 .len [.t 8]),
 q (.val 10 (.bin .lss) [.t 7, .t 9])]
def r22_3 : IC := (.reg o22_3 [1, 2, 5, 6, 10])
def o22_5 : List IOp := [mv 13 5,
 q (.loadL 14 (.t 2) 3 true),
 mv 15 1,
 mv 16 6,
 ⟨none, .val 17 (.iaddrS 1) [.t 15, .t 16], [2, 3], none⟩,
 ⟨none, .load 18 (.t 17) 1 false, [2, 3, 4], none⟩,
 ⟨none, .callP 19 54 [.t 14, .t 18], [1, 2, 3, 4, 5], none⟩,
 ⟨none, .val 20 (.bin .add) [.t 13, .t 19], [0, 1, 2, 3, 4, 5, 6], none⟩,
 ⟨none, .val 5 .mov [.t 20], [0, 1, 2, 3, 4, 5, 6, 7], none⟩]
def r22_5 : IC := (.regD o22_5 [1, 2, 5, 6])
def o22_4 : List IOp := [mv 11 6,
 q (.val 12 (.bin .add) [.t 11, ki 1]),
 mv 6 12]
def r22_4 : IC := (.reg o22_4 [1, 2, 5, 6])
def l22_1 : IC := (.seq (.seq r22_3 (.cond (.t 10) .skip (.kp [5] (.exit 0)))) (.kp [1, 2, 5, 6] (.seq (.block 1 r22_5) r22_4)))
def o22_6 : List IOp := [mv 21 5,
 mv 4 21]
def r22_6 : IC := (.reg o22_6 [4])
def b22 : IC := (.seq r22_0 (.seq r22_1 (.seq (.seq r22_2 (.block 0 (.loop l22_1))) (.seq r22_6 .ret))))
def o23_0 : List IOp := [q (.val 4 .mov [.k (.p (.bool false))])]
def r23_0 : IC := (.reg o23_0 [0, 1])
def o23_1 : List IOp := [mv 6 0,
 q (.val 7 .len [.t 6]),
 mv 8 1,
 q (.val 9 .len [.t 8]),
 q (.val 10 (.bin .neq) [.t 7, .t 9])]
def r23_1 : IC := (.reg o23_1 [0, 1, 10])
def o23_2 : List IOp := [q (.val 4 .mov [.k (.p (.bool false))])]
def r23_2 : IC := (.reg o23_2 [4])
def o23_3 : List IOp := [mv 11 0,
 q (.val 12 .len [.t 11]),
 q (.val 13 .mov [ki 0])]
def r23_3 : IC := (.reg o23_3 [0, 1, 12, 13])
def o23_4 : List IOp := [q (.val 14 (.bin .lss) [.t 13, .t 12])]
def r23_4 : IC := (.reg o23_4 [0, 1, 12, 13, 14])
def o23_5 : List IOp := [mv 15 13,
 mv 5 15]
def r23_5 : IC := (.reg o23_5 [0, 1, 5, 12, 13])
def o23_6 : List IOp := [mv 16 0,
 mv 17 5,
 ⟨none, .val 18 (.iaddrS 1) [.t 16, .t 17], [0, 1], none⟩,
 ⟨none, .load 19 (.t 18) 1 false, [0, 1, 2], none⟩,
 mv 20 1,
 mv 21 5,
 ⟨none, .val 22 (.iaddrS 1) [.t 20, .t 21], [4, 5], none⟩,
 ⟨none, .load 23 (.t 22) 1 false, [4, 5, 6], none⟩,
 ⟨none, .val 24 (.bin .neq) [.t 19, .t 23], [0, 1, 2, 3, 4, 5, 6, 7], none⟩]
def r23_6 : IC := (.regD o23_6 [0, 1, 12, 13, 24])
def o23_7 : List IOp := [q (.val 4 .mov [.k (.p (.bool false))])]
def r23_7 : IC := (.reg o23_7 [4])
def o23_8 : List IOp := [q (.val 25 (.bin .add) [.t 13, ki 1]),
 mv 13 25]
def r23_8 : IC := (.reg o23_8 [0, 1, 12, 13])
def l23_1 : IC := (.seq r23_4 (.seq (.cond (.t 14) .skip (.kp [] (.exit 0))) (.kp [0, 1, 12, 13] (.seq (.block 1 (.seq r23_5 (.seq r23_6 (.cond (.t 24) (.seq r23_7 .ret) .skip)))) (.kp [0, 1, 12, 13] r23_8)))))
def o23_9 : List IOp := [q (.val 4 .mov [.k (.p (.bool true))])]
def r23_9 : IC := (.reg o23_9 [4])
def b23 : IC := (.seq r23_0 (.seq (.seq r23_1 (.cond (.t 10) (.seq r23_2 .ret) .skip)) (.kp [0, 1] (.seq (.seq r23_3 (.block 0 (.loop l23_1))) (.seq r23_9 .ret)))))
def i23 : IFn := ⟨2, 26, b23, [.tmp 4]⟩
def o26_0 : List IOp := [q (.boxL 3 (.t 0)),
 q (.boxH 4 (.t 1)),
 q (.boxH 5 (.t 2)),
 q (.val 6 .mov [.k (.p (.bool false))]),
 q (.val 7 .mov [ki 0])]
def r26_0 : IC := (.reg o26_0 [3, 4, 5])
def o26_1 : List IOp := [q (.load 8 (.t 3) 3 true),
 q (.load 9 (.t 4) 1 false),
 q (.val 10 (.mkfn 58 0) [.t 5, .t 4]),
 q (.call (some 11) 57 [.t 8, .t 9, .t 10]),
 q (.val 12 (.ext 0) [.t 11]),
 q (.val 13 (.ext 1) [.t 11]),
 mv 6 12,
 mv 7 13]
def r26_1 : IC := (.reg o26_1 [6, 7])
def b26 : IC := (.seq r26_0 (.seq r26_1 .ret))
def i26 : IFn := ⟨3, 14, b26, [.tmp 6, .tmp 7]⟩
def o28_0 : List IOp := [q (.boxL 2 (.t 0)),
 q (.val 4 .mov [.k (.p (.sl 1 true []))]),
 q (.val 5 .mov [.k (.p (.bool false))]),
 q (.val 6 .mov [ki 0])]
def r28_0 : IC := (.reg o28_0 [1, 2])
def o28_1 : List IOp := [q (.load 22 (.t 2) 3 true),
 q (.call (some 23) 50 [.t 22]),
 mv 7 23]
def r28_1 : IC := (.reg o28_1 [1, 2, 7])
def o28_2 : List IOp := [mv 24 7,
 q (.val 25 (.bin .neq) [.t 24, ki 0])]
def r28_2 : IC := (.reg o28_2 [1, 2, 7, 25])
def o28_3 : List IOp := [mv 26 7,
 q (.val 4 .mov [.k (.p (.sl 1 true []))]),
 q (.val 5 .mov [.k (.p (.bool false))]),
 mv 6 26]
def r28_3 : IC := (.reg o28_3 [4, 5, 6])
def o28_4 : List IOp := [q (.load 27 (.t 2) 3 true),
 q (.val 28 (.build [.p (.int .i64 0), .p (.sl 1 true []), .p (.sl 4 true [])] [(0, 3)]) [.t 27]),
 q (.newL 8 [.p (.int .i64 0), .p (.sl 1 true []), .p (.sl 4 true [])]),
 q (.store (.t 8) (.t 28) 3)]
def r28_4 : IC := (.reg o28_4 [1, 8])
def o28_5 : List IOp := [mv 29 1,
 q (.val 30 .len [.t 29]),
 q (.val 31 .mov [ki 0])]
def r28_5 : IC := (.reg o28_5 [1, 8, 29, 30, 31])
def o28_6 : List IOp := [q (.val 32 (.bin .lss) [.t 31, .t 30])]
def r28_6 : IC := (.reg o28_6 [1, 8, 29, 30, 31, 32])
def o28_7 : List IOp := [q (.val 33 (.iaddrS 1) [.t 29, .t 31]),
 q (.load 34 (.t 33) 1 false),
 mv 10 34]
def r28_7 : IC := (.reg o28_7 [1, 8, 10, 29, 30, 31])
def o28_8 : List IOp := [q (.load 35 (.t 8) 3 true),
 mv 36 10,
 q (.call (some 37) 51 [.t 35, .t 36]),
 q (.val 38 .not [.t 37])]
def r28_8 : IC := (.reg o28_8 [1, 8, 29, 30, 31, 38])
def o28_9 : List IOp := [q (.val 4 .mov [.k (.p (.sl 1 true []))]),
 q (.val 5 .mov [.k (.p (.bool false))]),
 q (.val 6 .mov [ki 310])]
def r28_9 : IC := (.reg o28_9 [4, 5, 6])
def o28_10 : List IOp := [q (.val 39 (.bin .add) [.t 31, ki 1]),
 mv 31 39]
def r28_10 : IC := (.reg o28_10 [1, 8, 29, 30, 31])
def l28_1 : IC := (.seq r28_6 (.seq (.cond (.t 32) .skip (.kp [1, 8] (.exit 0))) (.kp [1, 8, 29, 30, 31] (.seq (.block 1 (.seq r28_7 (.seq r28_8 (.cond (.t 38) (.seq r28_9 .ret) .skip)))) (.kp [1, 8, 29, 30, 31] r28_10)))))
def o28_11 : List IOp := [q (.newH 11 (List.replicate 48 (.p (.bool false))))]
def r28_11 : IC := (.reg o28_11 [1, 8, 11])
def o28_12 : List IOp := [q (.newH 12 [.p (.int .i64 0), .p (.int .i64 0), .p (.int .i64 0), .p (.int .i64 0), .p (.int .i64 0), .p (.int .i64 0), .p (.int .i64 0), .p (.int .i64 0), .p (.int .i64 0), .p (.int .i64 0), .p (.int .i64 0), .p (.int .i64 0)])]
def r28_12 : IC := (.reg o28_12 [1, 8, 11, 12])
def o28_13 : List IOp := [q (.newH 13 [.p (.int .i64 0)]),
 q (.newH 14 [.p (.bool false)]),
 q (.store (.t 13) (ki (-1)) 1),
 q (.store (.t 14) (.k (.p (.bool true))) 1)]
def r28_13 : IC := (.reg o28_13 [1, 8, 11, 12, 13, 14])
def o28_14 : List IOp := [mv 40 1,
 q (.val 41 .len [.t 40]),
 q (.val 42 .mov [ki 0])]
def r28_14 : IC := (.reg o28_14 [8, 11, 12, 13, 14, 40, 41, 42])
def o28_15 : List IOp := [q (.val 43 (.bin .lss) [.t 42, .t 41])]
def r28_15 : IC := (.reg o28_15 [8, 11, 12, 13, 14, 40, 41, 42, 43])
def o28_16 : List IOp := [q (.val 44 (.iaddrS 1) [.t 40, .t 42]),
 q (.load 45 (.t 44) 1 false),
 mv 16 45]
def r28_16 : IC := (.reg o28_16 [8, 11, 12, 13, 14, 16, 40, 41, 42])
def o28_17 : List IOp := [q (.load 46 (.t 8) 3 true),
 mv 47 16,
 q (.call (some 48) 62 [.t 46, .t 47])]
def r28_17 : IC := (.reg o28_17 [8, 11, 12, 13, 14, 40, 41, 42, 48])
def o28_18 : List IOp := [mv 17 49]
def r28_18 : IC := (.reg o28_18 [11, 12, 13, 14, 17, 50])
def o28_19 : List IOp := [q (.newL 18 [.p (.int .i64 0), .p (.int .i64 0), .p (.int .i64 0)]),
 q (.store (.t 18) (.t 50) 3)]
def r28_19 : IC := (.reg o28_19 [11, 12, 13, 14, 17, 18])
def o28_20 : List IOp := [mv 51 17,
 q (.val 52 (.bin .eql) [.t 51, ki 0]),
 mv 53 52,
 ⟨(some (53, true)), .load 54 (.t 13) 1 false, [], none⟩,
 ⟨(some (53, true)), .val 55 (.bin .lss) [.t 54, ki 0], [], none⟩,
 q (.val 56 .pick [.t 53, .t 55, .k (.p (.bool false))])]
def r28_20 : IC := (.reg o28_20 [11, 12, 13, 14, 17, 18, 56])
def o28_21 : List IOp := [q (.val 57 (.faddr 1) [.t 18]),
 q (.load 58 (.t 57) 1 false),
 q (.store (.t 13) (.t 58) 1)]
def r28_21 : IC := (.reg o28_21 [11, 12, 13, 14, 17, 18])
def o28_22 : List IOp := [mv 59 17,
 ⟨none, .val 60 (.bin .eql) [.t 59, ki 0], [0], none⟩,
 ⟨none, .val 61 .mov [.t 60], [0, 1], none⟩,
 ⟨(some (61, true)), .load 62 (.t 13) 1 false, [0, 1, 2], none⟩,
 ⟨(some (61, true)), .val 63 (.faddr 1) [.t 18], [0, 1, 2], none⟩,
 ⟨(some (61, true)), .loadL 64 (.t 63) 1 false, [0, 1, 2, 4], none⟩,
 ⟨(some (61, true)), .val 65 (.bin .neq) [.t 62, .t 64], [0, 1, 2, 3, 4, 5], none⟩,
 ⟨none, .val 66 .pick [.t 61, .t 65, .k (.p (.bool false))], [0, 1, 2, 3, 4, 5, 6], none⟩,
 ⟨none, .val 67 .mov [.t 66], [0, 1, 2, 3, 4, 5, 6, 7], none⟩,
 ⟨(some (67, false)), .val 68 (.faddr 2) [.t 18], [0, 1, 2, 3, 4, 5, 6, 7, 8], none⟩,
 ⟨(some (67, false)), .loadL 69 (.t 68) 1 false, [0, 1, 2, 3, 4, 5, 6, 7, 8, 9], none⟩,
 ⟨(some (67, false)), .val 70 (.iaddr 12 1) [.t 12, .t 69], [0, 1, 2, 3, 4, 5, 6, 7, 8, 9, 10], none⟩,
 ⟨(some (67, false)), .load 71 (.t 70) 1 false, [0, 1, 2, 3, 4, 5, 6, 7, 8, 9, 10, 11], none⟩,
 ⟨(some (67, false)), .val 72 (.bin .neq) [.t 71, ki 0], [0, 1, 2, 3, 4, 5, 6, 7, 8, 9, 10, 11, 12], none⟩,
 ⟨(some (67, false)), .val 73 .mov [.t 72], [0, 1, 2, 3, 4, 5, 6, 7, 8, 9, 10, 11, 12, 13], none⟩,
 ⟨(some (73, true)), .val 74 (.faddr 2) [.t 18], [0, 1, 2, 3, 4, 5, 6, 7, 8, 9, 10, 11, 12, 13, 14], none⟩,
 ⟨(some (73, true)), .loadL 75 (.t 74) 1 false, [0, 1, 2, 3, 4, 5, 6, 7, 8, 9, 10, 11, 12, 13, 14, 15], none⟩,
 ⟨(some (73, true)), .val 76 (.iaddr 12 1) [.t 12, .t 75], [0, 1, 2, 3, 4, 5, 6, 7, 8, 9, 10, 11, 12, 13, 14, 15, 16], none⟩,
 ⟨(some (73, true)), .load 77 (.t 76) 1 false, [0, 1, 2, 3, 4, 5, 6, 7, 8, 9, 10, 11, 12, 13, 14, 15, 16, 17], none⟩,
 ⟨(some (73, true)), .val 78 (.faddr 0) [.t 18], [0, 1, 2, 3, 4, 5, 6, 7, 8, 9, 10, 11, 12, 13, 14], none⟩,
 ⟨(some (73, true)), .loadL 79 (.t 78) 1 false, [0, 1, 2, 3, 4, 5, 6, 7, 8, 9, 10, 11, 12, 13, 14, 19], none⟩,
 ⟨(some (73, true)), .val 80 (.bin .add) [.t 79, ki 1], [0, 1, 2, 3, 4, 5, 6, 7, 8, 9, 10, 11, 12, 13, 14, 19, 20], none⟩,
 ⟨(some (73, true)), .val 81 (.bin .neq) [.t 77, .t 80], [0, 1, 2, 3, 4, 5, 6, 7, 8, 9, 10, 11, 12, 13, 14, 15, 16, 17, 18, 19, 20, 21], none⟩,
 ⟨(some (67, false)), .val 82 .pick [.t 73, .t 81, .k (.p (.bool false))], [0, 1, 2, 3, 4, 5, 6, 7, 8, 9, 10, 11, 12, 13, 14, 15, 16, 17, 18, 19, 20, 21, 22], none⟩,
 ⟨none, .val 83 .pick [.t 67, .k (.p (.bool true)), .t 82], [0, 1, 2, 3, 4, 5, 6, 7, 8, 9, 10, 11, 12, 13, 14, 15, 16, 17, 18, 19, 20, 21, 22, 23], none⟩]
def r28_22 : IC := (.regD o28_22 [11, 12, 14, 18, 83])
def o28_23 : List IOp := [q (.store (.t 14) (.k (.p (.bool false))) 1)]
def r28_23 : IC := (.reg o28_23 [11, 12, 18])
def o28_24 : List IOp := [q (.val 84 (.faddr 2) [.t 18]),
 q (.load 85 (.t 84) 1 false),
 q (.val 86 (.faddr 0) [.t 18]),
 q (.load 87 (.t 86) 1 false),
 q (.val 88 (.bin .add) [.t 87, ki 1]),
 q (.val 89 (.iaddr 12 1) [.t 12, .t 85]),
 q (.store (.t 89) (.t 88) 1)]
def r28_24 : IC := (.reg o28_24 [11, 18])
def o28_25 : List IOp := [q (.val 90 (.faddr 0) [.t 18]),
 q (.load 91 (.t 90) 1 false),
 q (.val 92 (.iaddr 48 1) [.t 11, .t 91]),
 q (.store (.t 92) (.k (.p (.bool true))) 1)]
def r28_25 : IC := (.reg o28_25 [])
def ra28_3 : IC := (.seq r28_18 r28_19)
def rb28_3 : IC := (.block 5 (.seq (.seq r28_20 (.cond (.t 56) r28_21 .skip)) (.kp [11, 12, 13, 14, 17, 18] (.seq (.seq r28_22 (.cond (.t 83) r28_23 .skip)) (.kp [11, 12, 18] (.seq r28_24 r28_25))))))
def o28_26 : List IOp := [q (.val 93 (.bin .add) [.t 42, ki 1]),
 mv 42 93]
def r28_26 : IC := (.reg o28_26 [8, 11, 12, 13, 14, 40, 41, 42])
def l28_2 : IC := (.seq r28_15 (.seq (.cond (.t 43) .skip (.kp [11, 14] (.exit 2))) (.kp [8, 11, 12, 13, 14, 40, 41, 42] (.seq (.block 3 (.seq r28_16 (.seq r28_17 (.block 4 (.rangeF (.t 48) [49, 50] ra28_3 rb28_3))))) (.kp [8, 11, 12, 13, 14, 40, 41, 42] r28_26)))))
def o28_27 : List IOp := [q (.val 19 .mov [.k (.p (.sl 1 true []))])]
def r28_27 : IC := (.reg o28_27 [11, 14, 19])
def o28_28 : List IOp := [q (.load 94 (.t 11) 48 true),
 q (.val 95 .mov [ki 0])]
def r28_28 : IC := (.reg o28_28 [14, 19, 94, 95])
def o28_29 : List IOp := [q (.val 96 (.bin .lss) [.t 95, ki 48])]
def r28_29 : IC := (.reg o28_29 [14, 19, 94, 95, 96])
def o28_30 : List IOp := [mv 97 95,
 q (.val 98 (.idx 48 1 false) [.t 94, .t 95]),
 mv 20 97,
 mv 21 98]
def r28_30 : IC := (.reg o28_30 [14, 19, 20, 21, 94, 95])
def o28_31 : List IOp := [mv 99 21]
def r28_31 : IC := (.reg o28_31 [14, 19, 20, 94, 95, 99])
def o28_32 : List IOp := [mv 100 19,
 mv 101 20,
 q (.litP 102 1 [.t 101]),
 q (.app 103 (.t 100) (.t 102) 1 8),
 mv 19 103]
def r28_32 : IC := (.reg o28_32 [14, 19, 94, 95])
def o28_33 : List IOp := [q (.val 104 (.bin .add) [.t 95, ki 1]),
 mv 95 104]
def r28_33 : IC := (.reg o28_33 [14, 19, 94, 95])
def l28_4 : IC := (.seq r28_29 (.seq (.cond (.t 96) .skip (.kp [14, 19] (.exit 6))) (.kp [14, 19, 94, 95] (.seq (.block 7 (.seq r28_30 (.seq r28_31 (.cond (.t 99) r28_32 .skip)))) (.kp [14, 19, 94, 95] r28_33)))))
def o28_34 : List IOp := [mv 105 19,
 q (.load 106 (.t 14) 1 false),
 ⟨none, .val 4 .mov [.t 105], [0], none⟩,
 ⟨none, .val 5 .mov [.t 106], [0, 1, 2], none⟩,
 ⟨none, .val 6 .mov [ki 0], [0, 1, 2, 3], none⟩]
def r28_34 : IC := (.regD o28_34 [4, 5, 6])
def b28 : IC := (.seq r28_0 (.seq (.seq r28_1 (.seq r28_2 (.cond (.t 25) (.seq r28_3 .ret) .skip))) (.kp [1, 2] (.seq r28_4 (.seq (.seq r28_5 (.block 0 (.loop l28_1))) (.seq r28_11 (.seq r28_12 (.seq r28_13 (.seq (.seq r28_14 (.block 2 (.loop l28_2))) (.seq r28_27 (.seq (.seq r28_28 (.block 6 (.loop l28_4))) (.seq r28_34 .ret))))))))))))
def i28 : IFn := ⟨2, 107, b28, [.tmp 4, .tmp 5, .tmp 6]⟩
def o31_0 : List IOp := [q (.boxL 1 (.t 0)),
 q (.newL 2 [.p (.int .i64 0), .p (.sl 1 true []), .p (.sl 4 true [])])]
def r31_0 : IC := (.reg o31_0 [1, 2])
def o31_1 : List IOp := [q (.val 11 (.faddr 0) [.t 1]),
 q (.load 12 (.t 11) 1 false),
 q (.val 13 (.bin .rem) [.t 12, .k (.p (.int .u8 6))]),
 q (.val 14 (.conv .i64) [.t 13]),
 q (.val 15 (.bin .add) [ki 1, .t 14]),
 mv 3 15]
def r31_1 : IC := (.reg o31_1 [1, 2, 3])
def o31_2 : List IOp := [q (.val 16 (.faddr 1) [.t 1]),
 q (.load 17 (.t 16) 1 false),
 q (.val 18 (.bin .rem) [.t 17, .k (.p (.int .u8 5))]),
 q (.val 19 (.conv .i64) [.t 18]),
 q (.val 20 (.bin .add) [ki 2, .t 19]),
 mv 4 20]
def r31_2 : IC := (.reg o31_2 [1, 2, 3, 4])
def o31_3 : List IOp := [mv 21 3,
 mv 22 4,
 q (.val 23 (.bin .add) [.t 21, .t 22]),
 q (.val 24 (.build [.p (.int .i64 0), .p (.sl 1 true []), .p (.sl 4 true [])] [(0, 1)]) [.t 23]),
 q (.newL 5 [.p (.int .i64 0), .p (.sl 1 true []), .p (.sl 4 true [])]),
 q (.store (.t 5) (.t 24) 3)]
def r31_3 : IC := (.reg o31_3 [1, 2, 3, 4, 5])
def o31_4 : List IOp := [q (.val 6 .mov [ki 0])]
def r31_4 : IC := (.reg o31_4 [1, 2, 3, 4, 5, 6])
def o31_5 : List IOp := [mv 25 6,
 q (.val 26 (.faddr 0) [.t 5]),
 q (.load 27 (.t 26) 1 false),
 q (.val 28 (.bin .lss) [.t 25, .t 27])]
def r31_5 : IC := (.reg o31_5 [1, 2, 3, 4, 5, 6, 28])
def o31_7 : List IOp := [q (.val 31 (.faddr 1) [.t 5]),
 q (.load 32 (.t 31) 1 false),
 mv 33 6,
 mv 34 3,
 q (.val 35 (.bin .geq) [.t 33, .t 34]),
 q (.litP 36 1 [.t 35]),
 q (.app 37 (.t 32) (.t 36) 1 1),
 q (.val 38 (.faddr 1) [.t 5]),
 q (.store (.t 38) (.t 37) 1)]
def r31_7 : IC := (.reg o31_7 [1, 2, 3, 4, 5, 6])
def o31_6 : List IOp := [mv 29 6,
 q (.val 30 (.bin .add) [.t 29, ki 1]),
 mv 6 30]
def r31_6 : IC := (.reg o31_6 [1, 2, 3, 4, 5, 6])
def l31_1 : IC := (.seq (.seq r31_5 (.cond (.t 28) .skip (.kp [1, 2, 3, 4, 5] (.exit 0)))) (.kp [1, 2, 3, 4, 5, 6] (.seq (.block 1 r31_7) r31_6)))
def o31_8 : List IOp := [q (.val 7 .mov [ki 1])]
def r31_8 : IC := (.reg o31_8 [1, 2, 3, 4, 5, 7])
def o31_9 : List IOp := [mv 39 7,
 mv 40 3,
 q (.val 41 (.bin .lss) [.t 39, .t 40])]
def r31_9 : IC := (.reg o31_9 [1, 2, 3, 4, 5, 7, 41])
def o31_11 : List IOp := [q (.load 44 (.t 1) 6 true),
 q (.load 45 (.t 5) 3 true),
 mv 46 7,
 q (.val 47 (.bin .sub) [.t 46, ki 1]),
 mv 48 7,
 q (.call (some 49) 64 [.t 44, .t 45, .t 47, .t 48]),
 q (.store (.t 5) (.t 49) 3)]
def r31_11 : IC := (.reg o31_11 [1, 2, 3, 4, 5, 7])
def o31_10 : List IOp := [mv 42 7,
 q (.val 43 (.bin .add) [.t 42, ki 1]),
 mv 7 43]
def r31_10 : IC := (.reg o31_10 [1, 2, 3, 4, 5, 7])
def l31_2 : IC := (.seq (.seq r31_9 (.cond (.t 41) .skip (.kp [1, 2, 3, 4, 5] (.exit 2)))) (.kp [1, 2, 3, 4, 5, 7] (.seq (.block 3 r31_11) r31_10)))
def o31_12 : List IOp := [q (.val 8 .mov [ki 0])]
def r31_12 : IC := (.reg o31_12 [1, 2, 3, 4, 5, 8])
def o31_13 : List IOp := [mv 50 8,
 mv 51 4,
 q (.val 52 (.bin .lss) [.t 50, .t 51])]
def r31_13 : IC := (.reg o31_13 [1, 2, 3, 4, 5, 8, 52])
def o31_15 : List IOp := [q (.loadL 55 (.t 1) 6 true),
 q (.loadL 56 (.t 5) 3 true),
 mv 57 3,
 mv 58 8,
 ⟨none, .val 59 (.bin .add) [.t 57, .t 58], [2, 3], none⟩,
 q (.val 60 (.faddr 3) [.t 1]),
 ⟨none, .loadL 61 (.t 60) 1 false, [5], none⟩,
 mv 62 8,
 ⟨none, .val 63 (.bin .mul) [ki 2, .t 62], [7], none⟩,
 ⟨none, .callP 64 65 [.t 61, .t 63], [5, 6, 7, 8], none⟩,
 mv 65 3,
 ⟨none, .val 66 (.bin .rem) [.t 64, .t 65], [5, 6, 7, 8, 9, 10], none⟩,
 ⟨none, .call (some 67) 64 [.t 55, .t 56, .t 59, .t 66], [0, 1, 2, 3, 4, 5, 6, 7, 8, 9, 10, 11], none⟩,
 ⟨none, .store (.t 5) (.t 67) 3, [0, 1, 2, 3, 4, 5, 6, 7, 8, 9, 10, 11, 12], none⟩]
def r31_15 : IC := (.regD o31_15 [1, 2, 3, 4, 5, 8])
def o31_14 : List IOp := [mv 53 8,
 q (.val 54 (.bin .add) [.t 53, ki 1]),
 mv 8 54]
def r31_14 : IC := (.reg o31_14 [1, 2, 3, 4, 5, 8])
def l31_3 : IC := (.seq (.seq r31_13 (.cond (.t 52) .skip (.kp [1, 2, 3, 4, 5] (.exit 4)))) (.kp [1, 2, 3, 4, 5, 8] (.seq (.block 5 r31_15) r31_14)))
def o31_16 : List IOp := [mv 68 3,
 q (.val 69 (.bin .gtr) [.t 68, ki 2]),
 mv 70 69,
 ⟨(some (70, true)), .val 71 (.faddr 0) [.t 1], [], none⟩,
 ⟨(some (70, true)), .load 72 (.t 71) 1 false, [], none⟩,
 ⟨(some (70, true)), .val 73 (.bin .rem) [.t 72, .k (.p (.int .u8 2))], [], none⟩,
 ⟨(some (70, true)), .val 74 (.bin .eql) [.t 73, .k (.p (.int .u8 0))], [], none⟩,
 q (.val 75 .pick [.t 70, .t 74, .k (.p (.bool false))])]
def r31_16 : IC := (.reg o31_16 [1, 2, 3, 4, 5, 75])
def o31_17 : List IOp := [q (.load 76 (.t 1) 6 true),
 q (.load 77 (.t 5) 3 true),
 mv 78 3,
 q (.val 79 (.bin .sub) [.t 78, ki 1]),
 q (.call (some 80) 64 [.t 76, .t 77, .t 79, ki 0]),
 q (.store (.t 5) (.t 80) 3)]
def r31_17 : IC := (.reg o31_17 [1, 2, 3, 4, 5])
def o31_18 : List IOp := [q (.val 9 .mov [ki 0])]
def r31_18 : IC := (.reg o31_18 [1, 2, 3, 4, 5, 9])
def o31_19 : List IOp := [mv 81 9,
 mv 82 4,
 q (.val 83 (.bin .lss) [.t 81, .t 82])]
def r31_19 : IC := (.reg o31_19 [1, 2, 3, 4, 5, 9, 83])
def o31_21 : List IOp := [q (.val 86 (.faddr 3) [.t 1]),
 q (.load 87 (.t 86) 1 false),
 mv 88 9,
 q (.val 89 (.bin .mul) [ki 2, .t 88]),
 q (.val 90 (.bin .add) [.t 89, ki 1]),
 q (.call (some 91) 65 [.t 87, .t 90]),
 q (.val 92 (.bin .rem) [.t 91, ki 3]),
 q (.val 93 (.bin .gtr) [.t 92, ki 0])]
def r31_21 : IC := (.reg o31_21 [1, 2, 3, 4, 5, 9, 93])
def o31_22 : List IOp := [q (.loadL 94 (.t 1) 6 true),
 q (.loadL 95 (.t 5) 3 true),
 mv 96 3,
 mv 97 9,
 ⟨none, .val 98 (.bin .add) [.t 96, .t 97], [2, 3], none⟩,
 q (.val 99 (.faddr 3) [.t 1]),
 ⟨none, .loadL 100 (.t 99) 1 false, [5], none⟩,
 mv 101 9,
 ⟨none, .val 102 (.bin .mul) [ki 2, .t 101], [7], none⟩,
 ⟨none, .val 103 (.bin .add) [.t 102, ki 1], [7, 8], none⟩,
 ⟨none, .callP 104 65 [.t 100, .t 103], [5, 6, 7, 8, 9], none⟩,
 mv 105 3,
 ⟨none, .val 106 (.bin .rem) [.t 104, .t 105], [5, 6, 7, 8, 9, 10, 11], none⟩,
 ⟨none, .call (some 107) 64 [.t 94, .t 95, .t 98, .t 106], [0, 1, 2, 3, 4, 5, 6, 7, 8, 9, 10, 11, 12], none⟩,
 ⟨none, .store (.t 5) (.t 107) 3, [0, 1, 2, 3, 4, 5, 6, 7, 8, 9, 10, 11, 12, 13], none⟩]
def r31_22 : IC := (.regD o31_22 [1, 2, 3, 4, 5, 9])
def o31_20 : List IOp := [mv 84 9,
 q (.val 85 (.bin .add) [.t 84, ki 1]),
 mv 9 85]
def r31_20 : IC := (.reg o31_20 [1, 2, 3, 4, 5, 9])
def l31_4 : IC := (.seq (.seq r31_19 (.cond (.t 83) .skip (.kp [1, 2, 3, 5] (.exit 6)))) (.kp [1, 2, 3, 4, 5, 9] (.seq (.block 7 (.seq r31_21 (.cond (.t 93) r31_22 .skip))) (.kp [1, 2, 3, 4, 5, 9] r31_20))))
def o31_23 : List IOp := [q (.val 10 .mov [ki 0])]
def r31_23 : IC := (.reg o31_23 [1, 2, 3, 5, 10])
def o31_24 : List IOp := [mv 108 10,
 q (.val 109 (.bin .add) [.t 108, ki 1]),
 q (.val 110 (.faddr 2) [.t 1]),
 q (.load 111 (.t 110) 1 false),
 q (.val 112 .len [.t 111]),
 q (.val 113 (.bin .lss) [.t 109, .t 112]),
 mv 114 113,
 ⟨(some (114, true)), .val 115 .mov [.t 10], [], none⟩,
 ⟨(some (114, true)), .val 116 (.bin .lss) [.t 115, ki 12], [], none⟩,
 q (.val 117 .pick [.t 114, .t 116, .k (.p (.bool false))])]
def r31_24 : IC := (.reg o31_24 [1, 2, 3, 5, 10, 117])
def o31_26 : List IOp := [q (.loadL 120 (.t 1) 6 true),
 q (.loadL 121 (.t 5) 3 true),
 q (.val 122 (.faddr 2) [.t 1]),
 ⟨none, .loadL 123 (.t 122) 1 false, [2], none⟩,
 mv 124 10,
 ⟨none, .val 125 (.iaddrS 1) [.t 123, .t 124], [2, 3, 4], none⟩,
 ⟨none, .load 126 (.t 125) 1 false, [2, 3, 4, 5], none⟩,
 ⟨none, .val 127 (.conv .i64) [.t 126], [2, 3, 4, 5, 6], none⟩,
 mv 128 3,
 ⟨none, .val 129 (.bin .rem) [.t 127, .t 128], [2, 3, 4, 5, 6, 7, 8], none⟩,
 q (.val 130 (.faddr 2) [.t 1]),
 ⟨none, .loadL 131 (.t 130) 1 false, [10], none⟩,
 mv 132 10,
 ⟨none, .val 133 (.bin .add) [.t 132, ki 1], [12], none⟩,
 ⟨none, .val 134 (.iaddrS 1) [.t 131, .t 133], [10, 11, 12, 13], none⟩,
 ⟨none, .load 135 (.t 134) 1 false, [10, 11, 12, 13, 14], none⟩,
 ⟨none, .val 136 (.conv .i64) [.t 135], [10, 11, 12, 13, 14, 15], none⟩,
 mv 137 3,
 ⟨none, .val 138 (.bin .rem) [.t 136, .t 137], [10, 11, 12, 13, 14, 15, 16, 17], none⟩,
 ⟨none, .call (some 139) 64 [.t 120, .t 121, .t 129, .t 138], [0, 1, 2, 3, 4, 5, 6, 7, 8, 9, 10, 11, 12, 13, 14, 15, 16, 17, 18], none⟩,
 ⟨none, .store (.t 5) (.t 139) 3, [0, 1, 2, 3, 4, 5, 6, 7, 8, 9, 10, 11, 12, 13, 14, 15, 16, 17, 18, 19], none⟩]
def r31_26 : IC := (.regD o31_26 [1, 2, 3, 5, 10])
def o31_25 : List IOp := [mv 118 10,
 q (.val 119 (.bin .add) [.t 118, ki 2]),
 mv 10 119]
def r31_25 : IC := (.reg o31_25 [1, 2, 3, 5, 10])
def l31_5 : IC := (.seq (.seq r31_24 (.cond (.t 117) .skip (.kp [2, 5] (.exit 8)))) (.kp [1, 2, 3, 5, 10] (.seq (.block 9 r31_26) r31_25)))
def o31_27 : List IOp := [q (.load 140 (.t 5) 3 true),
 q (.store (.t 2) (.t 140) 3)]
def r31_27 : IC := (.reg o31_27 [2])
def b31 : IC := (.seq r31_0 (.seq r31_1 (.seq r31_2 (.seq r31_3 (.seq (.seq r31_4 (.block 0 (.loop l31_1))) (.seq (.seq r31_8 (.block 2 (.loop l31_2))) (.seq (.seq r31_12 (.block 4 (.loop l31_3))) (.seq (.seq r31_16 (.cond (.t 75) r31_17 .skip)) (.kp [1, 2, 3, 4, 5] (.seq (.seq r31_18 (.block 6 (.loop l31_4))) (.seq (.seq r31_23 (.block 8 (.loop l31_5))) (.seq r31_27 .ret))))))))))))
def i31 : IFn := ⟨1, 141, b31, [.cell 2 3 true]⟩
def o32_0 : List IOp := [q (.boxL 3 (.t 0)),
 q (.val 6 .mov [.k (.p (.sl 1 true []))])]
def r32_0 : IC := (.reg o32_0 [1, 2, 3])
def o32_1 : List IOp := [mv 14 1,
 q (.val 15 (.conv .i64) [.t 14]),
 q (.val 16 (.faddr 0) [.t 3]),
 q (.load 17 (.t 16) 1 false),
 q (.val 18 (.bin .rem) [.t 15, .t 17]),
 mv 7 18]
def r32_1 : IC := (.reg o32_1 [2, 3, 7])
def o32_2 : List IOp := [mv 19 7,
 q (.litSl 20 1 [.t 19]),
 mv 8 20]
def r32_2 : IC := (.reg o32_2 [2, 3, 7, 8])
def o32_3 : List IOp := [q (.val 9 .mov [.k (.p (.sl 1 true []))])]
def r32_3 : IC := (.reg o32_3 [2, 3, 7, 8, 9])
def o32_4 : List IOp := [mv 21 9,
 q (.val 22 .len [.t 21]),
 q (.val 23 (.bin .lss) [.t 22, ki 8]),
 mv 24 23,
 ⟨(some (24, true)), .val 25 .mov [.t 9], [], none⟩,
 ⟨(some (24, true)), .val 26 .len [.t 25], [], none⟩,
 ⟨(some (24, true)), .val 27 (.bin .eql) [.t 26, ki 0], [], none⟩,
 ⟨(some (24, true)), .val 28 .mov [.t 27], [], none⟩,
 ⟨(some (28, false)), .val 29 (.faddr 1) [.t 3], [], none⟩,
 ⟨(some (28, false)), .load 30 (.t 29) 1 false, [], none⟩,
 ⟨(some (28, false)), .val 31 .mov [.t 7], [], none⟩,
 ⟨(some (28, false)), .val 32 (.iaddrS 1) [.t 30, .t 31], [], none⟩,
 ⟨(some (28, false)), .load 33 (.t 32) 1 false, [], none⟩,
 ⟨(some (28, false)), .val 34 .not [.t 33], [], none⟩,
 ⟨(some (24, true)), .val 35 .pick [.t 28, .k (.p (.bool true)), .t 34], [], none⟩,
 q (.val 36 .pick [.t 24, .t 35, .k (.p (.bool false))])]
def r32_4 : IC := (.reg o32_4 [2, 3, 7, 8, 9, 36])
def o32_5 : List IOp := [q (.val 10 .mov [.k (.p (.sl 1 true []))])]
def r32_5 : IC := (.reg o32_5 [2, 3, 7, 8, 9, 10])
def o32_6 : List IOp := [q (.load 37 (.t 3) 3 true),
 mv 38 7,
 q (.call (some 39) 66 [.t 37, .t 38]),
 mv 11 39]
def r32_6 : IC := (.reg o32_6 [2, 3, 8, 9, 10, 11])
def o32_7 : List IOp := [q (.val 12 .mov [ki 0])]
def r32_7 : IC := (.reg o32_7 [2, 3, 8, 9, 10, 11, 12])
def o32_8 : List IOp := [mv 40 12,
 mv 41 11,
 q (.val 42 .len [.t 41]),
 q (.val 43 (.bin .lss) [.t 40, .t 42])]
def r32_8 : IC := (.reg o32_8 [2, 3, 8, 9, 10, 11, 12, 43])
def o32_10 : List IOp := [mv 46 8,
 q (.loadL 47 (.t 3) 3 true),
 mv 48 11,
 mv 49 12,
 ⟨none, .val 50 (.iaddrS 1) [.t 48, .t 49], [2, 3], none⟩,
 ⟨none, .load 51 (.t 50) 1 false, [2, 3, 4], none⟩,
 ⟨none, .callP 52 53 [.t 47, .t 51], [1, 2, 3, 4, 5], none⟩,
 ⟨none, .call (some 53) 67 [.t 46, .t 52], [0, 1, 2, 3, 4, 5, 6], none⟩,
 ⟨none, .val 54 .not [.t 53], [0, 1, 2, 3, 4, 5, 6, 7], none⟩]
def r32_10 : IC := (.regD o32_10 [2, 3, 8, 9, 10, 11, 12, 54])
def o32_11 : List IOp := [mv 55 10,
 mv 56 11,
 mv 57 12,
 q (.val 58 (.iaddrS 1) [.t 56, .t 57]),
 q (.load 59 (.t 58) 1 false),
 q (.litP 60 1 [.t 59]),
 q (.app 61 (.t 55) (.t 60) 1 8),
 mv 10 61]
def r32_11 : IC := (.reg o32_11 [2, 3, 8, 9, 10, 11, 12])
def o32_9 : List IOp := [mv 44 12,
 q (.val 45 (.bin .add) [.t 44, ki 1]),
 mv 12 45]
def r32_9 : IC := (.reg o32_9 [2, 3, 8, 9, 10, 11, 12])
def l32_2 : IC := (.seq (.seq r32_8 (.cond (.t 43) .skip (.kp [2, 3, 8, 9, 10] (.exit 2)))) (.kp [2, 3, 8, 9, 10, 11, 12] (.seq (.block 3 (.seq r32_10 (.cond (.t 54) r32_11 .skip))) (.kp [2, 3, 8, 9, 10, 11, 12] r32_9))))
def o32_12 : List IOp := [mv 62 10,
 q (.val 63 .len [.t 62]),
 q (.val 64 (.bin .eql) [.t 63, ki 0])]
def r32_12 : IC := (.reg o32_12 [2, 3, 8, 9, 10, 64])
def o32_13 : List IOp := [mv 65 9,
 mv 6 65]
def r32_13 : IC := (.reg o32_13 [6])
def o32_14 : List IOp := [mv 66 10,
 mv 67 2,
 q (.val 68 (.conv .i64) [.t 67]),
 mv 69 9,
 q (.val 70 .len [.t 69]),
 q (.val 71 (.bin .mul) [ki 3, .t 70]),
 q (.val 72 (.bin .add) [.t 68, .t 71]),
 mv 73 10,
 q (.val 74 .len [.t 73]),
 q (.val 75 (.bin .rem) [.t 72, .t 74]),
 q (.val 76 (.iaddrS 1) [.t 66, .t 75]),
 q (.load 77 (.t 76) 1 false),
 mv 13 77]
def r32_14 : IC := (.reg o32_14 [2, 3, 8, 9, 13])
def o32_15 : List IOp := [mv 78 9,
 mv 79 13,
 q (.litP 80 1 [.t 79]),
 q (.app 81 (.t 78) (.t 80) 1 8),
 mv 9 81]
def r32_15 : IC := (.reg o32_15 [2, 3, 8, 9, 13])
def o32_16 : List IOp := [q (.load 82 (.t 3) 3 true),
 mv 83 13,
 q (.call (some 84) 53 [.t 82, .t 83]),
 mv 7 84]
def r32_16 : IC := (.reg o32_16 [2, 3, 7, 8, 9])
def o32_17 : List IOp := [mv 85 8,
 mv 86 7,
 q (.litP 87 1 [.t 86]),
 q (.app 88 (.t 85) (.t 87) 1 8),
 mv 8 88]
def r32_17 : IC := (.reg o32_17 [2, 3, 7, 8, 9])
def l32_1 : IC := (.seq (.seq r32_4 (.cond (.t 36) .skip (.kp [9] (.exit 0)))) (.kp [2, 3, 7, 8, 9] (.block 1 (.seq r32_5 (.seq r32_6 (.seq (.seq r32_7 (.block 2 (.loop l32_2))) (.seq (.seq r32_12 (.cond (.t 64) (.seq r32_13 .ret) .skip)) (.kp [2, 3, 8, 9, 10] (.seq r32_14 (.seq r32_15 (.seq r32_16 r32_17)))))))))))
def o32_18 : List IOp := [mv 89 9,
 mv 6 89]
def r32_18 : IC := (.reg o32_18 [6])
def b32 : IC := (.seq r32_0 (.seq r32_1 (.seq r32_2 (.seq r32_3 (.seq (.block 0 (.loop l32_1)) (.seq r32_18 .ret))))))
def i32 : IFn := ⟨3, 90, b32, [.tmp 6]⟩
def o33_0 : List IOp := [q (.newL 0 [.p (.int .i64 0), .p (.sl 1 true []), .p (.sl 4 true [])])]
def r33_0 : IC := (.reg o33_0 [0])
def o33_1 : List IOp := [q (.litP 1 1 [.k (.p (.bool true)), .k (.p (.bool false)), .k (.p (.bool false)), .k (.p (.bool true))]),
 q (.val 2 (.build [.p (.int .i64 0), .p (.int .i64 0), .p (.int .i64 0), .p (.int .i64 0)] [(0, 1), (1, 1), (2, 1), (3, 1)]) [ki 0, ki 1, ki 8, ki 50]),
 q (.val 3 (.build [.p (.int .i64 0), .p (.int .i64 0), .p (.int .i64 0), .p (.int .i64 0)] [(0, 1), (1, 1), (2, 1)]) [ki 1, ki 2, ki 8]),
 q (.val 4 (.build [.p (.int .i64 0), .p (.int .i64 0), .p (.int .i64 0), .p (.int .i64 0)] [(0, 1), (1, 1), (2, 1), (3, 1)]) [ki 2, ki 3, ki 80, ki 7]),
 q (.litP 5 4 [.t 2, .t 3, .t 4]),
 q (.val 6 (.build [.p (.int .i64 0), .p (.sl 1 true []), .p (.sl 4 true [])] [(0, 1), (1, 1), (2, 1)]) [ki 4, .t 1, .t 5]),
 q (.store (.t 0) (.t 6) 3)]
def r33_1 : IC := (.reg o33_1 [0])
def b33 : IC := (.seq r33_0 (.seq r33_1 .ret))
def i33 : IFn := ⟨0, 7, b33, [.cell 0 3 true]⟩
def o35_0 : List IOp := [q (.boxL 3 (.t 0)),
 q (.val 6 .mov [.k (.p (.sl 1 true []))]),
 q (.val 7 .mov [ki 0])]
def r35_0 : IC := (.reg o35_0 [1, 2, 3])
def o35_1 : List IOp := [q (.val 8 .mov [.k (.p (.sl 1 true []))])]
def r35_1 : IC := (.reg o35_1 [1, 2, 3, 8])
def o35_2 : List IOp := [q (.load 10 (.t 3) 3 true),
 mv 11 1,
 q (.call (some 12) 19 [.t 10, .t 11]),
 mv 9 12]
def r35_2 : IC := (.reg o35_2 [2, 3, 8, 9])
def o35_3 : List IOp := [mv 13 9,
 q (.val 14 (.bin .neq) [.t 13, ki 0])]
def r35_3 : IC := (.reg o35_3 [2, 3, 8, 9, 14])
def o35_4 : List IOp := [mv 15 8,
 mv 16 9,
 mv 6 15,
 mv 7 16]
def r35_4 : IC := (.reg o35_4 [6, 7])
def o35_5 : List IOp := [mv 17 2,
 q (.load 18 (.t 3) 3 true),
 q (.val 19 (.build [.p (.int .i64 0), .p (.sl 1 true []), .p (.sl 4 true [])] [(0, 3)]) [.t 18]),
 q (.callV (some 20) (.t 17) [.t 19]),
 q (.val 21 (.ext 0) [.t 20]),
 q (.val 22 (.ext 1) [.t 20]),
 mv 6 21,
 mv 7 22]
def r35_5 : IC := (.reg o35_5 [6, 7])
def b35 : IC := (.seq r35_0 (.seq r35_1 (.seq (.seq r35_2 (.seq r35_3 (.cond (.t 14) (.seq r35_4 .ret) .skip))) (.kp [2, 3] (.seq r35_5 .ret)))))
def i35 : IFn := ⟨3, 23, b35, [.tmp 6, .tmp 7]⟩
def o36_0 : List IOp := [q (.boxL 2 (.t 0)),
 q (.val 3 .mov [.k (.p (.sl 1 true []))]),
 q (.val 4 .mov [ki 0])]
def r36_0 : IC := (.reg o36_0 [1, 2])
def o36_1 : List IOp := [q (.load 5 (.t 2) 3 true),
 q (.load 6 (.t 1) 1 false),
 q (.call (some 7) 37 [.t 5, .t 6]),
 mv 3 7,
 q (.val 4 .mov [ki 0])]
def r36_1 : IC := (.reg o36_1 [3, 4])
def b36 : IC := (.seq r36_0 (.seq r36_1 .ret))
def i36 : IFn := ⟨2, 8, b36, [.tmp 3, .tmp 4]⟩
def o37_0 : List IOp := [q (.boxL 2 (.t 0)),
 q (.val 4 .mov [.k (.p (.sl 1 true []))])]
def r37_0 : IC := (.reg o37_0 [1, 2])
def o37_1 : List IOp := [mv 8 1,
 q (.val 9 .len [.t 8]),
 q (.val 10 (.bin .add) [.t 9, ki 1]),
 q (.mkSl 11 (ki 0) (.t 10) [.int .i64 0] 8),
 q (.newH 5 [.p (.sl 1 true [])]),
 q (.store (.t 5) (.t 11) 1)]
def r37_1 : IC := (.reg o37_1 [1, 2, 5])
def o37_2 : List IOp := [q (.load 12 (.t 2) 3 true),
 mv 13 1,
 q (.call (some 14) 62 [.t 12, .t 13])]
def r37_2 : IC := (.reg o37_2 [5, 14])
def o37_3 : List IOp := [mv 6 15]
def r37_3 : IC := (.reg o37_3 [5, 6, 16])
def o37_4 : List IOp := [q (.newL 7 [.p (.int .i64 0), .p (.int .i64 0), .p (.int .i64 0)]),
 q (.store (.t 7) (.t 16) 3)]
def r37_4 : IC := (.reg o37_4 [5, 6, 7])
def o37_5 : List IOp := [mv 17 6,
 q (.val 18 (.bin .eql) [.t 17, ki 0])]
def r37_5 : IC := (.reg o37_5 [5, 7, 18])
def o37_6 : List IOp := [q (.load 19 (.t 5) 1 false),
 q (.val 20 (.faddr 1) [.t 7]),
 q (.load 21 (.t 20) 1 false),
 q (.litP 22 1 [.t 21]),
 q (.app 23 (.t 19) (.t 22) 1 8),
 q (.store (.t 5) (.t 23) 1)]
def r37_6 : IC := (.reg o37_6 [5, 7])
def o37_7 : List IOp := [q (.load 24 (.t 5) 1 false),
 q (.val 25 (.faddr 2) [.t 7]),
 q (.load 26 (.t 25) 1 false),
 q (.litP 27 1 [.t 26]),
 q (.app 28 (.t 24) (.t 27) 1 8),
 q (.store (.t 5) (.t 28) 1)]
def r37_7 : IC := (.reg o37_7 [])
def ra37_1 : IC := (.seq r37_3 r37_4)
def rb37_1 : IC := (.block 1 (.seq (.seq r37_5 (.cond (.t 18) r37_6 .skip)) (.kp [5, 7] r37_7)))
def o37_8 : List IOp := [q (.load 29 (.t 5) 1 false),
 mv 4 29]
def r37_8 : IC := (.reg o37_8 [4])
def b37 : IC := (.seq r37_0 (.seq r37_1 (.seq (.seq r37_2 (.block 0 (.rangeF (.t 14) [15, 16] ra37_1 rb37_1))) (.kp [5] (.seq r37_8 .ret)))))
def i37 : IFn := ⟨2, 30, b37, [.tmp 4]⟩
def o38_0 : List IOp := [q (.boxL 3 (.t 0)),
 q (.val 6 .mov [ki 0]),
 q (.val 7 .mov [ki 0])]
def r38_0 : IC := (.reg o38_0 [1, 2, 3])
def o38_1 : List IOp := [q (.val 8 .mov [ki 0])]
def r38_1 : IC := (.reg o38_1 [1, 2, 3, 8])
def o38_2 : List IOp := [q (.load 10 (.t 3) 3 true),
 mv 11 1,
 q (.call (some 12) 19 [.t 10, .t 11]),
 mv 9 12]
def r38_2 : IC := (.reg o38_2 [2, 3, 8, 9])
def o38_3 : List IOp := [mv 13 9,
 q (.val 14 (.bin .neq) [.t 13, ki 0])]
def r38_3 : IC := (.reg o38_3 [2, 3, 8, 9, 14])
def o38_4 : List IOp := [mv 15 8,
 mv 16 9,
 mv 6 15,
 mv 7 16]
def r38_4 : IC := (.reg o38_4 [6, 7])
def o38_5 : List IOp := [mv 17 2,
 q (.load 18 (.t 3) 3 true),
 q (.val 19 (.build [.p (.int .i64 0), .p (.sl 1 true []), .p (.sl 4 true [])] [(0, 3)]) [.t 18]),
 q (.callV (some 20) (.t 17) [.t 19]),
 q (.val 21 (.ext 0) [.t 20]),
 q (.val 22 (.ext 1) [.t 20]),
 mv 6 21,
 mv 7 22]
def r38_5 : IC := (.reg o38_5 [6, 7])
def b38 : IC := (.seq r38_0 (.seq r38_1 (.seq (.seq r38_2 (.seq r38_3 (.cond (.t 14) (.seq r38_4 .ret) .skip))) (.kp [2, 3] (.seq r38_5 .ret)))))
def i38 : IFn := ⟨3, 23, b38, [.tmp 6, .tmp 7]⟩
def o39_0 : List IOp := [q (.boxL 2 (.t 0)),
 q (.val 3 .mov [ki 0]),
 q (.val 4 .mov [ki 0])]
def r39_0 : IC := (.reg o39_0 [1, 2])
def o39_1 : List IOp := [q (.load 5 (.t 1) 1 false),
 q (.load 6 (.t 2) 3 true),
 q (.val 7 (.mkfn 41 1) [.t 6]),
 q (.call (some 8) 40 [.t 5, .t 7]),
 mv 3 8,
 q (.val 4 .mov [ki 0])]
def r39_1 : IC := (.reg o39_1 [3, 4])
def b39 : IC := (.seq r39_0 (.seq r39_1 .ret))
def i39 : IFn := ⟨2, 9, b39, [.tmp 3, .tmp 4]⟩
def o40_0 : List IOp := [q (.val 4 .mov [ki 0])]
def r40_0 : IC := (.reg o40_0 [0, 1])
def o40_1 : List IOp := [q (.val 5 .mov [ki 0])]
def r40_1 : IC := (.reg o40_1 [0, 1, 5])
def o40_2 : List IOp := [mv 8 0,
 q (.val 9 .len [.t 8]),
 q (.val 10 .mov [ki 0])]
def r40_2 : IC := (.reg o40_2 [1, 5, 8, 9, 10])
def o40_3 : List IOp := [q (.val 11 (.bin .lss) [.t 10, .t 9])]
def r40_3 : IC := (.reg o40_3 [1, 5, 8, 9, 10, 11])
def o40_4 : List IOp := [q (.val 12 (.iaddrS 1) [.t 8, .t 10]),
 q (.load 13 (.t 12) 1 false),
 mv 7 13]
def r40_4 : IC := (.reg o40_4 [1, 5, 7, 8, 9, 10])
def o40_5 : List IOp := [mv 14 5,
 mv 15 1,
 mv 16 7,
 q (.callV (some 17) (.t 15) [.t 16]),
 q (.val 18 (.bin .add) [.t 14, .t 17]),
 mv 5 18]
def r40_5 : IC := (.reg o40_5 [1, 5, 8, 9, 10])
def o40_6 : List IOp := [q (.val 19 (.bin .add) [.t 10, ki 1]),
 mv 10 19]
def r40_6 : IC := (.reg o40_6 [1, 5, 8, 9, 10])
def l40_1 : IC := (.seq r40_3 (.seq (.cond (.t 11) .skip (.kp [5] (.exit 0))) (.kp [1, 5, 8, 9, 10] (.seq (.block 1 (.seq r40_4 r40_5)) r40_6))))
def o40_7 : List IOp := [mv 20 5,
 mv 4 20]
def r40_7 : IC := (.reg o40_7 [4])
def b40 : IC := (.seq r40_0 (.seq r40_1 (.seq (.seq r40_2 (.block 0 (.loop l40_1))) (.seq r40_7 .ret))))
def i40 : IFn := ⟨2, 21, b40, [.tmp 4]⟩
def o41_0 : List IOp := [q (.boxL 2 (.t 0)),
 q (.val 4 .mov [ki 0])]
def r41_0 : IC := (.reg o41_0 [1, 2])
def o41_1 : List IOp := [q (.val 5 (.faddr 0) [.t 2]),
 q (.val 6 (.faddr 2) [.t 5]),
 q (.load 7 (.t 6) 1 false),
 mv 8 1,
 q (.val 9 (.bin .quo) [.t 8, ki 2]),
 q (.val 10 (.iaddrS 4) [.t 7, .t 9]),
 q (.val 11 (.faddr 3) [.t 10]),
 q (.load 12 (.t 11) 1 false),
 mv 4 12]
def r41_1 : IC := (.reg o41_1 [4])
def b41 : IC := (.seq r41_0 (.seq r41_1 .ret))
def i41 : IFn := ⟨2, 13, b41, [.tmp 4]⟩
def o42_0 : List IOp := [q (.boxH 3 (.t 0)),
 q (.val 4 .mov [ki 0]),
 q (.val 5 .mov [ki 0])]
def r42_0 : IC := (.reg o42_0 [1, 2, 3])
def o42_1 : List IOp := [q (.load 6 (.t 1) 1 false),
 q (.val 7 (.bin .lss) [.t 6, ki 84]),
 mv 8 7,
 ⟨(some (8, false)), .load 9 (.t 1) 1 false, [], none⟩,
 ⟨(some (8, false)), .val 10 (.bin .gtr) [.t 9, ki 1542], [], none⟩,
 q (.val 11 .pick [.t 8, .k (.p (.bool true)), .t 10])]
def r42_1 : IC := (.reg o42_1 [1, 2, 3, 11])
def o42_2 : List IOp := [q (.val 4 .mov [ki 0]),
 q (.val 5 .mov [ki 2])]
def r42_2 : IC := (.reg o42_2 [4, 5])
def o42_3 : List IOp := [q (.load 12 (.t 2) 1 false),
 q (.val 13 (.mkfn 43 0) [.t 1, .t 3]),
 q (.call (some 14) 40 [.t 12, .t 13]),
 mv 4 14,
 q (.val 5 .mov [ki 0])]
def r42_3 : IC := (.reg o42_3 [4, 5])
def b42 : IC := (.seq r42_0 (.seq (.seq r42_1 (.cond (.t 11) (.seq r42_2 .ret) .skip)) (.kp [1, 2, 3] (.seq r42_3 .ret))))
def i42 : IFn := ⟨3, 15, b42, [.tmp 4, .tmp 5]⟩
def o43_0 : List IOp := [q (.val 4 .mov [ki 0])]
def r43_0 : IC := (.reg o43_0 [0, 1, 2])
def o43_1 : List IOp := [q (.load 5 (.t 1) 1 false),
 q (.val 6 (.faddr 0) [.t 2]),
 ⟨none, .val 7 (.faddr 2) [.t 6], [1], none⟩,
 ⟨none, .load 8 (.t 7) 1 false, [1, 2], none⟩,
 mv 9 0,
 ⟨none, .val 10 (.bin .quo) [.t 9, ki 2], [4], none⟩,
 ⟨none, .val 11 (.iaddrS 4) [.t 8, .t 10], [1, 2, 3, 4, 5], none⟩,
 ⟨none, .val 12 (.faddr 2) [.t 11], [1, 2, 3, 4, 5, 6], none⟩,
 ⟨none, .load 13 (.t 12) 1 false, [1, 2, 3, 4, 5, 6, 7], none⟩,
 ⟨none, .val 14 (.bin .mul) [.t 5, .t 13], [0, 1, 2, 3, 4, 5, 6, 7, 8], none⟩,
 q (.load 15 (.t 2) 3 true),
 mv 16 0,
 ⟨none, .callP 17 41 [.t 15, .t 16], [10, 11], none⟩,
 ⟨none, .val 18 (.bin .add) [.t 14, .t 17], [0, 1, 2, 3, 4, 5, 6, 7, 8, 9, 10, 11, 12], none⟩,
 ⟨none, .val 4 .mov [.t 18], [0, 1, 2, 3, 4, 5, 6, 7, 8, 9, 10, 11, 12, 13], none⟩]
def r43_1 : IC := (.regD o43_1 [4])
def b43 : IC := (.seq r43_0 (.seq r43_1 .ret))
def i43 : IFn := ⟨3, 19, b43, [.tmp 4]⟩
def o44_0 : List IOp := [q (.boxL 3 (.t 0)),
 q (.val 6 .mov [.k (.p (.sl 1 true []))]),
 q (.val 7 .mov [ki 0])]
def r44_0 : IC := (.reg o44_0 [1, 2, 3])
def o44_1 : List IOp := [q (.val 8 .mov [.k (.p (.sl 1 true []))])]
def r44_1 : IC := (.reg o44_1 [1, 2, 3, 8])
def o44_2 : List IOp := [q (.load 10 (.t 3) 3 true),
 mv 11 1,
 q (.call (some 12) 19 [.t 10, .t 11]),
 mv 9 12]
def r44_2 : IC := (.reg o44_2 [2, 3, 8, 9])
def o44_3 : List IOp := [mv 13 9,
 q (.val 14 (.bin .neq) [.t 13, ki 0])]
def r44_3 : IC := (.reg o44_3 [2, 3, 8, 9, 14])
def o44_4 : List IOp := [mv 15 8,
 mv 16 9,
 mv 6 15,
 mv 7 16]
def r44_4 : IC := (.reg o44_4 [6, 7])
def o44_5 : List IOp := [mv 17 2,
 q (.load 18 (.t 3) 3 true),
 q (.val 19 (.build [.p (.int .i64 0), .p (.sl 1 true []), .p (.sl 4 true [])] [(0, 3)]) [.t 18]),
 q (.callV (some 20) (.t 17) [.t 19]),
 q (.val 21 (.ext 0) [.t 20]),
 q (.val 22 (.ext 1) [.t 20]),
 mv 6 21,
 mv 7 22]
def r44_5 : IC := (.reg o44_5 [6, 7])
def b44 : IC := (.seq r44_0 (.seq r44_1 (.seq (.seq r44_2 (.seq r44_3 (.cond (.t 14) (.seq r44_4 .ret) .skip))) (.kp [2, 3] (.seq r44_5 .ret)))))
def i44 : IFn := ⟨3, 23, b44, [.tmp 6, .tmp 7]⟩
def o45_0 : List IOp := [q (.boxH 2 (.t 0)),
 q (.val 3 .mov [.k (.p (.sl 1 true []))]),
 q (.val 4 .mov [ki 0])]
def r45_0 : IC := (.reg o45_0 [1, 2])
def o45_1 : List IOp := [q (.load 8 (.t 1) 1 false),
 q (.val 9 .len [.t 8]),
 q (.mkSl 10 (ki 0) (.t 9) [.int .i64 0] 8),
 q (.newH 5 [.p (.sl 1 true [])]),
 q (.store (.t 5) (.t 10) 1)]
def r45_1 : IC := (.reg o45_1 [1, 2, 5])
def o45_2 : List IOp := [q (.load 11 (.t 1) 1 false),
 q (.call (some 12) 46 [.t 11])]
def r45_2 : IC := (.reg o45_2 [2, 5, 12])
def o45_3 : List IOp := [mv 7 14]
def r45_3 : IC := (.reg o45_3 [2, 5, 7])
def o45_4 : List IOp := [q (.load 15 (.t 5) 1 false),
 q (.load 16 (.t 2) 3 true),
 mv 17 7,
 ⟨none, .callP 18 47 [.t 16, .t 17], [1, 2], none⟩,
 ⟨none, .litP 19 1 [.t 18], [1, 2, 3], none⟩,
 ⟨none, .app 20 (.t 15) (.t 19) 1 8, [0, 1, 2, 3, 4], none⟩,
 ⟨none, .storeH (.t 5) (.t 20) 1, [0, 1, 2, 3, 4, 5], none⟩]
def r45_4 : IC := (.regD o45_4 [])
def ra45_1 : IC := r45_3
def rb45_1 : IC := (.block 1 r45_4)
def o45_5 : List IOp := [q (.load 21 (.t 5) 1 false),
 mv 3 21,
 q (.val 4 .mov [ki 0])]
def r45_5 : IC := (.reg o45_5 [3, 4])
def b45 : IC := (.seq r45_0 (.seq r45_1 (.seq (.seq r45_2 (.block 0 (.rangeF (.t 12) [13, 14] ra45_1 rb45_1))) (.kp [5] (.seq r45_5 .ret)))))
def i45 : IFn := ⟨2, 22, b45, [.tmp 3, .tmp 4]⟩
def o46_0 : List IOp := [q (.boxH 1 (.t 0)),
 q (.val 2 .mov [.k (.nl .nilFunc)])]
def r46_0 : IC := (.reg o46_0 [1])
def o46_1 : List IOp := [q (.val 3 (.mkfn 68 0) [.t 1]),
 mv 2 3]
def r46_1 : IC := (.reg o46_1 [2])
def b46 : IC := (.seq r46_0 (.seq r46_1 .ret))
def i46 : IFn := ⟨1, 4, b46, [.tmp 2]⟩
def o47_0 : List IOp := [q (.boxL 2 (.t 0)),
 q (.val 4 .mov [ki 0])]
def r47_0 : IC := (.reg o47_0 [1, 2])
def o47_1 : List IOp := [q (.val 8 (.faddr 0) [.t 2]),
 q (.load 9 (.t 8) 3 true),
 mv 10 1,
 q (.call (some 11) 69 [.t 9, .t 10]),
 mv 7 11,
 q (.val 12 (.ext 0) [.t 7]),
 q (.val 13 (.ext 1) [.t 7]),
 mv 5 12,
 mv 6 13]
def r47_1 : IC := (.reg o47_1 [5])
def o47_2 : List IOp := [mv 14 5,
 mv 4 14]
def r47_2 : IC := (.reg o47_2 [4])
def b47 : IC := (.seq r47_0 (.seq r47_1 (.seq r47_2 .ret)))
def i47 : IFn := ⟨2, 15, b47, [.tmp 4]⟩
def o50_0 : List IOp := [q (.boxL 1 (.t 0)),
 q (.val 2 .mov [ki 0])]
def r50_0 : IC := (.reg o50_0 [1])
def o50_1 : List IOp := [q (.val 8 (.faddr 0) [.t 1]),
 q (.load 9 (.t 8) 1 false),
 q (.val 10 (.bin .lss) [.t 9, ki 2]),
 mv 11 10,
 ⟨(some (11, false)), .val 12 (.faddr 0) [.t 1], [], none⟩,
 ⟨(some (11, false)), .load 13 (.t 12) 1 false, [], none⟩,
 ⟨(some (11, false)), .val 14 (.bin .gtr) [.t 13, ki 12], [], none⟩,
 q (.val 15 .pick [.t 11, .k (.p (.bool true)), .t 14]),
 mv 16 15,
 ⟨(some (16, false)), .val 17 (.faddr 1) [.t 1], [], none⟩,
 ⟨(some (16, false)), .load 18 (.t 17) 1 false, [], none⟩,
 ⟨(some (16, false)), .val 19 .len [.t 18], [], none⟩,
 ⟨(some (16, false)), .val 20 (.faddr 0) [.t 1], [], none⟩,
 ⟨(some (16, false)), .load 21 (.t 20) 1 false, [], none⟩,
 ⟨(some (16, false)), .val 22 (.bin .neq) [.t 19, .t 21], [], none⟩,
 q (.val 23 .pick [.t 16, .k (.p (.bool true)), .t 22])]
def r50_1 : IC := (.reg o50_1 [1, 23])
def o50_2 : List IOp := [q (.val 2 .mov [ki 260])]
def r50_2 : IC := (.reg o50_2 [2])
def o50_3 : List IOp := [q (.val 24 (.faddr 2) [.t 1]),
 q (.load 25 (.t 24) 1 false),
 q (.val 26 .len [.t 25]),
 q (.val 27 (.bin .gtr) [.t 26, ki 24]),
 mv 28 27,
 ⟨(some (28, false)), .load 29 (.t 1) 3 true, [], none⟩,
 ⟨(some (28, false)), .call (some 30) 74 [.t 29], [], none⟩,
 ⟨(some (28, false)), .val 31 .not [.t 30], [], none⟩,
 q (.val 32 .pick [.t 28, .k (.p (.bool true)), .t 31])]
def r50_3 : IC := (.reg o50_3 [1, 32])
def o50_4 : List IOp := [q (.val 2 .mov [ki 260])]
def r50_4 : IC := (.reg o50_4 [2])
def o50_5 : List IOp := [q (.val 33 (.faddr 0) [.t 1]),
 q (.load 34 (.t 33) 1 false),
 q (.mkSl 35 (.t 34) (.t 34) [.int .i64 0] 8),
 mv 3 35]
def r50_5 : IC := (.reg o50_5 [1, 3])
def o50_6 : List IOp := [q (.val 36 (.faddr 2) [.t 1]),
 q (.load 37 (.t 36) 1 false),
 q (.val 38 .len [.t 37]),
 q (.val 39 .mov [ki 0])]
def r50_6 : IC := (.reg o50_6 [1, 3, 37, 38, 39])
def o50_7 : List IOp := [q (.val 40 (.bin .lss) [.t 39, .t 38])]
def r50_7 : IC := (.reg o50_7 [1, 3, 37, 38, 39, 40])
def o50_8 : List IOp := [q (.val 41 (.iaddrS 4) [.t 37, .t 39]),
 q (.load 42 (.t 41) 4 true),
 q (.newL 5 [.p (.int .i64 0), .p (.int .i64 0), .p (.int .i64 0), .p (.int .i64 0)]),
 q (.store (.t 5) (.t 42) 4)]
def r50_8 : IC := (.reg o50_8 [1, 3, 5, 37, 38, 39])
def o50_9 : List IOp := [mv 43 3,
 q (.val 44 (.faddr 0) [.t 5]),
 q (.load 45 (.t 44) 1 false),
 q (.val 46 (.iaddrS 1) [.t 43, .t 45]),
 q (.load 47 (.t 46) 1 false),
 q (.val 48 (.bin .add) [.t 47, ki 1]),
 q (.val 49 (.iaddrS 1) [.t 43, .t 45]),
 q (.store (.t 49) (.t 48) 1)]
def r50_9 : IC := (.reg o50_9 [1, 3, 5, 37, 38, 39])
def o50_10 : List IOp := [mv 50 3,
 q (.val 51 (.faddr 1) [.t 5]),
 q (.load 52 (.t 51) 1 false),
 q (.val 53 (.iaddrS 1) [.t 50, .t 52]),
 q (.load 54 (.t 53) 1 false),
 q (.val 55 (.bin .add) [.t 54, ki 1]),
 q (.val 56 (.iaddrS 1) [.t 50, .t 52]),
 q (.store (.t 56) (.t 55) 1)]
def r50_10 : IC := (.reg o50_10 [1, 3, 37, 38, 39])
def o50_11 : List IOp := [q (.val 57 (.bin .add) [.t 39, ki 1]),
 mv 39 57]
def r50_11 : IC := (.reg o50_11 [1, 3, 37, 38, 39])
def l50_1 : IC := (.seq r50_7 (.seq (.cond (.t 40) .skip (.kp [1, 3] (.exit 0))) (.kp [1, 3, 37, 38, 39] (.seq (.block 1 (.seq r50_8 (.seq r50_9 r50_10))) r50_11))))
def o50_12 : List IOp := [q (.val 58 (.faddr 1) [.t 1]),
 q (.load 59 (.t 58) 1 false),
 q (.val 60 .len [.t 59]),
 q (.val 61 .mov [ki 0])]
def r50_12 : IC := (.reg o50_12 [1, 3, 59, 60, 61])
def o50_13 : List IOp := [q (.val 62 (.bin .lss) [.t 61, .t 60])]
def r50_13 : IC := (.reg o50_13 [1, 3, 59, 60, 61, 62])
def o50_14 : List IOp := [mv 63 61,
 q (.val 64 (.iaddrS 1) [.t 59, .t 61]),
 q (.load 65 (.t 64) 1 false),
 mv 6 63,
 mv 7 65]
def r50_14 : IC := (.reg o50_14 [1, 3, 6, 7, 59, 60, 61])
def o50_15 : List IOp := [mv 66 7,
 mv 67 66,
 ⟨(some (67, true)), .val 68 .mov [.t 3], [], none⟩,
 ⟨(some (67, true)), .val 69 .mov [.t 6], [], none⟩,
 ⟨(some (67, true)), .val 70 (.iaddrS 1) [.t 68, .t 69], [], none⟩,
 ⟨(some (67, true)), .load 71 (.t 70) 1 false, [], none⟩,
 ⟨(some (67, true)), .val 72 (.bin .lss) [.t 71, ki 1], [], none⟩,
 ⟨(some (67, true)), .val 73 .mov [.t 72], [], none⟩,
 ⟨(some (73, false)), .val 74 .mov [.t 3], [], none⟩,
 ⟨(some (73, false)), .val 75 .mov [.t 6], [], none⟩,
 ⟨(some (73, false)), .val 76 (.iaddrS 1) [.t 74, .t 75], [], none⟩,
 ⟨(some (73, false)), .load 77 (.t 76) 1 false, [], none⟩,
 ⟨(some (73, false)), .val 78 (.bin .gtr) [.t 77, ki 2], [], none⟩,
 ⟨(some (67, true)), .val 79 .pick [.t 73, .k (.p (.bool true)), .t 78], [], none⟩,
 q (.val 80 .pick [.t 67, .t 79, .k (.p (.bool false))])]
def r50_15 : IC := (.reg o50_15 [1, 3, 59, 60, 61, 80])
def o50_16 : List IOp := [q (.val 2 .mov [ki 260])]
def r50_16 : IC := (.reg o50_16 [2])
def o50_17 : List IOp := [q (.val 81 (.bin .add) [.t 61, ki 1]),
 mv 61 81]
def r50_17 : IC := (.reg o50_17 [1, 3, 59, 60, 61])
def l50_2 : IC := (.seq r50_13 (.seq (.cond (.t 62) .skip (.kp [1] (.exit 2))) (.kp [1, 3, 59, 60, 61] (.seq (.block 3 (.seq r50_14 (.seq r50_15 (.cond (.t 80) (.seq r50_16 .ret) .skip)))) (.kp [1, 3, 59, 60, 61] r50_17)))))
def o50_18 : List IOp := [q (.load 82 (.t 1) 3 true),
 q (.val 83 (.build (List.replicate 24 (.p (.bool false))) []) []),
 q (.call (some 84) 76 [.t 82, ki 0, .t 83]),
 q (.call (some 85) 75 [.t 84, .k (.p (.bool false))])]
def r50_18 : IC := (.reg o50_18 [85])
def o50_19 : List IOp := [q (.val 2 .mov [ki 260])]
def r50_19 : IC := (.reg o50_19 [2])
def o50_20 : List IOp := [q (.val 2 .mov [ki 0])]
def r50_20 : IC := (.reg o50_20 [2])
def b50 : IC := (.seq r50_0 (.seq (.seq r50_1 (.cond (.t 23) (.seq r50_2 .ret) .skip)) (.kp [1] (.seq (.seq r50_3 (.cond (.t 32) (.seq r50_4 .ret) .skip)) (.kp [1] (.seq r50_5 (.seq (.seq r50_6 (.block 0 (.loop l50_1))) (.seq (.seq r50_12 (.block 2 (.loop l50_2))) (.seq (.seq r50_18 (.cond (.t 85) (.seq r50_19 .ret) .skip)) (.kp [] (.seq r50_20 .ret)))))))))))
def i50 : IFn := ⟨1, 86, b50, [.tmp 2]⟩
def o51_0 : List IOp := [q (.boxH 2 (.t 0)),
 q (.val 4 .mov [.k (.p (.bool false))])]
def r51_0 : IC := (.reg o51_0 [1, 2])
def o51_1 : List IOp := [mv 10 1,
 q (.val 11 .len [.t 10]),
 q (.val 12 (.bin .lss) [.t 11, ki 1]),
 mv 13 12,
 ⟨(some (13, false)), .val 14 .mov [.t 1], [], none⟩,
 ⟨(some (13, false)), .val 15 .len [.t 14], [], none⟩,
 ⟨(some (13, false)), .val 16 (.bin .gtr) [.t 15, ki 8], [], none⟩,
 q (.val 17 .pick [.t 13, .k (.p (.bool true)), .t 16])]
def r51_1 : IC := (.reg o51_1 [1, 2, 17])
def o51_2 : List IOp := [q (.val 4 .mov [.k (.p (.bool false))])]
def r51_2 : IC := (.reg o51_2 [4])
def o51_3 : List IOp := [q (.newH 5 [.p (.bool false), .p (.bool false), .p (.bool false), .p (.bool false), .p (.bool false), .p (.bool false), .p (.bool false), .p (.bool false), .p (.bool false), .p (.bool false), .p (.bool false), .p (.bool false)])]
def r51_3 : IC := (.reg o51_3 [1, 2, 5])
def o51_4 : List IOp := [q (.newH 6 [.p (.int .i64 0)]),
 q (.newH 7 [.p (.int .i64 0)]),
 q (.store (.t 6) (ki 0) 1),
 q (.store (.t 7) (ki 0) 1)]
def r51_4 : IC := (.reg o51_4 [1, 2, 5, 6, 7])
def o51_5 : List IOp := [q (.load 18 (.t 2) 3 true),
 mv 19 1,
 q (.call (some 20) 62 [.t 18, .t 19])]
def r51_5 : IC := (.reg o51_5 [1, 2, 5, 6, 7, 20])
def o51_6 : List IOp := [mv 8 21]
def r51_6 : IC := (.reg o51_6 [2, 5, 6, 7, 8, 22])
def o51_7 : List IOp := [q (.newL 9 [.p (.int .i64 0), .p (.int .i64 0), .p (.int .i64 0)]),
 q (.store (.t 9) (.t 22) 3)]
def r51_7 : IC := (.reg o51_7 [2, 5, 6, 7, 8, 9])
def o51_8 : List IOp := [mv 23 8,
 q (.val 24 (.bin .eql) [.t 23, ki 0])]
def r51_8 : IC := (.reg o51_8 [2, 5, 6, 7, 9, 24])
def o51_9 : List IOp := [q (.val 25 (.faddr 1) [.t 9]),
 q (.load 26 (.t 25) 1 false),
 q (.val 27 (.iaddr 12 1) [.t 5, .t 26]),
 q (.store (.t 27) (.k (.p (.bool true))) 1)]
def r51_9 : IC := (.reg o51_9 [5, 6, 7, 9])
def o51_10 : List IOp := [q (.val 28 (.faddr 1) [.t 9]),
 q (.load 29 (.t 28) 1 false),
 q (.load 30 (.t 6) 1 false),
 q (.val 31 (.bin .neq) [.t 29, .t 30]),
 mv 32 31,
 ⟨(some (32, false)), .val 33 (.faddr 0) [.t 2], [], none⟩,
 ⟨(some (32, false)), .val 34 (.faddr 1) [.t 33], [], none⟩,
 ⟨(some (32, false)), .load 35 (.t 34) 1 false, [], none⟩,
 ⟨(some (32, false)), .load 36 (.t 6) 1 false, [], none⟩,
 ⟨(some (32, false)), .val 37 (.iaddrS 1) [.t 35, .t 36], [], none⟩,
 ⟨(some (32, false)), .load 38 (.t 37) 1 false, [], none⟩,
 q (.val 39 .pick [.t 32, .k (.p (.bool true)), .t 38])]
def r51_10 : IC := (.reg o51_10 [5, 6, 7, 9, 39])
def o51_11 : List IOp := [q (.val 40 (.faddr 2) [.t 9]),
 q (.load 41 (.t 40) 1 false),
 q (.val 42 (.iaddr 12 1) [.t 5, .t 41]),
 q (.load 43 (.t 42) 1 false)]
def r51_11 : IC := (.reg o51_11 [5, 6, 7, 9, 43])
def o51_12 : List IOp := [q (.val 44 (.faddr 2) [.t 9]),
 q (.load 45 (.t 44) 1 false),
 q (.val 46 (.iaddr 12 1) [.t 5, .t 45]),
 q (.store (.t 46) (.k (.p (.bool true))) 1)]
def r51_12 : IC := (.reg o51_12 [6, 7, 9])
def o51_13 : List IOp := [q (.val 47 (.faddr 2) [.t 9]),
 q (.load 48 (.t 47) 1 false),
 q (.store (.t 6) (.t 48) 1)]
def r51_13 : IC := (.reg o51_13 [7])
def o51_14 : List IOp := [q (.load 49 (.t 7) 1 false),
 q (.val 50 (.bin .add) [.t 49, ki 1]),
 q (.store (.t 7) (.t 50) 1)]
def r51_14 : IC := (.reg o51_14 [])
def ra51_1 : IC := (.seq r51_6 r51_7)
def rb51_1 : IC := (.block 1 (.seq (.seq r51_8 (.cond (.t 24) r51_9 (.seq r51_10 (.cond (.t 39) (.kp [] (.exit 0)) .skip)))) (.kp [5, 6, 7, 9] (.seq (.seq r51_11 (.cond (.t 43) (.kp [] (.exit 0)) .skip)) (.kp [5, 6, 7, 9] (.seq r51_12 (.seq r51_13 r51_14)))))))
def o51_15 : List IOp := [q (.load 51 (.t 7) 1 false),
 mv 52 1,
 q (.val 53 .len [.t 52]),
 q (.val 54 (.bin .eql) [.t 51, .t 53]),
 mv 4 54]
def r51_15 : IC := (.reg o51_15 [4])
def b51 : IC := (.seq r51_0 (.seq (.seq r51_1 (.cond (.t 17) (.seq r51_2 .ret) .skip)) (.kp [1, 2] (.seq r51_3 (.seq r51_4 (.seq (.seq r51_5 (.block 0 (.rangeF (.t 20) [21, 22] ra51_1 rb51_1))) (.kp [1, 7] (.seq r51_15 .ret))))))))
def i51 : IFn := ⟨2, 55, b51, [.tmp 4]⟩
def o52_0 : List IOp := [q (.boxL 2 (.t 0)),
 q (.val 4 .mov [ki 0])]
def r52_0 : IC := (.reg o52_0 [1, 2])
def o52_1 : List IOp := [q (.val 6 (.faddr 2) [.t 2]),
 q (.load 7 (.t 6) 1 false),
 mv 8 1,
 q (.val 9 (.bin .quo) [.t 8, ki 2]),
 q (.val 10 (.iaddrS 4) [.t 7, .t 9]),
 q (.load 11 (.t 10) 4 true),
 q (.newL 5 [.p (.int .i64 0), .p (.int .i64 0), .p (.int .i64 0), .p (.int .i64 0)]),
 q (.store (.t 5) (.t 11) 4)]
def r52_1 : IC := (.reg o52_1 [1, 5])
def o52_2 : List IOp := [mv 12 1,
 q (.val 13 (.bin .rem) [.t 12, ki 2]),
 q (.val 14 (.bin .eql) [.t 13, ki 1])]
def r52_2 : IC := (.reg o52_2 [5, 14])
def o52_3 : List IOp := [q (.val 15 (.faddr 1) [.t 5]),
 q (.load 16 (.t 15) 1 false),
 mv 4 16]
def r52_3 : IC := (.reg o52_3 [4])
def o52_4 : List IOp := [q (.val 17 (.faddr 0) [.t 5]),
 q (.load 18 (.t 17) 1 false),
 mv 4 18]
def r52_4 : IC := (.reg o52_4 [4])
def b52 : IC := (.seq r52_0 (.seq r52_1 (.seq (.seq r52_2 (.cond (.t 14) (.seq r52_3 .ret) .skip)) (.kp [5] (.seq r52_4 .ret)))))
def i52 : IFn := ⟨2, 19, b52, [.tmp 4]⟩
def o53_0 : List IOp := [q (.boxL 2 (.t 0)),
 q (.val 4 .mov [ki 0])]
def r53_0 : IC := (.reg o53_0 [1, 2])
def o53_1 : List IOp := [q (.val 6 (.faddr 2) [.t 2]),
 q (.load 7 (.t 6) 1 false),
 mv 8 1,
 q (.val 9 (.bin .quo) [.t 8, ki 2]),
 q (.val 10 (.iaddrS 4) [.t 7, .t 9]),
 q (.load 11 (.t 10) 4 true),
 q (.newL 5 [.p (.int .i64 0), .p (.int .i64 0), .p (.int .i64 0), .p (.int .i64 0)]),
 q (.store (.t 5) (.t 11) 4)]
def r53_1 : IC := (.reg o53_1 [1, 5])
def o53_2 : List IOp := [mv 12 1,
 q (.val 13 (.bin .rem) [.t 12, ki 2]),
 q (.val 14 (.bin .eql) [.t 13, ki 1])]
def r53_2 : IC := (.reg o53_2 [5, 14])
def o53_3 : List IOp := [q (.val 15 (.faddr 0) [.t 5]),
 q (.load 16 (.t 15) 1 false),
 mv 4 16]
def r53_3 : IC := (.reg o53_3 [4])
def o53_4 : List IOp := [q (.val 17 (.faddr 1) [.t 5]),
 q (.load 18 (.t 17) 1 false),
 mv 4 18]
def r53_4 : IC := (.reg o53_4 [4])
def b53 : IC := (.seq r53_0 (.seq r53_1 (.seq (.seq r53_2 (.cond (.t 14) (.seq r53_3 .ret) .skip)) (.kp [5] (.seq r53_4 .ret)))))
def i53 : IFn := ⟨2, 19, b53, [.tmp 4]⟩
def o57_0 : List IOp := [q (.boxL 3 (.t 0)),
 q (.val 6 .mov [.k (.p (.bool false))]),
 q (.val 7 .mov [ki 0])]
def r57_0 : IC := (.reg o57_0 [1, 2, 3])
def o57_1 : List IOp := [q (.val 8 .mov [.k (.p (.bool false))])]
def r57_1 : IC := (.reg o57_1 [1, 2, 3, 8])
def o57_2 : List IOp := [q (.load 10 (.t 3) 3 true),
 mv 11 1,
 q (.call (some 12) 19 [.t 10, .t 11]),
 mv 9 12]
def r57_2 : IC := (.reg o57_2 [2, 3, 8, 9])
def o57_3 : List IOp := [mv 13 9,
 q (.val 14 (.bin .neq) [.t 13, ki 0])]
def r57_3 : IC := (.reg o57_3 [2, 3, 8, 9, 14])
def o57_4 : List IOp := [mv 15 8,
 mv 16 9,
 mv 6 15,
 mv 7 16]
def r57_4 : IC := (.reg o57_4 [6, 7])
def o57_5 : List IOp := [mv 17 2,
 q (.load 18 (.t 3) 3 true),
 q (.val 19 (.build [.p (.int .i64 0), .p (.sl 1 true []), .p (.sl 4 true [])] [(0, 3)]) [.t 18]),
 q (.callV (some 20) (.t 17) [.t 19]),
 q (.val 21 (.ext 0) [.t 20]),
 q (.val 22 (.ext 1) [.t 20]),
 mv 6 21,
 mv 7 22]
def r57_5 : IC := (.reg o57_5 [6, 7])
def b57 : IC := (.seq r57_0 (.seq r57_1 (.seq (.seq r57_2 (.seq r57_3 (.cond (.t 14) (.seq r57_4 .ret) .skip))) (.kp [2, 3] (.seq r57_5 .ret)))))
def i57 : IFn := ⟨3, 23, b57, [.tmp 6, .tmp 7]⟩
def o58_0 : List IOp := [q (.boxL 3 (.t 0)),
 q (.val 4 .mov [.k (.p (.bool false))]),
 q (.val 5 .mov [ki 0])]
def r58_0 : IC := (.reg o58_0 [1, 2, 3])
def o58_1 : List IOp := [q (.load 6 (.t 3) 3 true),
 q (.load 7 (.t 1) 1 false),
 q (.call (some 8) 51 [.t 6, .t 7]),
 q (.val 9 .not [.t 8])]
def r58_1 : IC := (.reg o58_1 [1, 2, 3, 9])
def o58_2 : List IOp := [q (.val 4 .mov [.k (.p (.bool false))]),
 q (.val 5 .mov [ki 310])]
def r58_2 : IC := (.reg o58_2 [4, 5])
def o58_3 : List IOp := [q (.load 10 (.t 2) 1 false),
 q (.load 11 (.t 1) 1 false),
 q (.call (some 12) 59 [.t 10, .t 11]),
 q (.val 13 .not [.t 12]),
 mv 14 13,
 ⟨(some (14, true)), .load 15 (.t 3) 3 true, [], none⟩,
 ⟨(some (14, true)), .load 16 (.t 2) 1 false, [], none⟩,
 ⟨(some (14, true)), .load 17 (.t 1) 1 false, [], none⟩,
 ⟨(some (14, true)), .call (some 18) 60 [.t 15, .t 16, .t 17], [], none⟩,
 ⟨(some (14, true)), .val 19 .not [.t 18], [], none⟩,
 q (.val 20 .pick [.t 14, .t 19, .k (.p (.bool false))]),
 mv 21 20,
 ⟨(some (21, true)), .load 22 (.t 3) 3 true, [], none⟩,
 ⟨(some (21, true)), .load 23 (.t 1) 1 false, [], none⟩,
 ⟨(some (21, true)), .load 24 (.t 2) 1 false, [], none⟩,
 ⟨(some (21, true)), .call (some 25) 60 [.t 22, .t 23, .t 24], [], none⟩,
 ⟨(some (21, true)), .val 26 .not [.t 25], [], none⟩,
 q (.val 27 .pick [.t 21, .t 26, .k (.p (.bool false))]),
 mv 4 27,
 q (.val 5 .mov [ki 0])]
def r58_3 : IC := (.reg o58_3 [4, 5])
def b58 : IC := (.seq r58_0 (.seq (.seq r58_1 (.cond (.t 9) (.seq r58_2 .ret) .skip)) (.kp [1, 2, 3] (.seq r58_3 .ret))))
def i58 : IFn := ⟨3, 28, b58, [.tmp 4, .tmp 5]⟩
def o59_0 : List IOp := [q (.val 4 .mov [.k (.p (.bool false))])]
def r59_0 : IC := (.reg o59_0 [0, 1])
def o59_1 : List IOp := [mv 9 0,
 q (.val 10 .len [.t 9]),
 q (.val 11 .mov [ki 0])]
def r59_1 : IC := (.reg o59_1 [1, 9, 10, 11])
def o59_2 : List IOp := [q (.val 12 (.bin .lss) [.t 11, .t 10])]
def r59_2 : IC := (.reg o59_2 [1, 9, 10, 11, 12])
def o59_3 : List IOp := [q (.val 13 (.iaddrS 1) [.t 9, .t 11]),
 q (.load 14 (.t 13) 1 false),
 mv 6 14]
def r59_3 : IC := (.reg o59_3 [1, 6, 9, 10, 11])
def o59_4 : List IOp := [mv 15 1,
 q (.val 16 .len [.t 15]),
 q (.val 17 .mov [ki 0])]
def r59_4 : IC := (.reg o59_4 [1, 6, 9, 10, 11, 15, 16, 17])
def o59_5 : List IOp := [q (.val 18 (.bin .lss) [.t 17, .t 16])]
def r59_5 : IC := (.reg o59_5 [1, 6, 9, 10, 11, 15, 16, 17, 18])
def o59_6 : List IOp := [q (.val 19 (.iaddrS 1) [.t 15, .t 17]),
 q (.load 20 (.t 19) 1 false),
 mv 8 20]
def r59_6 : IC := (.reg o59_6 [1, 6, 8, 9, 10, 11, 15, 16, 17])
def o59_7 : List IOp := [mv 21 6,
 q (.val 22 (.bin .quo) [.t 21, ki 2]),
 mv 23 8,
 q (.val 24 (.bin .quo) [.t 23, ki 2]),
 q (.val 25 (.bin .eql) [.t 22, .t 24])]
def r59_7 : IC := (.reg o59_7 [1, 6, 9, 10, 11, 15, 16, 17, 25])
def o59_8 : List IOp := [q (.val 4 .mov [.k (.p (.bool true))])]
def r59_8 : IC := (.reg o59_8 [4])
def o59_9 : List IOp := [q (.val 26 (.bin .add) [.t 17, ki 1]),
 mv 17 26]
def r59_9 : IC := (.reg o59_9 [1, 6, 9, 10, 11, 15, 16, 17])
def l59_2 : IC := (.seq r59_5 (.seq (.cond (.t 18) .skip (.kp [1, 9, 10, 11] (.exit 2))) (.kp [1, 6, 9, 10, 11, 15, 16, 17] (.seq (.block 3 (.seq r59_6 (.seq r59_7 (.cond (.t 25) (.seq r59_8 .ret) .skip)))) (.kp [1, 6, 9, 10, 11, 15, 16, 17] r59_9)))))
def o59_10 : List IOp := [q (.val 27 (.bin .add) [.t 11, ki 1]),
 mv 11 27]
def r59_10 : IC := (.reg o59_10 [1, 9, 10, 11])
def l59_1 : IC := (.seq r59_2 (.seq (.cond (.t 12) .skip (.kp [] (.exit 0))) (.kp [1, 9, 10, 11] (.seq (.block 1 (.seq r59_3 (.seq r59_4 (.block 2 (.loop l59_2))))) r59_10))))
def o59_11 : List IOp := [q (.val 4 .mov [.k (.p (.bool false))])]
def r59_11 : IC := (.reg o59_11 [4])
def b59 : IC := (.seq r59_0 (.seq (.seq r59_1 (.block 0 (.loop l59_1))) (.seq r59_11 .ret)))
def i59 : IFn := ⟨2, 28, b59, [.tmp 4]⟩
def o60_0 : List IOp := [q (.boxL 3 (.t 0)),
 q (.val 6 .mov [.k (.p (.bool false))])]
def r60_0 : IC := (.reg o60_0 [1, 2, 3])
def o60_1 : List IOp := [q (.load 12 (.t 3) 3 true),
 mv 13 1,
 q (.call (some 14) 37 [.t 12, .t 13]),
 mv 7 14]
def r60_1 : IC := (.reg o60_1 [2, 3, 7])
def o60_2 : List IOp := [mv 15 7,
 q (.val 16 .len [.t 15]),
 q (.val 17 (.bin .sub) [.t 16, ki 1]),
 mv 8 17]
def r60_2 : IC := (.reg o60_2 [2, 3, 7, 8])
def o60_3 : List IOp := [q (.load 18 (.t 3) 3 true),
 mv 19 2,
 q (.call (some 20) 37 [.t 18, .t 19]),
 mv 9 20]
def r60_3 : IC := (.reg o60_3 [7, 8, 9])
def o60_4 : List IOp := [mv 21 7,
 mv 22 8,
 mv 23 8,
 q (.val 24 (.slice 1 true true true) [.t 21, ki 1, .t 22, .t 23]),
 q (.val 25 .len [.t 24]),
 q (.val 26 .mov [ki 0])]
def r60_4 : IC := (.reg o60_4 [9, 24, 25, 26])
def o60_5 : List IOp := [q (.val 27 (.bin .lss) [.t 26, .t 25])]
def r60_5 : IC := (.reg o60_5 [9, 24, 25, 26, 27])
def o60_6 : List IOp := [q (.val 28 (.iaddrS 1) [.t 24, .t 26]),
 q (.load 29 (.t 28) 1 false),
 mv 11 29]
def r60_6 : IC := (.reg o60_6 [9, 11, 24, 25, 26])
def o60_7 : List IOp := [mv 30 9,
 mv 31 11,
 q (.call (some 32) 77 [.t 30, .t 31])]
def r60_7 : IC := (.reg o60_7 [9, 24, 25, 26, 32])
def o60_8 : List IOp := [q (.val 6 .mov [.k (.p (.bool true))])]
def r60_8 : IC := (.reg o60_8 [6])
def o60_9 : List IOp := [q (.val 33 (.bin .add) [.t 26, ki 1]),
 mv 26 33]
def r60_9 : IC := (.reg o60_9 [9, 24, 25, 26])
def l60_1 : IC := (.seq r60_5 (.seq (.cond (.t 27) .skip (.kp [] (.exit 0))) (.kp [9, 24, 25, 26] (.seq (.block 1 (.seq r60_6 (.seq r60_7 (.cond (.t 32) (.seq r60_8 .ret) .skip)))) (.kp [9, 24, 25, 26] r60_9)))))
def o60_10 : List IOp := [q (.val 6 .mov [.k (.p (.bool false))])]
def r60_10 : IC := (.reg o60_10 [6])
def b60 : IC := (.seq r60_0 (.seq r60_1 (.seq r60_2 (.seq r60_3 (.seq (.seq r60_4 (.block 0 (.loop l60_1))) (.seq r60_10 .ret))))))
def i60 : IFn := ⟨3, 34, b60, [.tmp 6]⟩
def o62_0 : List IOp := [q (.boxH 2 (.t 0)),
 q (.boxH 3 (.t 1)),
 q (.val 4 .mov [.k (.nl .nilFunc)])]
def r62_0 : IC := (.reg o62_0 [2, 3])
def o62_1 : List IOp := [q (.val 5 (.mkfn 78 0) [.t 3, .t 2]),
 mv 4 5]
def r62_1 : IC := (.reg o62_1 [4])
def b62 : IC := (.seq r62_0 (.seq r62_1 .ret))
def i62 : IFn := ⟨2, 6, b62, [.tmp 4]⟩
def o64_0 : List IOp := [q (.boxL 4 (.t 0)),
 q (.boxL 5 (.t 1)),
 q (.newL 8 [.p (.int .i64 0), .p (.sl 1 true []), .p (.sl 4 true [])])]
def r64_0 : IC := (.reg o64_0 [2, 3, 4, 5, 8])
def o64_1 : List IOp := [q (.val 12 (.faddr 2) [.t 5]),
 q (.load 13 (.t 12) 1 false),
 q (.val 14 .len [.t 13]),
 mv 9 14]
def r64_1 : IC := (.reg o64_1 [2, 3, 4, 5, 8, 9])
def o64_2 : List IOp := [mv 15 2,
 mv 16 3,
 q (.val 17 (.faddr 4) [.t 4]),
 ⟨none, .loadL 18 (.t 17) 1 false, [2], none⟩,
 mv 19 9,
 ⟨none, .callP 20 65 [.t 18, .t 19], [2, 3, 4], none⟩,
 ⟨none, .val 21 (.bin .rem) [.t 20, ki 20], [2, 3, 4, 5], none⟩,
 ⟨none, .val 22 (.bin .add) [ki 1, .t 21], [2, 3, 4, 5, 6], none⟩,
 q (.val 23 (.faddr 5) [.t 4]),
 ⟨none, .loadL 24 (.t 23) 1 false, [8], none⟩,
 mv 25 9,
 ⟨none, .callP 26 65 [.t 24, .t 25], [2, 3, 4, 5, 8, 9, 10], none⟩,
 ⟨none, .val 27 (.bin .rem) [.t 26, ki 50], [2, 3, 4, 5, 8, 9, 10, 11], none⟩,
 ⟨none, .val 28 (.build [.p (.int .i64 0), .p (.int .i64 0), .p (.int .i64 0), .p (.int .i64 0)] [(0, 1), (1, 1), (2, 1), (3, 1)]) [.t 15, .t 16, .t 22, .t 27], [0, 1, 2, 3, 4, 5, 6, 7, 8, 9, 10, 11, 12], none⟩,
 q (.newL 10 [.p (.int .i64 0), .p (.int .i64 0), .p (.int .i64 0), .p (.int .i64 0)]),
 ⟨none, .store (.t 10) (.t 28) 4, [0, 1, 2, 3, 4, 5, 6, 7, 8, 9, 10, 11, 12, 13, 14], none⟩]
def r64_2 : IC := (.regD o64_2 [2, 3, 5, 8, 9, 10])
def o64_3 : List IOp := [mv 29 9,
 q (.val 30 (.bin .eql) [.t 29, ki 24]),
 mv 31 30,
 ⟨(some (31, false)), .load 32 (.t 5) 3 true, [], none⟩,
 ⟨(some (31, false)), .load 33 (.t 10) 4 true, [], none⟩,
 ⟨(some (31, false)), .call (some 34) 70 [.t 32, .t 33], [], none⟩,
 ⟨(some (31, false)), .val 35 .not [.t 34], [], none⟩,
 q (.val 36 .pick [.t 31, .k (.p (.bool true)), .t 35])]
def r64_3 : IC := (.reg o64_3 [2, 3, 5, 8, 9, 10, 36])
def o64_4 : List IOp := [q (.load 37 (.t 5) 3 true),
 q (.store (.t 8) (.t 37) 3)]
def r64_4 : IC := (.reg o64_4 [8])
def o64_5 : List IOp := [q (.val 11 .mov [ki 0])]
def r64_5 : IC := (.reg o64_5 [2, 3, 5, 8, 9, 10, 11])
def o64_6 : List IOp := [mv 38 11,
 mv 39 9,
 q (.val 40 (.bin .lss) [.t 38, .t 39])]
def r64_6 : IC := (.reg o64_6 [2, 3, 5, 8, 9, 10, 11, 40])
def o64_8 : List IOp := [q (.val 43 (.faddr 2) [.t 5]),
 q (.load 44 (.t 43) 1 false),
 mv 45 11,
 q (.val 46 (.iaddrS 4) [.t 44, .t 45]),
 q (.load 47 (.t 46) 4 true),
 mv 48 2,
 mv 49 3,
 q (.call (some 50) 71 [.t 47, .t 48, .t 49])]
def r64_8 : IC := (.reg o64_8 [2, 3, 5, 8, 9, 10, 11, 50])
def o64_9 : List IOp := [q (.load 51 (.t 5) 3 true),
 q (.store (.t 8) (.t 51) 3)]
def r64_9 : IC := (.reg o64_9 [8])
def o64_7 : List IOp := [mv 41 11,
 q (.val 42 (.bin .add) [.t 41, ki 1]),
 mv 11 42]
def r64_7 : IC := (.reg o64_7 [2, 3, 5, 8, 9, 10, 11])
def l64_1 : IC := (.seq (.seq r64_6 (.cond (.t 40) .skip (.kp [5, 8, 10] (.exit 0)))) (.kp [2, 3, 5, 8, 9, 10, 11] (.seq (.block 1 (.seq r64_8 (.cond (.t 50) (.seq r64_9 .ret) .skip))) (.kp [2, 3, 5, 8, 9, 10, 11] r64_7))))
def o64_10 : List IOp := [q (.val 52 (.faddr 2) [.t 5]),
 q (.load 53 (.t 52) 1 false),
 q (.load 54 (.t 10) 4 true),
 q (.litP 55 4 [.t 54]),
 q (.app 56 (.t 53) (.t 55) 4 32),
 q (.val 57 (.faddr 2) [.t 5]),
 q (.store (.t 57) (.t 56) 1)]
def r64_10 : IC := (.reg o64_10 [5, 8])
def o64_11 : List IOp := [q (.load 58 (.t 5) 3 true),
 q (.store (.t 8) (.t 58) 3)]
def r64_11 : IC := (.reg o64_11 [8])
def b64 : IC := (.seq r64_0 (.seq r64_1 (.seq r64_2 (.seq (.seq r64_3 (.cond (.t 36) (.seq r64_4 .ret) .skip)) (.kp [2, 3, 5, 8, 9, 10] (.seq (.seq r64_5 (.block 0 (.loop l64_1))) (.seq r64_10 (.seq r64_11 .ret))))))))
def i64 : IFn := ⟨4, 59, b64, [.cell 8 3 true]⟩
def o65_0 : List IOp := [q (.val 4 .mov [ki 0])]
def r65_0 : IC := (.reg o65_0 [0, 1])
def o65_1 : List IOp := [mv 5 1,
 mv 6 0,
 q (.val 7 .len [.t 6]),
 q (.val 8 (.bin .lss) [.t 5, .t 7])]
def r65_1 : IC := (.reg o65_1 [0, 1, 8])
def o65_2 : List IOp := [mv 9 0,
 mv 10 1,
 q (.val 11 (.iaddrS 1) [.t 9, .t 10]),
 q (.load 12 (.t 11) 1 false),
 q (.val 13 (.conv .i64) [.t 12]),
 mv 4 13]
def r65_2 : IC := (.reg o65_2 [4])
def o65_3 : List IOp := [q (.val 4 .mov [ki 0])]
def r65_3 : IC := (.reg o65_3 [4])
def b65 : IC := (.seq r65_0 (.seq (.seq r65_1 (.cond (.t 8) (.seq r65_2 .ret) .skip)) (.kp [] (.seq r65_3 .ret))))
def i65 : IFn := ⟨2, 14, b65, [.tmp 4]⟩
def o66_0 : List IOp := [q (.boxL 2 (.t 0)),
 q (.val 4 .mov [.k (.p (.sl 1 true []))])]
def r66_0 : IC := (.reg o66_0 [1, 2])
def o66_1 : List IOp := [q (.val 5 .mov [.k (.p (.sl 1 true []))])]
def r66_1 : IC := (.reg o66_1 [1, 2, 5])
def o66_2 : List IOp := [q (.val 6 .mov [ki 0])]
def r66_2 : IC := (.reg o66_2 [1, 2, 5, 6])
def o66_3 : List IOp := [mv 7 6,
 q (.val 8 (.faddr 2) [.t 2]),
 q (.load 9 (.t 8) 1 false),
 q (.val 10 .len [.t 9]),
 q (.val 11 (.bin .mul) [ki 2, .t 10]),
 q (.val 12 (.bin .lss) [.t 7, .t 11])]
def r66_3 : IC := (.reg o66_3 [1, 2, 5, 6, 12])
def o66_5 : List IOp := [q (.load 15 (.t 2) 3 true),
 mv 16 6,
 q (.call (some 17) 52 [.t 15, .t 16]),
 mv 18 1,
 q (.val 19 (.bin .eql) [.t 17, .t 18])]
def r66_5 : IC := (.reg o66_5 [1, 2, 5, 6, 19])
def o66_6 : List IOp := [mv 20 5,
 mv 21 6,
 q (.litP 22 1 [.t 21]),
 q (.app 23 (.t 20) (.t 22) 1 8),
 mv 5 23]
def r66_6 : IC := (.reg o66_6 [1, 2, 5, 6])
def o66_4 : List IOp := [mv 13 6,
 q (.val 14 (.bin .add) [.t 13, ki 1]),
 mv 6 14]
def r66_4 : IC := (.reg o66_4 [1, 2, 5, 6])
def l66_1 : IC := (.seq (.seq r66_3 (.cond (.t 12) .skip (.kp [5] (.exit 0)))) (.kp [1, 2, 5, 6] (.seq (.block 1 (.seq r66_5 (.cond (.t 19) r66_6 .skip))) (.kp [1, 2, 5, 6] r66_4))))
def o66_7 : List IOp := [mv 24 5,
 mv 4 24]
def r66_7 : IC := (.reg o66_7 [4])
def b66 : IC := (.seq r66_0 (.seq r66_1 (.seq (.seq r66_2 (.block 0 (.loop l66_1))) (.seq r66_7 .ret))))
def i66 : IFn := ⟨2, 25, b66, [.tmp 4]⟩
def o67_0 : List IOp := [q (.val 4 .mov [.k (.p (.bool false))])]
def r67_0 : IC := (.reg o67_0 [0, 1])
def o67_1 : List IOp := [q (.val 5 .mov [ki 0])]
def r67_1 : IC := (.reg o67_1 [0, 1, 5])
def o67_2 : List IOp := [mv 6 5,
 mv 7 0,
 q (.val 8 .len [.t 7]),
 q (.val 9 (.bin .lss) [.t 6, .t 8])]
def r67_2 : IC := (.reg o67_2 [0, 1, 5, 9])
def o67_4 : List IOp := [mv 12 0,
 mv 13 5,
 q (.val 14 (.iaddrS 1) [.t 12, .t 13]),
 q (.load 15 (.t 14) 1 false),
 mv 16 1,
 q (.val 17 (.bin .eql) [.t 15, .t 16])]
def r67_4 : IC := (.reg o67_4 [0, 1, 5, 17])
def o67_5 : List IOp := [q (.val 4 .mov [.k (.p (.bool true))])]
def r67_5 : IC := (.reg o67_5 [4])
def o67_3 : List IOp := [mv 10 5,
 q (.val 11 (.bin .add) [.t 10, ki 1]),
 mv 5 11]
def r67_3 : IC := (.reg o67_3 [0, 1, 5])
def l67_1 : IC := (.seq (.seq r67_2 (.cond (.t 9) .skip (.kp [] (.exit 0)))) (.kp [0, 1, 5] (.seq (.block 1 (.seq r67_4 (.cond (.t 17) (.seq r67_5 .ret) .skip))) (.kp [0, 1, 5] r67_3))))
def o67_6 : List IOp := [q (.val 4 .mov [.k (.p (.bool false))])]
def r67_6 : IC := (.reg o67_6 [4])
def b67 : IC := (.seq r67_0 (.seq (.seq r67_1 (.block 0 (.loop l67_1))) (.seq r67_6 .ret)))
def i67 : IFn := ⟨2, 18, b67, [.tmp 4]⟩
def o68_0 : List IOp := [q (.load 4 (.t 1) 1 false),
 q (.val 5 .len [.t 4]),
 q (.val 6 (.bin .sub) [.t 5, ki 1]),
 mv 3 6]
def r68_0 : IC := (.reg o68_0 [0, 1, 3])
def o68_1 : List IOp := [mv 7 3,
 q (.val 8 (.bin .geq) [.t 7, ki 0])]
def r68_1 : IC := (.reg o68_1 [0, 1, 3, 8])
def o68_3 : List IOp := [mv 11 0,
 mv 12 3,
 q (.load 13 (.t 1) 1 false),
 mv 14 3,
 q (.val 15 (.iaddrS 1) [.t 13, .t 14]),
 q (.load 16 (.t 15) 1 false),
 q (.callY (some 17) (.t 11) [.t 12, .t 16]),
 q (.val 18 .not [.t 17])]
def r68_3 : IC := (.reg o68_3 [0, 1, 3, 18])
def o68_2 : List IOp := [mv 9 3,
 q (.val 10 (.bin .sub) [.t 9, ki 1]),
 mv 3 10]
def r68_2 : IC := (.reg o68_2 [0, 1, 3])
def l68_1 : IC := (.seq (.seq r68_1 (.cond (.t 8) .skip (.kp [] (.exit 0)))) (.kp [0, 1, 3] (.seq (.block 1 (.seq r68_3 (.cond (.t 18) .ret .skip))) (.kp [0, 1, 3] r68_2))))
def b68 : IC := (.seq r68_0 (.block 0 (.loop l68_1)))
def i68 : IFn := ⟨2, 19, b68, []⟩
def o69_0 : List IOp := [q (.boxL 2 (.t 0)),
 q (.val 4 .mov [ki 0]),
 q (.val 5 .mov [ki 0])]
def r69_0 : IC := (.reg o69_0 [1, 2])
def o69_1 : List IOp := [q (.load 6 (.t 2) 3 true),
 mv 7 1,
 q (.call (some 8) 79 [.t 6, .t 7, .k (.fn 80 [] [])]),
 q (.val 9 (.ext 0) [.t 8]),
 q (.val 10 (.ext 1) [.t 8]),
 mv 4 9,
 mv 5 10]
def r69_1 : IC := (.reg o69_1 [4, 5])
def b69 : IC := (.seq r69_0 (.seq r69_1 .ret))
def i69 : IFn := ⟨2, 11, b69, [.tmp 4, .tmp 5]⟩
def o70_0 : List IOp := [q (.boxL 2 (.t 0)),
 q (.boxL 3 (.t 1)),
 q (.val 4 .mov [.k (.p (.bool false))])]
def r70_0 : IC := (.reg o70_0 [2, 3])
def o70_1 : List IOp := [q (.load 5 (.t 2) 3 true),
 q (.val 6 (.faddr 0) [.t 3]),
 q (.load 7 (.t 6) 1 false),
 q (.call (some 8) 81 [.t 5, .t 7]),
 q (.val 9 .not [.t 8]),
 mv 10 9,
 ⟨(some (10, false)), .load 11 (.t 2) 3 true, [], none⟩,
 ⟨(some (10, false)), .val 12 (.faddr 1) [.t 3], [], none⟩,
 ⟨(some (10, false)), .load 13 (.t 12) 1 false, [], none⟩,
 ⟨(some (10, false)), .call (some 14) 81 [.t 11, .t 13], [], none⟩,
 ⟨(some (10, false)), .val 15 .not [.t 14], [], none⟩,
 q (.val 16 .pick [.t 10, .k (.p (.bool true)), .t 15]),
 mv 17 16,
 ⟨(some (17, false)), .val 18 (.faddr 0) [.t 3], [], none⟩,
 ⟨(some (17, false)), .load 19 (.t 18) 1 false, [], none⟩,
 ⟨(some (17, false)), .val 20 (.faddr 1) [.t 3], [], none⟩,
 ⟨(some (17, false)), .load 21 (.t 20) 1 false, [], none⟩,
 ⟨(some (17, false)), .val 22 (.bin .eql) [.t 19, .t 21], [], none⟩,
 q (.val 23 .pick [.t 17, .k (.p (.bool true)), .t 22]),
 mv 24 23,
 ⟨(some (24, false)), .val 25 (.faddr 1) [.t 2], [], none⟩,
 ⟨(some (24, false)), .load 26 (.t 25) 1 false, [], none⟩,
 ⟨(some (24, false)), .val 27 (.faddr 0) [.t 3], [], none⟩,
 ⟨(some (24, false)), .load 28 (.t 27) 1 false, [], none⟩,
 ⟨(some (24, false)), .val 29 (.iaddrS 1) [.t 26, .t 28], [], none⟩,
 ⟨(some (24, false)), .load 30 (.t 29) 1 false, [], none⟩,
 ⟨(some (24, false)), .val 31 .mov [.t 30], [], none⟩,
 ⟨(some (31, true)), .val 32 (.faddr 1) [.t 2], [], none⟩,
 ⟨(some (31, true)), .load 33 (.t 32) 1 false, [], none⟩,
 ⟨(some (31, true)), .val 34 (.faddr 1) [.t 3], [], none⟩,
 ⟨(some (31, true)), .load 35 (.t 34) 1 false, [], none⟩,
 ⟨(some (31, true)), .val 36 (.iaddrS 1) [.t 33, .t 35], [], none⟩,
 ⟨(some (31, true)), .load 37 (.t 36) 1 false, [], none⟩,
 ⟨(some (24, false)), .val 38 .pick [.t 31, .t 37, .k (.p (.bool false))], [], none⟩,
 q (.val 39 .pick [.t 24, .k (.p (.bool true)), .t 38])]
def r70_1 : IC := (.reg o70_1 [3, 39])
def o70_2 : List IOp := [q (.val 4 .mov [.k (.p (.bool false))])]
def r70_2 : IC := (.reg o70_2 [4])
def o70_3 : List IOp := [q (.val 40 (.faddr 2) [.t 3]),
 q (.load 41 (.t 40) 1 false),
 q (.val 42 (.bin .geq) [.t 41, ki 1]),
 mv 43 42,
 ⟨(some (43, true)), .val 44 (.faddr 2) [.t 3], [], none⟩,
 ⟨(some (43, true)), .load 45 (.t 44) 1 false, [], none⟩,
 ⟨(some (43, true)), .val 46 (.bin .leq) [.t 45, ki 1000], [], none⟩,
 q (.val 47 .pick [.t 43, .t 46, .k (.p (.bool false))]),
 mv 48 47,
 ⟨(some (48, true)), .val 49 (.faddr 3) [.t 3], [], none⟩,
 ⟨(some (48, true)), .load 50 (.t 49) 1 false, [], none⟩,
 ⟨(some (48, true)), .val 51 (.bin .geq) [.t 50, ki 0], [], none⟩,
 q (.val 52 .pick [.t 48, .t 51, .k (.p (.bool false))]),
 mv 53 52,
 ⟨(some (53, true)), .val 54 (.faddr 3) [.t 3], [], none⟩,
 ⟨(some (53, true)), .load 55 (.t 54) 1 false, [], none⟩,
 ⟨(some (53, true)), .val 56 (.bin .leq) [.t 55, ki 10000], [], none⟩,
 q (.val 57 .pick [.t 53, .t 56, .k (.p (.bool false))]),
 mv 4 57]
def r70_3 : IC := (.reg o70_3 [4])
def b70 : IC := (.seq r70_0 (.seq (.seq r70_1 (.cond (.t 39) (.seq r70_2 .ret) .skip)) (.kp [3] (.seq r70_3 .ret))))
def i70 : IFn := ⟨2, 58, b70, [.tmp 4]⟩
def o71_0 : List IOp := [q (.boxL 3 (.t 0)),
 q (.val 6 .mov [.k (.p (.bool false))])]
def r71_0 : IC := (.reg o71_0 [1, 2, 3])
def o71_1 : List IOp := [q (.val 7 (.faddr 0) [.t 3]),
 q (.load 8 (.t 7) 1 false),
 mv 9 1,
 q (.val 10 (.bin .eql) [.t 8, .t 9]),
 mv 11 10,
 ⟨(some (11, true)), .val 12 (.faddr 1) [.t 3], [], none⟩,
 ⟨(some (11, true)), .load 13 (.t 12) 1 false, [], none⟩,
 ⟨(some (11, true)), .val 14 .mov [.t 2], [], none⟩,
 ⟨(some (11, true)), .val 15 (.bin .eql) [.t 13, .t 14], [], none⟩,
 q (.val 16 .pick [.t 11, .t 15, .k (.p (.bool false))]),
 mv 17 16,
 ⟨(some (17, false)), .val 18 (.faddr 0) [.t 3], [], none⟩,
 ⟨(some (17, false)), .load 19 (.t 18) 1 false, [], none⟩,
 ⟨(some (17, false)), .val 20 .mov [.t 2], [], none⟩,
 ⟨(some (17, false)), .val 21 (.bin .eql) [.t 19, .t 20], [], none⟩,
 ⟨(some (17, false)), .val 22 .mov [.t 21], [], none⟩,
 ⟨(some (22, true)), .val 23 (.faddr 1) [.t 3], [], none⟩,
 ⟨(some (22, true)), .load 24 (.t 23) 1 false, [], none⟩,
 ⟨(some (22, true)), .val 25 .mov [.t 1], [], none⟩,
 ⟨(some (22, true)), .val 26 (.bin .eql) [.t 24, .t 25], [], none⟩,
 ⟨(some (17, false)), .val 27 .pick [.t 22, .t 26, .k (.p (.bool false))], [], none⟩,
 q (.val 28 .pick [.t 17, .k (.p (.bool true)), .t 27]),
 mv 6 28]
def r71_1 : IC := (.reg o71_1 [6])
def b71 : IC := (.seq r71_0 (.seq r71_1 .ret))
def i71 : IFn := ⟨3, 29, b71, [.tmp 6]⟩
def o74_0 : List IOp := [q (.boxH 1 (.t 0)),
 q (.val 2 .mov [.k (.p (.bool false))])]
def r74_0 : IC := (.reg o74_0 [1])
def o74_1 : List IOp := [q (.val 7 (.mkfn 82 0) [.t 1]),
 q (.val 8 (.mkfn 84 0) [.t 1]),
 q (.val 9 (.mkfn 85 0) [.t 1]),
 q (.val 10 (.mkfn 86 0) [.t 1]),
 q (.val 11 (.build [.nl .nilFunc, .nl .nilFunc, .nl .nilFunc, .nl .nilFunc] [(0, 1), (1, 1), (2, 1), (3, 1)]) [.t 7, .t 8, .t 9, .t 10]),
 q (.newL 3 [.nl .nilFunc, .nl .nilFunc, .nl .nilFunc, .nl .nilFunc]),
 q (.store (.t 3) (.t 11) 4)]
def r74_1 : IC := (.reg o74_1 [1, 3])
def o74_2 : List IOp := [q (.val 12 (.faddr 2) [.t 1]),
 q (.load 13 (.t 12) 1 false),
 q (.val 14 .len [.t 13]),
 q (.val 15 .mov [ki 0])]
def r74_2 : IC := (.reg o74_2 [3, 14, 15])
def o74_3 : List IOp := [q (.val 16 (.bin .lss) [.t 15, .t 14])]
def r74_3 : IC := (.reg o74_3 [3, 14, 15, 16])
def o74_4 : List IOp := [mv 17 15,
 mv 4 17]
def r74_4 : IC := (.reg o74_4 [3, 4, 14, 15])
def o74_5 : List IOp := [q (.load 18 (.t 3) 4 true),
 q (.val 19 .mov [ki 0])]
def r74_5 : IC := (.reg o74_5 [3, 4, 14, 15, 18, 19])
def o74_6 : List IOp := [q (.val 20 (.bin .lss) [.t 19, ki 4])]
def r74_6 : IC := (.reg o74_6 [3, 4, 14, 15, 18, 19, 20])
def o74_7 : List IOp := [q (.val 21 (.idx 4 1 false) [.t 18, .t 19]),
 mv 6 21]
def r74_7 : IC := (.reg o74_7 [3, 4, 6, 14, 15, 18, 19])
def o74_8 : List IOp := [mv 22 6,
 mv 23 4,
 q (.callV (some 24) (.t 22) [.t 23]),
 q (.val 25 .not [.t 24])]
def r74_8 : IC := (.reg o74_8 [3, 4, 14, 15, 18, 19, 25])
def o74_9 : List IOp := [q (.val 2 .mov [.k (.p (.bool false))])]
def r74_9 : IC := (.reg o74_9 [2])
def o74_10 : List IOp := [q (.val 26 (.bin .add) [.t 19, ki 1]),
 mv 19 26]
def r74_10 : IC := (.reg o74_10 [3, 4, 14, 15, 18, 19])
def l74_2 : IC := (.seq r74_6 (.seq (.cond (.t 20) .skip (.kp [3, 14, 15] (.exit 2))) (.kp [3, 4, 14, 15, 18, 19] (.seq (.block 3 (.seq r74_7 (.seq r74_8 (.cond (.t 25) (.seq r74_9 .ret) .skip)))) (.kp [3, 4, 14, 15, 18, 19] r74_10)))))
def o74_11 : List IOp := [q (.val 27 (.bin .add) [.t 15, ki 1]),
 mv 15 27]
def r74_11 : IC := (.reg o74_11 [3, 14, 15])
def l74_1 : IC := (.seq r74_3 (.seq (.cond (.t 16) .skip (.kp [] (.exit 0))) (.kp [3, 14, 15] (.seq (.block 1 (.seq r74_4 (.seq r74_5 (.block 2 (.loop l74_2))))) r74_11))))
def o74_12 : List IOp := [q (.val 2 .mov [.k (.p (.bool true))])]
def r74_12 : IC := (.reg o74_12 [2])
def b74 : IC := (.seq r74_0 (.seq r74_1 (.seq (.seq r74_2 (.block 0 (.loop l74_1))) (.seq r74_12 .ret))))
def i74 : IFn := ⟨1, 28, b74, [.tmp 2]⟩
def o75_0 : List IOp := [q (.val 4 .mov [.k (.p (.bool false))])]
def r75_0 : IC := (.reg o75_0 [0, 1])
def o75_1 : List IOp := [mv 5 0,
 mv 6 1,
 q (.call (some 7) 87 [.t 5, .t 6]),
 q (.val 8 (.bin .geq) [.t 7, ki 0]),
 mv 4 8]
def r75_1 : IC := (.reg o75_1 [4])
def b75 : IC := (.seq r75_0 (.seq r75_1 .ret))
def i75 : IFn := ⟨2, 9, b75, [.tmp 4]⟩
def o76_0 : List IOp := [q (.boxL 3 (.t 0)),
 q (.boxL 5 (.t 2)),
 q (.val 6 .mov [.k (.p (.sl 1 true []))])]
def r76_0 : IC := (.reg o76_0 [1, 3, 5])
def o76_1 : List IOp := [q (.val 10 (.faddr 0) [.t 3]),
 q (.load 11 (.t 10) 1 false),
 q (.mkSl 12 (.t 11) (.t 11) [.bool false] 1),
 mv 7 12]
def r76_1 : IC := (.reg o76_1 [1, 3, 5, 7])
def o76_2 : List IOp := [mv 13 7,
 mv 14 1,
 q (.val 15 (.iaddrS 1) [.t 13, .t 14]),
 q (.store (.t 15) (.k (.p (.bool true))) 1)]
def r76_2 : IC := (.reg o76_2 [3, 5, 7])
def o76_3 : List IOp := [q (.val 16 (.faddr 0) [.t 3]),
 q (.load 17 (.t 16) 1 false),
 q (.val 18 .mov [ki 0])]
def r76_3 : IC := (.reg o76_3 [3, 5, 7, 17, 18])
def o76_4 : List IOp := [q (.val 19 (.bin .lss) [.t 18, .t 17])]
def r76_4 : IC := (.reg o76_4 [3, 5, 7, 17, 18, 19])
def o76_5 : List IOp := [q (.val 20 (.faddr 2) [.t 3]),
 q (.load 21 (.t 20) 1 false),
 q (.val 22 .len [.t 21]),
 q (.val 23 .mov [ki 0])]
def r76_5 : IC := (.reg o76_5 [3, 5, 7, 17, 18, 21, 22, 23])
def o76_6 : List IOp := [q (.val 24 (.bin .lss) [.t 23, .t 22])]
def r76_6 : IC := (.reg o76_6 [3, 5, 7, 17, 18, 21, 22, 23, 24])
def o76_7 : List IOp := [mv 25 23,
 q (.val 26 (.iaddrS 4) [.t 21, .t 23]),
 q (.load 27 (.t 26) 4 true),
 q (.newL 9 [.p (.int .i64 0), .p (.int .i64 0), .p (.int .i64 0), .p (.int .i64 0)]),
 mv 8 25,
 q (.store (.t 9) (.t 27) 4)]
def r76_7 : IC := (.reg o76_7 [3, 5, 7, 8, 9, 17, 18, 21, 22, 23])
def o76_8 : List IOp := [mv 28 8,
 ⟨none, .val 29 (.iaddr 24 1) [.t 5, .t 28], [0], none⟩,
 ⟨none, .loadL 30 (.t 29) 1 false, [0, 1], none⟩,
 ⟨none, .val 31 .not [.t 30], [0, 1, 2], none⟩,
 ⟨none, .val 32 .mov [.t 31], [0, 1, 2, 3], none⟩,
 ⟨(some (32, true)), .val 33 .mov [.t 7], [0, 1, 2, 3, 4], none⟩,
 ⟨(some (32, true)), .val 34 (.faddr 0) [.t 9], [0, 1, 2, 3, 4], none⟩,
 ⟨(some (32, true)), .loadL 35 (.t 34) 1 false, [0, 1, 2, 3, 4, 6], none⟩,
 ⟨(some (32, true)), .val 36 (.iaddrS 1) [.t 33, .t 35], [0, 1, 2, 3, 4, 5, 6, 7], none⟩,
 ⟨(some (32, true)), .load 37 (.t 36) 1 false, [0, 1, 2, 3, 4, 5, 6, 7, 8], none⟩,
 ⟨(some (32, true)), .val 38 .mov [.t 7], [0, 1, 2, 3, 4], none⟩,
 ⟨(some (32, true)), .val 39 (.faddr 1) [.t 9], [0, 1, 2, 3, 4], none⟩,
 ⟨(some (32, true)), .loadL 40 (.t 39) 1 false, [0, 1, 2, 3, 4, 11], none⟩,
 ⟨(some (32, true)), .val 41 (.iaddrS 1) [.t 38, .t 40], [0, 1, 2, 3, 4, 10, 11, 12], none⟩,
 ⟨(some (32, true)), .load 42 (.t 41) 1 false, [0, 1, 2, 3, 4, 10, 11, 12, 13], none⟩,
 ⟨(some (32, true)), .val 43 (.eqB true) [.t 37, .t 42], [0, 1, 2, 3, 4, 5, 6, 7, 8, 9, 10, 11, 12, 13, 14], none⟩,
 ⟨none, .val 44 .pick [.t 32, .t 43, .k (.p (.bool false))], [0, 1, 2, 3, 4, 5, 6, 7, 8, 9, 10, 11, 12, 13, 14, 15], none⟩]
def r76_8 : IC := (.regD o76_8 [3, 5, 7, 9, 17, 18, 21, 22, 23, 44])
def o76_9 : List IOp := [mv 45 7,
 q (.val 46 (.faddr 0) [.t 9]),
 ⟨none, .loadL 47 (.t 46) 1 false, [1], none⟩,
 mv 48 7,
 q (.val 49 (.faddr 1) [.t 9]),
 ⟨none, .loadL 50 (.t 49) 1 false, [4], none⟩,
 ⟨none, .val 51 (.iaddrS 1) [.t 45, .t 47], [0, 1, 2], none⟩,
 ⟨none, .storeH (.t 51) (.k (.p (.bool true))) 1, [0, 1, 2, 6], none⟩,
 ⟨none, .val 52 (.iaddrS 1) [.t 48, .t 50], [0, 1, 2, 3, 4, 5, 6, 7], none⟩,
 ⟨none, .storeH (.t 52) (.k (.p (.bool true))) 1, [0, 1, 2, 3, 4, 5, 6, 7, 8], none⟩]
def r76_9 : IC := (.regD o76_9 [3, 5, 7, 17, 18, 21, 22, 23])
def o76_10 : List IOp := [q (.val 53 (.bin .add) [.t 23, ki 1]),
 mv 23 53]
def r76_10 : IC := (.reg o76_10 [3, 5, 7, 17, 18, 21, 22, 23])
def l76_2 : IC := (.seq r76_6 (.seq (.cond (.t 24) .skip (.kp [3, 5, 7, 17, 18] (.exit 2))) (.kp [3, 5, 7, 17, 18, 21, 22, 23] (.seq (.block 3 (.seq r76_7 (.seq r76_8 (.cond (.t 44) r76_9 .skip)))) (.kp [3, 5, 7, 17, 18, 21, 22, 23] r76_10)))))
def o76_11 : List IOp := [q (.val 54 (.bin .add) [.t 18, ki 1]),
 mv 18 54]
def r76_11 : IC := (.reg o76_11 [3, 5, 7, 17, 18])
def l76_1 : IC := (.seq r76_4 (.seq (.cond (.t 19) .skip (.kp [7] (.exit 0))) (.kp [3, 5, 7, 17, 18] (.seq (.block 1 (.seq r76_5 (.block 2 (.loop l76_2)))) r76_11))))
def o76_12 : List IOp := [mv 55 7,
 mv 6 55]
def r76_12 : IC := (.reg o76_12 [6])
def b76 : IC := (.seq r76_0 (.seq r76_1 (.seq r76_2 (.seq (.seq r76_3 (.block 0 (.loop l76_1))) (.seq r76_12 .ret)))))
def i76 : IFn := ⟨3, 56, b76, [.tmp 6]⟩
def o77_0 : List IOp := [q (.val 4 .mov [.k (.p (.bool false))])]
def r77_0 : IC := (.reg o77_0 [0, 1])
def o77_1 : List IOp := [mv 5 0,
 mv 6 1,
 q (.call (some 7) 88 [.t 5, .t 6]),
 q (.val 8 (.bin .geq) [.t 7, ki 0]),
 mv 4 8]
def r77_1 : IC := (.reg o77_1 [4])
def b77 : IC := (.seq r77_0 (.seq r77_1 .ret))
def i77 : IFn := ⟨2, 9, b77, [.tmp 4]⟩
def o78_0 : List IOp := [q (.load 8 (.t 1) 1 false),
 q (.val 9 .len [.t 8]),
 q (.val 10 .mov [ki 0])]
def r78_0 : IC := (.reg o78_0 [0, 2, 8, 9, 10])
def o78_1 : List IOp := [q (.val 11 (.bin .lss) [.t 10, .t 9])]
def r78_1 : IC := (.reg o78_1 [0, 2, 8, 9, 10, 11])
def o78_2 : List IOp := [mv 12 10,
 q (.val 13 (.iaddrS 1) [.t 8, .t 10]),
 q (.load 14 (.t 13) 1 false),
 mv 4 12,
 mv 5 14]
def r78_2 : IC := (.reg o78_2 [0, 2, 4, 5, 8, 9, 10])
def o78_3 : List IOp := [mv 15 5,
 q (.val 16 (.bin .lss) [.t 15, ki 0]),
 mv 17 16,
 ⟨(some (17, false)), .val 18 .mov [.t 5], [], none⟩,
 ⟨(some (17, false)), .val 19 (.faddr 0) [.t 2], [], none⟩,
 ⟨(some (17, false)), .val 20 (.faddr 2) [.t 19], [], none⟩,
 ⟨(some (17, false)), .load 21 (.t 20) 1 false, [], none⟩,
 ⟨(some (17, false)), .val 22 .len [.t 21], [], none⟩,
 ⟨(some (17, false)), .val 23 (.bin .mul) [ki 2, .t 22], [], none⟩,
 ⟨(some (17, false)), .val 24 (.bin .geq) [.t 18, .t 23], [], none⟩,
 q (.val 25 .pick [.t 17, .k (.p (.bool true)), .t 24])]
def r78_3 : IC := (.reg o78_3 [0, 2, 4, 5, 8, 9, 10, 25])
def o78_4 : List IOp := [q (.val 26 (.faddr 0) [.t 2]),
 q (.val 27 (.faddr 2) [.t 26]),
 q (.load 28 (.t 27) 1 false),
 mv 29 5,
 q (.val 30 (.bin .quo) [.t 29, ki 2]),
 q (.val 31 (.iaddrS 4) [.t 28, .t 30]),
 q (.load 32 (.t 31) 4 true),
 q (.newL 6 [.p (.int .i64 0), .p (.int .i64 0), .p (.int .i64 0), .p (.int .i64 0)]),
 q (.store (.t 6) (.t 32) 4)]
def r78_4 : IC := (.reg o78_4 [0, 2, 4, 5, 6, 8, 9, 10])
def o78_5 : List IOp := [mv 33 5,
 q (.val 34 (.faddr 0) [.t 6]),
 q (.load 35 (.t 34) 1 false),
 q (.val 36 (.faddr 1) [.t 6]),
 q (.load 37 (.t 36) 1 false),
 q (.val 38 (.build [.p (.int .i64 0), .p (.int .i64 0), .p (.int .i64 0)] [(0, 1), (1, 1), (2, 1)]) [.t 33, .t 35, .t 37]),
 q (.newL 7 [.p (.int .i64 0), .p (.int .i64 0), .p (.int .i64 0)]),
 q (.store (.t 7) (.t 38) 3)]
def r78_5 : IC := (.reg o78_5 [0, 2, 4, 5, 6, 7, 8, 9, 10])
def o78_6 : List IOp := [mv 39 5,
 q (.val 40 (.bin .rem) [.t 39, ki 2]),
 q (.val 41 (.bin .eql) [.t 40, ki 1])]
def r78_6 : IC := (.reg o78_6 [0, 2, 4, 5, 6, 7, 8, 9, 10, 41])
def o78_7 : List IOp := [mv 42 5,
 q (.val 43 (.faddr 1) [.t 6]),
 q (.load 44 (.t 43) 1 false),
 q (.val 45 (.faddr 0) [.t 6]),
 q (.load 46 (.t 45) 1 false),
 q (.val 47 (.build [.p (.int .i64 0), .p (.int .i64 0), .p (.int .i64 0)] [(0, 1), (1, 1), (2, 1)]) [.t 42, .t 44, .t 46]),
 q (.store (.t 7) (.t 47) 3)]
def r78_7 : IC := (.reg o78_7 [0, 2, 4, 7, 8, 9, 10])
def o78_8 : List IOp := [mv 48 0,
 mv 49 4,
 q (.load 50 (.t 7) 3 true),
 q (.callY (some 51) (.t 48) [.t 49, .t 50]),
 q (.val 52 .not [.t 51])]
def r78_8 : IC := (.reg o78_8 [0, 2, 8, 9, 10, 52])
def o78_9 : List IOp := [q (.val 53 (.bin .add) [.t 10, ki 1]),
 mv 10 53]
def r78_9 : IC := (.reg o78_9 [0, 2, 8, 9, 10])
def l78_1 : IC := (.seq r78_1 (.seq (.cond (.t 11) .skip (.kp [] (.exit 0))) (.kp [0, 2, 8, 9, 10] (.seq (.block 1 (.seq r78_2 (.seq (.seq r78_3 (.cond (.t 25) (.kp [] (.exit 0)) .skip)) (.kp [0, 2, 4, 5, 8, 9, 10] (.seq r78_4 (.seq r78_5 (.seq (.seq r78_6 (.cond (.t 41) r78_7 .skip)) (.kp [0, 2, 4, 7, 8, 9, 10] (.seq r78_8 (.cond (.t 52) (.kp [] (.exit 0)) .skip)))))))))) (.kp [0, 2, 8, 9, 10] r78_9)))))
def s78 : IC := (.seq (.label 0) (.seq r78_0 (.block 0 (.loop l78_1))))
def b78 : IC := (.scope s78)
def i78 : IFn := ⟨3, 54, b78, []⟩
def o79_0 : List IOp := [q (.boxL 3 (.t 0)),
 q (.val 6 .mov [ki 0]),
 q (.val 7 .mov [ki 0])]
def r79_0 : IC := (.reg o79_0 [1, 2, 3])
def o79_1 : List IOp := [q (.val 8 .mov [ki 0])]
def r79_1 : IC := (.reg o79_1 [1, 2, 3, 8])
def o79_2 : List IOp := [q (.load 10 (.t 3) 3 true),
 q (.call (some 11) 50 [.t 10]),
 mv 9 11]
def r79_2 : IC := (.reg o79_2 [1, 2, 3, 8, 9])
def o79_3 : List IOp := [mv 12 9,
 q (.val 13 (.bin .neq) [.t 12, ki 0])]
def r79_3 : IC := (.reg o79_3 [1, 2, 3, 8, 9, 13])
def o79_4 : List IOp := [mv 14 8,
 mv 15 9,
 mv 6 14,
 mv 7 15]
def r79_4 : IC := (.reg o79_4 [6, 7])
def o79_5 : List IOp := [mv 16 1,
 q (.val 17 (.bin .lss) [.t 16, ki 0]),
 mv 18 17,
 ⟨(some (18, false)), .val 19 .mov [.t 1], [], none⟩,
 ⟨(some (18, false)), .val 20 (.faddr 2) [.t 3], [], none⟩,
 ⟨(some (18, false)), .load 21 (.t 20) 1 false, [], none⟩,
 ⟨(some (18, false)), .val 22 .len [.t 21], [], none⟩,
 ⟨(some (18, false)), .val 23 (.bin .mul) [ki 2, .t 22], [], none⟩,
 ⟨(some (18, false)), .val 24 (.bin .geq) [.t 19, .t 23], [], none⟩,
 q (.val 25 .pick [.t 18, .k (.p (.bool true)), .t 24])]
def r79_5 : IC := (.reg o79_5 [1, 2, 3, 8, 25])
def o79_6 : List IOp := [mv 26 8,
 mv 6 26,
 q (.val 7 .mov [ki 2])]
def r79_6 : IC := (.reg o79_6 [6, 7])
def o79_7 : List IOp := [mv 27 2,
 q (.val 28 (.faddr 2) [.t 3]),
 q (.load 29 (.t 28) 1 false),
 mv 30 1,
 q (.val 31 (.bin .quo) [.t 30, ki 2]),
 q (.val 32 (.iaddrS 4) [.t 29, .t 31]),
 q (.load 33 (.t 32) 4 true),
 mv 34 1,
 q (.val 35 (.build [.p (.int .i64 0), .p (.int .i64 0), .p (.int .i64 0), .p (.int .i64 0), .p (.int .i64 0)] [(0, 4), (4, 1)]) [.t 33, .t 34]),
 q (.callV (some 36) (.t 27) [.t 35]),
 mv 6 36,
 q (.val 7 .mov [ki 0])]
def r79_7 : IC := (.reg o79_7 [6, 7])
def b79 : IC := (.seq r79_0 (.seq r79_1 (.seq (.seq r79_2 (.seq r79_3 (.cond (.t 13) (.seq r79_4 .ret) .skip))) (.kp [1, 2, 3, 8] (.seq (.seq r79_5 (.cond (.t 25) (.seq r79_6 .ret) .skip)) (.kp [1, 2, 3] (.seq r79_7 .ret)))))))
def i79 : IFn := ⟨3, 37, b79, [.tmp 6, .tmp 7]⟩
def o80_0 : List IOp := [q (.boxL 1 (.t 0)),
 q (.val 2 .mov [ki 0])]
def r80_0 : IC := (.reg o80_0 [1])
def o80_1 : List IOp := [q (.val 3 (.faddr 4) [.t 1]),
 q (.load 4 (.t 3) 1 false),
 q (.val 5 (.bin .xor) [.t 4, ki 1]),
 mv 2 5]
def r80_1 : IC := (.reg o80_1 [2])
def b80 : IC := (.seq r80_0 (.seq r80_1 .ret))
def i80 : IFn := ⟨1, 6, b80, [.tmp 2]⟩
def o81_0 : List IOp := [q (.boxL 2 (.t 0)),
 q (.val 4 .mov [.k (.p (.bool false))])]
def r81_0 : IC := (.reg o81_0 [1, 2])
def o81_1 : List IOp := [mv 5 1,
 q (.val 6 (.bin .geq) [.t 5, ki 0]),
 mv 7 6,
 ⟨(some (7, true)), .val 8 .mov [.t 1], [], none⟩,
 ⟨(some (7, true)), .val 9 (.faddr 0) [.t 2], [], none⟩,
 ⟨(some (7, true)), .load 10 (.t 9) 1 false, [], none⟩,
 ⟨(some (7, true)), .val 11 (.bin .lss) [.t 8, .t 10], [], none⟩,
 q (.val 12 .pick [.t 7, .t 11, .k (.p (.bool false))]),
 mv 4 12]
def r81_1 : IC := (.reg o81_1 [4])
def b81 : IC := (.seq r81_0 (.seq r81_1 .ret))
def i81 : IFn := ⟨2, 13, b81, [.tmp 4]⟩
def o82_0 : List IOp := [q (.val 3 .mov [.k (.p (.bool false))])]
def r82_0 : IC := (.reg o82_0 [0, 1])
def o82_1 : List IOp := [q (.val 5 (.faddr 2) [.t 1]),
 q (.load 6 (.t 5) 1 false),
 mv 7 0,
 q (.val 8 (.iaddrS 4) [.t 6, .t 7]),
 q (.load 9 (.t 8) 4 true),
 q (.newL 4 [.p (.int .i64 0), .p (.int .i64 0), .p (.int .i64 0), .p (.int .i64 0)]),
 q (.store (.t 4) (.t 9) 4)]
def r82_1 : IC := (.reg o82_1 [1, 4])
def o82_2 : List IOp := [q (.load 10 (.t 1) 3 true),
 q (.val 11 (.faddr 0) [.t 4]),
 q (.load 12 (.t 11) 1 false),
 q (.call (some 13) 83 [.t 10, .t 12]),
 mv 14 13,
 ⟨(some (14, true)), .load 15 (.t 1) 3 true, [], none⟩,
 ⟨(some (14, true)), .val 16 (.faddr 1) [.t 4], [], none⟩,
 ⟨(some (14, true)), .load 17 (.t 16) 1 false, [], none⟩,
 ⟨(some (14, true)), .call (some 18) 83 [.t 15, .t 17], [], none⟩,
 q (.val 19 .pick [.t 14, .t 18, .k (.p (.bool false))]),
 mv 20 19,
 ⟨(some (20, true)), .val 21 (.faddr 0) [.t 4], [], none⟩,
 ⟨(some (20, true)), .load 22 (.t 21) 1 false, [], none⟩,
 ⟨(some (20, true)), .val 23 (.faddr 1) [.t 4], [], none⟩,
 ⟨(some (20, true)), .load 24 (.t 23) 1 false, [], none⟩,
 ⟨(some (20, true)), .val 25 (.bin .neq) [.t 22, .t 24], [], none⟩,
 q (.val 26 .pick [.t 20, .t 25, .k (.p (.bool false))]),
 mv 3 26]
def r82_2 : IC := (.reg o82_2 [3])
def b82 : IC := (.seq r82_0 (.seq r82_1 (.seq r82_2 .ret)))
def i82 : IFn := ⟨2, 27, b82, [.tmp 3]⟩
def o83_0 : List IOp := [q (.boxL 2 (.t 0)),
 q (.val 4 .mov [.k (.p (.bool false))])]
def r83_0 : IC := (.reg o83_0 [1, 2])
def o83_1 : List IOp := [mv 5 1,
 q (.val 6 (.bin .geq) [.t 5, ki 0]),
 mv 7 6,
 ⟨(some (7, true)), .val 8 .mov [.t 1], [], none⟩,
 ⟨(some (7, true)), .val 9 (.faddr 0) [.t 2], [], none⟩,
 ⟨(some (7, true)), .load 10 (.t 9) 1 false, [], none⟩,
 ⟨(some (7, true)), .val 11 (.bin .lss) [.t 8, .t 10], [], none⟩,
 q (.val 12 .pick [.t 7, .t 11, .k (.p (.bool false))]),
 mv 4 12]
def r83_1 : IC := (.reg o83_1 [4])
def b83 : IC := (.seq r83_0 (.seq r83_1 .ret))
def i83 : IFn := ⟨2, 13, b83, [.tmp 4]⟩
def o84_0 : List IOp := [q (.val 3 .mov [.k (.p (.bool false))])]
def r84_0 : IC := (.reg o84_0 [0, 1])
def o84_1 : List IOp := [q (.val 5 (.faddr 2) [.t 1]),
 q (.load 6 (.t 5) 1 false),
 mv 7 0,
 q (.val 8 (.iaddrS 4) [.t 6, .t 7]),
 q (.load 9 (.t 8) 4 true),
 q (.newL 4 [.p (.int .i64 0), .p (.int .i64 0), .p (.int .i64 0), .p (.int .i64 0)]),
 q (.store (.t 4) (.t 9) 4)]
def r84_1 : IC := (.reg o84_1 [1, 4])
def o84_2 : List IOp := [q (.val 10 (.faddr 1) [.t 1]),
 q (.load 11 (.t 10) 1 false),
 q (.val 12 (.faddr 0) [.t 4]),
 q (.load 13 (.t 12) 1 false),
 q (.val 14 (.iaddrS 1) [.t 11, .t 13]),
 q (.load 15 (.t 14) 1 false),
 q (.val 16 .not [.t 15]),
 mv 17 16,
 ⟨(some (17, false)), .val 18 (.faddr 1) [.t 1], [], none⟩,
 ⟨(some (17, false)), .load 19 (.t 18) 1 false, [], none⟩,
 ⟨(some (17, false)), .val 20 (.faddr 1) [.t 4], [], none⟩,
 ⟨(some (17, false)), .load 21 (.t 20) 1 false, [], none⟩,
 ⟨(some (17, false)), .val 22 (.iaddrS 1) [.t 19, .t 21], [], none⟩,
 ⟨(some (17, false)), .load 23 (.t 22) 1 false, [], none⟩,
 ⟨(some (17, false)), .val 24 .not [.t 23], [], none⟩,
 q (.val 25 .pick [.t 17, .k (.p (.bool true)), .t 24]),
 mv 3 25]
def r84_2 : IC := (.reg o84_2 [3])
def b84 : IC := (.seq r84_0 (.seq r84_1 (.seq r84_2 .ret)))
def i84 : IFn := ⟨2, 26, b84, [.tmp 3]⟩
def o85_0 : List IOp := [q (.val 3 .mov [.k (.p (.bool false))])]
def r85_0 : IC := (.reg o85_0 [0, 1])
def o85_1 : List IOp := [q (.val 7 (.faddr 2) [.t 1]),
 q (.load 8 (.t 7) 1 false),
 mv 9 0,
 q (.val 10 (.iaddrS 4) [.t 8, .t 9]),
 q (.load 11 (.t 10) 4 true),
 q (.newL 4 [.p (.int .i64 0), .p (.int .i64 0), .p (.int .i64 0), .p (.int .i64 0)]),
 q (.store (.t 4) (.t 11) 4)]
def r85_1 : IC := (.reg o85_1 [0, 1, 4])
def o85_2 : List IOp := [q (.val 12 (.faddr 2) [.t 1]),
 q (.load 13 (.t 12) 1 false),
 mv 14 0,
 q (.val 15 (.slice 4 false true false) [.t 13, .t 14]),
 q (.val 16 .len [.t 15]),
 q (.val 17 .mov [ki 0])]
def r85_2 : IC := (.reg o85_2 [4, 15, 16, 17])
def o85_3 : List IOp := [q (.val 18 (.bin .lss) [.t 17, .t 16])]
def r85_3 : IC := (.reg o85_3 [4, 15, 16, 17, 18])
def o85_4 : List IOp := [q (.val 19 (.iaddrS 4) [.t 15, .t 17]),
 q (.load 20 (.t 19) 4 true),
 q (.newL 6 [.p (.int .i64 0), .p (.int .i64 0), .p (.int .i64 0), .p (.int .i64 0)]),
 q (.store (.t 6) (.t 20) 4)]
def r85_4 : IC := (.reg o85_4 [4, 6, 15, 16, 17])
def o85_5 : List IOp := [q (.val 21 (.faddr 0) [.t 4]),
 q (.load 22 (.t 21) 1 false),
 q (.val 23 (.faddr 0) [.t 6]),
 q (.load 24 (.t 23) 1 false),
 q (.val 25 (.bin .eql) [.t 22, .t 24]),
 mv 26 25,
 ⟨(some (26, true)), .val 27 (.faddr 1) [.t 4], [], none⟩,
 ⟨(some (26, true)), .load 28 (.t 27) 1 false, [], none⟩,
 ⟨(some (26, true)), .val 29 (.faddr 1) [.t 6], [], none⟩,
 ⟨(some (26, true)), .load 30 (.t 29) 1 false, [], none⟩,
 ⟨(some (26, true)), .val 31 (.bin .eql) [.t 28, .t 30], [], none⟩,
 q (.val 32 .pick [.t 26, .t 31, .k (.p (.bool false))]),
 mv 33 32,
 ⟨(some (33, false)), .val 34 (.faddr 0) [.t 4], [], none⟩,
 ⟨(some (33, false)), .load 35 (.t 34) 1 false, [], none⟩,
 ⟨(some (33, false)), .val 36 (.faddr 1) [.t 6], [], none⟩,
 ⟨(some (33, false)), .load 37 (.t 36) 1 false, [], none⟩,
 ⟨(some (33, false)), .val 38 (.bin .eql) [.t 35, .t 37], [], none⟩,
 ⟨(some (33, false)), .val 39 .mov [.t 38], [], none⟩,
 ⟨(some (39, true)), .val 40 (.faddr 1) [.t 4], [], none⟩,
 ⟨(some (39, true)), .load 41 (.t 40) 1 false, [], none⟩,
 ⟨(some (39, true)), .val 42 (.faddr 0) [.t 6], [], none⟩,
 ⟨(some (39, true)), .load 43 (.t 42) 1 false, [], none⟩,
 ⟨(some (39, true)), .val 44 (.bin .eql) [.t 41, .t 43], [], none⟩,
 ⟨(some (33, false)), .val 45 .pick [.t 39, .t 44, .k (.p (.bool false))], [], none⟩,
 q (.val 46 .pick [.t 33, .k (.p (.bool true)), .t 45])]
def r85_5 : IC := (.reg o85_5 [4, 15, 16, 17, 46])
def o85_6 : List IOp := [q (.val 3 .mov [.k (.p (.bool false))])]
def r85_6 : IC := (.reg o85_6 [3])
def o85_7 : List IOp := [q (.val 47 (.bin .add) [.t 17, ki 1]),
 mv 17 47]
def r85_7 : IC := (.reg o85_7 [4, 15, 16, 17])
def l85_1 : IC := (.seq r85_3 (.seq (.cond (.t 18) .skip (.kp [] (.exit 0))) (.kp [4, 15, 16, 17] (.seq (.block 1 (.seq r85_4 (.seq r85_5 (.cond (.t 46) (.seq r85_6 .ret) .skip)))) (.kp [4, 15, 16, 17] r85_7)))))
def o85_8 : List IOp := [q (.val 3 .mov [.k (.p (.bool true))])]
def r85_8 : IC := (.reg o85_8 [3])
def b85 : IC := (.seq r85_0 (.seq r85_1 (.seq (.seq r85_2 (.block 0 (.loop l85_1))) (.seq r85_8 .ret))))
def i85 : IFn := ⟨2, 48, b85, [.tmp 3]⟩
def o86_0 : List IOp := [q (.val 3 .mov [.k (.p (.bool false))])]
def r86_0 : IC := (.reg o86_0 [0, 1])
def o86_1 : List IOp := [q (.val 5 (.faddr 2) [.t 1]),
 q (.load 6 (.t 5) 1 false),
 mv 7 0,
 q (.val 8 (.iaddrS 4) [.t 6, .t 7]),
 q (.load 9 (.t 8) 4 true),
 q (.newL 4 [.p (.int .i64 0), .p (.int .i64 0), .p (.int .i64 0), .p (.int .i64 0)]),
 q (.store (.t 4) (.t 9) 4)]
def r86_1 : IC := (.reg o86_1 [4])
def o86_2 : List IOp := [q (.val 10 (.faddr 2) [.t 4]),
 q (.load 11 (.t 10) 1 false),
 q (.val 12 (.bin .geq) [.t 11, ki 1]),
 mv 13 12,
 ⟨(some (13, true)), .val 14 (.faddr 2) [.t 4], [], none⟩,
 ⟨(some (13, true)), .load 15 (.t 14) 1 false, [], none⟩,
 ⟨(some (13, true)), .val 16 (.bin .leq) [.t 15, ki 1000], [], none⟩,
 q (.val 17 .pick [.t 13, .t 16, .k (.p (.bool false))]),
 mv 18 17,
 ⟨(some (18, true)), .val 19 (.faddr 3) [.t 4], [], none⟩,
 ⟨(some (18, true)), .load 20 (.t 19) 1 false, [], none⟩,
 ⟨(some (18, true)), .val 21 (.bin .geq) [.t 20, ki 0], [], none⟩,
 q (.val 22 .pick [.t 18, .t 21, .k (.p (.bool false))]),
 mv 23 22,
 ⟨(some (23, true)), .val 24 (.faddr 3) [.t 4], [], none⟩,
 ⟨(some (23, true)), .load 25 (.t 24) 1 false, [], none⟩,
 ⟨(some (23, true)), .val 26 (.bin .leq) [.t 25, ki 10000], [], none⟩,
 q (.val 27 .pick [.t 23, .t 26, .k (.p (.bool false))]),
 mv 3 27]
def r86_2 : IC := (.reg o86_2 [3])
def b86 : IC := (.seq r86_0 (.seq r86_1 (.seq r86_2 .ret)))
def i86 : IFn := ⟨2, 28, b86, [.tmp 3]⟩
def o87_0 : List IOp := [q (.val 4 .mov [ki 0])]
def r87_0 : IC := (.reg o87_0 [0, 1])
def o87_1 : List IOp := [mv 6 0,
 q (.val 7 .len [.t 6]),
 q (.val 8 .mov [ki 0])]
def r87_1 : IC := (.reg o87_1 [0, 1, 7, 8])
def o87_2 : List IOp := [q (.val 9 (.bin .lss) [.t 8, .t 7])]
def r87_2 : IC := (.reg o87_2 [0, 1, 7, 8, 9])
def o87_3 : List IOp := [mv 10 8,
 mv 5 10]
def r87_3 : IC := (.reg o87_3 [0, 1, 5, 7, 8])
def o87_4 : List IOp := [mv 11 1,
 mv 12 0,
 mv 13 5,
 q (.val 14 (.iaddrS 1) [.t 12, .t 13]),
 q (.load 15 (.t 14) 1 false),
 q (.val 16 (.eqB false) [.t 11, .t 15])]
def r87_4 : IC := (.reg o87_4 [0, 1, 5, 7, 8, 16])
def o87_5 : List IOp := [mv 17 5,
 mv 4 17]
def r87_5 : IC := (.reg o87_5 [4])
def o87_6 : List IOp := [q (.val 18 (.bin .add) [.t 8, ki 1]),
 mv 8 18]
def r87_6 : IC := (.reg o87_6 [0, 1, 7, 8])
def l87_1 : IC := (.seq r87_2 (.seq (.cond (.t 9) .skip (.kp [] (.exit 0))) (.kp [0, 1, 7, 8] (.seq (.block 1 (.seq r87_3 (.seq r87_4 (.cond (.t 16) (.seq r87_5 .ret) .skip)))) (.kp [0, 1, 7, 8] r87_6)))))
def o87_7 : List IOp := [q (.val 4 .mov [ki (-1)])]
def r87_7 : IC := (.reg o87_7 [4])
def b87 : IC := (.seq r87_0 (.seq (.seq r87_1 (.block 0 (.loop l87_1))) (.seq r87_7 .ret)))
def i87 : IFn := ⟨2, 19, b87, [.tmp 4]⟩
def o88_0 : List IOp := [q (.val 4 .mov [ki 0])]
def r88_0 : IC := (.reg o88_0 [0, 1])
def o88_1 : List IOp := [mv 6 0,
 q (.val 7 .len [.t 6]),
 q (.val 8 .mov [ki 0])]
def r88_1 : IC := (.reg o88_1 [0, 1, 7, 8])
def o88_2 : List IOp := [q (.val 9 (.bin .lss) [.t 8, .t 7])]
def r88_2 : IC := (.reg o88_2 [0, 1, 7, 8, 9])
def o88_3 : List IOp := [mv 10 8,
 mv 5 10]
def r88_3 : IC := (.reg o88_3 [0, 1, 5, 7, 8])
def o88_4 : List IOp := [mv 11 1,
 mv 12 0,
 mv 13 5,
 q (.val 14 (.iaddrS 1) [.t 12, .t 13]),
 q (.load 15 (.t 14) 1 false),
 q (.val 16 (.bin .eql) [.t 11, .t 15])]
def r88_4 : IC := (.reg o88_4 [0, 1, 5, 7, 8, 16])
def o88_5 : List IOp := [mv 17 5,
 mv 4 17]
def r88_5 : IC := (.reg o88_5 [4])
def o88_6 : List IOp := [q (.val 18 (.bin .add) [.t 8, ki 1]),
 mv 8 18]
def r88_6 : IC := (.reg o88_6 [0, 1, 7, 8])
def l88_1 : IC := (.seq r88_2 (.seq (.cond (.t 9) .skip (.kp [] (.exit 0))) (.kp [0, 1, 7, 8] (.seq (.block 1 (.seq r88_3 (.seq r88_4 (.cond (.t 16) (.seq r88_5 .ret) .skip)))) (.kp [0, 1, 7, 8] r88_6)))))
def o88_7 : List IOp := [q (.val 4 .mov [ki (-1)])]
def r88_7 : IC := (.reg o88_7 [4])
def b88 : IC := (.seq r88_0 (.seq (.seq r88_1 (.block 0 (.loop l88_1))) (.seq r88_7 .ret)))
def i88 : IFn := ⟨2, 19, b88, [.tmp 4]⟩
end Go.Eng

